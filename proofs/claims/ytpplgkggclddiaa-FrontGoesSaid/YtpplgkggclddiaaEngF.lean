/- Regions, walked. -/
import Derived.Test.YtpplgkggclddiaaEngE
set_option linter.unusedSimpArgs false
set_option linter.unusedVariables false
namespace Go.Proofs.Zz
open Go

theorem At.heap {w w' : World} {b o : Nat} {ds : List Value} (h : At w b o ds) (hb : w'.heap[b]? = w.heap[b]?) : At w' b o ds := by
  intro j u hj
  have := h j u hj
  unfold World.cell? at this ⊢
  simp only [hb]; exact this
theorem cell?_heap {w w' : World} {a : Addr} (hb : w'.heap[a.block]? = w.heap[a.block]?) : w'.cell? a = w.cell? a := by
  unfold World.cell?; rw [hb]
theorem frozen?_heap {w w' : World} {a : Addr} (hb : w'.heap[a.block]? = w.heap[a.block]?) : w'.frozen? a = w.frozen? a := by
  unfold World.frozen?; rw [hb]

theorem RepArr.ext {F F' : Nat → Prop} {w w' : World} {e : EI} {t : Ty} {xs : List (Den t)} {ro : Bool} (h : RepArr F w e t xs ro) (hf : ∀ b, F b → F' b)
    (hw : ∀ b, F b → ∀ o u, w.cell? ⟨b, o, none⟩ = some u → w'.cell? ⟨b, o, none⟩ = some u) (hb : e.nil = false → w'.heap[e.blk]? = w.heap[e.blk]?) (hF : ro = false → e.nil = false → ¬ F' e.blk) : RepArr F' w' e t xs ro := by
  obtain ⟨h1, h2, h3, h4, h5, h6⟩ := h
  refine ⟨h1, h2, h3, h4, h5, fun hn => ?_⟩
  obtain ⟨cs, u, fr, ds, k1, k2, k3, k4, k5, k6⟩ := h6 hn
  have hbl := hb hn
  refine ⟨cs, u, fr, ds, hbl.trans k1, k2, k3.imp fun _ _ hc => RepD.ext hf hw hc, k4.heap hbl, fun hro => ?_, fun hro => hf _ (k6 hro)⟩
  exact ⟨hF hro hn, fun o ho => (frozen?_heap hbl).trans ((k5 hro).2 o ho)⟩
theorem BoxAt.heap {w w' : World} {e : EI} {t : TypeId} {cs : List Value} (h : BoxAt w e t cs) (hb : w'.heap[e.blk]? = w.heap[e.blk]?) : BoxAt w' e t cs := by
  obtain ⟨ds, fr, h1, h2, h3⟩ := h
  exact ⟨ds, fr, hb.trans h1, h2, fun o ho => (frozen?_heap hb).trans (h3 o ho)⟩
/-- An object whose block stays says what it said. -/
theorem RepO.ext {E E' : Env} {F F' : Nat → Prop} {w w' : World} {e : EI} {o : Obj} (h : RepO E F w e o) (hx : Ext E F w E' F' w') (hb : o.live → e.nil = false ∨ (∃ ls, o = .box ls) → w'.heap[e.blk]? = w.heap[e.blk]?)
    (hF : excl e o → ¬ F' e.blk) : RepO E' F' w' e o := by
  cases o with
  | dead => trivial
  | box ls =>
    obtain ⟨cs, t, h1, h2, _, h4⟩ := h
    exact ⟨cs, t, h1.heap (hb trivial (.inr ⟨ls, rfl⟩)), RepLs.ext hx h2, hF trivial, h4⟩
  | arr t xs ro => exact RepArr.ext h hx.fz hx.wd (fun hn => hb trivial (.inl hn)) (fun hro hn => by subst hro; exact hF hn)
theorem excl_notF {C : Frm} {A : Nat → Prop} {E : Env} {F : Nat → Prop} {ob : List (Nat × Obj)} {w : World} (h : Mem C A E F ob w) {k : Nat} (hk : excl (E.e k) (lookO ob k)) : ¬ F (E.e k).blk := by
  have := h.rp k
  cases hb : lookO ob k with
  | dead => rw [hb] at hk; exact hk.elim
  | box ls => rw [hb] at this; obtain ⟨cs, t, _, _, h3, _⟩ := this; exact h3
  | arr t xs ro =>
    rw [hb] at this hk
    cases ro with
    | true => exact hk.elim
    | false =>
      obtain ⟨_, _, _, _, _, h6⟩ := this
      obtain ⟨cs, u, fr, ds, k1, k2, k3, k4, k5, k6⟩ := h6 hk
      exact (k5 rfl).1
theorem Mem.heap {C : Frm} {A : Nat → Prop} {E : Env} {F : Nat → Prop} {ob : List (Nat × Obj)} {w w' : World} (h : Mem C A E F ob w) (hh : w'.heap = w.heap) (ho : w'.os = w.os) (ht : w'.tape = w.tape) (hp : w'.output = w.output) :
    Mem C A E F ob w' ∧ Ext E F w E F w' := by
  have hx : Ext E F w E F w' := ⟨fun _ h => h, fun _ _ => rfl, fun _ h => h, fun b _ o u hu => by rw [cell?_heap (w := w) (w' := w') (by rw [hh])]; exact hu⟩
  refine ⟨⟨h.lv, fun k => (h.rp k).ext hx (fun _ _ => by rw [hh]) (fun hk => ?_), h.inj, h.al, fun b hb => by rw [hh]; exact h.fb b hb, h.f0, fun b hb ho => by rw [hh]; exact h.kp b hb ho, h.uf, h.uo, by rw [hh]; exact h.sz, ho.trans h.os, ht.trans h.tape, hp.trans h.output, h.eo⟩, hx⟩
  exact excl_notF h hk
theorem Rel.drawn {C : Frm} {A : Nat → Prop} {s : St} {a : Act} {w : World} (h : Rel C A s a w) (n : Nat) : Rel C A s a { w with drawn := n } := by
  obtain ⟨E, F, hm, ht⟩ := h
  obtain ⟨h1, h2⟩ := hm.heap (w' := { w with drawn := n }) rfl rfl rfl rfl
  exact ⟨E, F, h1, ht.ext h2⟩
theorem Rel.mono {C : Frm} {A A' : Nat → Prop} {s : St} {a : Act} {w : World} (h : Rel C A s a w) (hA : ∀ k, A k → A' k) : Rel C A' s a w := by
  obtain ⟨E, F, hm, ht⟩ := h
  exact ⟨E, F, hm.mono hA, ht⟩

theorem apply_nx : ∀ (wr : Wr) (s : St), (apply wr s).nx = s.nx
  | [], _ => rfl
  | p :: r, s => by simp only [apply]; rw [apply_nx r, asg_nx]
theorem anyMeets_true {a b : List Loc} (h : ∀ x ∈ a, ∀ y ∈ b, overlap x y = false) : anyMeets a b = false := by
  have hm : ∀ (l : Loc) (ls : List Loc), (∀ y ∈ ls, overlap l y = false) → meets l ls = false := by
    intro l ls
    induction ls with
    | nil => intro _; rfl
    | cons y r ih => intro h; simp only [meets, h y (by simp), ih fun z hz => h z (by simp [hz]), Bool.or_self]
  induction a with
  | nil => rfl
  | cons x r ih => simp only [anyMeets, hm x b (h x (by simp)), ih fun y hy => h y (by simp [hy]), Bool.or_self]
theorem apart_perm {ix : Nat} {rd : List Loc} {wr : Wr} {i : It} (h : apart ⟨ix, rd.reverse ++ [], wrLocs wr⟩ i.fp = true) : apart (It.fp ⟨ix, wr, rd⟩) i.fp = true := by
  obtain ⟨h1, h2, h3⟩ := apart_spec h
  simp only [apart, It.fp, Bool.and_eq_true, Bool.not_eq_true']
  exact ⟨⟨anyMeets_true h1, anyMeets_true h2⟩, anyMeets_true fun x hx => h3 x (by simp; exact hx)⟩
theorem apart_perm' {ix : Nat} {rd : List Loc} {wr : Wr} {f : Fp} (h : apart f ⟨ix, rd.reverse ++ [], wrLocs wr⟩ = true) : apart f (It.fp ⟨ix, wr, rd⟩) = true := by
  obtain ⟨h1, h2, h3⟩ := apart_spec h
  simp only [apart, It.fp, Bool.and_eq_true, Bool.not_eq_true']
  exact ⟨⟨anyMeets_true h1, anyMeets_true fun x hx y hy => h2 x hx y (by simp; exact hy)⟩, anyMeets_true h3⟩

def semOf (cx : Cx) (hi : Hi) (rg : Nat) (ops : List Oper) (base : Nat) (ix : Nat) : Rd Wr :=
  match ops[ix]? with
  | some o => opG cx hi rg ix (base + stride * ix) (dstOf ops) o
  | none => .fail

section
variable {P : Program} {ok : Nat → List DV → List DV → Prop} {ct : CT} {Q : Exit → Act → World → Prop} {C : Frm} {cx : Cx} {hi : Hi} {rg : Nat} {ops : Array Oper} {base : Nat} {k : St → Option Rs} {r : Rs}
theorem seq_ok (hct : CTok ok ct) (hop : OpOk P ok Q C ops (semOf cx hi rg ops.toList base) base) : ∀ (l : List Oper) (ix : Nat) (s : St) (a : Act) (w : World), ops.toList.drop ix = l → ix ≤ ops.size →
    seqOps cx hi ct rg (dstOf ops.toList) l ix (base + stride * ix) s k = some r → Rel C (fun k => k < base + stride * ix) s a w →
    (∀ s' a' w', s'.nx = s.nx → k s' = some r → Rel C (fun k => k < base + stride * ops.size) s' a' w' → Q .normal a' w') →
    wpOps P ops Q (List.range' ix (ops.size - ix)) a w
  | [], ix, s, a, w, hl, hle, h, hr, hQ => by
    have : ix = ops.size := by
      have := List.drop_eq_nil_iff.1 hl
      simp at this; omega
    subst this
    simp only [Nat.sub_self, List.range'_zero, wpOps]
    exact hQ s a w rfl h hr
  | o :: l, ix, s, a, w, hl, hle, h, hr, hQ => by
    have hlt : ix < ops.size := by
      rcases Nat.lt_or_ge ix ops.size with h | h
      · exact h
      · rw [List.drop_of_length_le (by simpa using h)] at hl; simp at hl
    have ho : ops.toList[ix]? = some o := by
      have : (ops.toList.drop ix)[0]? = some o := by rw [hl]; rfl
      simpa using this
    simp only [seqOps] at h
    obtain ⟨wr, rd, h1, h2⟩ := rdRun_ev hct h
    rw [show ops.size - ix = (ops.size - (ix + 1)) + 1 by omega, List.range'_succ, wpOps_cons]
    refine hop ix s wr rd _ a w _ hlt (by simp only [semOf, ho]; exact h1) hr (fun n hn hA => by have := hn.1; omega) fun a' w' hr' => ?_
    refine seq_ok hct hop l (ix + 1) (apply wr s) a' w' (by rw [← List.drop_drop, hl]; rfl) hlt (by rw [Nat.mul_succ, ← Nat.add_assoc]; exact h2) (hr'.mono fun n hn => ?_) ?_
    · rw [Nat.mul_succ]
      rcases hn with hn | hn
      · omega
      · have := hn.2; omega
    · intro s' a'' w'' hnx hk hr''
      exact hQ s' a'' w'' (hnx.trans (apply_nx wr s)) hk hr''

/-- What a text's order comes to, told one by one. -/
theorem any_chain (hct : CTok ok ct) (ws : List Nat) : ∀ (l : List Oper) (ix : Nat) (s : St) (fs : List Fp), ops.toList.drop ix = l →
    anyOps cx hi ct rg (dstOf ops.toList) ws l ix (base + stride * ix) fs s k = some r →
    ∃ (its : List It) (s' : St), its.map It.ix = List.range' ix l.length ∧ Chain ok (semOf cx hi rg ops.toList base) its s s' ∧ s'.nx = s.nx ∧ k s' = some r ∧ Fine ws its ∧
      (∀ i ∈ its, ∀ f ∈ fs, (nthD 0 ws i.ix).testBit f.ix = true ∨ apart f i.fp = true)
  | [], ix, s, fs, _, h => ⟨[], s, rfl, rfl, rfl, h, List.Pairwise.nil, by simp⟩
  | o :: l, ix, s, fs, hl, h => by
    have ho : ops.toList[ix]? = some o := by
      have : (ops.toList.drop ix)[0]? = some o := by rw [hl]; rfl
      simpa using this
    simp only [anyOps] at h
    obtain ⟨wr, rd, h1, h2⟩ := rdRun_ev hct h
    split at h2
    · rename_i hap
      obtain ⟨its, s', g1, g2, g3, g4, g5, g6⟩ := any_chain hct ws l (ix + 1) _ _ (by rw [← List.drop_drop, hl]; rfl) (by rw [Nat.mul_succ, ← Nat.add_assoc]; exact h2)
      have key : ∀ fs : List Fp, apartAll (nthD 0 ws ix) ⟨ix, rd.reverse ++ [], wrLocs wr⟩ fs = true → ∀ f ∈ fs, (nthD 0 ws ix).testBit f.ix = true ∨ apart f ⟨ix, rd.reverse ++ [], wrLocs wr⟩ = true := by
        intro fs
        induction fs with
        | nil => simp
        | cons f q ih =>
          intro h
          simp only [apartAll, Bool.and_eq_true, Bool.or_eq_true] at h
          intro g hg
          rcases List.mem_cons.1 hg with rfl | hg
          · exact h.1
          · exact ih h.2 g hg
      -- the readings in either order
      have hrd : RdE ok (semOf cx hi rg ops.toList base ix) s wr rd := by simp only [semOf, ho]; exact h1
      refine ⟨⟨ix, wr, rd⟩ :: its, s', ?_, ⟨hrd, g2⟩, g3.trans (apply_nx wr s), g4, ?_, ?_⟩
      · simp only [List.map_cons, List.length_cons, List.range'_succ, g1]
      · refine List.pairwise_cons.2 ⟨fun i hi => ?_, g5⟩
        have := g6 i hi _ (List.mem_cons_self ..)
        refine this.imp id fun h => ?_
        exact apart_perm h
      · intro i hi f hf
        rcases List.mem_cons.1 hi with rfl | hi
        · refine (key fs hap f hf).imp id fun h => ?_
          exact apart_perm' h
        · exact g6 i hi f (List.mem_cons_of_mem _ hf)
    · simp at h2
end

section
variable {P : Program} {ok : Nat → List DV → List DV → Prop} {ct : CT} {Q : Exit → Act → World → Prop} {C : Frm} {cx : Cx} {hi : Hi} {rg : Nat} {k : St → Option Rs} {r : Rs}
/-- A region: what the run comes to, the machine comes to. -/
theorem region_ok {ops : Array Oper} {draw : Bool} {s : St} {a : Act} {w : World} (hct : CTok ok ct) (hm : P.follows .mixedOrders = true)
    (hop : OpOk P ok Q C ops (semOf cx hi rg ops.toList s.nx) s.nx) (h : region cx hi ct rg ops.toList draw s k = some r) (hr : Rel C (fun k => k < s.nx) s a w)
    (hQ : ∀ s' a' w', k s' = some r → Rel C (fun k => k < s'.nx) s' a' w' → Q .normal a' w') : (Code.region rg ops draw).wp P Q a w := by
  have hr' : Rel C (fun k => k < s.nx) (bump ops.toList.length s) a w := by
    obtain ⟨E, F, h1, h2⟩ := hr
    exact ⟨E, F, h1, h2.at_, h2.tl, h2.df⟩
  cases draw with
  | false =>
    simp only [region] at h
    refine wp_region ?_
    have := seq_ok (base := s.nx) (ops := ops) hct hop ops.toList 0 _ a w rfl (Nat.zero_le _) h (by simpa using hr') (fun s' a' w' hnx hk hr'' => hQ s' a' w' hk (hr''.mono fun n hn => by
      rw [hnx]; simpa [bump] using hn))
    rw [List.range_eq_range']
    exact this
  | true =>
    simp only [region] at h
    split at h
    · rename_i hed
      obtain ⟨its, s', g1, g2, g3, g4, g5, g6⟩ := any_chain (base := s.nx) (ops := ops) hct _ ops.toList 0 _ [] rfl h
      refine wp_region_any hm ?_
      refine any_ok hop hed its ops.size _ _ _ s' a _ ?_ (by simp) ?_ ?_ ?_ ?_ g5 g2 (hr'.drawn _) (fun n hn => .inl hn) fun a' w' hr'' => hQ s' a' w' g4 (hr''.mono fun n hn => by
        rw [g3]; simpa [bump] using hn)
      · have := congrArg List.length g1
        simpa using Nat.le_of_eq this
      · intro i hi
        rw [g1]
        simp [Array.getD, hi]
      · rw [g1]; exact List.pairwise_lt_range' ..
      · intro i hi
        have : i.ix ∈ its.map It.ix := List.mem_map.2 ⟨i, hi, rfl⟩
        rw [g1] at this
        simpa using this
      · intro d hd i hi hb
        exfalso
        by_cases h3 : d < ops.size
        · simp [Array.getD, h3] at hd
        · simp [Array.getD, h3] at hd
    · simp at h
end
end Go.Proofs.Zz
