import Derived.Test.YtnhgipdlkcdeiaaDoorEngS
set_option linter.unusedSimpArgs false
set_option linter.unusedVariables false
/- What signatures say of memory; a state held against a signature. -/
set_option linter.unusedVariables false
set_option linter.unusedSimpArgs false
namespace Go.Proofs.Zs
open Go

/-- A slice of one's own: its places. -/
def RepArrO (F : Nat → Prop) (w : World) (e : EI) (t : Ty) (xs : List (Den t)) : Prop :=
  List.length xs = e.len ∧ e.len ≤ e.cap ∧ e.esz = t.sz ∧ (∀ l, e.eoff l = lOff t l) ∧ (e.nil = true → e.cap = 0) ∧
      (e.nil = false → ∃ cs u fr ds, w.heap[e.blk]? = some (.cells cs u fr) ∧ e.base + e.cap * e.esz ≤ cs.size ∧ All (fun x c => RepD F w t x c) xs ds ∧ At w e.blk e.base ds ∧ unfr w e.blk cs.size)

inductive RepK (β : Nat → EI) (F : Nat → Prop) (w : World) : LK → List DV → List EI → List Value → Prop
  | any {n : Nat} {cs : List Value} : cs.length = n → (∀ u ∈ cs, cellOk u) → RepK β F w (.any n) [] [] cs
  | d {t : Ty} {v : Den t} {cs : List Value} : RepD F w t v cs → RepK β F w (.d t) [⟨t, v⟩] [] cs
  | o {t : Ty} {xs : List (Den t)} {e : EI} {cs : List Value} : Win e 0 e.len cs → RepArrO F w e t xs → RepK β F w (.o t) [⟨.sl t, xs⟩] [e] cs
  | r {t : Ty} {v : Den t} {b o : Nat} {ds : List Value} : F b → RepD F w t v ds → At w b o ds → RepK β F w (.r t) [⟨t, v⟩] [] [.pointer (some ⟨b, o, none⟩)]
  | p {j l : Nat} {y : List Nat} : Steps (β j).loff l y → RepK β F w (.p j l y) [] [] [.pointer (some ⟨(β j).blk, (β j).loff l, none⟩)]
  | f {g : Nat} {caps : List Cp} : (∀ c ∈ caps, Steps (β c.k).loff c.l c.y) → RepK β F w (.f g caps) [] [] [.func (.func g) #[] (caps.map fun c => Value.pointer (some ⟨(β c.k).blk, (β c.k).loff c.l, none⟩)).toArray]
  | np : RepK β F w .np [] [] [.pointer none]
  | cst {j : Nat} : cellOk (β j).hd → RepK β F w (.cst j) [] [] [(β j).hd]
  | oh {j sz : Nat} {y : List Nat} {n i : Int} : HdOk (β j) n i sz y → RepK β F w (.oh j sz y) [⟨.int .i64, n⟩, ⟨.int .i64, i⟩] [] [(β j).hd]
  | hd {j l : Nat} {e : EI} {u : Value} {cs : List Value} : Win e 0 e.len cs → Win e 0 e.len [u] → At w (β j).blk ((β j).loff l) [u] → RepK β F w (.hd j l) [] [] cs

  | it {s : ByteArray} {p : Int} {e : EI} {cs : List Value} : e.nil = false → cs = [.pointer (some ⟨e.blk, 0, none⟩)] → RawAt F w e.blk (.it s p) → RepK β F w .it [⟨.str, s⟩, ⟨.int .i64, p⟩] [e] cs
  | mp {t : Ty} {es : List (ByteArray × Den t)} {e : EI} {cs : List Value} : e.nil = false → cs = [.map (some e.blk)] → RawAt F w e.blk (.mp t es) → RepK β F w (.mp t) [⟨.sl (.pair .str t), es⟩] [e] cs
  | ifd {t : Nat} {ts : List Ty} {vs : List DV} {c : Array Value} : ts = vs.map (·.t) → (vs.all fun d => scalar d.t) = true → All (fun (d : DV) cs => RepD F w d.t d.v cs) vs c.toList → RepK β F w (.ifd t ts) vs [] [.iface t (.agg c)]
  | ife {b : Bool} {v : Value} : (match b with | true => v = .nilIface | false => ∃ t u, v = .iface t u) → RepK β F w .ife [⟨.bool, b⟩] [] [v]
inductive RepKs (β : Nat → EI) (F : Nat → Prop) (w : World) : List LK → List DV → List EI → List Value → Prop
  | nil : RepKs β F w [] [] [] []
  | cons {k : LK} {ks : List LK} {p q : List DV} {es fs : List EI} {c d : List Value} : RepK β F w k p es c → RepKs β F w ks q fs d → RepKs β F w (k :: ks) (p ++ q) (es ++ fs) (c ++ d)

inductive RepA (β : Nat → EI) (F : Nat → Prop) (w : World) : AK → List DV → List EI → Value → Prop
  | no (v : Value) : RepA β F w .no [] [] v
  | any (n : Nat) (v : Value) : RepA β F w (.one (.any n)) [] [] v
  | one {k : LK} {p : List DV} {es : List EI} {v : Value} : (∀ n, k ≠ .any n) → cellOk v → RepK β F w k p es [v] → RepA β F w (.one k) p es v
  | agg {ks : List LK} {p : List DV} {es : List EI} {cs : Array Value} : RepKs β F w ks p es cs.toList → RepA β F w (.agg ks) p es (.agg cs)

inductive RepAs (β : Nat → EI) (F : Nat → Prop) (w : World) : List AK → List DV → List EI → List Value → Prop
  | nil (vs : List Value) : RepAs β F w [] [] [] vs
  | cons {a : AK} {aks : List AK} {p q : List DV} {es fs : List EI} {v : Value} {vs : List Value} : RepA β F w a p es v → RepAs β F w aks q fs vs → RepAs β F w (a :: aks) (p ++ q) (es ++ fs) (v :: vs)

def LK.szs : LK → List Nat
  | .any n => [n]
  | .d t => sizes (unpk t (zeroD t))
  | _ => [1]
def szsL : List LK → List Nat
  | [] => []
  | k :: r => k.szs ++ szsL r

inductive RepBs (β : Nat → EI) (F : Nat → Prop) (w : World) : List (List LK) → Nat → List DV → List EI → Prop
  | nil (j : Nat) : RepBs β F w [] j [] []
  | cons {ks : List LK} {r : List (List LK)} {j : Nat} {p q : List DV} {es fs : List EI} {cs : List Value} {t : TypeId} : BoxAt w (β j) t cs → RepKs β F w ks p es cs → ¬ F (β j).blk →
      (∀ i, i ≤ (szsL ks).length → (β j).loff i = (β j).pre.length + ((szsL ks).take i).sum) → RepBs β F w r (j + 1) q fs → RepBs β F w (ks :: r) j (p ++ q) (es ++ fs)

structure SigIn (sg : Sg) (β : Nat → EI) (F : Nat → Prop) (w : World) (p : List DV) (es : List EI) (vs : List Value) : Prop where
  ex : ∃ p1 p2 e1 e2, p = p1 ++ p2 ∧ es = e1 ++ e2 ∧ RepAs β F w sg.av p1 e1 vs ∧ RepBs β F w sg.bx 0 p2 e2
  bd : ∀ i j, i < sg.bx.length → j < sg.bx.length → (β i).blk = (β j).blk → i = j
  ed : es.Pairwise fun a b => a.nil = false → b.nil = false → a.blk ≠ b.blk
  be : ∀ j, j < sg.bx.length → ∀ e ∈ es, e.nil = false → (β j).blk ≠ e.blk
  ef : ∀ e ∈ es, e.nil = false → ¬ F e.blk

/-- What goes over as one's own: slices, walks, maps. -/
def OwnB : Obj → Prop
  | .arr _ _ false => True
  | .raw _ => True
  | _ => False
def OwnO (F : Nat → Prop) (w : World) (e : EI) : Obj → Prop
  | .arr t xs false => RepArrO F w e t xs
  | .raw r => e.nil = false ∧ RawAt F w e.blk r
  | _ => False
theorem excl_own {e : EI} {o : Obj} (h : OwnB o) (hn : e.nil = false) : excl e o := by
  cases o with
  | dead => exact h.elim
  | box ls => exact h.elim
  | raw r => trivial
  | arr t xs ro => cases ro with
    | true => exact h.elim
    | false => exact hn
theorem OwnO.b {F : Nat → Prop} {w : World} {e : EI} {o : Obj} (h : OwnO F w e o) : OwnB o := by
  cases o with
  | dead => exact h.elim
  | box ls => exact h.elim
  | raw r => trivial
  | arr t xs ro => cases ro with
    | true => exact h.elim
    | false => trivial
theorem OwnO.nil {F : Nat → Prop} {w : World} {e : EI} {o : Obj} (h : OwnO F w e o) (hx : excl e o) : e.nil = false := by
  cases o with
  | dead => exact h.elim
  | box ls => exact h.elim
  | raw r => exact h.1
  | arr t xs ro => cases ro with
    | true => exact h.elim
    | false => exact hx
theorem OwnO.rep {E : Env} {F : Nat → Prop} {w : World} {e : EI} {o : Obj} (h : OwnO F w e o) (hf : e.nil = false → ¬ F e.blk) : RepO E F w e o := by
  cases o with
  | dead => exact h.elim
  | box ls => exact h.elim
  | raw r => exact ⟨h.1, hf h.1, h.2⟩
  | arr t xs ro => cases ro with
    | true => exact h.elim
    | false =>
      obtain ⟨h1, h2, h3, h4, h5, h6⟩ := h
      refine ⟨h1, h2, h3, h4, h5, fun hn => ?_⟩
      obtain ⟨cs, u, fr, ds, k1, k2, k3, k4, k5⟩ := h6 hn
      exact ⟨cs, u, fr, ds, k1, k2, k3, k4, fun _ => ⟨hf hn, k5⟩, fun h => by cases h⟩
theorem RepArrO.mono {F F' : Nat → Prop} {w : World} (h : ∀ b, F b → F' b) {e : EI} {t : Ty} {xs : List (Den t)} (hr : RepArrO F w e t xs) : RepArrO F' w e t xs := by
  obtain ⟨h1, h2, h3, h4, h5, h6⟩ := hr
  refine ⟨h1, h2, h3, h4, h5, fun hn => ?_⟩
  obtain ⟨cs, u, fr, ds, k1, k2, k3, k4, k5⟩ := h6 hn
  exact ⟨cs, u, fr, ds, k1, k2, k3.imp fun x c hc => hc.mono h, k4, k5⟩

section
variable {E : Env} {s : St}
/-- Slices that go over, and the keys they were. -/
inductive Own (E : Env) (s : St) : List Nat → List EI → Prop
  | nil : Own E s [] []
  | skip {ns : List Nat} {es : List EI} {e : EI} : e.nil = true → Own E s ns es → Own E s ns (e :: es)
  | cons {ns : List Nat} {es : List EI} {e : EI} {n : Nat} : n ∉ ns → OwnB (lookO s.ob n) → (e.nil = false → e.blk = (E.e n).blk ∧ (E.e n).nil = false) → Own E s ns es → Own E s (n :: ns) (e :: es)
theorem Own.key {ns : List Nat} {es : List EI} (h : Own E s ns es) : ∀ e ∈ es, e.nil = false → ∃ n ∈ ns, e.blk = (E.e n).blk ∧ excl (E.e n) (lookO s.ob n) := by
  induction h with
  | nil => intro e he; simp at he
  | skip hn _ ih =>
    intro e he hf
    rcases List.mem_cons.1 he with rfl | he
    · rw [hn] at hf; simp at hf
    · exact ih e he hf
  | cons hn ho hb _ ih =>
    intro e he hf
    rcases List.mem_cons.1 he with rfl | he
    · obtain ⟨h1, h2⟩ := hb hf
      exact ⟨_, by simp, h1, excl_own ho h2⟩
    · obtain ⟨n, h1, h2⟩ := ih e he hf
      exact ⟨n, by simp [h1], h2⟩
theorem Own.obj {ns : List Nat} {es : List EI} (h : Own E s ns es) : ∀ n ∈ ns, OwnB (lookO s.ob n) := by
  induction h with
  | nil => intro n hn; simp at hn
  | skip _ _ ih => exact ih
  | cons _ ho _ _ ih =>
    intro n hn
    rcases List.mem_cons.1 hn with rfl | hn
    · exact ho
    · exact ih n hn
theorem Own.dist {C : Frm} {A : Nat → Prop} {F : Nat → Prop} {w : World} (hm : Mem C A E F s.ob w) {ns : List Nat} {es : List EI} (h : Own E s ns es) : es.Pairwise fun a b => a.nil = false → b.nil = false → b.blk ≠ a.blk := by
  induction h with
  | nil => exact .nil
  | skip hn _ ih => exact .cons (fun b _ hf => by rw [hn] at hf; simp at hf) ih
  | cons hn ho hb hr ih =>
    refine .cons (fun b hb' hf hf' e => ?_) ih
    obtain ⟨m, h1, h2, h3⟩ := hr.key b hb' hf'
    obtain ⟨g1, g2⟩ := hb hf
    have := hm.inj m _ h3 (excl_own ho g2) (by rw [← h2, e, g1])
    subst this
    exact hn h1
end

/-- A matching goes on. -/
structure MLe (m m' : M) : Prop where
  bx : ∀ (j k : Nat), m.bx[j]? = some (some k) → m'.bx[j]? = some (some k)
  len : m'.bx.length = m.bx.length
  bw : ∀ k ∈ m.bw, k ∈ m'.bw
theorem MLe.refl (m : M) : MLe m m := ⟨fun _ _ h => h, rfl, fun _ h => h⟩
theorem MLe.trans {m m' m'' : M} (h : MLe m m') (h' : MLe m' m'') : MLe m m'' := ⟨fun j k hk => h'.bx j k (h.bx j k hk), h'.len.trans h.len, fun k hk => h'.bw k (h.bw k hk)⟩

/-- A numbering of the boxes, and what may be kept, that go with a matching. -/
structure Fits (E : Env) (F : Nat → Prop) (s : St) (m : M) (β : Nat → EI) (G : Nat → Prop) : Prop where
  β : ∀ (j k : Nat), m.bx[j]? = some (some k) → β j = E.e k
  G : ∀ b, plus s.ob E F m.bw b → G b
theorem Fits.of {E : Env} {F : Nat → Prop} {s : St} {m m' : M} {β : Nat → EI} {G : Nat → Prop} (h : Fits E F s m' β G) (hl : MLe m m') : Fits E F s m β G :=
  ⟨fun j k hk => h.β j k (hl.bx j k hk), fun b hb => h.G b (plus_mono hl.bw b hb)⟩

theorem bindB_ok {m m' : M} {j k : Nat} (h : bindB m j k = some m') : MLe m m' ∧ m'.pay = m.pay ∧ m'.tk = m.tk ∧ m'.bw = m.bw ∧ m'.bx[j]? = some (some k) := by
  unfold bindB at h
  split at h
  · rename_i k' hk
    rw [nthO_eq] at hk
    split at h
    · rename_i e
      simp only [Option.some.injEq] at h; subst h
      have := Nat.eq_of_beq_eq_true e
      subst this
      exact ⟨MLe.refl m, rfl, rfl, rfl, hk⟩
    · simp at h
  · rename_i hk
    rw [nthO_eq] at hk
    simp only [Option.some.injEq] at h; subst h
    have hlt := (List.getElem?_eq_some_iff.1 hk).1
    refine ⟨⟨fun i n hn => ?_, by simp [setN_eq], fun _ h => h⟩, rfl, rfl, rfl, by simp [setN_eq, hlt]⟩
    simp only [setN_eq]
    by_cases e : j = i
    · subst e; rw [hk] at hn; simp at hn
    · rw [List.getElem?_set_ne e]; exact hn
  · simp at h
theorem bindBs_ok : ∀ {cs cs' : List Cp} {m m' : M}, bindBs m cs cs' = some m' → MLe m m' ∧ m'.pay = m.pay ∧ m'.tk = m.tk ∧ m'.bw = m.bw ∧
    All2 (fun (c c' : Cp) => c.l = c'.l ∧ c.y = c'.y ∧ m'.bx[c.k]? = some (some c'.k)) cs cs'
  | [], [], m, m', h => by simp only [bindBs, Option.some.injEq] at h; subst h; exact ⟨MLe.refl m, rfl, rfl, rfl, trivial⟩
  | [], _ :: _, _, _, h => by simp [bindBs] at h
  | _ :: _, [], _, _, h => by simp [bindBs] at h
  | c :: r, c' :: q, m, m', h => by
    simp only [bindBs] at h
    split at h
    · rename_i hc
      simp only [Bool.and_eq_true, Nat.beq_eq] at hc
      split at h
      · rename_i m1 hm1
        obtain ⟨h1, h2, h3, h4, h5⟩ := bindB_ok hm1
        obtain ⟨g1, g2, g3, g4, g5⟩ := bindBs_ok h
        exact ⟨h1.trans g1, g2.trans h2, g3.trans h3, g4.trans h4, ⟨hc.1, natsEq_spec hc.2, g1.bx _ _ h5⟩, g5⟩
      · simp at h
    · simp at h

section
variable {ok : Nat → List DV → List DV → Prop} {C : Frm} {A : Nat → Prop} {E : Env} {F : Nat → Prop} {s : St} {w : World} {α : Type} {r : α}
/-- A window of a slice of one's own, that goes over. -/
def winEI (e : EI) (off n : Nat) : EI := { e with base := e.base + off * e.esz, len := n, cap := e.cap - off, nil := Nat.beq (e.cap - off) 0 }
theorem win_own {n off len : Nat} {t : Ty} {xs : List (Den t)} {cs : List Value} (hm : Mem C A E F s.ob w) (hobj : lookO s.ob n = .arr t xs false) (hw : Win (E.e n) off len cs) :
    Win (winEI (E.e n) off len) 0 len cs ∧ RepArrO F w (winEI (E.e n) off len) t ((xs.drop off).take len) ∧ ((winEI (E.e n) off len).nil = false → (winEI (E.e n) off len).blk = (E.e n).blk ∧ (E.e n).nil = false) := by
  obtain ⟨h1, ad, rfl, h3⟩ := hw
  have hrp := hm.rp n
  rw [hobj] at hrp
  obtain ⟨q1, q2, q3, q4, q5, q6⟩ := hrp
  have hnil : (winEI (E.e n) off len).nil = false → (E.e n).cap - off ≠ 0 := fun h e => by simp [winEI, e] at h
  have hnil' : (winEI (E.e n) off len).nil = true → (E.e n).cap - off = 0 := fun h => by simpa [winEI] using h
  refine ⟨⟨by simp [winEI], ad, by simp [winEI], fun h => ?_⟩, ⟨by simp [winEI]; omega, by simp [winEI]; omega, q3, q4, fun h => hnil' h, fun h => ?_⟩, fun h => ⟨rfl, (h3 (hnil h)).1⟩⟩
  · have h : (E.e n).cap - off ≠ 0 := by simpa [winEI] using h
    refine ⟨by simp only [winEI]; rw [← Bool.not_eq_true, Nat.beq_eq]; exact h, ?_⟩
    rw [(h3 h).2]; simp [winEI]
  · obtain ⟨cs, u, fr, ds, k1, k2, k3, k4, k5, k6⟩ := q6 (h3 (hnil h)).1
    obtain ⟨c, d, e', rfl, g1, g2⟩ := All_sub (m := len) (fun x c => RepD_len) k3 (show off ≤ xs.length by omega)
    have hne := hnil h
    refine ⟨cs, u, fr, d, k1, ?_, g2, ?_, (k5 rfl).2⟩
    · simp only [winEI]
      rw [Nat.add_assoc, ← Nat.add_mul, Nat.add_sub_cancel' (by omega)]; exact k2
    · have := (k4.append.2).append.1
      rw [g1, ← q3] at this
      exact this
theorem mtO_ok {t : Ty} {l : L} {m : M} {k : M → Rd α} (h : Ev ok (mtO t l m k) s r) (hm : Mem C A E F s.ob w) {cs : List Value} (hr : RepL E F w l cs) {ea : List EI} (ho : Own E s m.tk ea) :
    ∃ xs e tk, Ev ok (k { m with pay := ⟨.sl t, xs⟩ :: m.pay, tk := tk }) s r ∧ Own E s tk (e :: ea) ∧ Win e 0 e.len cs ∧ RepArrO F w e t xs := by
  have take : ∀ {n off len : Nat} {f : List (Den t) → List (Den t)} , Win (E.e n) off len cs → (∀ xs, lookO s.ob n = .arr t xs false → f xs = (xs.drop off).take len) →
      Ev ok (match memN n m.tk with
      | true => .fail
      | false => .get (.ob n) fun
        | .o (.arr u xs false) => castL? u t xs fun xs => k { m with pay := ⟨.sl t, f xs⟩ :: m.pay, tk := n :: m.tk }
        | _ => .fail) s r → ∃ xs e tk, Ev ok (k { m with pay := ⟨.sl t, xs⟩ :: m.pay, tk := tk }) s r ∧ Own E s tk (e :: ea) ∧ Win e 0 e.len cs ∧ RepArrO F w e t xs := by
    intro n off len f hw hf h
    split at h
    · exact h.fail.elim
    · rename_i hmem
      have h := h.get
      simp only [look] at h
      split at h
      · rename_i u xs hobj
        simp only [Cn.o.injEq] at hobj
        have e := castL_eq h; subst e; have h := castL_same h
        obtain ⟨g1, g2, g3⟩ := win_own hm hobj hw
        rw [hf xs hobj] at h
        exact ⟨_, winEI (E.e n) off len, _, h, .cons (memN_false.1 hmem) (by rw [hobj]; trivial) g3 ho, g1, g2⟩
      · exact h.fail.elim
  unfold mtO at h
  split at h
  · rename_i n
    exact take hr.2 (fun xs hobj => by rw [← (arr_at hm hobj).1]; simp) h
  · rename_i n off
    exact take hr.2.2 (fun xs hobj => by rw [← (arr_at hm hobj).1, List.take_of_length_le (by simp)]) h
  · rename_i n off len
    exact take hr.2 (fun xs hobj => rfl) h
  · rw [RepL] at hr; subst hr
    exact ⟨_, nilEI t, _, h, .skip rfl ho, ⟨by simp [nilEI], none, rfl, fun h => by simp [nilEI] at h⟩, ⟨rfl, Nat.le_refl _, rfl, fun _ => rfl, fun _ => rfl, fun h => by simp [nilEI] at h⟩⟩
  · exact h.fail.elim
theorem mtIt_ok {n : Nat} {m : M} {k : M → Rd α} (h : Ev ok (mtIt n m k) s r) (hm : Mem C A E F s.ob w) {ea : List EI} (ho : Own E s m.tk ea) :
    ∃ x p tk, Ev ok (k { m with pay := ⟨.int .i64, p⟩ :: ⟨.str, x⟩ :: m.pay, tk := tk }) s r ∧ Own E s tk (E.e n :: ea) ∧ (E.e n).nil = false ∧ RawAt F w (E.e n).blk (.it x p) := by
  unfold mtIt at h
  split at h
  · exact h.fail.elim
  · rename_i hmem
    have h := h.get
    simp only [look] at h
    split at h
    · rename_i x p hobj
      simp only [Cn.o.injEq] at hobj
      obtain ⟨q1, q2, q3⟩ := raw_at hm hobj
      exact ⟨x, p, _, h, .cons (memN_false.1 hmem) (by rw [hobj]; trivial) (fun _ => ⟨rfl, q1⟩) ho, q1, q3⟩
    · exact h.fail.elim
theorem mtMp_ok {t : Ty} {n : Nat} {m : M} {k : M → Rd α} (h : Ev ok (mtMp t n m k) s r) (hm : Mem C A E F s.ob w) {ea : List EI} (ho : Own E s m.tk ea) :
    ∃ (es : List (ByteArray × Den t)) (tk : List Nat), Ev ok (k { m with pay := ⟨.sl (.pair .str t), es⟩ :: m.pay, tk := tk }) s r ∧ Own E s tk (E.e n :: ea) ∧ (E.e n).nil = false ∧ RawAt F w (E.e n).blk (.mp t es) := by
  unfold mtMp at h
  split at h
  · exact h.fail.elim
  · rename_i hmem
    have h := h.get
    simp only [look] at h
    split at h
    · rename_i u es hobj
      simp only [Cn.o.injEq] at hobj
      obtain ⟨q1, q2, q3⟩ := raw_at hm hobj
      rcases tyc_or (t := u) (u := t) (k := fun h => k { m with pay := ⟨.sl (.pair .str t), (h ▸ es : List (ByteArray × Den t))⟩ :: m.pay, tk := n :: m.tk }) (e := .fail) with ⟨e, he⟩ | he
      · rw [he] at h
        subst e
        exact ⟨es, _, h, .cons (memN_false.1 hmem) (by rw [hobj]; trivial) (fun _ => ⟨rfl, q1⟩) ho, q1, q3⟩
      · rw [he] at h
        exact h.fail.elim
    · exact h.fail.elim
end
end Go.Proofs.Zs
/- A state held against a signature: what comes of it. -/
set_option linter.unusedVariables false
set_option linter.unusedSimpArgs false
namespace Go.Proofs.Zs
open Go

section
variable {ok : Nat → List DV → List DV → Prop} {C : Frm} {A : Nat → Prop} {E : Env} {F : Nat → Prop} {s : St} {w : World} {α : Type} {r : α}
theorem szs_len (t : Ty) (v : Den t) : sizes (unpk t v) = LK.szs (.d t) := sizes_unpk v
/-- A pointer to what is but read. -/
theorem mtR_ok {t : Ty} {l : L} {m : M} {k : M → Rd α} (h : Ev ok (mtR t l m k) s r) (hm : Mem C A E F s.ob w) {cs : List Value} (hr : RepL E F w l cs) :
    ∃ v bw, Ev ok (k { m with pay := ⟨t, v⟩ :: m.pay, bw := bw }) s r ∧ (∀ n ∈ m.bw, n ∈ bw) ∧ ∃ b o ds, cs = [.pointer (some ⟨b, o, none⟩)] ∧ plus s.ob E F bw b ∧ RepD (plus s.ob E F bw) w t v ds ∧ At w b o ds := by
  have out : ∀ {ls : List L} {bw : List Nat} {b o : Nat} {c : List Value}, Ev ok (pk t ls bw fun v r bw => match r with
      | [] => k { m with pay := ⟨t, v⟩ :: m.pay, bw := bw }
      | _ => .fail) s r → RepLs E F w ls c → At w b o c → (∀ n ∈ m.bw, n ∈ bw) → plus s.ob E F bw b → cs = [.pointer (some ⟨b, o, none⟩)] →
      ∃ v bw, Ev ok (k { m with pay := ⟨t, v⟩ :: m.pay, bw := bw }) s r ∧ (∀ n ∈ m.bw, n ∈ bw) ∧ ∃ b o ds, cs = [.pointer (some ⟨b, o, none⟩)] ∧ plus s.ob E F bw b ∧ RepD (plus s.ob E F bw) w t v ds ∧ At w b o ds := by
    intro ls bw b o c h hc ha hb hp hcs
    obtain ⟨v, q, nb, c1, d, rfl, h1, h2, h3, _⟩ := pk_ok hm h hc
    split at h3
    · have hd : d = [] := h2
      subst hd
      rw [List.append_nil] at ha
      exact ⟨v, nb ++ bw, h3, fun n hn => by simp [hb n hn], b, o, c1, hcs, plus_mono (by simp +contextual) b hp, h1.mono (plus_mono (by simp +contextual)), ha⟩
    · exact h3.fail.elim
  unfold mtR at h
  split at h
  · rename_i b l' y
    dsimp only at h
    split at h
    · exact h.fail.elim
    rename_i hn0
    obtain ⟨ls, k1, k2, k3⟩ := rdLs_ok _ _ h
    obtain ⟨p1, p2, p3⟩ := hr
    obtain ⟨c, g1, g2⟩ := box_seg hm k1 k3
    rcases k3 with k3 | ⟨bl, hb, _, _⟩
    · rw [k3] at hn0; simp at hn0
    · exact out k2 g1 g2 (by simp +contextual) (.inr ⟨b, by simp, by rw [hb]; trivial, rfl⟩) p2
  · rename_i b i l' y
    have h := h.get
    simp only [look] at h
    split at h
    · rename_i a' xs ro hobj
      simp only [Cn.o.injEq] at hobj
      obtain ⟨p1, p2, p3, p4⟩ := hr
      obtain ⟨q1, q2, q3, q4, ds, q5, q6⟩ := arr_at hm hobj
      obtain ⟨d, g1, g2⟩ := elem_at q5 q6 (i := i) (by omega)
      obtain ⟨c, g3, g4⟩ := seg_ok (RepD_unpk (E := E) g1) g2 l' (sizes (unpk t (zeroD t))).length
      rw [← lOff_eq, ← q4, ← q3] at g4
      have hn : (E.e b).nil = false := by
        have hrp := hm.rp b
        rw [hobj] at hrp
        cases hn : (E.e b).nil with
        | false => rfl
        | true => have := hrp.2.2.2.2.1 hn; omega
      exact out h g3 g4 (by simp +contextual) (.inr ⟨b, by simp, by rw [hobj]; exact hn, rfl⟩) p3
    · exact h.fail.elim
  · rename_i a' v l'
    obtain ⟨b, o', ds, k1, k2, k3, k4⟩ := hr
    obtain ⟨c, g1, g2⟩ := seg_ok (RepD_unpk (E := E) k3) k4 l' (sizes (unpk t (zeroD t))).length
    rw [← lOff_eq] at g2
    exact out h g1 g2 (fun _ h => h) (.inl k2) k1
  · exact h.fail.elim
theorem RawAt.mono {F F' : Nat → Prop} {w : World} {b : Nat} {x : Raw} (h : RawAt F w b x) (hf : ∀ b, F b → F' b) : RawAt F' w b x := h.ext hf (fun _ _ _ _ h => h) rfl
theorem dtys_spec : ∀ {vs : List DV} {ts : List Ty}, dtys vs ts = true → ts = vs.map (·.t)
  | [], [], _ => rfl
  | [], _ :: _, h => by simp [dtys] at h
  | _ :: _, [], h => by simp [dtys] at h
  | d :: r, t :: q, h => by
    simp only [dtys, Bool.and_eq_true] at h
    rw [List.map_cons, tyEq_spec h.1, ← dtys_spec h.2]
/-- Leaves against a signature. -/
theorem mtLs_ok (hm : Mem C A E F s.ob w) : ∀ {ks : List LK} {ls : List L} {m : M} {k : M → Rd α}, Ev ok (mtLs ks ls m k) s r → ∀ {cs : List Value}, RepLs E F w ls cs → ∀ {ea : List EI}, Own E s m.tk ea →
    ∃ m' p es, Ev ok (k m') s r ∧ MLe m m' ∧ m'.pay = p.reverse ++ m.pay ∧ Own E s m'.tk (es.reverse ++ ea) ∧ sizes ls = szsL ks ∧ ∀ β G, Fits E F s m' β G → RepKs β G w ks p es cs := by
  intro ks
  induction ks with
  | nil =>
    intro ls m k h cs hr ea ho
    cases ls with
    | cons _ _ => exact Ev.fail h |>.elim
    | nil =>
      have : cs = [] := hr
      subst this
      exact ⟨m, [], [], h, MLe.refl m, rfl, ho, rfl, fun β G _ => .nil⟩
  | cons x ks ih =>
    intro ls m k h cs hr ea ho
    -- one leaf, and the rest
    have one : ∀ {l : L} {q : List L} {m1 : M} {p : List DV} {es : List EI} {c d : List Value}, RepL E F w l c → RepLs E F w q d → ls = l :: q → cs = c ++ d → l.size :: [] = x.szs → Ev ok (mtLs ks q m1 k) s r → MLe m m1 → m1.pay = p.reverse ++ m.pay → Own E s m1.tk (es.reverse ++ ea) →
        (∀ β G, Fits E F s m1 β G → RepK β G w x p es c) →
        ∃ m' p es, Ev ok (k m') s r ∧ MLe m m' ∧ m'.pay = p.reverse ++ m.pay ∧ Own E s m'.tk (es.reverse ++ ea) ∧ sizes ls = szsL (x :: ks) ∧ ∀ β G, Fits E F s m' β G → RepKs β G w (x :: ks) p es cs := by
      rintro l q m1 p es c d h1 h2 rfl rfl hz h hle hp ho1 hk
      obtain ⟨m', p', es', g1, g2, g3, g4, g5, g6⟩ := ih h h2 ho1
      exact ⟨m', p ++ p', es ++ es', g1, hle.trans g2, by rw [g3, hp]; simp, by simpa using g4, by simp only [sizes, szsL, g5, ← hz]; rfl, fun β G hf => .cons (hk β G (hf.of g2)) (g6 β G hf)⟩
    cases x with
    | any n =>
      cases ls with
      | nil => exact Ev.fail h |>.elim
      | cons l q =>
      obtain ⟨c, d, rfl, hl, hq⟩ := hr
      simp only [mtLs] at h
      split at h
      · rename_i hn
        have hn := Nat.eq_of_beq_eq_true hn
        exact one (p := []) (es := []) hl hq rfl rfl (by simp [LK.szs, hn]) h (MLe.refl m) rfl ho (fun β G _ => .any (by rw [RepL_len hl, hn]) (RepL_ok hl))
      · exact h.fail.elim
    | d t =>
      simp only [mtLs] at h
      obtain ⟨v, q, nb, c, d, rfl, h1, h2, h3, h4⟩ := pk_ok hm h hr
      obtain ⟨m', p', es', g1, g2, g3, g4, g5, g6⟩ := ih h3 h2 (ea := ea) ho
      refine ⟨m', ⟨t, v⟩ :: p', es', g1, MLe.trans (m' := { m with pay := ⟨t, v⟩ :: m.pay, bw := nb ++ m.bw }) ⟨fun _ _ h => h, rfl, fun _ h => by simp [h]⟩ g2, by rw [g3]; simp, g4, by rw [h4, g5]; rfl, fun β G hf => ?_⟩
      have := RepKs.cons (RepK.d (β := β) (F := G) (w := w) (t := t) (v := v) (cs := c) (h1.mono fun b hb => hf.G b (plus_mono (fun n hn => g2.bw n (by simp [hn])) b hb))) (g6 β G hf)
      exact this
    | o t =>
      cases ls with
      | nil => exact Ev.fail h |>.elim
      | cons l q =>
      obtain ⟨c, d, rfl, hl, hq⟩ := hr
      simp only [mtLs] at h
      obtain ⟨xs, e, tk, h1, h2, h3, h4⟩ := mtO_ok h hm hl ho
      have hsz : l.size = 1 := by
        have := RepL_len hl
        obtain ⟨_, ad, e3, _⟩ := h3
        rw [e3] at this; simpa using this.symm
      exact one (p := [⟨.sl t, xs⟩]) (es := [e]) (m1 := { m with pay := ⟨.sl t, xs⟩ :: m.pay, tk := tk }) hl hq rfl rfl (by simp [LK.szs, hsz]) h1 ⟨fun _ _ h => h, rfl, fun _ h => h⟩ rfl h2 (fun β G hf => .o h3 (h4.mono fun b hb => hf.G b (.inl hb)))
    | r t =>
      cases ls with
      | nil => exact Ev.fail h |>.elim
      | cons l q =>
      obtain ⟨c, d, rfl, hl, hq⟩ := hr
      simp only [mtLs] at h
      obtain ⟨v, bw, h1, h2, b, oo, ds, rfl, h4, h5, h6⟩ := mtR_ok h hm hl
      have hsz : l.size = 1 := by have := RepL_len hl; simpa using this.symm
      exact one (p := [⟨t, v⟩]) (es := []) (m1 := { m with pay := ⟨t, v⟩ :: m.pay, bw := bw }) hl hq rfl rfl (by simp [LK.szs, hsz]) h1 ⟨fun _ _ h => h, rfl, h2⟩ rfl ho (fun β G hf => .r (hf.G b h4) (h5.mono hf.G) h6)
    | p j l y =>
      cases ls with
      | nil => exact Ev.fail h |>.elim
      | cons l0 q =>
      obtain ⟨c, d, rfl, hc, hq⟩ := hr
      cases l0 with
      | ptr n l' y' =>
        simp only [mtLs] at h
        split at h
        · rename_i hly
          simp only [Bool.and_eq_true, Nat.beq_eq] at hly
          obtain ⟨rfl, hy⟩ := hly
          have hy := natsEq_spec hy
          subst hy
          split at h
          · rename_i m1 hm1
            obtain ⟨g1, g2, g3, g4, g5⟩ := bindB_ok hm1
            refine one (p := []) (es := []) hc hq rfl rfl rfl h g1 (by rw [g2]; rfl) (by rw [g3]; exact ho) (fun β G hf => ?_)
            obtain ⟨p1, p2, p3⟩ := hc
            subst p2
            rw [← hf.β j n g5] at p3 ⊢
            exact .p p3
          · exact h.fail.elim
        · exact h.fail.elim
      | _ => exact Ev.fail h |>.elim
    | f g caps =>
      cases ls with
      | nil => exact Ev.fail h |>.elim
      | cons l0 q =>
      obtain ⟨c, d, rfl, hc, hq⟩ := hr
      cases l0 with
      | fn g' caps' =>
        simp only [mtLs] at h
        split at h
        · rename_i hg
          have hg := Nat.eq_of_beq_eq_true hg
          subst hg
          split at h
          · rename_i m1 hm1
            obtain ⟨g1, g2, g3, g4, g5⟩ := bindBs_ok hm1
            refine one (p := []) (es := []) hc hq rfl rfl rfl h g1 (by rw [g2]; rfl) (by rw [g3]; exact ho) (fun β G hf => ?_)
            obtain ⟨p1, p2⟩ := hc
            have key : ∀ (cs cs' : List Cp), All2 (fun (c c' : Cp) => c.l = c'.l ∧ c.y = c'.y ∧ m1.bx[c.k]? = some (some c'.k)) cs cs' → (∀ c ∈ cs', E.al c.k ∧ Steps (E.e c.k).loff c.l c.y) →
                (∀ c ∈ cs, Steps (β c.k).loff c.l c.y) ∧ (cs'.map fun c => Value.pointer (some ⟨(E.e c.k).blk, (E.e c.k).loff c.l, none⟩)) = cs.map fun c => Value.pointer (some ⟨(β c.k).blk, (β c.k).loff c.l, none⟩) := by
              intro cs
              induction cs with
              | nil =>
                intro cs' h _
                cases cs' with
                | nil => exact ⟨by simp, rfl⟩
                | cons _ _ => exact h.elim
              | cons c r ihc =>
                intro cs' h ha
                cases cs' with
                | nil => exact h.elim
                | cons c' r' =>
                  obtain ⟨⟨e1, e2, e3⟩, h'⟩ := h
                  obtain ⟨k1, k2⟩ := ihc r' h' (fun c hc => ha c (by simp [hc]))
                  have hb := hf.β _ _ e3
                  have := (ha c' (by simp)).2
                  refine ⟨fun x hx => ?_, by simp only [List.map_cons, k2, e1, hb]⟩
                  rcases List.mem_cons.1 hx with rfl | hx
                  · rw [hb, e1, e2]; exact this
                  · exact k1 x hx
            obtain ⟨k1, k2⟩ := key _ _ g5 p1
            rw [p2, k2]
            exact .f k1
          · exact h.fail.elim
        · exact h.fail.elim
      | _ => exact Ev.fail h |>.elim
    | np =>
      cases ls with
      | nil => exact Ev.fail h |>.elim
      | cons l0 q =>
      obtain ⟨c, d, rfl, hc, hq⟩ := hr
      cases l0 with
      | nilp =>
        simp only [mtLs] at h
        exact one (p := []) (es := []) hc hq rfl rfl rfl h (MLe.refl m) rfl ho (fun β G hf => by rw [RepL] at hc; subst hc; exact .np)
      | _ => exact Ev.fail h |>.elim
    | oh j sz y =>
      cases ls with
      | nil => exact Ev.fail h |>.elim
      | cons l0 q =>
      obtain ⟨c, d, rfl, hc, hq⟩ := hr
      cases l0 with
      | oh n a b sz' y' =>
        simp only [mtLs] at h
        split at h
        · rename_i hly
          simp only [Bool.and_eq_true, Nat.beq_eq] at hly
          obtain ⟨rfl, hy⟩ := hly
          have hy := natsEq_spec hy
          subst hy
          split at h
          · rename_i m1 hm1
            obtain ⟨g1, g2, g3, g4, g5⟩ := bindB_ok hm1
            refine one (p := [⟨.int .i64, a⟩, ⟨.int .i64, b⟩]) (es := []) (m1 := { m1 with pay := ⟨.int .i64, b⟩ :: ⟨.int .i64, a⟩ :: m1.pay }) hc hq rfl rfl rfl h ⟨g1.bx, g1.len, g1.bw⟩ (by simp [g2]) (by rw [g3]; exact ho) (fun β G hf => ?_)
            obtain ⟨p1, p2, p3⟩ := hc
            subst p2
            rw [← hf.β j n g5] at p3 ⊢
            exact .oh p3
          · exact h.fail.elim
        · exact h.fail.elim
      | _ => exact Ev.fail h |>.elim
    | it =>
      cases ls with
      | nil => exact Ev.fail h |>.elim
      | cons l0 q =>
      obtain ⟨c, d, rfl, hc, hq⟩ := hr
      cases l0 with
      | itp n =>
        simp only [mtLs] at h
        obtain ⟨x, p, tk, h1, h2, h3, h4⟩ := mtIt_ok h hm ho
        have hc0 := hc
        obtain ⟨p1, p2, rfl⟩ := hc
        exact one (p := [⟨.str, x⟩, ⟨.int .i64, p⟩]) (es := [E.e n]) (m1 := { m with pay := ⟨.int .i64, p⟩ :: ⟨.str, x⟩ :: m.pay, tk := tk }) hc0 hq rfl rfl rfl h1 ⟨fun _ _ h => h, rfl, fun _ h => h⟩ rfl h2 (fun β G hf => .it h3 rfl (h4.mono fun b hb => hf.G b (.inl hb)))
      | _ => exact Ev.fail h |>.elim
    | mp t =>
      cases ls with
      | nil => exact Ev.fail h |>.elim
      | cons l0 q =>
      obtain ⟨c, d, rfl, hc, hq⟩ := hr
      cases l0 with
      | mpp n =>
        simp only [mtLs] at h
        obtain ⟨xs, tk, h1, h2, h3, h4⟩ := mtMp_ok h hm ho
        have hc0 := hc
        obtain ⟨p1, p2, rfl⟩ := hc
        exact one (p := [⟨.sl (.pair .str t), xs⟩]) (es := [E.e n]) (m1 := { m with pay := ⟨.sl (.pair .str t), xs⟩ :: m.pay, tk := tk }) hc0 hq rfl rfl rfl h1 ⟨fun _ _ h => h, rfl, fun _ h => h⟩ rfl h2 (fun β G hf => .mp h3 rfl (h4.mono fun b hb => hf.G b (.inl hb)))
      | _ => exact Ev.fail h |>.elim
    | ifd t ts =>
      cases ls with
      | nil => exact Ev.fail h |>.elim
      | cons l0 q =>
      obtain ⟨c, d, rfl, hc, hq⟩ := hr
      cases l0 with
      | ifd t' vs =>
        simp only [mtLs] at h
        split at h
        · rename_i he
          simp only [Bool.and_eq_true, Nat.beq_eq] at he
          obtain ⟨rfl, he⟩ := he
          have hc0 := hc
          obtain ⟨hs, c1, rfl, hc⟩ := hc
          exact one (p := vs) (es := []) (m1 := { m with pay := vs.reverse ++ m.pay }) hc0 hq rfl rfl rfl h ⟨fun _ _ h => h, rfl, fun _ h => h⟩ rfl ho (fun β G hf => .ifd (dtys_spec he) hs (hc.imp fun _ _ h => h.mono fun b hb => hf.G b (.inl hb)))
        · exact h.fail.elim
      | _ => exact Ev.fail h |>.elim
    | ife =>
      cases ls with
      | nil => exact Ev.fail h |>.elim
      | cons l0 q =>
      obtain ⟨c, d, rfl, hc, hq⟩ := hr
      cases l0 with
      | ife b =>
        simp only [mtLs] at h
        have hc0 := hc
        obtain ⟨v, rfl, hv⟩ := hc
        exact one (p := [⟨.bool, b⟩]) (es := []) (m1 := { m with pay := ⟨.bool, b⟩ :: m.pay }) hc0 hq rfl rfl rfl h ⟨fun _ _ h => h, rfl, fun _ h => h⟩ rfl ho (fun β G hf => .ife hv)
      | _ => exact Ev.fail h |>.elim
    | hd j l =>
      cases ls <;> exact Ev.fail h |>.elim
    | w t =>
      cases ls <;> exact Ev.fail h |>.elim
    | cst j =>
      cases ls with
      | nil => exact Ev.fail h |>.elim
      | cons l0 q =>
      obtain ⟨c, d, rfl, hc, hq⟩ := hr
      cases l0 with
      | cst n =>
        simp only [mtLs] at h
        split at h
        · rename_i m1 hm1
          obtain ⟨g1, g2, g3, g4, g5⟩ := bindB_ok hm1
          refine one (p := []) (es := []) hc hq rfl rfl rfl h g1 (by rw [g2]; rfl) (by rw [g3]; exact ho) (fun β G hf => ?_)
          obtain ⟨p1, p2, p3⟩ := hc
          subst p2
          rw [← hf.β j n g5] at p3 ⊢
          exact .cst p3
        · exact h.fail.elim
      | _ => exact Ev.fail h |>.elim
end
end Go.Proofs.Zs
/- A state held against a whole signature. -/
set_option linter.unusedVariables false
set_option linter.unusedSimpArgs false
namespace Go.Proofs.Zs
open Go

theorem RepKs.inv {β : Nat → EI} {F : Nat → Prop} {w : World} {ks : List LK} {p : List DV} {es : List EI} {cs : List Value} (h : RepKs β F w ks p es cs) :
    match ks with
    | [] => p = [] ∧ es = [] ∧ cs = []
    | k :: r => ∃ p1 p2 e1 e2 c1 c2, p = p1 ++ p2 ∧ es = e1 ++ e2 ∧ cs = c1 ++ c2 ∧ RepK β F w k p1 e1 c1 ∧ RepKs β F w r p2 e2 c2 := by
  cases h with
  | nil => exact ⟨rfl, rfl, rfl⟩
  | cons a b => exact ⟨_, _, _, _, _, _, rfl, rfl, rfl, a, b⟩
theorem RepKs.one {β : Nat → EI} {F : Nat → Prop} {w : World} {k : LK} {p : List DV} {es : List EI} {cs : List Value} (h : RepKs β F w [k] p es cs) : RepK β F w k p es cs := by
  obtain ⟨p1, p2, e1, e2, c1, c2, rfl, rfl, rfl, h1, h2⟩ := h.inv
  obtain ⟨rfl, rfl, rfl⟩ := h2.inv
  simpa using h1

section
variable {ok : Nat → List DV → List DV → Prop} {C : Frm} {A : Nat → Prop} {E : Env} {F : Nat → Prop} {s : St} {w : World} {α : Type} {r : α}
theorem mtAs_ok (hm : Mem C A E F s.ob w) : ∀ {aks : List AK} {xs : List V} {m : M} {k : M → Rd α}, Ev ok (mtAs aks xs m k) s r → ∀ {vs : List Value}, All2 (RepV E F w) xs vs → ∀ {ea : List EI}, Own E s m.tk ea →
    ∃ m' p es, Ev ok (k m') s r ∧ MLe m m' ∧ m'.pay = p.reverse ++ m.pay ∧ Own E s m'.tk (es.reverse ++ ea) ∧ ∀ β G, Fits E F s m' β G → RepAs β G w aks p es vs := by
  intro aks
  induction aks with
  | nil => intro xs m k h vs hv ea ho; exact ⟨m, [], [], h, MLe.refl m, rfl, ho, fun β G _ => .nil vs⟩
  | cons a aks ih =>
    intro xs m k h vs hv ea ho
    cases xs with
    | nil => cases a with
      | one x => cases x <;> exact Ev.fail h |>.elim
      | _ => exact Ev.fail h |>.elim
    | cons x xs =>
    cases vs with
    | nil => exact hv.elim
    | cons v vs =>
    obtain ⟨hx, hv⟩ := hv
    have leaf : ∀ {ks : List LK} {ls : List L} {cs : List Value} , RepLs E F w ls cs → Ev ok (mtLs ks ls m fun m => mtAs aks xs m k) s r → (∀ β G p es, RepKs β G w ks p es cs → RepA β G w a p es v) →
        ∃ m' p es, Ev ok (k m') s r ∧ MLe m m' ∧ m'.pay = p.reverse ++ m.pay ∧ Own E s m'.tk (es.reverse ++ ea) ∧ ∀ β G, Fits E F s m' β G → RepAs β G w (a :: aks) p es (v :: vs) := by
      intro ks ls cs hr h hk
      obtain ⟨m1, p, es, g1, g2, g3, g4, _, g6⟩ := mtLs_ok hm h hr ho
      obtain ⟨m2, p', es', k1, k2, k3, k4, k5⟩ := ih g1 hv g4
      exact ⟨m2, p ++ p', es ++ es', k1, g2.trans k2, by rw [k3, g3]; simp, by simpa using k4, fun β G hf => .cons (hk β G p es (g6 β G (hf.of k2))) (k5 β G hf)⟩
    cases a with
    | no =>
      have h : Ev ok (mtAs aks xs m k) s r := h
      obtain ⟨m2, p', es', k1, k2, k3, k4, k5⟩ := ih h hv ho
      exact ⟨m2, p', es', k1, k2, k3, k4, fun β G hf => by
        have := RepAs.cons (RepA.no (β := β) (F := G) (w := w) v) (k5 β G hf)
        simpa using this⟩
    | agg ks =>
      cases x with
      | agg ls =>
        obtain ⟨cs, rfl, hr⟩ := hx
        exact leaf hr h fun β G p es hk => .agg hk
      | _ => exact Ev.fail h |>.elim
    | one kk =>
      cases x with
      | one l =>
        by_cases hany : ∃ n, kk = .any n
        · obtain ⟨n, rfl⟩ := hany
          have h : Ev ok (mtAs aks xs m k) s r := h
          obtain ⟨m2, p', es', k1, k2, k3, k4, k5⟩ := ih h hv ho
          exact ⟨m2, p', es', k1, k2, k3, k4, fun β G hf => by
            have := RepAs.cons (RepA.any (β := β) (F := G) (w := w) n v) (k5 β G hf)
            simpa using this⟩
        · have hne : ∀ n, kk ≠ .any n := fun n e => hany ⟨n, e⟩
          by_cases hhd : ∃ j l0 n, kk = .hd j l0 ∧ l = .own n
          · obtain ⟨j, l0, n, rfl, rfl⟩ := hhd
            simp only [mtAs] at h
            split at h
            · rename_i q hq
              have hb : m.bx[j]? = some (some q) := by
                rw [nthD_eq, List.getD_eq_getElem?_getD] at hq
                cases hc : m.bx[j]? with
                | none => rw [hc] at hq; simp at hq
                | some o => rw [hc] at hq; simp at hq; rw [hq]
              have h := h.get
              split at h
              · rename_i n' hlf
                split at h
                · rename_i hnn
                  have := Nat.eq_of_beq_eq_true hnn
                  subst this
                  obtain ⟨bl, hl1, hl2⟩ := lf_ok hlf
                  obtain ⟨c, g1, g2⟩ := leaf_at hm hl1 hl2
                  obtain ⟨h1, _, h2⟩ := of_one (by intro _ e; cases e) hx
                  obtain ⟨_, ga⟩ := g1
                  obtain ⟨u, rfl⟩ : ∃ u, c = [u] := by
                    obtain ⟨_, a, e, _⟩ := ga
                    exact ⟨_, e⟩
                  obtain ⟨m2, p', es', k1, k2, k3, k4, k5⟩ := ih h hv ho
                  exact ⟨m2, p', es', k1, k2, k3, k4, fun β G hf => by
                    have := RepAs.cons (RepA.one (β := β) (F := G) (w := w) hne h1 (RepK.hd (j := j) (l := l0) h2 ga (by rw [hf.β j q (k2.bx _ _ hb)]; exact g2))) (k5 β G hf)
                    simpa using this⟩
                · exact h.fail.elim
              · exact h.fail.elim
            · exact h.fail.elim
          have hl : ∀ n, l ≠ .any n := by
            rintro n rfl
            cases kk <;> first | exact (hne _ rfl).elim | exact Ev.fail h |>.elim
          have h : Ev ok (mtLs [kk] [l] m fun m => mtAs aks xs m k) s r := by
            cases kk <;> first | exact (hne _ rfl).elim | (cases l <;> first | exact (hl _ rfl).elim | exact (hhd ⟨_, _, _, rfl, rfl⟩).elim | exact h)
          obtain ⟨h1, h2⟩ := of_one hl hx
          refine leaf (All.one.2 h2) h fun β G p es hk => .one hne h1 ?_
          exact hk.one
      | _ => cases kk <;> exact Ev.fail h |>.elim
theorem mtBx_ok (hm : Mem C A E F s.ob w) : ∀ {kss : List (List LK)} {j : Nat} {m : M} {k : M → Rd α}, Ev ok (mtBx kss j m k) s r → ∀ {ea : List EI}, Own E s m.tk ea →
    ∃ m' p es, Ev ok (k m') s r ∧ MLe m m' ∧ m'.pay = p.reverse ++ m.pay ∧ Own E s m'.tk (es.reverse ++ ea) ∧ (∀ i, i < kss.length → ∃ n ls, m.bx[j + i]? ≠ none ∧ m'.bx[j + i]? = some (some n) ∧ lookO s.ob n = .box ls) ∧
      ∀ β G, Fits E F s m' β G → (∀ i, i < kss.length → ¬ G (β (j + i)).blk) → RepBs β G w kss j p es := by
  intro kss
  induction kss with
  | nil => intro j m k h ea ho; exact ⟨m, [], [], h, MLe.refl m, rfl, ho, fun i hi => by simp at hi, fun β G _ _ => .nil j⟩
  | cons ks r ih =>
    intro j m k h ea ho
    simp only [mtBx] at h
    split at h
    · rename_i n hn
      have hb : m.bx[j]? = some (some n) := by
        rw [nthD_eq, List.getD_eq_getElem?_getD] at hn
        cases hc : m.bx[j]? with
        | none => rw [hc] at hn; simp at hn
        | some o => rw [hc] at hn; simp at hn; rw [hn]
      have h := h.get
      simp only [look] at h
      split at h
      · rename_i ls hobj
        simp only [Cn.o.injEq] at hobj
        have hrp := hm.rp n
        rw [hobj] at hrp
        obtain ⟨cs, t, q1, q2, q3, q4⟩ := hrp
        obtain ⟨m1, p, es, g1, g2, g3, g4, g5, g6⟩ := mtLs_ok hm h q2 ho
        obtain ⟨m2, p', es', k1, k2, k3, k4, k5, k6⟩ := ih g1 g4
        refine ⟨m2, p ++ p', es ++ es', k1, g2.trans k2, by rw [k3, g3]; simp, by simpa using k4, fun i hi => ?_, fun β G hf hG => ?_⟩
        · cases i with
          | zero => exact ⟨n, ls, by rw [Nat.add_zero, hb]; simp, k2.bx _ _ (g2.bx _ _ hb), hobj⟩
          | succ i =>
            obtain ⟨n', ls', e1, e2, e3⟩ := k5 i (by simpa using hi)
            rw [show j + 1 + i = j + (i + 1) by omega] at e1 e2
            refine ⟨n', ls', ?_, e2, e3⟩
            intro e
            apply e1
            rw [List.getElem?_eq_none_iff] at e ⊢
            rw [g2.len]; exact e
        · have hβ := hf.β j n (k2.bx _ _ (g2.bx _ _ hb))
          refine .cons (t := t) (cs := cs) (by rw [hβ]; exact q1) (g6 β G (hf.of k2)) (by simpa using hG 0 (by simp)) (fun i hi => ?_) (k6 β G hf (fun i hi => ?_))
          · rw [hβ, ← g5]
            refine q4 i ?_
            rw [← g5, sizes_len] at hi; exact hi
          · have := hG (i + 1) (by simpa using hi)
            rwa [show j + (i + 1) = j + 1 + i by omega] at this
      · exact h.fail.elim
    · exact h.fail.elim
theorem somes_ok : ∀ {l : List (Option Nat)} {bs : List Nat}, somes l = some bs → l = bs.map some
  | [], bs, h => by simp only [somes, Option.some.injEq] at h; subst h; rfl
  | none :: r, bs, h => by simp [somes] at h
  | some x :: r, bs, h => by
    simp only [somes] at h
    split at h
    · rename_i q hq
      simp only [Option.some.injEq] at h; subst h
      rw [somes_ok hq]; rfl
    · simp at h
theorem nones_len : ∀ n, (nones n).length = n
  | 0 => rfl
  | n + 1 => by simp [nones, nones_len n]
theorem plus_blk {bw : List Nat} {k : Nat} (hm : Mem C A E F s.ob w) (hk : excl (E.e k) (lookO s.ob k)) (hn : k ∉ bw) : ¬ plus s.ob E F bw (E.e k).blk := by
  rintro (h | ⟨n, h1, h2, h3⟩)
  · exact excl_notF hm hk h
  · by_cases hne : n = k
    · subst hne; exact hn h1
    · refine hm.blk_ne hk hne ?_ ?_ h3
      · cases ho : lookO s.ob n <;> rw [ho] at h2 <;> first | exact h2.elim | trivial
      · cases ho : lookO s.ob n with
        | dead => rw [ho] at h2; exact h2.elim
        | box ls => exact .inr ⟨ls, rfl⟩
        | arr t xs ro => rw [ho] at h2; exact .inl h2
        | raw r => exact .inl (by have := hm.rp n; rw [ho] at this; exact this.1)
/-- What comes of a state that fits a signature. -/
structure Fit (C : Frm) (A : Nat → Prop) (E : Env) (F : Nat → Prop) (s : St) (w : World) (sg : Sg) (vs : List Value) (p : List DV) (es : List EI) (bs tk bw : List Nat) : Prop where
  sig : SigIn sg (fun j => E.e (nthD 0 bs j)) (plus s.ob E F bw) w p es vs
  len : bs.length = sg.bx.length
  nod : bs.Nodup
  box : ∀ n ∈ bs, ∃ ls, lookO s.ob n = .box ls
  own : ∃ ea, Own E s tk ea ∧ es = ea.reverse
  tb : ∀ n ∈ tk, n ∉ bw
  bb : ∀ n ∈ bs, n ∉ bw
theorem mtSgP_ok {pre : List (Option Nat)} {sg : Sg} (hpre : pre.length = sg.bx.length) {xs : List V} {vs : List Value} {k : List DV → List Nat → List Nat → List Nat → Rd α} (h : Ev ok (mtSgP pre sg xs k) s r) (hm : Mem C A E F s.ob w) (hv : All2 (RepV E F w) xs vs) :
    ∃ p es bs tk bw, Ev ok (k p bs tk bw) s r ∧ Fit C A E F s w sg vs p es bs tk bw := by
  unfold mtSgP at h
  obtain ⟨m1, p1, e1, g1, g2, g3, g4, g5⟩ := mtAs_ok hm h hv (ea := []) .nil
  obtain ⟨m2, p2, e2, k1, k2, k3, k4, k5, k6⟩ := mtBx_ok hm g1 g4
  split at k1
  · rename_i bs hbs
    have hbs := somes_ok hbs
    split at k1
    · rename_i hd
      simp only [Bool.and_eq_true] at hd
      obtain ⟨⟨d1, d2⟩, d3⟩ := hd
      have d1 := distinct_spec d1
      have d2 := disj_spec d2
      have d3 := disj_spec d3
      have hlen : bs.length = sg.bx.length := by
        have := k2.len
        rw [hbs, g2.len, List.length_map] at this
        rw [this]; exact hpre
      have hbi : ∀ i, i < sg.bx.length → ∃ n ls, m2.bx[i]? = some (some n) ∧ lookO s.ob n = .box ls ∧ nthD 0 bs i = n ∧ n ∈ bs ∧ bs[i]? = some n := by
        intro i hi
        obtain ⟨n, ls, _, e2, e3⟩ := k5 i hi
        rw [Nat.zero_add] at e2
        have : bs[i]? = some n := by
          rw [hbs, List.getElem?_map] at e2
          cases hc : bs[i]? with
          | none => rw [hc] at e2; simp at e2
          | some x => rw [hc] at e2; simp at e2; rw [e2]
        exact ⟨n, ls, e2, e3, by rw [nthD_eq, List.getD_eq_getElem?_getD, this]; rfl, List.mem_of_getElem? this, this⟩
      have hf : Fits E F s m2 (fun j => E.e (nthD 0 bs j)) (plus s.ob E F m2.bw) := by
        refine ⟨fun j n hj => ?_, fun b hb => hb⟩
        have hj' : j < bs.length := by
          have := (List.getElem?_eq_some_iff.1 hj).1
          rw [hbs, List.length_map] at this; exact this
        obtain ⟨n', ls, q1, q2, q3, _⟩ := hbi j (by rw [← hlen]; exact hj')
        rw [hj] at q1
        simp only [Option.some.injEq] at q1
        simp only [q3, q1]
      have hbk : ∀ i, i < sg.bx.length → excl (E.e (nthD 0 bs i)) (lookO s.ob (nthD 0 bs i)) := by
        intro i hi
        obtain ⟨n, ls, q1, q2, q3, q4, _⟩ := hbi i hi
        rw [q3, q2]; trivial
      have hkey : ∀ e ∈ e1 ++ e2, e.nil = false → ∃ n ∈ m2.tk, e.blk = (E.e n).blk ∧ excl (E.e n) (lookO s.ob n) := fun e he hn => k4.key e (by simp at he ⊢; exact he.symm) hn
      have hp : m2.pay.reverse = p1 ++ p2 := by rw [k3, g3]; simp
      rw [hp] at k1
      refine ⟨_, e1 ++ e2, bs, m2.tk, m2.bw, k1, ⟨?_, ?_, ?_, ?_, ?_⟩, hlen, d1, fun n hn => ?_, ⟨_, k4, by simp⟩, d2, d3⟩
      · refine ⟨p1, p2, e1, e2, rfl, rfl, g5 _ _ (hf.of k2), k6 _ _ hf (fun i hi => ?_)⟩
        rw [Nat.zero_add]
        obtain ⟨n, ls, q1, q2, q3, q4, _⟩ := hbi i hi
        refine plus_blk hm (hbk i hi) ?_
        rw [q3]; exact d3 n q4
      · intro i j hi hj he
        have := hm.inj _ _ (hbk i hi) (hbk j hj) he
        obtain ⟨n, _, _, _, q3, _, q5⟩ := hbi i hi
        obtain ⟨n', _, _, _, q3', _, q5'⟩ := hbi j hj
        rw [q3, q3'] at this
        subst this
        exact (List.getElem?_inj (show i < bs.length by omega) d1).1 (q5.trans q5'.symm)
      · have := k4.dist hm
        rw [← List.pairwise_reverse] at this
        simp only [List.reverse_append, List.reverse_reverse, List.reverse_nil, List.append_nil, List.nil_append] at this
        simpa using this.imp fun hab ha hb e => hab hb ha e
      · intro j hj e he hn hc
        obtain ⟨n, hn1, hn2, hn3⟩ := hkey e he hn
        have := hm.inj _ _ (hbk j hj) hn3 (hc.trans hn2)
        obtain ⟨n', ls, q1, q2, q3, q4, _⟩ := hbi j hj
        have ho := k4.obj n hn1
        rw [q3] at this
        rw [this] at q2
        rw [q2] at ho
        exact ho.elim
      · intro e he hn hc
        obtain ⟨n, hn1, hn2, hn3⟩ := hkey e he hn
        rw [hn2] at hc
        exact plus_blk hm hn3 (d2 n hn1) hc
      · obtain ⟨i, hi⟩ := List.mem_iff_getElem?.1 hn
        have hi' := (List.getElem?_eq_some_iff.1 hi).1
        obtain ⟨n', ls, q1, q2, q3, q4, q5⟩ := hbi i (by omega)
        rw [hi] at q5
        simp only [Option.some.injEq] at q5
        exact ⟨ls, by rw [q5]; exact q2⟩
    · exact k1.fail.elim
  · exact k1.fail.elim
theorem mtSg_ok {sg : Sg} {xs : List V} {vs : List Value} {k : List DV → List Nat → List Nat → List Nat → Rd α} (h : Ev ok (mtSg sg xs k) s r) (hm : Mem C A E F s.ob w) (hv : All2 (RepV E F w) xs vs) :
    ∃ p es bs tk bw, Ev ok (k p bs tk bw) s r ∧ Fit C A E F s w sg vs p es bs tk bw := mtSgP_ok (nones_len _) h hm hv
end
end Go.Proofs.Zs
