import Derived.Test.YtnhgipdlkcdeiaaDoorEngY
set_option linter.unusedSimpArgs false
set_option linter.unusedVariables false
/- Calls. -/
set_option linter.unusedVariables false
set_option linter.unusedSimpArgs false
namespace Go.Proofs.Zs
open Go

/-- What a call leaves. -/
structure SigOut (c : CS) (β : Nat → EI) (F : Nat → Prop) (w : World) (es : List EI) (q : List DV) (v : Value) (w' : World) (F' : Nat → Prop) (fs : List EI) : Prop where
  ex : ∃ β' p1 p2 e1 e2 rs, (∀ j, j < c.i.bx.length → β' j = β j) ∧ q = p1 ++ p2 ∧ fs = e1 ++ e2 ∧ RepAs β' F' w' c.r p1 e1 rs ∧ rs.length = c.r.length ∧ (match c.one with | true => rs = [v] | false => v = .tuple rs.toArray) ∧ RepBs β' F' w' c.ob 0 p2 e2
  sz : w.heap.size ≤ w'.heap.size
  os : w'.os = w.os
  tape : w'.tape = w.tape
  output : w'.output = w.output
  ff : ∀ b, F b → F' b
  fb : ∀ b, F' b → b < w'.heap.size
  uf : ∀ b, F' b → F b ∨ ownB c.i.bx.length β es b ∨ w.heap.size ≤ b
  kp : ∀ b, b < w.heap.size → ¬ ownB c.i.bx.length β es b → w'.heap[b]? = w.heap[b]?
  fbx : ∀ j, j < c.i.bx.length → ¬ F' (β j).blk
  ed : fs.Pairwise fun a b => a.nil = false → b.nil = false → a.blk ≠ b.blk
  be : ∀ j, j < c.i.bx.length → ∀ e ∈ fs, e.nil = false → (β j).blk ≠ e.blk
  ef : ∀ e ∈ fs, e.nil = false → ¬ F' e.blk
  fo : ∀ e ∈ fs, e.nil = false → ownB c.i.bx.length β es e.blk ∨ w.heap.size ≤ e.blk

/-- What a call leaves that writes a slice in place. -/
def WrOK (P : Program) (f : Nat) (t : Ty) (p q : List DV) : Prop :=
  ∃ xs ys : List (Den t), p = [⟨.sl t, xs⟩] ∧ q = [⟨.sl t, ys⟩] ∧ ∀ (F : Nat → Prop) (w : World) (e : EI) (v : Value), RepArrO F w e t xs → Win e 0 e.len [v] →
    Calls P f #[v] w fun out w' => out = .returned (.tuple #[]) ∧ ((e.nil = true ∧ w' = w ∧ ys = []) ∨
      (e.nil = false ∧ RepArrO F w' e t ys ∧ w.heap.size ≤ w'.heap.size ∧ (∀ b, b < w.heap.size → b ≠ e.blk → w'.heap[b]? = w.heap[b]?) ∧ w'.os = w.os ∧ w'.tape = w.tape ∧ w'.output = w.output))
def CallOK (P : Program) (c : CS) (p q : List DV) : Prop :=
  (∀ args w, (callFunc c.fn args).run P w = .ok (.enter c.fn args) w) ∧
  (∀ (β : Nat → EI) (F : Nat → Prop) (w : World) (es : List EI) (vs : List Value), (∀ b, F b → b < w.heap.size) → vs.length = c.i.av.length → SigIn c.i β F w p es vs → Laid P F w →
    Calls P c.fn vs.toArray w fun out w' => ∃ v F' fs, out = .returned v ∧ SigOut c β F w es q v w' F' fs) ∧
  ∀ t, c.i.av = [.one (.w t)] → WrOK P c.fn t p q

/-- Without slices nothing is kept. -/
theorem RepD_nosl {F F' : Nat → Prop} {w : World} : ∀ {t : Ty}, t.hasSl = false → ∀ {v : Den t} {cs : List Value}, RepD F w t v cs → RepD F' w t v cs
  | .int _, _, _, _, h => by rw [RepD] at h ⊢; exact h
  | .bool, _, _, _, h => by rw [RepD] at h ⊢; exact h
  | .str, _, _, _, h => by rw [RepD] at h ⊢; exact h
  | .unit, _, _, _, h => by rw [RepD] at h ⊢; exact h
  | .nl, _, _, _, h => by rw [RepD] at h ⊢; exact h
  | .pair a b, hs, _, _, h => by
    rw [RepD] at h ⊢
    simp only [Ty.hasSl, Bool.or_eq_false_iff] at hs
    obtain ⟨c, d, e, h1, h2⟩ := h
    exact ⟨c, d, e, RepD_nosl hs.1 h1, RepD_nosl hs.2 h2⟩
  | .ar n a, hs, v, _, h => by
    rw [RepD] at h ⊢
    simp only [Ty.hasSl] at hs
    exact ⟨h.1, h.2.imp fun x c hc => RepD_nosl hs hc⟩
  | .sl a, hs, _, _, _ => by simp [Ty.hasSl] at hs
section
variable {β : Nat → EI} {F F' : Nat → Prop} {w : World}
theorem scalar_nosl {t : Ty} (h : scalar t = true) : t.hasSl = false := by cases t <;> first | rfl | cases h
theorem ifd_nosl : ∀ {vs : List DV}, (vs.all fun d => scalar d.t) = true → ∀ {cs : List Value}, All (fun (d : DV) cs => RepD F w d.t d.v cs) vs cs → All (fun (d : DV) cs => RepD F' w d.t d.v cs) vs cs
  | [], _, _, h => h
  | d :: r, hs, _, ⟨c, e, h1, h2, h3⟩ => by
    simp only [List.all_cons, Bool.and_eq_true] at hs
    exact ⟨c, e, h1, RepD_nosl (scalar_nosl hs.1) h2, ifd_nosl hs.2 h3⟩
/-- What may be kept, changed: more, or other where nothing is kept. -/
theorem RepK.to {k : LK} {p : List DV} {es : List EI} {cs : List Value} (h : RepK β F w k p es cs) (hF : k.hasSl = false ∨ ∀ b, F b → F' b) : RepK β F' w k p es cs := by
  cases h with
  | any h1 h2 => exact .any h1 h2
  | d h1 => exact .d (hF.elim (fun hs => RepD_nosl hs h1) (fun hF => h1.mono hF))
  | o h1 h2 =>
    refine .o h1 ?_
    rcases hF with hs | hF
    · obtain ⟨q1, q2, q3, q4, q5, q6⟩ := h2
      refine ⟨q1, q2, q3, q4, q5, fun hn => ?_⟩
      obtain ⟨cs, u, fr, ds, k1, k2, k3, k4, k5⟩ := q6 hn
      exact ⟨cs, u, fr, ds, k1, k2, k3.imp fun x c hc => RepD_nosl hs hc, k4, k5⟩
    · exact h2.mono hF
  | r h1 h2 h3 => exact hF.elim (fun hs => by simp [LK.hasSl] at hs) (fun hF => .r (hF _ h1) (h2.mono hF) h3)
  | p h1 => exact .p h1
  | f h1 => exact .f h1
  | np => exact .np
  | cst h1 => exact .cst h1
  | hd h1 h2 h3 => exact .hd h1 h2 h3
  | oh h1 => exact .oh h1
  | it h1 h2 h3 => exact .it h1 h2 h3
  | mp h1 h2 h3 =>
    obtain ⟨hs, l, cl, h4, h5⟩ := h3
    exact .mp h1 h2 ⟨hs, l, cl, h4, h5.imp fun _ _ hc => ⟨hc.1, RepD_nosl (scalar_nosl hs) hc.2⟩⟩
  | ifd h1 h2 h3 => exact .ifd h1 h2 (ifd_nosl h2 h3)
  | ife h1 => exact .ife h1
theorem RepKs.to {ks : List LK} {p : List DV} {es : List EI} {cs : List Value} (h : RepKs β F w ks p es cs) (hF : anySl ks = false ∨ ∀ b, F b → F' b) : RepKs β F' w ks p es cs := by
  induction h with
  | nil => exact .nil
  | cons a _ ih =>
    simp only [anySl, Bool.or_eq_false_iff] at hF
    exact .cons (a.to (hF.imp And.left id)) (ih (hF.imp And.right id))
theorem RepA.to {a : AK} {p : List DV} {es : List EI} {v : Value} (h : RepA β F w a p es v) (hF : a.hasSl = false ∨ ∀ b, F b → F' b) : RepA β F' w a p es v := by
  cases h with
  | no v => exact .no v
  | any n v => exact .any n v
  | one h1 h2 h3 => exact .one h1 h2 (h3.to hF)
  | agg h => exact .agg (h.to hF)
theorem RepAs.to {aks : List AK} {p : List DV} {es : List EI} {vs : List Value} (h : RepAs β F w aks p es vs) (hF : aks.any AK.hasSl = false ∨ ∀ b, F b → F' b) : RepAs β F' w aks p es vs := by
  induction h with
  | nil vs => exact .nil vs
  | cons a _ ih =>
    simp only [List.any_cons, Bool.or_eq_false_iff] at hF
    exact .cons (a.to (hF.imp And.left id)) (ih (hF.imp And.right id))
theorem RepBs.to {kss : List (List LK)} {j : Nat} {p : List DV} {es : List EI} (h : RepBs β F w kss j p es) (hF : kss.any anySl = false ∨ ∀ b, F b → F' b) (hn : ∀ b, F' b → F b) : RepBs β F' w kss j p es := by
  induction h with
  | nil j => exact .nil j
  | cons a b c d _ ih =>
    simp only [List.any_cons, Bool.or_eq_false_iff] at hF
    exact .cons a (b.to (hF.imp And.left id)) (fun h => c (hn _ h)) d (ih (hF.imp And.right id))
end

theorem apply_obs : ∀ (l : List (Nat × Obj)) (s : St), (apply (obs l) s).tm = s.tm ∧ ∀ k, (lookO (apply (obs l) s).ob k = lookO s.ob k ∧ ∀ o, (k, o) ∉ l) ∨ (k, lookO (apply (obs l) s).ob k) ∈ l
  | [], s => ⟨rfl, fun k => .inl ⟨rfl, by simp⟩⟩
  | p :: r, s => by
    obtain ⟨h1, h2⟩ := apply_obs r { s with ob := putO s.ob p.1 p.2 }
    refine ⟨h1, fun k => ?_⟩
    show (lookO (apply (obs r) { s with ob := putO s.ob p.1 p.2 }).ob k = _ ∧ _) ∨ (k, lookO (apply (obs r) { s with ob := putO s.ob p.1 p.2 }).ob k) ∈ _
    rcases h2 k with ⟨g1, g2⟩ | g
    · simp only [lookO_putO] at g1
      by_cases e : p.1 = k
      · subst e
        right
        rw [g1, if_pos rfl]; simp
      · left
        rw [if_neg e] at g1
        exact ⟨g1, fun o ho => by
          rcases List.mem_cons.1 ho with ho | ho
          · exact e (by rw [← ho])
          · exact g2 o ho⟩
    · right; simp [g]
theorem apply_deads : ∀ (l : List Nat) (s : St), (apply (deads l) s).tm = s.tm ∧ ∀ k, lookO (apply (deads l) s).ob k = if k ∈ l then .dead else lookO s.ob k
  | [], s => ⟨rfl, fun k => by simp [deads, apply]⟩
  | n :: r, s => by
    obtain ⟨h1, h2⟩ := apply_deads r { s with ob := putO s.ob n .dead }
    refine ⟨h1, fun k => ?_⟩
    show lookO (apply (deads r) { s with ob := putO s.ob n .dead }).ob k = _
    rw [h2]
    simp only [lookO_putO]
    by_cases hk : k ∈ r
    · simp [hk]
    · by_cases e : n = k
      · subst e; simp
      · have e' : ¬ k = n := fun h => e h.symm
        simp [hk, e, e']
theorem freeze_ok {ok : Nat → List DV → List DV → Prop} {s : St} {r : Wr} : ∀ {bw : List Nat} {wr : Wr} {k : Wr → Rd Wr}, Ev ok (freeze bw wr k) s r →
    ∃ fz : List (Nat × Obj), Ev ok (k (obs fz ++ wr)) s r ∧ (∀ n ∈ bw, ∃ o, (n, o) ∈ fz) ∧ ∀ n o, (n, o) ∈ fz → n ∈ bw ∧ ∃ t xs ro, lookO s.ob n = .arr t xs ro ∧ o = .arr t xs true
  | [], wr, k, h => ⟨[], h, by simp, by simp⟩
  | n :: q, wr, k, h => by
    simp only [freeze] at h
    have h := h.get
    simp only [look] at h
    split at h
    · rename_i t xs ro hobj
      simp only [Cn.o.injEq] at hobj
      obtain ⟨fz, h1, h2, h3⟩ := freeze_ok h
      have e : obs fz ++ (Loc.ob n, Cn.o (.arr t xs true)) :: wr = obs (fz ++ [(n, .arr t xs true)]) ++ wr := by
        have : ∀ a b : List (Nat × Obj), obs (a ++ b) = obs a ++ obs b := by
          intro a b
          induction a with
          | nil => rfl
          | cons x y ih => simp [obs, ih]
        rw [this]; simp [obs]
      rw [e] at h1
      refine ⟨_, h1, fun m hm => ?_, fun m o hm => ?_⟩
      · rcases List.mem_cons.1 hm with rfl | hm
        · exact ⟨.arr t xs true, by simp⟩
        · obtain ⟨o, ho⟩ := h2 m hm
          exact ⟨o, by simp [ho]⟩
      · rcases List.mem_append.1 hm with hm | hm
        · obtain ⟨g1, g2⟩ := h3 m o hm
          exact ⟨by simp [g1], g2⟩
        · simp only [List.mem_singleton, Prod.mk.injEq] at hm
          obtain ⟨rfl, rfl⟩ := hm
          exact ⟨by simp, t, xs, ro, hobj, rfl⟩
    · exact h.fail.elim
end Go.Proofs.Zs
/- What a call leaves of the caller's state. -/
set_option linter.unusedVariables false
set_option linter.unusedSimpArgs false
namespace Go.Proofs.Zs
open Go

theorem blBs_all {ren : Nat → Nat} : ∀ {kss : List (List LK)} {j : Nat} {b b' : B} {bx : List (Nat × List L)}, blBs ren kss j b = some (bx, b') → ∀ i, i < kss.length → ∃ ls, (ren (j + i), ls) ∈ bx
  | [], _, _, _, _, _, i, hi => by simp at hi
  | ks :: r, j, b, b', bx, h, i, hi => by
    simp only [blBs] at h
    split at h
    · rename_i l1 _ _
      split at h
      · rename_i hq
        simp only [Option.some.injEq, Prod.mk.injEq] at h
        obtain ⟨rfl, rfl⟩ := h
        cases i with
        | zero => exact ⟨l1, by simp⟩
        | succ i =>
          obtain ⟨ls, hl⟩ := blBs_all hq i (by simpa using hi)
          rw [show j + 1 + i = j + (i + 1) by omega] at hl
          exact ⟨ls, by simp [hl]⟩
      · simp at h
    · simp at h
/-- The environment with new slices. -/
def newE (E : Env) (key : Nat) (fs : List EI) : Env :=
  { e := fun k => if key ≤ k ∧ k < key + fs.length then fs.getD (k - key) (nilEI .unit) else E.e k, al := fun k => E.al k ∨ (key ≤ k ∧ k < key + fs.length) }

section
variable {C : Frm} {A : Nat → Prop} {E : Env} {F : Nat → Prop} {s : St} {w w' : World} {c : CS} {vs : List Value} {p q : List DV} {es fs : List EI} {bs tk bw : List Nat} {F' : Nat → Prop} {v : Value} {key : Nat}
theorem Fit.bsAt (hf : Fit C A E F s w c.i vs p es bs tk bw) {j : Nat} (hj : j < c.i.bx.length) : nthD 0 bs j ∈ bs ∧ ∃ ls, lookO s.ob (nthD 0 bs j) = .box ls := by
  have hj' : j < bs.length := by rw [hf.len]; exact hj
  have : nthD 0 bs j = bs[j] := by rw [nthD_eq, List.getD_eq_getElem?_getD, List.getElem?_eq_getElem hj']; rfl
  rw [this]
  have hm : bs[j] ∈ bs := List.getElem_mem hj'
  exact ⟨hm, hf.box _ hm⟩
/-- An owned block is that of a key that is handed over, and no other's. -/
theorem Fit.own_key (hf : Fit C A E F s w c.i vs p es bs tk bw) {b : Nat} (hb : ownB c.i.bx.length (fun j => E.e (nthD 0 bs j)) es b) : ∃ n, (n ∈ bs ∨ n ∈ tk) ∧ excl (E.e n) (lookO s.ob n) ∧ (E.e n).blk = b := by
  rcases hb with ⟨j, hj, rfl⟩ | ⟨e, he, hn, rfl⟩
  · obtain ⟨h1, ls, h2⟩ := hf.bsAt hj
    exact ⟨_, .inl h1, by rw [h2]; trivial, rfl⟩
  · obtain ⟨ea, ho, rfl⟩ := hf.own
    obtain ⟨n, h1, h2, h3⟩ := ho.key e (List.mem_reverse.1 he) hn
    exact ⟨n, .inr h1, h3, h2.symm⟩
theorem hasBlk_lt (hm : Mem C A E F s.ob w) {n : Nat} (h : hasBlk (E.e n) (lookO s.ob n)) : (E.e n).blk < w.heap.size := by
  refine hm.blk_lt ?_ ?_
  · cases ho : lookO s.ob n <;> rw [ho] at h <;> first | exact h.elim | trivial
  · cases ho : lookO s.ob n with
    | dead => rw [ho] at h; exact h.elim
    | box ls => exact .inr ⟨ls, rfl⟩
    | arr t xs ro => rw [ho] at h; exact .inl h
    | raw r => have := hm.rp n; rw [ho] at this; exact .inl this.1
theorem excl_blk {e : EI} {o : Obj} (h : excl e o) : hasBlk e o := by
  cases o with
  | dead => exact h
  | box ls => trivial
  | arr t xs ro => cases ro <;> first | exact h | exact h.elim
  | raw r => trivial
theorem plus_lt (hm : Mem C A E F s.ob w) : ∀ b, plus s.ob E F bw b → b < w.heap.size := by
  rintro b (h | ⟨n, _, h2, rfl⟩)
  · exact hm.fb b h
  · exact hasBlk_lt hm h2
theorem plus_uf (hm : Mem C A E F s.ob w) : ∀ b, plus s.ob E F bw b → C.F0 b ∨ C.O b ∨ C.w0.heap.size ≤ b := by
  rintro b (h | ⟨n, _, h2, rfl⟩)
  · exact hm.uf b h
  · by_cases hx : excl (E.e n) (lookO s.ob n)
    · exact .inr (hm.uo n hx)
    · have hrp := hm.rp n
      cases ho : lookO s.ob n with
      | dead => rw [ho] at h2; exact h2.elim
      | box ls => rw [ho] at hx; exact (hx trivial).elim
      | raw r => rw [ho] at hx; exact (hx trivial).elim
      | arr t xs ro =>
        rw [ho] at hx hrp h2
        cases ro with
        | false => exact (hx h2).elim
        | true =>
          obtain ⟨_, _, _, _, _, h6⟩ := hrp
          obtain ⟨cs, u, fr, ds, k1, k2, k3, k4, k5, k6⟩ := h6 h2
          exact hm.uf _ (k6 rfl)
/-- An owned block may not be kept. -/
theorem Fit.own_notF (hf : Fit C A E F s w c.i vs p es bs tk bw) (hm : Mem C A E F s.ob w) {b : Nat} (hb : ownB c.i.bx.length (fun j => E.e (nthD 0 bs j)) es b) : ¬ plus s.ob E F bw b := by
  obtain ⟨n, h1, h2, rfl⟩ := hf.own_key hb
  exact plus_blk hm h2 (h1.elim (hf.bb n) (hf.tb n))

theorem call_rel (hf : Fit C A E F s w c.i vs p es bs tk bw) (hm : Mem C A E F s.ob w) (hA : ∀ k, key ≤ k → k < key + stride → ¬ A k)
    (hs : SigOut c (fun j => E.e (nthD 0 bs j)) (plus s.ob E F bw) w es q v w' F' fs) {xs : List V} {b1 b2 : B} {bx : List (Nat × List L)}
    (h1 : blAs (fun j => nthD 0 bs j) c.r { pay := q, nx := key, ob := [], nb := bs.length } = some (xs, b1)) (h2 : blBs (fun j => nthD 0 bs j) c.ob 0 b1 = some (bx, b2)) (hnx : b2.nx ≤ key + stride) (hob : c.ob.length = bs.length)
    {fz : List (Nat × Obj)} (z1 : ∀ n o, (n, o) ∈ fz → n ∈ bw ∧ ∃ t ys ro, lookO s.ob n = .arr t ys ro ∧ o = .arr t ys true) (z2 : c.hasSl = true → ∀ n ∈ bw, ∃ o, (n, o) ∈ fz) (z3 : c.hasSl = false → fz = []) :
    ∃ E'' F'', Mem C (fun k => A k ∨ (key ≤ k ∧ k < key + stride)) E'' F'' (apply (obs fz ++ (obs (boxes bx) ++ (obs b2.ob ++ deads tk))) s).ob w' ∧ (apply (obs fz ++ (obs (boxes bx) ++ (obs b2.ob ++ deads tk))) s).tm = s.tm ∧
      Ext E F w E'' F'' w' ∧ ∃ rs, All2 (RepV E'' F'' w') xs rs ∧ (match c.one with | true => rs = [v] | false => v = .tuple rs.toArray) := by
  obtain ⟨β', p1, p2, e1, e2, rs, hβ, rfl, rfl, hRA, hrl, hv, hRB⟩ := hs.ex
  -- what may be kept from here on
  obtain ⟨F'', f1, f2, f3, f4⟩ : ∃ F'' : Nat → Prop, (∀ b, F b → F'' b) ∧ (∀ b, F'' b → F' b) ∧ (c.hasSl = false ∨ ∀ b, F' b → F'' b) ∧
      ∀ b, F'' b → F b ∨ ownB c.i.bx.length (fun j => E.e (nthD 0 bs j)) es b ∨ w.heap.size ≤ b ∨ (c.hasSl = true ∧ plus s.ob E F bw b) := by
    cases hsl : c.hasSl with
    | true => exact ⟨F', fun b hb => hs.ff b (.inl hb), fun _ h => h, .inr fun _ h => h, fun b hb => (hs.uf b hb).elim (fun h => .inr (.inr (.inr ⟨rfl, h⟩))) (fun h => .inr (h.imp id .inl))⟩
    | false => exact ⟨fun b => F b ∨ (F' b ∧ (ownB c.i.bx.length (fun j => E.e (nthD 0 bs j)) es b ∨ w.heap.size ≤ b)), fun b hb => .inl hb, fun b hb => hb.elim (fun h => hs.ff b (.inl h)) And.left, .inl rfl,
        fun b hb => hb.elim .inl (fun h => .inr (h.2.imp id .inl))⟩
  have fr : c.r.any AK.hasSl = false ∨ ∀ b, F' b → F'' b := f3.imp (fun h => by unfold CS.hasSl at h; exact (Bool.or_eq_false_iff.1 h).1) id
  have fo : c.ob.any anySl = false ∨ ∀ b, F' b → F'' b := f3.imp (fun h => by unfold CS.hasSl at h; exact (Bool.or_eq_false_iff.1 h).2) id
  obtain ⟨n1, v1, v2, k1, k2, k3, k4, k5⟩ := blAs_ok (hRA.to fr) rfl h1
  obtain ⟨n2, g1, g2⟩ := blBs_ok (hRB.to fo f2) (q := []) (by rw [k1.pay]; simp) h2
  have hk := k1.trans g1
  have hv2 : v2 = [] := by
    have := congrArg List.length k2
    rw [List.length_append, k3, hrl] at this
    exact List.length_eq_zero_iff.1 (by omega)
  subst hv2
  rw [List.append_nil] at k2
  subst k2
  have hfl : (e1 ++ e2).length ≤ stride := by have := hk.nx; simp only at this; omega
  have hfresh : ∀ k, key ≤ k → k < key + (e1 ++ e2).length → ¬ E.al k := fun k a b h => hA k a (by omega) (hm.al k h)
  have eold : ∀ k, E.al k → (newE E key (e1 ++ e2)).e k = E.e k := fun k hk => by
    simp only [newE]; rw [if_neg (fun h => hfresh k h.1 h.2 hk)]
  have enew : ∀ k e, key ≤ k → (e1 ++ e2)[k - key]? = some e → (newE E key (e1 ++ e2)).e k = e := fun k e a b => by
    have := (List.getElem?_eq_some_iff.1 b).1
    simp only [newE]; rw [if_pos (by omega), List.getD_eq_getElem?_getD, b]; rfl
  have bal : ∀ j, j < c.i.bx.length → E.al (nthD 0 bs j) := fun j hj => by
    obtain ⟨_, ls, h⟩ := hf.bsAt hj
    exact hm.lv _ (by rw [h]; trivial)
  have hE : EnvOk (newE E key (e1 ++ e2)) β' (fun j => nthD 0 bs j) bs.length key (e1 ++ e2) := by
    refine ⟨fun j hj => ?_, fun i e hi => ?_⟩
    · rw [hf.len] at hj
      exact ⟨.inl (bal j hj), (eold _ (bal j hj)).trans (hβ j hj).symm⟩
    · have hlt := (List.getElem?_eq_some_iff.1 hi).1
      refine ⟨.inr (by omega), enew (key + i) e (by omega) (by rw [Nat.add_sub_cancel_left]; exact hi)⟩
  have hbx := g2 _ (by have := hE.right; rw [k1.nx, k1.nb]; exact this)
  have hxs := k5 _ hE.left
  -- old memory
  have notF : ∀ b, F b → ¬ ownB c.i.bx.length (fun j => E.e (nthD 0 bs j)) es b := fun b hb ho => hf.own_notF hm ho (.inl hb)
  have hx : Ext E F w (newE E key (e1 ++ e2)) F'' w' := ⟨fun k hk => .inl hk, eold, f1, fun b hb o u hu => by
    rw [cell?_heap (w := w) (hs.kp b (hm.fb b hb) (notF b hb))]; exact hu⟩
  -- what lies under a key now
  obtain ⟨t1, l1⟩ := apply_obs fz s
  obtain ⟨t2, l2⟩ := apply_obs (boxes bx) (apply (obs fz) s)
  obtain ⟨t3, l3⟩ := apply_obs b2.ob (apply (obs (boxes bx)) (apply (obs fz) s))
  obtain ⟨t4, l4⟩ := apply_deads tk (apply (obs b2.ob) (apply (obs (boxes bx)) (apply (obs fz) s)))
  have hap : apply (obs fz ++ (obs (boxes bx) ++ (obs b2.ob ++ deads tk))) s = apply (deads tk) (apply (obs b2.ob) (apply (obs (boxes bx)) (apply (obs fz) s))) := by
    rw [apply_append, apply_append, apply_append]
  rw [hap]
  have look : ∀ k, lookO (apply (deads tk) (apply (obs b2.ob) (apply (obs (boxes bx)) (apply (obs fz) s)))).ob k = .dead ∨
      (∃ e, key ≤ k ∧ (e1 ++ e2)[k - key]? = some e ∧ OwnO F'' w' e (lookO (apply (deads tk) (apply (obs b2.ob) (apply (obs (boxes bx)) (apply (obs fz) s)))).ob k)) ∨
      (∃ j ls, j < c.i.bx.length ∧ k = nthD 0 bs j ∧ lookO (apply (deads tk) (apply (obs b2.ob) (apply (obs (boxes bx)) (apply (obs fz) s)))).ob k = .box ls ∧ RepO (newE E key (e1 ++ e2)) F'' w' (E.e k) (.box ls)) ∨
      (c.hasSl = true ∧ k ∈ bw ∧ k ∉ tk ∧ k ∉ bs ∧ ∃ t ys ro, lookO s.ob k = .arr t ys ro ∧ lookO (apply (deads tk) (apply (obs b2.ob) (apply (obs (boxes bx)) (apply (obs fz) s)))).ob k = .arr t ys true) ∨
      ((c.hasSl = true → k ∉ bw) ∧ k ∉ tk ∧ k ∉ bs ∧ lookO (apply (deads tk) (apply (obs b2.ob) (apply (obs (boxes bx)) (apply (obs fz) s)))).ob k = lookO s.ob k) := by
    intro k
    rw [l4 k]
    by_cases htk : k ∈ tk
    · left; rw [if_pos htk]
    rw [if_neg htk]
    rcases (l3 k).symm with m1 | ⟨m1, m2⟩
    · right; left
      rw [hk.ob, List.append_nil, List.mem_reverse] at m1
      obtain ⟨e, i1, i2, i3⟩ := hk.arr.mem m1
      rw [hk.ob, List.append_nil]
      exact ⟨e, i1, i2, i3⟩
    rw [m1]
    rcases (l2 k).symm with m3 | ⟨m3, m4⟩
    · right; right; left
      obtain ⟨ls, i1, i2⟩ := mem_boxes m3
      obtain ⟨i, j1, j2, j3⟩ := hbx k ls i2
      rw [Nat.zero_add] at j2 j3
      have hi : i < c.i.bx.length := by rw [← hf.len, ← hob]; exact j1
      rw [hβ i hi, ← j2] at j3
      exact ⟨i, ls, hi, j2, i1, j3⟩
    rw [m3]
    have hnb : k ∉ bs := by
      intro hb
      obtain ⟨i, hi⟩ := List.mem_iff_getElem?.1 hb
      have hi' := (List.getElem?_eq_some_iff.1 hi).1
      obtain ⟨ls, hl⟩ := blBs_all h2 i (by rw [hob]; exact hi')
      have : nthD 0 bs (0 + i) = k := by rw [Nat.zero_add, nthD_eq, List.getD_eq_getElem?_getD, hi]; rfl
      rw [this] at hl
      have key' : ∀ (bx : List (Nat × List L)), (k, ls) ∈ bx → (k, Obj.box ls) ∈ boxes bx := by
        intro bx
        induction bx with
        | nil => simp
        | cons x y ih =>
          intro h
          rcases List.mem_cons.1 h with h | h
          · rw [← h]; simp [boxes]
          · simp [boxes, ih h]
      exact m4 _ (key' bx hl)
    rcases l1 k with ⟨m5, m6⟩ | m5
    · right; right; right; right
      refine ⟨fun hsl hb => ?_, htk, hnb, m5⟩
      obtain ⟨o, ho⟩ := z2 hsl k hb
      exact m6 o ho
    · right; right; right; left
      obtain ⟨i1, t, ys, ro, i2, i3⟩ := z1 _ _ m5
      refine ⟨?_, i1, htk, hnb, t, ys, ro, i2, i3⟩
      cases hsl : c.hasSl with
      | true => rfl
      | false => rw [z3 hsl] at m5; simp at m5
  -- a block that is not handed over
  have keep : ∀ k, hasBlk (E.e k) (lookO s.ob k) → k ∉ tk → k ∉ bs → w'.heap[(E.e k).blk]? = w.heap[(E.e k).blk]? := by
    intro k hb ht hbs
    refine hs.kp _ (hasBlk_lt hm hb) fun ho => ?_
    obtain ⟨n, a1, a2, a3⟩ := hf.own_key ho
    have hne : k ≠ n := by rintro rfl; exact a1.elim hbs ht
    refine hm.blk_ne a2 hne ?_ ?_ a3.symm
    · cases hoo : lookO s.ob k <;> rw [hoo] at hb <;> first | exact hb.elim | trivial
    · cases hoo : lookO s.ob k with
      | dead => rw [hoo] at hb; exact hb.elim
      | box ls => exact .inr ⟨ls, rfl⟩
      | arr t xs ro => rw [hoo] at hb; exact .inl hb
      | raw r => have := hm.rp k; rw [hoo] at this; exact .inl this.1
  have apart' : ∀ k, excl (E.e k) (lookO s.ob k) → k ∉ tk → k ∉ bs → ¬ ownB c.i.bx.length (fun j => E.e (nthD 0 bs j)) es (E.e k).blk := by
    intro k hx ht hbs ho
    obtain ⟨n, a1, a2, a3⟩ := hf.own_key ho
    have := hm.inj n k a2 hx a3
    subst this
    exact a1.elim hbs ht
  have rpu : ∀ k, k ∉ tk → k ∉ bs → (c.hasSl = true → k ∉ bw) → RepO (newE E key (e1 ++ e2)) F'' w' (E.e k) (lookO s.ob k) := by
    intro k ht hbs hbw
    refine (hm.rp k).ext hx (fun hl hn => keep k ?_ ht hbs) (fun hx' hF => ?_)
    · cases ho : lookO s.ob k with
      | dead => rw [ho] at hl; exact hl.elim
      | box ls => trivial
      | arr t ys ro => exact hn.elim id (fun ⟨ls, hls⟩ => by rw [ho] at hls; cases hls)
      | raw r => trivial
    · rcases f4 _ hF with h | h | h | ⟨h, h'⟩
      · exact excl_notF hm hx' h
      · exact apart' k hx' ht hbs h
      · have := hasBlk_lt hm (excl_blk hx'); omega
      · exact plus_blk hm hx' (hbw h) h'
  have ownO : ∀ b, ownB c.i.bx.length (fun j => E.e (nthD 0 bs j)) es b → C.O b ∨ C.w0.heap.size ≤ b := fun b hb => by
    obtain ⟨n, _, a2, a3⟩ := hf.own_key hb
    rw [← a3]; exact hm.uo n a2
  have bsx : ∀ j, j < c.i.bx.length → excl (E.e (nthD 0 bs j)) (lookO s.ob (nthD 0 bs j)) := fun j hj => by
    obtain ⟨_, ls, h⟩ := hf.bsAt hj
    rw [h]; trivial
  generalize hL : (apply (deads tk) (apply (obs b2.ob) (apply (obs (boxes bx)) (apply (obs fz) s)))).ob = ob' at look ⊢
  have exc : ∀ k, excl ((newE E key (e1 ++ e2)).e k) (lookO ob' k) → (∃ e, key ≤ k ∧ (e1 ++ e2)[k - key]? = some e ∧ (newE E key (e1 ++ e2)).e k = e ∧ e.nil = false) ∨
      (∃ j, j < c.i.bx.length ∧ k = nthD 0 bs j ∧ (newE E key (e1 ++ e2)).e k = E.e k) ∨ (k ∉ tk ∧ k ∉ bs ∧ (newE E key (e1 ++ e2)).e k = E.e k ∧ excl (E.e k) (lookO s.ob k)) := by
    intro k hx'
    rcases look k with h | ⟨e, i1, i2, i3⟩ | ⟨j, ls, i1, i2, i3, i4⟩ | ⟨i0, i1, i2, i3, t, ys, ro, i4, i5⟩ | ⟨i1, i2, i3, i4⟩
    · rw [h] at hx'; exact hx'.elim
    · rw [enew k e i1 i2] at hx'
      exact .inl ⟨e, i1, i2, enew k e i1 i2, i3.nil hx'⟩
    · exact .inr (.inl ⟨j, i1, i2, eold k (by rw [i2]; exact bal j i1)⟩)
    · rw [i5] at hx'; exact hx'.elim
    · rw [i4] at hx'
      have hal := hm.lv k (excl_live hx')
      rw [eold k hal] at hx'
      exact .inr (.inr ⟨i2, i3, eold k hal, hx'⟩)
  refine ⟨newE E key (e1 ++ e2), F'', ⟨?_, ?_, ?_, ?_, fun b hb => hs.fb b (f2 b hb), fun b hb => f1 b (hm.f0 b hb), ?_, ?_, ?_, Nat.le_trans hm.sz hs.sz, hs.os.trans hm.os, hs.tape.trans hm.tape, hs.output.trans hm.output,
    fun k hk => ⟨.inl (hm.eo k hk).1, (eold k (hm.eo k hk).1).trans (hm.eo k hk).2⟩⟩, by rw [t4, t3, t2, t1], hx, _, hxs, hv⟩
  · intro k hl
    rcases look k with h | ⟨e, i1, i2, i3⟩ | ⟨j, ls, i1, i2, i3, i4⟩ | ⟨i0, i1, i2, i3, t, ys, ro, i4, i5⟩ | ⟨i1, i2, i3, i4⟩
    · rw [h] at hl; exact hl.elim
    · have := (List.getElem?_eq_some_iff.1 i2).1
      exact .inr (by omega)
    · exact .inl (by rw [i2]; exact bal j i1)
    · exact .inl (hm.lv k (by rw [i4]; trivial))
    · rw [i4] at hl; exact .inl (hm.lv k hl)
  · intro k
    rcases look k with h | ⟨e, i1, i2, i3⟩ | ⟨j, ls, i1, i2, i3, i4⟩ | ⟨i0, i1, i2, i3, t, ys, ro, i4, i5⟩ | ⟨i1, i2, i3, i4⟩
    · rw [h]; trivial
    · rw [enew k e i1 i2]
      exact i3.rep fun hn h => hs.ef e (List.mem_of_getElem? i2) hn (f2 _ h)
    · rw [i3, eold k (by rw [i2]; exact bal j i1)]; exact i4
    · have hrp := hm.rp k
      rw [i4] at hrp
      rw [i5, eold k (hm.lv k (by rw [i4]; trivial))]
      obtain ⟨q1, q2, q3, q4, q5, q6⟩ := hrp
      refine ⟨q1, q2, q3, q4, q5, fun hn => ?_⟩
      obtain ⟨cs, u, fr', ds, r1, r2, r3, r4, r5, r6⟩ := q6 hn
      have hb : hasBlk (E.e k) (lookO s.ob k) := by rw [i4]; exact hn
      have hheap := keep k hb i2 i3
      refine ⟨cs, u, fr', ds, by rw [hheap]; exact r1, r2, r3.imp fun x c hc => RepD.ext hx.fz hx.wd hc, fun j u' hj => ?_, fun h => by simp at h, fun _ => ?_⟩
      · rw [cell?_heap (w := w) hheap]; exact r4 j u' hj
      · exact (f3.resolve_left (by simp [i0])) _ (hs.ff _ (.inr ⟨k, i1, hb, rfl⟩))
    · rw [i4]
      cases ho : lookO s.ob k with
      | dead => trivial
      | box ls =>
        rw [eold k (hm.lv k (by rw [ho]; trivial)), ← ho]; exact rpu k i2 i3 i1
      | arr t ys ro =>
        rw [eold k (hm.lv k (by rw [ho]; trivial)), ← ho]; exact rpu k i2 i3 i1
      | raw r =>
        rw [eold k (hm.lv k (by rw [ho]; trivial)), ← ho]; exact rpu k i2 i3 i1
  · intro k k' hx1 hx2 hb
    rcases exc k hx1 with ⟨e, a1, a2, a3, a4⟩ | ⟨j, a1, a2, a3⟩ | ⟨a1, a2, a3, a4⟩ <;> rcases exc k' hx2 with ⟨e', c1, c2, c3, c4⟩ | ⟨j', c1, c2, c3⟩ | ⟨c1, c2, c3, c4⟩
    · rw [a3, c3] at hb
      have := ed_ne hs.ed a2 c2 a4 c4 hb
      omega
    · rw [a3, c3, c2] at hb
      exact (hs.be j' c1 e (List.mem_of_getElem? a2) a4 hb.symm).elim
    · rw [a3, c3] at hb
      rcases hs.fo e (List.mem_of_getElem? a2) a4 with h | h
      · rw [hb] at h; exact (apart' k' c4 c1 c2 h).elim
      · have := hasBlk_lt hm (excl_blk c4); omega
    · rw [a3, c3, a2] at hb
      exact (hs.be j a1 e' (List.mem_of_getElem? c2) c4 hb).elim
    · rw [a3, c3, a2, c2] at hb
      have := hm.inj _ _ (bsx j a1) (bsx j' c1) hb
      rw [a2, c2, this]
    · rw [a3, c3, a2] at hb
      have := hm.inj _ _ (bsx j a1) c4 hb
      exact (c2 (this ▸ (hf.bsAt a1).1)).elim
    · rw [a3, c3] at hb
      rcases hs.fo e' (List.mem_of_getElem? c2) c4 with h | h
      · rw [← hb] at h; exact (apart' k a4 a1 a2 h).elim
      · have := hasBlk_lt hm (excl_blk a4); omega
    · rw [a3, c3, c2] at hb
      have := hm.inj _ _ a4 (bsx j' c1) hb
      exact (a2 (this ▸ (hf.bsAt c1).1)).elim
    · rw [a3, c3] at hb
      exact hm.inj _ _ a4 c4 hb
  · intro k hk'
    rcases hk' with hk' | hk'
    · exact .inl (hm.al k hk')
    · exact .inr ⟨hk'.1, by omega⟩
  · intro b hb ho
    exact (hs.kp b (Nat.lt_of_lt_of_le hb hm.sz) fun h => (ownO b h).elim ho (fun h => by omega)).trans (hm.kp b hb ho)
  · intro b hb
    rcases f4 b hb with h | h | h | ⟨_, h⟩
    · exact hm.uf b h
    · exact .inr (ownO b h)
    · exact .inr (.inr (Nat.le_trans hm.sz h))
    · exact plus_uf hm b h
  · intro k hx1
    rcases exc k hx1 with ⟨e, a1, a2, a3, a4⟩ | ⟨j, a1, a2, a3⟩ | ⟨a1, a2, a3, a4⟩
    · rw [a3]
      rcases hs.fo e (List.mem_of_getElem? a2) a4 with h | h
      · exact ownO _ h
      · exact .inr (Nat.le_trans hm.sz h)
    · rw [a3, a2]; exact hm.uo _ (bsx j a1)
    · rw [a3]; exact hm.uo _ a4
end
end Go.Proofs.Zs
