import Derived.Test.YtnhgipdlkcdeiaaDoorEnhK
set_option linter.unusedSimpArgs false
set_option linter.unusedVariables false
/- A loop over a slice of structs, an element at a time told as a box: its rounds; what signatures share. -/
set_option linter.unusedVariables false
set_option linter.unusedSimpArgs false
namespace Go.Proofs.Zs
open Go

section
variable {P : Program} {ok : Nat → List DV → List DV → Prop} {cx : Cx} {hi : Hi} {ct : CT} {lt : LT} {bod : Bod} {nt : Nat}
/-- One round of a loop. -/
theorem round_ok (hct : CTok ok ct) (hti : TIok P cx) (hok : ∀ rg ix c, look2 hi.cs rg ix = some c → ∀ p q, ok c.id p q → CallOK P c p q) (hmix : P.follows .mixedOrders = true) {nb : Nat} (hlt : LTok P hi bod nt nb lt)
    {b : Nat} {l : LS} {body : Code} (hb : LoopsIn bod.lp b body) (hB : BlksIn bod.bk b body) {again : List DV → Option Rs} {p : List DV} {q : Rs} (h : round cx hi ct lt nt nb b l body again p = some q)
    {C : Frm} (hC : C.nb = nb ∧ FrmOk P C) {a : Act} {w : World} {β : Nat → EI} {F : Nat → Prop} {es : List EI} (hs : SigIn l.h β F w p es a.tmps.toList) (he : Enter C F w l.h.bx.length β es) (hsz : a.tmps.size = nt) (hd : a.defers = []) :
    body.wp P (fun e a' w' => (e = .normal ∧ ∃ p' β' F' es', again p' = some q ∧ SigIn l.h β' F' w' p' es' a'.tmps.toList ∧ Enter C F' w' l.h.bx.length β' es' ∧ a'.tmps.size = nt ∧ a'.defers = []) ∨ (e ≠ .normal ∧ LoopPost C l nt q e a' w')) a w := by
  obtain ⟨hC, hF⟩ := hC
  subst hC
  simp only [round] at h
  split at h
  · simp at h
  · rename_i s0 hs0
    obtain ⟨m1, m2⟩ := mkSt_ok (rest := []) hs he hs0 (by simp) hsz hd
    refine run_ok hct hti hok hmix hlt hF body b s0 _ _ _ q a w _ hb hB h m2 (fun s' a' w' h' hr' => ?_) (fun i s' a' w' h' hr' => ?_) (fun s' a' w' h' hr' => ?_)
    · obtain ⟨p', β', G', es', k1, k2, k3, k4, k5⟩ := leave_ok hct h' hr'
      exact .inl ⟨rfl, p', β', G', es', k1, k2, k3, k4, k5⟩
    · split at h'
      · simp at h'
      · rename_i sg hsg
        obtain ⟨p', β', G', es', k1, k2, k3, k4, k5⟩ := leave_ok hct h' hr'
        simp only [Option.some.injEq] at k1
        subst k1
        exact .inr ⟨by simp, rfl, k4, k5, sg, β', G', es', hsg, k2, k3⟩
    · split at h'
      · simp at h'
      · rename_i sg hsg
        obtain ⟨p', β', G', es', k1, k2, k3, k4, k5⟩ := leave_ok hct h' hr'
        simp only [Option.some.injEq] at k1
        subst k1
        exact .inr ⟨by simp, rfl, k4, k5, sg, β', G', es', hsg, k2, k3⟩
theorem round_ok' {l0 : List CE} {t0 : List LE} (hti : TIok P cx) (hmix : P.follows .mixedOrders = true) (hct : AllP (CEok P) l0) (hcs : AllP (fun e => lookC l0 e.2.id = some e.2) hi.cs) {f : FuncId} {fn : Func} (hf : Fn P f fn (codeOf fn)) {nb b : Nat}
    (hlt : AllP (LEok P hi (bodOf fn) fn.ntmps nb) t0) {l : LS} {body : Code} (h2 : (bodOf fn).lp b = some body) {again : List DV → Option Rs} {p : List DV} {q : Rs} (h : round cx hi (ctL l0) (ltL t0) fn.ntmps nb b l body again p = some q)
    {C : Frm} (hC : C.nb = nb ∧ FrmOk P C) {a : Act} {w : World} {β : Nat → EI} {F : Nat → Prop} {es : List EI} (hs : SigIn l.h β F w p es a.tmps.toList) (he : Enter C F w l.h.bx.length β es) (hsz : a.tmps.size = fn.ntmps) (hd : a.defers = []) :
    body.wp P (fun e a' w' => (e = .normal ∧ ∃ p' β' F' es', again p' = some q ∧ SigIn l.h β' F' w' p' es' a'.tmps.toList ∧ Enter C F' w' l.h.bx.length β' es' ∧ a'.tmps.size = fn.ntmps ∧ a'.defers = []) ∨ (e ≠ .normal ∧ LoopPost C l fn.ntmps q e a' w')) a w :=
  round_ok (ctL_ok hct) hti (okC_hok hcs) hmix (ltL_ok hlt) (LoopsIn_body hf.loops h2) (BlksIn_loop hf.blks h2) h hC hs he hsz hd
end

/-! Signatures, by boxes that agree -/
/-- Kinds without slices of one's own, without constants, whose pointers go to the first n boxes. -/
def kOk (n : Nat) : LK → Bool
  | .any _ | .d _ | .np => true
  | .p j _ _ => Nat.blt j n
  | _ => false
def ksOk (n : Nat) : List LK → Bool
  | [] => true
  | k :: r => match kOk n k with
    | true => ksOk n r
    | false => false
def aOk (n : Nat) : AK → Bool
  | .no => true
  | .one k => kOk n k
  | .agg ks => ksOk n ks
def asOk (n : Nat) : List AK → Bool
  | [] => true
  | a :: r => match aOk n a with
    | true => asOk n r
    | false => false
def bsOk (n : Nat) : List (List LK) → Bool
  | [] => true
  | ks :: r => match ksOk n ks with
    | true => bsOk n r
    | false => false
/-- The same boxes. -/
structure Agree (β β' : Nat → EI) (n : Nat) : Prop where
  blk : ∀ j, j < n → (β' j).blk = (β j).blk
  loff : ∀ j, j < n → (β' j).loff = (β j).loff
  pre : ∀ j, j < n → (β' j).pre = (β j).pre
  post : ∀ j, j < n → (β' j).post = (β j).post
theorem Agree.symm {β β' : Nat → EI} {n : Nat} (h : Agree β β' n) : Agree β' β n := ⟨fun j hj => (h.blk j hj).symm, fun j hj => (h.loff j hj).symm, fun j hj => (h.pre j hj).symm, fun j hj => (h.post j hj).symm⟩
theorem Agree.mono {β β' : Nat → EI} {n m : Nat} (h : Agree β β' n) (hm : m ≤ n) : Agree β β' m := ⟨fun j hj => h.blk j (by omega), fun j hj => h.loff j (by omega), fun j hj => h.pre j (by omega), fun j hj => h.post j (by omega)⟩
section
variable {β β' : Nat → EI} {F F' : Nat → Prop} {w : World} {n : Nat}
theorem RepK.noes {k : LK} {p : List DV} {es : List EI} {cs : List Value} (h : RepK β F w k p es cs) (hk : kOk n k = true) : es = [] := by
  cases h <;> first | rfl | simp [kOk] at hk
theorem RepKs.noes {ks : List LK} {p : List DV} {es : List EI} {cs : List Value} (h : RepKs β F w ks p es cs) : ksOk n ks = true → es = [] := by
  induction h with
  | nil => intro _; rfl
  | cons a b ih =>
    intro hk
    simp only [ksOk] at hk
    split at hk
    · rename_i h1; rw [a.noes h1, ih hk]; rfl
    · simp at hk
theorem RepK.beta {k : LK} {p : List DV} {es : List EI} {cs : List Value} (h : RepK β F w k p es cs) (hk : kOk n k = true) (ha : Agree β β' n) : RepK β' F w k p es cs := by
  cases h with
  | any h1 h2 => exact .any h1 h2
  | d h => exact .d h
  | np => exact .np
  | p h =>
    simp only [kOk] at hk
    have hj := blt_spec hk
    rw [← ha.loff _ hj] at h
    have := RepK.p (β := β') (F := F) (w := w) h
    rw [ha.blk _ hj, ha.loff _ hj] at this
    exact this
  | _ => simp [kOk] at hk
theorem RepKs.beta {ks : List LK} {p : List DV} {es : List EI} {cs : List Value} (h : RepKs β F w ks p es cs) (ha : Agree β β' n) : ksOk n ks = true → RepKs β' F w ks p es cs := by
  induction h with
  | nil => intro _; exact .nil
  | cons a b ih =>
    intro hk
    simp only [ksOk] at hk
    split at hk
    · rename_i h1; exact .cons (a.beta h1 ha) (ih hk)
    · simp at hk
theorem RepA.beta {a : AK} {p : List DV} {es : List EI} {v : Value} (h : RepA β F w a p es v) (hk : aOk n a = true) (ha : Agree β β' n) : RepA β' F w a p es v := by
  cases h with
  | no v => exact .no v
  | any m v => exact .any m v
  | one h1 h2 h3 => exact .one h1 h2 (h3.beta hk ha)
  | agg h => exact .agg (h.beta ha hk)
theorem RepA.noes {a : AK} {p : List DV} {es : List EI} {v : Value} (h : RepA β F w a p es v) (hk : aOk n a = true) : es = [] := by
  cases h with
  | no v => rfl
  | any m v => rfl
  | one h1 h2 h3 => exact h3.noes hk
  | agg h => exact h.noes hk
theorem RepAs.beta {aks : List AK} {p : List DV} {es : List EI} {vs : List Value} (h : RepAs β F w aks p es vs) (ha : Agree β β' n) : asOk n aks = true → RepAs β' F w aks p es vs := by
  induction h with
  | nil vs => intro _; exact .nil vs
  | cons a b ih =>
    intro hk
    simp only [asOk] at hk
    split at hk
    · rename_i h1; exact .cons (a.beta h1 ha) (ih hk)
    · simp at hk
theorem RepAs.noes {aks : List AK} {p : List DV} {es : List EI} {vs : List Value} (h : RepAs β F w aks p es vs) : asOk n aks = true → es = [] := by
  induction h with
  | nil vs => intro _; rfl
  | cons a b ih =>
    intro hk
    simp only [asOk] at hk
    split at hk
    · rename_i h1; rw [a.noes h1, ih hk]; rfl
    · simp at hk
theorem BoxAt.beta {e e' : EI} {t : TypeId} {cs : List Value} (h : BoxAt w e t cs) (h1 : e'.blk = e.blk) (h2 : e'.pre = e.pre) (h3 : e'.post = e.post) : BoxAt w e' t cs := by
  obtain ⟨ds, fr, k1, k2, k3⟩ := h
  exact ⟨ds, fr, by rw [h1]; exact k1, by rw [h2, h3]; exact k2, by rw [h1]; exact k3⟩
theorem RepBs.beta {kss : List (List LK)} {j : Nat} {p : List DV} {es : List EI} (h : RepBs β F w kss j p es) (ha : Agree β β' n) : bsOk n kss = true → j + kss.length ≤ n → RepBs β' F w kss j p es := by
  induction h with
  | nil j => intro _ _; exact .nil j
  | cons a b c d _ ih =>
    intro hk hj
    simp only [List.length_cons] at hj
    simp only [bsOk] at hk
    split at hk
    · rename_i h1
      refine .cons (a.beta (ha.blk _ (by omega)) (ha.pre _ (by omega)) (ha.post _ (by omega))) (b.beta ha h1) (by rw [ha.blk _ (by omega)]; exact c) (fun i hi => ?_) (ih hk (by omega))
      rw [ha.loff _ (by omega), ha.pre _ (by omega)]; exact d i hi
    · simp at hk
theorem RepBs.noes {kss : List (List LK)} {j : Nat} {p : List DV} {es : List EI} (h : RepBs β F w kss j p es) : bsOk n kss = true → es = [] := by
  induction h with
  | nil j => intro _; rfl
  | cons a b c d _ ih =>
    intro hk
    simp only [bsOk] at hk
    split at hk
    · rename_i h1; rw [b.noes h1, ih hk]; rfl
    · simp at hk
/-- What may be kept, grown. -/
theorem RepBs.grow {kss : List (List LK)} {j : Nat} {p : List DV} {es : List EI} (h : RepBs β F w kss j p es) (hF : ∀ b, F b → F' b) : (∀ i, j ≤ i → i < j + kss.length → ¬ F' (β i).blk) → RepBs β F' w kss j p es := by
  induction h with
  | nil j => intro _; exact .nil j
  | cons a b c d _ ih =>
    intro hn
    refine .cons a (b.to (.inr hF)) (hn _ (Nat.le_refl _) (by simp)) d (ih fun i h1 h2 => hn i (by omega) (by simp only [List.length_cons]; omega))
theorem RepBs.split {xs : List (List LK)} : ∀ {ys : List (List LK)} {j : Nat} {p : List DV} {es : List EI}, RepBs β F w (xs ++ ys) j p es → ∃ p1 p2 e1 e2, p = p1 ++ p2 ∧ es = e1 ++ e2 ∧ RepBs β F w xs j p1 e1 ∧ RepBs β F w ys (j + xs.length) p2 e2 := by
  induction xs with
  | nil => intro ys j p es h; exact ⟨[], p, [], es, rfl, rfl, .nil j, h⟩
  | cons x xs ih =>
    intro ys j p es h
    obtain ⟨p1, p2, e1, e2, cs, t, rfl, rfl, h1, h2, h3, h4, h5⟩ := RepBs.inv (kss := x :: (xs ++ ys)) h
    obtain ⟨q1, q2, f1, f2, rfl, rfl, g1, g2⟩ := ih h5
    refine ⟨p1 ++ q1, q2, e1 ++ f1, f2, by simp, by simp, .cons h1 h2 h3 h4 g1, ?_⟩
    rw [List.length_cons, show j + (xs.length + 1) = j + 1 + xs.length by omega]
    exact g2
theorem RepBs.join {xs : List (List LK)} : ∀ {ys : List (List LK)} {j : Nat} {p q : List DV} {es fs : List EI}, RepBs β F w xs j p es → RepBs β F w ys (j + xs.length) q fs → RepBs β F w (xs ++ ys) j (p ++ q) (es ++ fs) := by
  induction xs with
  | nil =>
    intro ys j p q es fs h h'
    obtain ⟨rfl, rfl⟩ := h.inv
    exact h'
  | cons x xs ih =>
    intro ys j p q es fs h h'
    obtain ⟨p1, p2, e1, e2, cs, t, rfl, rfl, h1, h2, h3, h4, h5⟩ := h.inv
    have := ih h5 (ys := ys) (by rw [List.length_cons, show j + (xs.length + 1) = j + 1 + xs.length by omega] at h'; exact h')
    rw [List.append_assoc, List.append_assoc]
    exact .cons h1 h2 h3 h4 this
theorem RepBs.none {kss : List (List LK)} {j : Nat} {p : List DV} {es : List EI} (h : RepBs β F w kss j p es) : ∀ i, j ≤ i → i < j + kss.length → ¬ F (β i).blk := by
  intro i h1 h2
  have := h.nf (i - j) (by omega)
  rwa [show j + (i - j) = i by omega] at this
end
end Go.Proofs.Zs
/- Functions of the library, by contracts that are given. -/
set_option linter.unusedVariables false
set_option linter.unusedSimpArgs false
namespace Go.Proofs.Zs
open Go

/-- Bytes of a text. -/
@[reducible] def bs (l : List UInt8) : ByteArray := ⟨l.toArray⟩
/-- A function that reads plain data, makes memory, and answers plain data. -/
theorem lib_ok {P : Program} {c : CS} {p q : List DV} (hcf : ∀ args w, (callFunc c.fn args).run P w = .ok (.enter c.fn args) w) (hbx : c.i.bx = []) (hob : c.ob = []) (hw : ∀ t, c.i.av ≠ [.one (.w t)]) (hk : asOk 0 c.i.av = true)
    (h : ∀ (β : Nat → EI) (F : Nat → Prop) (w : World) (vs : List Value), (∀ b, F b → b < w.heap.size) → Facts P w → vs.length = c.i.av.length → RepAs β F w c.i.av p [] vs →
      Calls P c.fn vs.toArray w fun out w' => ∃ v rs, out = .returned v ∧ (match c.one with | true => rs = [v] | false => v = .tuple rs.toArray) ∧ rs.length = c.r.length ∧ RepAs β F w' c.r q [] rs ∧ RowKit.Below w.heap.size w w') : CallOK P c p q := by
  refine ⟨hcf, fun β F w es vs hfb hvl hs hld => ?_, fun t ht => absurd ht (hw t)⟩
  obtain ⟨p1, p2, e1, e2, rfl, rfl, hA, hB⟩ := hs.ex
  rw [hbx] at hB
  cases hB
  have he := hA.noes hk
  subst he
  rw [List.append_nil] at h
  refine (h β F w vs hfb hld.facts hvl hA).mono ?_
  rintro out w' ⟨v, rs, h1, h2, h3, h4, h5⟩
  refine ⟨v, F, [], h1, ⟨⟨β, q, [], [], [], rs, fun _ _ => rfl, by simp, rfl, h4, h3, h2, by rw [hob]; exact .nil 0⟩, h5.size, h5.os, h5.tape, h5.output, fun _ h => h, fun b hb => Nat.lt_of_lt_of_le (hfb b hb) h5.size, fun b hb => .inl hb, fun b hb _ => h5.block b hb,
    fun j hj => ?_, .nil, fun j hj e he => ?_, fun e he => ?_, fun e he => ?_⟩⟩
  · rw [hbx] at hj; simp at hj
  · simp at he
  · simp at he
  · simp at he
/-- What calls itself. -/
theorem none_ok {P : Program} {c : CS} {ts us : List PG} : CEok P (c, mkF ts us (conG none ts)) := mkF_ok fun ys n q h => by
  rw [apG_con] at h
  cases h
theorem rec_ok {P : Program} {c : CS} {ts us : List PG} {r : Fn' (Option Rs) ts → Fn' (Option Rs) ts} (h : ∀ A, CEok P (c, mkF ts us A) → CEok P (c, mkF ts us (r A))) : ∀ k, CEok P (c, mkF ts us (lpG r k))
  | 0 => none_ok
  | k + 1 => h _ (rec_ok h k)
/-- Arguments of plain data. -/
def dks : List DV → List AK
  | [] => []
  | d :: r => .one (.d d.t) :: dks r
theorem dargs {β : Nat → EI} {F : Nat → Prop} {w : World} : ∀ {ps : List DV} {es : List EI} {vs : List Value}, RepAs β F w (dks ps) ps es vs → vs.length = ps.length → All2 (fun (d : DV) v => RepD F w d.t d.v [v]) ps vs
  | [], _, vs, _, hl => by
    have : vs = [] := List.length_eq_zero_iff.1 hl
    subst this
    trivial
  | ⟨t, x⟩ :: ps, es, vs, h, hl => by
    have h' : RepAs β F w (.one (.d t) :: dks ps) (⟨t, x⟩ :: ps) es vs := h
    generalize hp : (⟨t, x⟩ :: ps : List DV) = p at h'
    cases h' with
    | cons a b =>
      cases a with
      | one h1 h2 hk =>
        cases hk with
        | d hd =>
          simp only [List.singleton_append, List.cons.injEq, DV.mk.injEq, heq_eq_eq, true_and] at hp
          obtain ⟨rfl, rfl⟩ := hp
          exact ⟨hd, dargs b (by simpa using hl)⟩
/-- A word that is answered. -/
theorem dres_str {β : Nat → EI} {F : Nat → Prop} {w : World} (y : ByteArray) : RepAs β F w [.one (.d .str)] [⟨.str, y⟩] [] [.string y] :=
  .cons (p := [⟨.str, y⟩]) (q := []) (es := []) (fs := []) (.one (fun n => by simp) trivial (.d (by rw [RepD]))) (.nil [])
end Go.Proofs.Zs
