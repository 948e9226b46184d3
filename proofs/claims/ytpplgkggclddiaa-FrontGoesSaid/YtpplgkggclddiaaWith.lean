/- The outer loop of a function that appends to slices within a slice's elements. -/
import Derived.Test.YtpplgkggclddiaaFg2
import Derived.Test.YtpplgkggclddiaaEnhQ
set_option linter.unusedVariables false
set_option linter.unusedSimpArgs false
set_option maxRecDepth 100000
namespace Go.Proofs.Zz
open Go
abbrev X19 : List Ty := [(.sl (.pair (.int .i64) (.pair (.int .i64) (.pair (.int .i64) (.pair (.int .i64) (.pair (.int .i64) .unit)))))), (.int .i64), (.sl (.int .u8)), (.ar 16 (.int .i64)), (.sl (.pair (.int .i64) (.pair (.int .i64) (.pair (.int .i64) (.pair (.int .i64) (.pair (.sl (.pair (.int .i64) (.pair (.pair (.int .i64) (.pair (.int .i64) (.pair (.int .i64) (.pair (.int .i64) (.pair (.int .i64) .unit))))) (.pair (.int .i64) (.pair (.int .i64) (.pair (.int .i64) .unit)))))) (.pair (.sl (.pair (.int .i64) (.pair (.pair (.int .i64) (.pair (.int .i64) (.pair (.int .i64) (.pair (.int .i64) (.pair (.int .i64) .unit))))) (.pair (.int .i64) (.pair (.int .i64) (.pair (.int .i64) .unit)))))) .unit))))))), (.ar 16 (.int .i64))]
abbrev S19 : List Ty := [(.ar 16 (.int .i64))]
abbrev C19 : Ty := (.pair (.int .i64) (.pair (.pair (.int .i64) (.pair (.int .i64) (.pair (.int .i64) (.pair (.int .i64) (.pair (.int .i64) .unit))))) (.pair (.int .i64) (.pair (.int .i64) (.pair (.int .i64) .unit)))))
noncomputable def st19 (N : Nat) (n i : Int) (X S : List DV) (v : Den (B4 .nl)) : Option (List DV × List DV × Den (B4 (.sl C19))) :=
  onG X19 X fun x0 x1 x2 x3 x4 x5 => onG S19 S fun so =>
    on19_2 (l19_2 N N i v.1 x0 x1 x2 x3 x4 x5 n i so v.1 v.2.1 v.2.2.1 v.2.2.2.1 [] []) fun i1 y0 y1 y2 y3 y4 y5 n1 i2 so1 f t nx tk A E =>
      if 0 ≤ i ∧ i < n ∧ i1 = i ∧ n1 = n ∧ i2 = i ∧ IntKind.i64.wrap (i + 1) = i + 1 then some (ofT X19 (y0, y1, y2, y3, y4, y5, ()), ofT S19 (so1, ()), (f, (t, (nx, (tk, (A, (E, ()))))))) else none
theorem st19_ok (N : Nat) (n i : Int) (X S : List DV) (v : Den (B4 .nl)) (X' S' : List DV) (v' : Den (B4 (.sl C19))) (h : st19 N n i X S v = some (X', S', v')) :
    X'.length = 6 ∧ S'.length = 1 ∧ R19_0r N (fun p => some (7, p)) (⟨.int .i64, i⟩ :: (X ++ ((⟨.int .i64, n⟩ :: ⟨.int .i64, i⟩ :: S) ++ po4 C19 v))) =
      some (7, ⟨.int .i64, i + 1⟩ :: (X' ++ ((⟨.int .i64, n⟩ :: ⟨.int .i64, i⟩ :: S') ++ pc4 C19 v'))) := by
  unfold st19 at h
  obtain ⟨ys, rfl, h1⟩ := onG_app h
  have h1b : onG S19 S (fun so => on19_2 (l19_2 N N i v.1 ys.1 ys.2.1 ys.2.2.1 ys.2.2.2.1 ys.2.2.2.2.1 ys.2.2.2.2.2.1 n i so v.1 v.2.1 v.2.2.1 v.2.2.2.1 [] []) (fun i1 y0 y1 y2 y3 y4 y5 n1 i2 so1 f t nx tk A E =>
      if 0 ≤ i ∧ i < n ∧ i1 = i ∧ n1 = n ∧ i2 = i ∧ IntKind.i64.wrap (i + 1) = i + 1 then some (ofT X19 (y0, y1, y2, y3, y4, y5, ()), ofT S19 (so1, ()), ((f, (t, (nx, (tk, (A, (E, ())))))) : Den (B4 (.sl C19)))) else none)) = some (X', S', v') := h1
  obtain ⟨zs, rfl, h2⟩ := onG_app h1b
  have h3 : on19_2 (l19_2 N N i v.1 ys.1 ys.2.1 ys.2.2.1 ys.2.2.2.1 ys.2.2.2.2.1 ys.2.2.2.2.2.1 n i zs.1 v.1 v.2.1 v.2.2.1 v.2.2.2.1 [] []) (fun i1 y0 y1 y2 y3 y4 y5 n1 i2 so1 f t nx tk A E =>
      if 0 ≤ i ∧ i < n ∧ i1 = i ∧ n1 = n ∧ i2 = i ∧ IntKind.i64.wrap (i + 1) = i + 1 then some (ofT X19 (y0, y1, y2, y3, y4, y5, ()), ofT S19 (so1, ()), ((f, (t, (nx, (tk, (A, (E, ())))))) : Den (B4 (.sl C19)))) else none) = some (X', S', v') := h2
  unfold on19_2 at h3
  split at h3
  · rename_i m p hr
    split at h3
    · obtain ⟨us, rfl, h4⟩ := onG_app h3
      have h5 : (if 0 ≤ i ∧ i < n ∧ us.1 = i ∧ us.2.2.2.2.2.2.2.1 = n ∧ us.2.2.2.2.2.2.2.2.1 = i ∧ IntKind.i64.wrap (i + 1) = i + 1 then some (ofT X19 (us.2.1, us.2.2.1, us.2.2.2.1, us.2.2.2.2.1, us.2.2.2.2.2.1, us.2.2.2.2.2.2.1, ()), ofT S19 (us.2.2.2.2.2.2.2.2.2.1, ()), ((us.2.2.2.2.2.2.2.2.2.2.1, us.2.2.2.2.2.2.2.2.2.2.2.1, us.2.2.2.2.2.2.2.2.2.2.2.2.1, us.2.2.2.2.2.2.2.2.2.2.2.2.2.1, us.2.2.2.2.2.2.2.2.2.2.2.2.2.2.1, us.2.2.2.2.2.2.2.2.2.2.2.2.2.2.2.1, ()) : Den (B4 (.sl C19)))) else none) = some (X', S', v') := h4
      split at h5
      · rename_i hc
        obtain ⟨c0, c1, c2, c3, c4, c5⟩ := hc
        simp only [Option.some.injEq, Prod.mk.injEq] at h5
        obtain ⟨rfl, rfl, rfl⟩ := h5
        refine ⟨rfl, rfl, ?_⟩
        refine (r19_0r_eq N (fun p => some (7, p)) i ys.1 ys.2.1 ys.2.2.1 ys.2.2.2.1 ys.2.2.2.2.1 ys.2.2.2.2.2.1 n i zs.1 v.1 v.2.1 v.2.2.1 v.2.2.2.1 [] []).trans ?_
        unfold r19_0r
        rw [show decide (i < n) = true by simpa using c1, show decide (i = i ∧ 0 ≤ i ∧ i < n) = true by simp [c0, c1]]
        simp only []
        rw [hr]
        unfold on19_2
        simp only []
        rw [onG_of]
        show (some (7, ([⟨.int .i64, IntKind.i64.wrap (us.1 + 1)⟩, ⟨(.sl (.pair (.int .i64) (.pair (.int .i64) (.pair (.int .i64) (.pair (.int .i64) (.pair (.int .i64) .unit)))))), us.2.1⟩, ⟨(.int .i64), us.2.2.1⟩, ⟨(.sl (.int .u8)), us.2.2.2.1⟩, ⟨(.ar 16 (.int .i64)), us.2.2.2.2.1⟩, ⟨(.sl (.pair (.int .i64) (.pair (.int .i64) (.pair (.int .i64) (.pair (.int .i64) (.pair (.sl (.pair (.int .i64) (.pair (.pair (.int .i64) (.pair (.int .i64) (.pair (.int .i64) (.pair (.int .i64) (.pair (.int .i64) .unit))))) (.pair (.int .i64) (.pair (.int .i64) (.pair (.int .i64) .unit)))))) (.pair (.sl (.pair (.int .i64) (.pair (.pair (.int .i64) (.pair (.int .i64) (.pair (.int .i64) (.pair (.int .i64) (.pair (.int .i64) .unit))))) (.pair (.int .i64) (.pair (.int .i64) (.pair (.int .i64) .unit)))))) .unit))))))), us.2.2.2.2.2.1⟩, ⟨(.ar 16 (.int .i64)), us.2.2.2.2.2.2.1⟩, ⟨(.int .i64), us.2.2.2.2.2.2.2.1⟩, ⟨(.int .i64), us.2.2.2.2.2.2.2.2.1⟩, ⟨(.ar 16 (.int .i64)), us.2.2.2.2.2.2.2.2.2.1⟩, ⟨(.int .i64), us.2.2.2.2.2.2.2.2.2.2.1⟩, ⟨(.int .i64), us.2.2.2.2.2.2.2.2.2.2.2.1⟩, ⟨(.int .i64), us.2.2.2.2.2.2.2.2.2.2.2.2.1⟩, ⟨(.int .i64), us.2.2.2.2.2.2.2.2.2.2.2.2.2.1⟩, ⟨(.sl (.pair (.int .i64) (.pair (.pair (.int .i64) (.pair (.int .i64) (.pair (.int .i64) (.pair (.int .i64) (.pair (.int .i64) .unit))))) (.pair (.int .i64) (.pair (.int .i64) (.pair (.int .i64) .unit)))))), us.2.2.2.2.2.2.2.2.2.2.2.2.2.2.1⟩, ⟨(.sl (.pair (.int .i64) (.pair (.pair (.int .i64) (.pair (.int .i64) (.pair (.int .i64) (.pair (.int .i64) (.pair (.int .i64) .unit))))) (.pair (.int .i64) (.pair (.int .i64) (.pair (.int .i64) .unit)))))), us.2.2.2.2.2.2.2.2.2.2.2.2.2.2.2.1⟩] : List DV)) : Option Rs) = _
        rw [c2, c3, c4, c5]
        rfl
      · simp at h5
    · simp at h3
  · simp at h3
theorem ex19_ok (N : Nat) (n : Int) (X S : List DV) (β : Nat → EI) (F : Nat → Prop) (w : World) (hX : RepBs β F w (s19_0.h.bx.take 3) 0 X []) (hS : ∃ c, RepKs β F w [.d (.ar 16 (.int .i64))] S [] c) :
    R19_0x N (fun _ => none) (⟨.int .i64, n⟩ :: (X ++ (⟨.int .i64, n⟩ :: ⟨.int .i64, n⟩ :: S))) = some (1, X ++ (⟨.int .i64, n⟩ :: ⟨.int .i64, n⟩ :: S)) := by
  obtain ⟨p1, p2, e1, e2, c1, t1, rfl, _, _, k1, _, _, g1⟩ := RepBs.inv hX
  obtain ⟨p3, p4, e3, e4, c3, t3, rfl, _, _, k2, _, _, g2⟩ := g1.inv
  obtain ⟨p5, p6, e5, e6, c5, t5, rfl, _, _, k3, _, _, g3⟩ := g2.inv
  obtain ⟨rfl, _⟩ := g3.inv
  obtain ⟨c, hS⟩ := hS
  obtain ⟨a1, rfl⟩ := RepKs_d (ts := [(.sl (.pair (.int .i64) (.pair (.int .i64) (.pair (.int .i64) (.pair (.int .i64) (.pair (.int .i64) .unit)))))), (.int .i64), (.sl (.int .u8))]) k1
  obtain ⟨a2, rfl⟩ := RepKs_d (ts := [(.ar 16 (.int .i64))]) k2
  obtain ⟨a3, rfl⟩ := RepKs_d (ts := [(.sl (.pair (.int .i64) (.pair (.int .i64) (.pair (.int .i64) (.pair (.int .i64) (.pair (.sl (.pair (.int .i64) (.pair (.pair (.int .i64) (.pair (.int .i64) (.pair (.int .i64) (.pair (.int .i64) (.pair (.int .i64) .unit))))) (.pair (.int .i64) (.pair (.int .i64) (.pair (.int .i64) .unit)))))) (.pair (.sl (.pair (.int .i64) (.pair (.pair (.int .i64) (.pair (.int .i64) (.pair (.int .i64) (.pair (.int .i64) (.pair (.int .i64) .unit))))) (.pair (.int .i64) (.pair (.int .i64) (.pair (.int .i64) .unit)))))) .unit))))))), (.ar 16 (.int .i64))]) k3
  obtain ⟨a4, rfl⟩ := RepKs_d (ts := S19) hS
  refine (r19_0x_eq N (fun _ => none) n a1.1 a1.2.1 a1.2.2.1 a2.1 a3.1 a3.2.1 n n a4.1).trans ?_
  unfold r19_0x
  rw [show decide (n < n) = false by simp]
  rfl
noncomputable def ol19 (N : Nat) : OL Go.Proofs.Try.prog cx0 h19 (t19 N) [(2, x19_2 N)] Go.Proofs.Try.f19 0 (bodyAt Go.Proofs.Try.f19 0) where
  bs := s19_0.h.bx.take 3
  av := s19_0.h.av
  ax := (sgOf s19_0 1).av
  sk := [.d (.ar 16 (.int .i64))]
  ks := ks4 C19
  T0 := B4 .nl
  T1 := B4 (.sl C19)
  sz := 6
  LR := s19_0r
  LX := s19_0x
  L0 := s19_0
  po := po4 C19
  pc := pc4 C19
  step := st19 N
  okA := by kernel_rfl
  okX := by kernel_rfl
  okB := by kernel_rfl
  okS := by kernel_rfl
  nA := by kernel_rfl
  nX := by kernel_rfl
  hR := by kernel_rfl
  hX := by kernel_rfl
  xR := by kernel_rfl
  xX := by kernel_rfl
  h0 := by kernel_rfl
  x0 := by kernel_rfl
  z0 := by kernel_rfl
  z1 := by kernel_rfl
  zp := by decide
  zo := fun _ => rfl
  open_ := open4 C19
  close := close4 C19
  round := fun n i X S v X' S' v' h _ _ => st19_ok N n i X S v X' S' v' h
  exit := ex19_ok N
/-- The outer loop, as a plain function. -/
noncomputable def l19_0 (N : Nat) (_ : Nat) (i : Int) (x0 : (List (Int × (Int × (Int × (Int × (Int × Unit))))))) (x1 : Int) (x2 : (List Int)) (x3 : (List Int)) (x4 : (List (Int × (Int × (Int × (Int × ((List (Int × ((Int × (Int × (Int × (Int × (Int × Unit))))) × (Int × (Int × (Int × Unit)))))) × ((List (Int × ((Int × (Int × (Int × (Int × (Int × Unit))))) × (Int × (Int × (Int × Unit)))))) × Unit)))))))) (x5 : (List Int)) (xs : List (Den (B4 .nl))) (so : List Int) : Option Rs :=
  if i = 0 then match (ol19 N).walk (xs.length : Int) xs 0 (ofT X19 (x0, x1, x2, x3, x4, x5, ())) (ofT S19 (so, ())) with
    | some (X2, S2, zs) => some (1, X2 ++ (⟨.sl (B4 (.sl C19)), zs⟩ :: S2))
    | none => none
  else none
theorem l19_0_ok (N : Nat) : ∀ (ys : Tup [(.int .i64), (.sl (.pair (.int .i64) (.pair (.int .i64) (.pair (.int .i64) (.pair (.int .i64) (.pair (.int .i64) .unit)))))), (.int .i64), (.sl (.int .u8)), (.ar 16 (.int .i64)), (.sl (.pair (.int .i64) (.pair (.int .i64) (.pair (.int .i64) (.pair (.int .i64) (.pair (.sl (.pair (.int .i64) (.pair (.pair (.int .i64) (.pair (.int .i64) (.pair (.int .i64) (.pair (.int .i64) (.pair (.int .i64) .unit))))) (.pair (.int .i64) (.pair (.int .i64) (.pair (.int .i64) .unit)))))) (.pair (.sl (.pair (.int .i64) (.pair (.pair (.int .i64) (.pair (.int .i64) (.pair (.int .i64) (.pair (.int .i64) (.pair (.int .i64) .unit))))) (.pair (.int .i64) (.pair (.int .i64) (.pair (.int .i64) .unit)))))) .unit))))))), (.ar 16 (.int .i64)), (.sl (.pair (.int .i64) (.pair (.int .i64) (.pair (.int .i64) (.pair (.int .i64) (.pair .nl (.pair .nl .unit))))))), (.ar 16 (.int .i64))]) (q : Rs), appT _ (l19_0 N N) ys = some q → LoopOK Go.Proofs.Try.prog Go.Proofs.Try.f19.ntmps c19.i.bx.length s19_0 (bodyAt Go.Proofs.Try.f19 0) (ofT _ ys) q := by
  intro ys q h
  have h1 : l19_0 N N ys.1 ys.2.1 ys.2.2.1 ys.2.2.2.1 ys.2.2.2.2.1 ys.2.2.2.2.2.1 ys.2.2.2.2.2.2.1 ys.2.2.2.2.2.2.2.1 ys.2.2.2.2.2.2.2.2.1 = some q := h
  unfold l19_0 at h1
  split at h1
  · rename_i hi
    split at h1
    · rename_i X2 S2 zs hw
      simp only [Option.some.injEq] at h1
      subst h1
      have := OL.loop (ol19 N) ti_ok hmix (t19_ok N) (a19 N) fn19 (by kernel_rfl) ⟨x19_2_ok N, trivial⟩ (by kernel_rfl) hw
      rw [← hi] at this
      exact this
    · simp at h1
  · simp at h1
end Go.Proofs.Zz
