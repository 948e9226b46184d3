/- A loop over a slice of structs, an element at a time told as a box: from its head to its end. -/
import Derived.Test.YtpplgkggclddiaaEnhO
set_option linter.unusedVariables false
set_option linter.unusedSimpArgs false
namespace Go.Proofs.Zz
open Go

section
variable {P : Program} {cx : Cx} {hi : Hi} {l0 : List CE} {t0 : List LE} {f : FuncId} {fn : Func} {b : Nat} {body : Code}
theorem OL.enter (o : OL P cx hi l0 t0 fn b body) {C : Frm} {β0 : Nat → EI} {es : List EI} {F : Nat → Prop} {a : Act} {w : World} {X S : List DV} {xs : List (Den o.T0)} (hX : X.length = plenB o.bs)
    (hs : SigIn o.L0.h β0 F w (⟨.int .i64, 0⟩ :: (X ++ (⟨.sl o.T0, xs⟩ :: S))) es a.tmps.toList) (he : Enter C F w o.L0.h.bx.length β0 es) (hn : C.nb = 0) (hz : a.tmps.size = fn.ntmps) (hd : a.defers = []) :
    ∃ e β, OI o C β e F a w X S [] xs := by
  rw [o.h0] at hs he
  obtain ⟨p1, p2, e1, e2, q1, q2, hA, hB⟩ := hs.ex
  have hA : RepAs β0 F w o.av p1 e1 a.tmps.toList := hA
  have hB : RepBs β0 F w (o.bs ++ [.o o.T0 :: o.sk]) 0 p2 e2 := hB
  have he1 := hA.noes o.okA
  subst he1
  have hp1 : p1.length = 1 := by rw [hA.plen]; exact o.nA
  have q1' : [⟨.int .i64, (0 : Int)⟩] ++ (X ++ (⟨.sl o.T0, xs⟩ :: S)) = p1 ++ p2 := by simpa using q1
  obtain ⟨rfl, q3⟩ := List.append_inj q1' (by rw [hp1]; rfl)
  obtain ⟨x1, x2, f1, f2, rfl, rfl, hB1, hB2⟩ := RepBs.split hB
  have hf1 := hB1.noes o.okB
  subst hf1
  obtain ⟨rfl, q4⟩ := List.append_inj q3 (by rw [hB1.plen, hX])
  obtain ⟨s1, s2, g1, g2, cs, t', rfl, rfl, w1, w2, w3, w4, w5⟩ := hB2.inv
  obtain ⟨rfl, rfl⟩ := w5.inv
  obtain ⟨u1, u2, v1, v2, c1, c3, rfl, rfl, rfl, m1, m2⟩ := w2.inv
  have hv2 := m2.noes o.okS
  subst hv2
  cases m1 with
  | @o _ xs' e cs' hwin hao =>
    simp only [List.cons_append, List.nil_append, List.append_nil, List.cons.injEq, DV.mk.injEq, heq_eq_eq, true_and] at q4
    obtain ⟨rfl, rfl⟩ := q4
    simp only [List.nil_append, List.append_nil] at q2
    subst q2
    rw [Nat.zero_add] at w1 w3 w4
    obtain ⟨k1, ad, k2, k3⟩ := hwin
    subst k2
    have hlen : ({ av := o.av, bx := o.bs ++ [.o o.T0 :: o.sk] } : Sg).bx.length = o.bs.length + 1 := by simp
    let β : Nat → EI := fun j => if j = o.bs.length then { β0 o.bs.length with hd := .slice ad e.len (e.cap - 0) } else β0 j
    have hβ : ∀ j, (β j).blk = (β0 j).blk ∧ (β j).loff = (β0 j).loff ∧ (β j).pre = (β0 j).pre ∧ (β j).post = (β0 j).post := by
      intro j
      simp only [β]
      by_cases ej : j = o.bs.length
      · subst ej; simp
      · simp [ej]
    have hm : (β o.bs.length).hd = .slice ad e.len (e.cap - 0) := by simp [β]
    have hag : Agree β0 β (o.bs.length + 1) := ⟨fun j _ => (hβ j).1, fun j _ => (hβ j).2.1, fun j _ => (hβ j).2.2.1, fun j _ => (hβ j).2.2.2⟩
    obtain ⟨r1, r2, r3, r4, r5, r6⟩ := hao
    refine ⟨e, β, hA.beta hag o.okA, hB1.beta hag o.okB (by omega), ⟨t', c3, ?_, m2.beta hag o.okS⟩, ?_, fun i hi => ?_, fun i j hi hj hij => ?_, ?_, hz, hd, by simpa using r1, by rw [r3, o.z0], r4, r2, ?_, r5, fun hnl => ?_, fun hnl => hs.ef e (by simp) hnl, fun hnl j hj => ?_, fun hnl => he.uo e.blk (.inr ⟨e, by simp, hnl, rfl⟩)⟩
    · rw [hm]
      exact w1.beta (hβ _).1 (hβ _).2.2.1 (hβ _).2.2.2
    · rw [(hβ _).1]; exact w3
    · rw [(hβ _).2.1, (hβ _).2.2.1]
      exact w4 i (by simpa [szsL, LK.szs, Nat.add_comm] using hi)
    · rw [(hβ _).1, (hβ _).1] at hij
      exact hs.bd i j (by rw [hlen]; exact hi) (by rw [hlen]; exact hj) hij
    · rw [hlen] at he
      refine ⟨he.fb, he.f0, he.kp, he.uf, fun b' hb' => ?_, he.sz, he.os, he.tape, he.output, by omega, fun k hk => by omega⟩
      rcases hb' with ⟨j, hj, rfl⟩ | ⟨e', he', _⟩
      · rw [(hβ _).1]; exact he.uo _ (.inl ⟨j, hj, rfl⟩)
      · simp at he'
    · rw [hm]
      exact ⟨k1, ad, rfl, k3⟩
    · obtain ⟨cs, u, fr, ds, y1, y2, y3, y4, y5⟩ := r6 hnl
      have hdl : e.base + ds.length ≤ cs.size := by
        rw [y3.len (fun x c => RepD_len), r1, ← r3]
        have := Nat.mul_le_mul_right e.esz r2
        omega
      exact ⟨cs, u, fr, cs.toList.take e.base, [], ds, cs.toList.drop (e.base + ds.length), y1, by rw [List.nil_append]; exact At_split y1 y4 hdl, by simp; omega, rfl, y3, y5, y2⟩
    · rw [(hβ _).1]; exact hs.be j (by rw [hlen]; exact hj) e (by simp) hnl
theorem OL.loop (o : OL P cx hi l0 t0 fn b body) (hti : TIok P cx) (hmix : P.follows .mixedOrders = true) (hct : AllP (CEok P) l0) (hcs : AllP (fun e => lookC l0 e.2.id = some e.2) hi.cs) (hf : Fn P f fn (codeOf fn)) (hbod : bodOf fn b = some body)
    (hlt : AllP (LEok P hi (bodOf fn) fn.ntmps (o.bs.length + 2)) t0) {X S X2 S2 : List DV} {xs : List (Den o.T0)} {zs : List (Den o.T1)} (hX : X.length = plenB o.bs) (hw : o.walk (xs.length : Int) xs 0 X S = some (X2, S2, zs)) :
    LoopOK P fn.ntmps 0 o.L0 body (⟨.int .i64, 0⟩ :: (X ++ (⟨.sl o.T0, xs⟩ :: S))) (1, X2 ++ (⟨.sl o.T1, zs⟩ :: S2)) := by
  intro C a w β0 F es hC hs he hz hd
  obtain ⟨e, β, hI⟩ := o.enter hX hs he hC hz hd
  refine wp_loop_fuel (fun k a w => ∃ F X S ys rest us, OI o C β e F a w X S ys rest ∧ o.walk (e.len : Int) rest (ys.length : Int) X S = some (X2, S2, us) ∧ zs = ys ++ us ∧ k = rest.length) (n := xs.length)
    ⟨F, X, S, [], xs, zs, hI, by have := hI.len; simp at this; rw [← this]; exact hw, rfl, rfl⟩ ?_
  rintro k a w ⟨F, X, S, ys, rest, us, hI, hw, rfl, rfl⟩
  cases rest with
  | nil =>
    simp only [OL.walk, Option.some.injEq, Prod.mk.injEq] at hw
    obtain ⟨rfl, rfl, rfl⟩ := hw
    refine wp_mono (hI.exit_ok hti hmix hct hcs hf hbod) fun e' a' w' hpost => ?_
    obtain ⟨hne, hp⟩ := hpost
    rw [List.append_nil]
    cases e' <;> first | exact (hne rfl).elim | exact hp
  | cons v rest =>
    simp only [OL.walk] at hw
    split at hw
    · simp at hw
    · rename_i X' S' v' hst
      split at hw
      · simp at hw
      · rename_i X3 S3 us' hw'
        simp only [Option.some.injEq, Prod.mk.injEq] at hw
        obtain ⟨rfl, rfl, rfl⟩ := hw
        refine wp_mono (hI.round_ok hti hmix hct hcs hf hbod hlt hst) fun e' a' w' hpost => ?_
        obtain ⟨rfl, F2, hI'⟩ := hpost
        refine ⟨rest.length, by simp, F2, X', S', ys ++ [v'], rest, us', hI', ?_, by simp, rfl⟩
        rw [show (((ys ++ [v']).length : Nat) : Int) = (ys.length : Int) + 1 by simp]
        exact hw'
end
end Go.Proofs.Zz
