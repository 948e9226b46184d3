/- A loop over a slice of structs, an element at a time told as a box: a round, and the whole. -/
import Derived.Test.YtpplgkggclddiaaEnhN
set_option linter.unusedVariables false
set_option linter.unusedSimpArgs false
namespace Go.Proofs.Zz
open Go

section
variable {P : Program} {cx : Cx} {hi : Hi} {l0 : List CE} {t0 : List LE} {f : FuncId} {fn : Func} {b : Nat} {body : Code} {o : OL P cx hi l0 t0 fn b body} {C : Frm} {β : Nat → EI} {e : EI} {F : Nat → Prop} {a : Act} {w : World} {X S X' S' : List DV} {ys : List (Den o.T1)} {rest : List (Den o.T0)}
theorem OI.round_ok {v : Den o.T0} {v' : Den o.T1} (h : OI o C β e F a w X S ys (v :: rest)) (hti : TIok P cx) (hmix : P.follows .mixedOrders = true) (hct : AllP (CEok P) l0) (hcs : AllP (fun e => lookC l0 e.2.id = some e.2) hi.cs) (hf : Fn P f fn (codeOf fn)) (hbod : bodOf fn b = some body)
    (hlt : AllP (LEok P hi (bodOf fn) fn.ntmps (o.bs.length + 2)) t0) (hst : o.step (e.len : Int) (ys.length : Int) X S v = some (X', S', v')) :
    body.wp P (fun e' a' w' => e' = .normal ∧ ∃ F2, OI o C β e F2 a' w' X' S' (ys ++ [v']) rest) a w := by
  obtain ⟨t, c2, hbx, hsk⟩ := h.sb
  have hlen : ys.length < e.len := by have := h.len; simp at this; omega
  have hnil : e.nil = false := by
    cases hn : e.nil with
    | false => rfl
    | true => have := h.nz hn; have := h.cap; omega
  obtain ⟨_, ad, hw1, hw2⟩ := h.win
  simp only [List.cons.injEq, and_true] at hw1
  have hadr := (hw2 (by have := h.cap; omega)).2
  obtain ⟨cs0, u0, fr0, pre, d1, d2, post, r1, r2, r3, r4, r5, r6, r7⟩ := h.arr hnil
  obtain ⟨c, d2', rfl, hv, hr5⟩ := r5
  have hd1 : d1.length = ys.length * o.sz := by rw [r4.len (fun x c => RepD_len), o.z1]
  have hc : c.length = o.sz := by rw [RepD_len hv, o.z0]
  let eb : EI := { blk := e.blk, base := 0, len := 0, cap := 0, esz := 0, nil := false, loff := fun i => (pre ++ d1).length + ((szsL o.ks).take i).sum, eoff := fun _ => 0, pre := pre ++ d1, post := d2' ++ post, hd := (β o.bs.length).hd }
  let β5 : Nat → EI := fun j => if j = o.bs.length + 1 then eb else β j
  have b5 : β5 (o.bs.length + 1) = eb := by simp [β5]
  have b4 : ∀ j, j < o.bs.length + 1 → β5 j = β j := fun j hj => by simp only [β5]; rw [if_neg (by omega)]
  have hag : Agree β β5 (o.bs.length + 1) := ⟨fun j hj => by rw [b4 j hj], fun j hj => by rw [b4 j hj], fun j hj => by rw [b4 j hj], fun j hj => by rw [b4 j hj]⟩
  obtain ⟨es5, hks, hes5⟩ := o.open_ β5 F w v c hv
  have hboxE : BoxAt w eb u0 c := ⟨cs0, fr0, r1, by rw [r2]; simp [eb], r6⟩
  have hlR : o.LR.h.bx.length = o.bs.length + 2 := by rw [o.hR]; simp
  have hin : SigIn o.LR.h β5 F w (⟨.int .i64, (ys.length : Int)⟩ :: (X ++ ((⟨.int .i64, (e.len : Int)⟩ :: ⟨.int .i64, (ys.length : Int)⟩ :: S) ++ o.po v))) es5 a.tmps.toList := by
    rw [o.hR]
    refine ⟨⟨[⟨.int .i64, (ys.length : Int)⟩], X ++ (([⟨.int .i64, (e.len : Int)⟩, ⟨.int .i64, (ys.length : Int)⟩] ++ S) ++ (o.po v ++ [])), [], [] ++ (([] ++ []) ++ (es5 ++ [])), by simp, by simp, h.tm.beta hag o.okA, ?_⟩, ?_, ?_, ?_, ?_⟩
    · refine RepBs.join (h.bx.beta hag o.okB (by omega)) (.cons (cs := [(β5 (o.bs.length + 1)).hd] ++ c2) (t := t) ?_ (.cons (.oh ?_) (hsk.beta hag o.okS)) ?_ ?_ (.cons (cs := c) (t := u0) ?_ hks ?_ ?_ (.nil _)))
      · rw [Nat.zero_add, b5]
        exact hbx.beta (by rw [b4 _ (by omega)]) (by rw [b4 _ (by omega)]) (by rw [b4 _ (by omega)])
      · rw [b5]
        refine ⟨ad, e.len, _, hw1, rfl, fun _ _ => ⟨e.base, by rw [hadr]; simp [eb], ?_, ?_⟩⟩
        · show (pre ++ d1).length + ((szsL o.ks).take 0).sum = _
          simp [hd1, r3]
        · intro d hd
          show (pre ++ d1).length + ((szsL o.ks).take (0 + d)).sum = (pre ++ d1).length + ((szsL o.ks).take 0).sum + ((szsL o.ks).take d).sum
          simp
      · rw [Nat.zero_add, b4 _ (by omega)]; exact h.sn
      · intro i hi
        rw [Nat.zero_add, b4 _ (by omega)]
        exact h.sl i (by simpa [szsL, LK.szs, Nat.add_comm] using hi)
      · rw [Nat.zero_add, b5]; exact hboxE
      · rw [Nat.zero_add, b5]; exact h.nf hnil
      · intro i hi
        rw [Nat.zero_add, b5]
    · intro i j hi hj hij
      simp only [List.length_append, List.length_cons, List.length_nil] at hi hj
      by_cases ei : i = o.bs.length + 1
      · by_cases ej : j = o.bs.length + 1
        · rw [ei, ej]
        · exfalso
          rw [ei, b5, b4 j (by omega)] at hij
          exact h.nb hnil j (by omega) hij.symm
      · by_cases ej : j = o.bs.length + 1
        · exfalso
          rw [ej, b5, b4 i (by omega)] at hij
          exact h.nb hnil i (by omega) hij
        · rw [b4 i (by omega), b4 j (by omega)] at hij
          exact h.bd i j (by omega) (by omega) hij
    · exact List.pairwise_iff_forall_sublist.2 (fun hs ha hb => by
        have := hes5 _ (hs.subset (List.mem_cons_self ..))
        rw [this] at ha; simp at ha)
    · intro j hj e' he' hn; rw [hes5 e' he'] at hn; simp at hn
    · intro e' he' hn; rw [hes5 e' he'] at hn; simp at hn
  have hO : ∀ b', ownB (o.bs.length + 2) β5 es5 b' → C.O b' ∨ C.w0.heap.size ≤ b' := by
    rintro b' (⟨j, hj, rfl⟩ | ⟨e', he', hn, _⟩)
    · by_cases ej : j = o.bs.length + 1
      · rw [ej, b5]; exact h.own hnil
      · rw [b4 j (by omega)]; exact h.ent.uo _ (.inl ⟨j, by omega, rfl⟩)
    · rw [hes5 e' he'] at hn; simp at hn
  have he : Enter ⟨ownB (o.bs.length + 2) β5 es5, F, w, o.bs.length + 2, β5⟩ F w o.LR.h.bx.length β5 es5 := by
    rw [hlR]
    exact ⟨h.ent.fb, fun _ h => h, fun _ _ _ => rfl, fun _ h => .inl h, fun _ h => .inl h, Nat.le_refl _, rfl, rfl, rfl, Nat.le_refl _, fun _ _ => rfl⟩
  obtain ⟨lx, ls, hrd⟩ := o.round _ _ X S v X' S' v' hst h.bx.plen.symm hsk.plen.symm
  refine wp_mono (round_ok' hti hmix hct hcs hf hlt hbod hrd rfl hin he h.tz h.df) fun e' a' w' hpost => ?_
  rcases hpost with ⟨rfl, p', β', F', es', k1, k2, k3, k4, k5⟩ | ⟨hne, hp⟩
  · refine ⟨rfl, ?_⟩
    simp only [Option.some.injEq, Prod.mk.injEq, true_and] at k1
    subst k1
    rw [o.hR] at k2
    obtain ⟨p1, p2, e1, e2, q1, q2, hA, hB⟩ := k2.ex
    have hA : RepAs β' F' w' o.av p1 e1 a'.tmps.toList := hA
    have hB : RepBs β' F' w' (o.bs ++ [.oh (o.bs.length + 1) o.sz (szsL o.ks) :: o.sk, o.ks]) 0 p2 e2 := hB
    have he1 := hA.noes o.okA
    subst he1
    have hp1 : p1.length = 1 := by rw [hA.plen]; exact o.nA
    have q1' : [⟨.int .i64, (ys.length : Int) + 1⟩] ++ (X' ++ ((⟨.int .i64, (e.len : Int)⟩ :: ⟨.int .i64, (ys.length : Int)⟩ :: S') ++ o.pc v')) = p1 ++ p2 := by simpa using q1
    obtain ⟨rfl, q3⟩ := List.append_inj q1' (by rw [hp1]; rfl)
    obtain ⟨x1, x2, f1, f2, rfl, rfl, hB1, hB2⟩ := RepBs.split hB
    have hf1 := hB1.noes o.okB
    subst hf1
    obtain ⟨rfl, q4⟩ := List.append_inj q3 (by rw [hB1.plen, lx])
    obtain ⟨s1, s2, g1, g2, cs, t', rfl, rfl, w1, w2, w3, w4, w5⟩ := hB2.inv
    obtain ⟨u1, u2, v1, v2, c1, c3, rfl, rfl, rfl, m1, m2⟩ := w2.inv
    have hv2 := m2.noes o.okS
    subst hv2
    have hu1 := m1.plen
    have q5 : [⟨.int .i64, (e.len : Int)⟩, ⟨.int .i64, (ys.length : Int)⟩] ++ (S' ++ o.pc v') = u1 ++ (u2 ++ s2) := by simpa using q4
    have q6 := (List.append_inj q5 (by rw [hu1]; rfl)).2
    obtain ⟨rfl, q7⟩ := List.append_inj q6 (by rw [m2.plen, ls])
    obtain ⟨s3, s4, g3, g4, cE, tE, rfl, rfl, z1, z2, z3, z4, z5⟩ := w5.inv
    obtain ⟨rfl, rfl⟩ := z5.inv
    simp only [List.append_nil] at q7
    subst q7
    have hc1 : c1 = [(β' (o.bs.length + 1)).hd] ∧ v1 = [] := by cases m1; exact ⟨rfl, rfl⟩
    obtain ⟨rfl, rfl⟩ := hc1
    simp only [List.nil_append, List.append_nil] at q2
    subst q2
    have hβ : ∀ j, j < o.bs.length + 2 → β' j = β5 j := fun j hj => k3.e0 j hj
    have hβ4 : ∀ j, j < o.bs.length + 1 → β' j = β j := fun j hj => (hβ j (by omega)).trans (b4 j hj)
    have hβ5 : β' (o.bs.length + 1) = eb := (hβ _ (by omega)).trans b5
    rw [Nat.zero_add] at w1 w3 w4 z1 z3 z4
    rw [hβ5] at z1 z3
    have hag' : Agree β' β (o.bs.length + 1) := ⟨fun j hj => by rw [hβ4 j hj], fun j hj => by rw [hβ4 j hj], fun j hj => by rw [hβ4 j hj], fun j hj => by rw [hβ4 j hj]⟩
    have hFO : ∀ b', F b' → ¬ ownB (o.bs.length + 2) β5 es5 b' := by
      rintro b' hb' (⟨j, hj, rfl⟩ | ⟨e', he', hn, _⟩)
      · by_cases ej : j = o.bs.length + 1
        · rw [ej, b5] at hb'; exact h.nf hnil hb'
        · rw [b4 j (by omega)] at hb'
          by_cases ek : j = o.bs.length
          · subst ek; exact h.sn hb'
          · exact h.bx.none j (Nat.zero_le _) (by omega) hb'
      · rw [hes5 e' he'] at hn; simp at hn
    have hkeep := cell_kept k3 h.ent.fb hFO
    have hF : ∀ b', F b' → F' b' := k3.f0
    let F2 : Nat → Prop := fun b' => F' b' ∨ ∃ e' ∈ es', e'.nil = false ∧ e'.blk = b'
    have hF2 : ∀ b', F' b' → F2 b' := fun _ h => .inl h
    have hnot : ∀ j, j < o.bs.length + 2 → ¬ F' (β' j).blk → ¬ F2 (β' j).blk := by
      rintro j hj hn (h1 | ⟨e', he', hn', h2⟩)
      · exact hn h1
      · exact k2.be j (by simpa using hj) e' he' hn' h2.symm
    have hdat := o.close β' F' w' v' es' cE z2 F2 hF2 (fun e' he' hn => .inr ⟨e', he', hn, rfl⟩)
    have hcE : cE.length = o.sz := by rw [RepD_len hdat, o.z1]
    obtain ⟨ds, fr, y1, y2, y3⟩ := z1
    have y1 : w'.heap[e.blk]? = some (.cells ds tE fr) := y1
    have y2 : ds.toList = (pre ++ d1) ++ (cE ++ (d2' ++ post)) := y2
    have hds : ds.size = cs0.size := by
      have e1 := congrArg List.length y2
      have e2 := congrArg List.length r2
      simp only [List.length_append, Array.length_toList] at e1 e2
      omega
    have hlr : ({ av := o.av, bx := o.bs ++ [.oh (o.bs.length + 1) o.sz (szsL o.ks) :: o.sk, o.ks] } : Sg).bx.length = o.bs.length + 2 := by simp
    refine ⟨F2, ?_, ?_, ?_, ?_, h.sl, h.bd, ?_, k4, k5, by have := h.len; simp at this ⊢; omega, h.esz, h.eoff, h.cap, h.win, h.nz, fun _ => ⟨ds, tE, fr, pre, d1 ++ cE, d2', post, y1, by rw [y2]; simp, r3, ?_, ?_, y3, by rw [hds]; exact r7⟩, fun _ => ?_, h.nb, h.own⟩
    · have := (hA.beta hag' o.okA).to (F' := F2) (.inr hF2)
      rw [show (((ys ++ [v']).length : Nat) : Int) = (ys.length : Int) + 1 by simp]
      exact this
    · refine (hB1.beta hag' o.okB (by omega)).grow hF2 fun i _ hi => ?_
      rw [← hβ4 i (by omega)]
      exact hnot i (by omega) (hB1.none i (Nat.zero_le _) hi)
    · refine ⟨t', c3, ?_, (m2.beta hag' o.okS).to (.inr hF2)⟩
      rw [hβ5] at w1
      have w1 : BoxAt w' (β' o.bs.length) t' ([(β o.bs.length).hd] ++ c3) := w1
      rw [hβ4 _ (by omega)] at w1
      exact w1
    · rw [← hβ4 _ (by omega)]
      exact hnot _ (by omega) w3
    · rw [o.hR] at k3
      refine Enter.comp h.ent (O1 := ownB (o.bs.length + 2) β5 es5) hO (by rw [hlr] at k3; exact k3) hF2 (fun b' hb' => ?_) h.ent.uo h.ent.nb h.ent.e0
      rcases hb' with h1 | ⟨e', he', hn, rfl⟩
      · exact .inl h1
      · refine .inr ⟨z2.lt e' he' hn, ?_⟩
        rcases k3.uo e'.blk (.inr ⟨e', he', hn, rfl⟩) with h1 | h1
        · exact hO _ h1
        · exact .inr (Nat.le_trans h.ent.sz h1)
    · refine All_snoc (r4.imp fun x c hc => RepD.ext (fun b' hb' => hF2 b' (hF b' hb')) (fun b' hb' o u hu => hkeep b' hb' o u hu) hc) hdat
    · exact hr5.imp fun x c hc => RepD.ext (fun b' hb' => hF2 b' (hF b' hb')) (fun b' hb' o u hu => hkeep b' hb' o u hu) hc
    · have := hnot (o.bs.length + 1) (by omega) (by rw [hβ5]; exact z3)
      rw [hβ5] at this; exact this
  · obtain ⟨_, _, _, sgx, _, _, _, k4, _⟩ := hp
    rw [o.xR] at k4
    simp [lookN] at k4
end
end Go.Proofs.Zz
