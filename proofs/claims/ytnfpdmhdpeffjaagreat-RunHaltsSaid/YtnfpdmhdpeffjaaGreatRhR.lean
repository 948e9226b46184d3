import Derived.Test.YtnfpdmhdpeffjaaGreatRows
import Derived.Test.YtnfpdmhdpeffjaaGreatPB
import Derived.Test.YtnfpdmhdpeffjaaGreatRA
import Derived.WalkKit
import Derived.ProofKit
import Derived.OpenShut
import Derived.ChangeOld
import Derived.Below
import Derived.Carry
import Derived.SizedLaws
set_option linter.unusedSimpArgs false
set_option linter.unusedVariables false
/- RunHalts: for every input the law returns true. No condition. -/
namespace Go.Proofs.Zz
open Go
set_option maxRecDepth 100000
theorem law_callRh {w : World} {f n : Nat} {e : Fn' (Option Rs) [a0l, a0F, pD (.sl tU)]} (h : CEok Q (⟨n, f, ⟨[.agg q_5, .agg [.d (.sl tI), .d (.sl tI)], .one (.d (.sl tU))], []⟩, [.one (.d tB)], true, []⟩, mkF [a0l, a0F, pD (.sl tU)] [pB] e))
  (he : ∀ (x0 : a0f) (x1 : a0w) (x2 : List Int), e x0 x1 x2 = some (0, gB.dv true []))
  {c0 : Array Value}    {c1 : Array Value}    {b2 : Option Addr} {n2 c2 : Nat}
  (g0 : ∃ v, RepD (fun b => b < w.heap.size) w tCfg v c0.toList ∧ wf tCfg v)
  (g1 : ∃ v, RepD (fun b => b < w.heap.size) w tScr v c1.toList ∧ wf tScr v)
  (g2 : ∃ v, RepD (fun b => b < w.heap.size) w (.sl tU) v [.slice b2 n2 c2] ∧ wf (.sl tU) v) :
  Calls Q f #[.agg c0, .agg c1, .slice b2 n2 c2] w fun e w' => e = .returned (.bool true) ∧ RowKit.Below w.heap.size w w' := by
 obtain ⟨v0, h0, w0⟩ := g0
 obtain ⟨v1, h1, w1⟩ := g1
 obtain ⟨v2, h2, w2⟩ := g2
 have hc := e3F (ys := (a0D.to v0, a1P.to v1, v2, ())) (zs := (true, ())) h (he _ _ _)
 refine d5y (vs := [.agg c0, .agg c1, .slice b2 n2 c2]) (b := true) hc rfl rfl rfl rfl rfl ?_
 have := (c8u (c0k (β := fun _ => nilEI .unit) h0) (c8u (c0k h1) (g7h h2 (.nil []))))
 exact this
section
open Go.ChangeShapes
variable {H : Type} {enc : TypeId × Value → H} {P : Program} {w : World} {base : Nat} {spare : Nat → Bool} {held : Bool}
theorem trodAllRh {t0 t1 t2 : TypeId} {args : Array Value} {ds : List (DataW H)} {ps : List MemPlace} (h : DataW.TrodAll enc P w base spare held [t0, t1, t2] args.toList ds ps) :
  ∃ v0 v1 v2 d0 d1 d2 p0 p1 p2, args = #[v0, v1, v2] ∧ ds = [d0, d1, d2] ∧ ps = p0 ++ (p1 ++ (p2 ++ [])) ∧ DataW.Trod enc P w base spare held t0 v0 d0 p0 ∧ DataW.Trod enc P w base spare held t1 v1 d1 p1 ∧ DataW.Trod enc P w base spare held t2 v2 d2 p2 := by
 obtain ⟨v0, l0, d0, m0, p0, q0, hargs, rfl, rfl, h0, r0⟩ := trodAll_cons h
 obtain ⟨v1, l1, d1, m1, p1, q1, rfl, rfl, rfl, h1, r1⟩ := trodAll_cons r0
 obtain ⟨v2, l2, d2, m2, p2, q2, rfl, rfl, rfl, h2, r2⟩ := trodAll_cons r1
 obtain ⟨rfl, rfl, rfl⟩ := trodAll_nil r2
 exact ⟨v0, v1, v2, d0, d1, d2, p0, p1, p2, by cases args; simp_all, rfl, rfl, h0, h1, h2⟩
end
end Go.Proofs.Zz
namespace Go.Proofs.YtnfpdmhdpeffjaaGreat.runHalts
open Go.ChangeShapes Go.WideShapes Go.ChangeAt Go.RowKit
open Go.Proofs.Zz
theorem own : ownKnob Tryz.prog.godebug = none := by kernel_rfl
theorem laidOut : laidOutB Tryz.prog = true := by kernel_rfl
set_option maxRecDepth 100000 in
theorem lifted (os : Os) (started : os.Started) (H : Type) (enc : TypeId × Value → H) :
  ReturnsInHanded {} Tryz.checked os 22 .any (Rows.runHaltsSpec.pre6 enc Tryz.prog Tryz.f22 Rows.runHaltsRow.domain false) (Rows.runHaltsSpec.post enc Tryz.prog Tryz.f22 false true false false) := by
 refine returnsInHanded_of_change (C := Tryz.checked) own started (by kernel_rfl) Tryz.func22
  (ChangeSpec.witness6 (enc := enc) (C := Tryz.checked) false ⟨#[], #[.agg (Array.replicate 12 (.int .i64 0)), .agg #[.slice none 0 0, .slice none 0 0], .slice none 0 0], []⟩ 8 (by kernel_rfl) (by kernel_rfl) (by kernel_rfl) (by kernel_rfl)) ?_
 intro W base args ds gs before hval0 hW hcnd _
 have hval : ∀ (j : Nat) t v, Tryz.f22.params[j]? = some t → args[j]? = some v → Value.okWide Tryz.prog W .any base t v := hval0
 have hW' := hW
 obtain ⟨p, q, hA0, hV, rfl, hfz, hnd⟩ := hW
 have hA : DataW.TrodAll enc Tryz.prog W 0 (fun _ => true) true Tryz.f22.params.toList args.toList ds p := hA0
 rw [Tryz.params22] at hA hval
 obtain ⟨v0, v1, v2, d0, d1, d2, p0, p1, p2, rfl, rfl, rfl, h0, h1, h2⟩ := trodAllRh hA
 obtain ⟨rfl, rfl⟩ := trodVars_none hV
 obtain ⟨c0, rfl, _⟩ := okWide_struct Tryz.underlying23 (hval 0 23 v0 rfl rfl)
 obtain ⟨c1, rfl, _⟩ := okWide_struct Tryz.underlying87 (hval 1 87 v1 rfl rfl)
 obtain ⟨b2, n2, c2, rfl⟩ := okWide_slice Tryz.underlying25 (hval 2 25 v2 rfl rfl)
 have k0 := h0
 have k1 := h1
 have k2 := h2
 have lt0 : ∀ x ∈ p0, x.block < W.heap.size := by obtain ⟨m, hm⟩ := k0; exact DataW.trod_lt m _ _ _ hm
 have lt1 : ∀ x ∈ p1, x.block < W.heap.size := by obtain ⟨m, hm⟩ := k1; exact DataW.trod_lt m _ _ _ hm
 have lt2 : ∀ x ∈ p2, x.block < W.heap.size := by obtain ⟨m, hm⟩ := k2; exact DataW.trod_lt m _ _ _ hm
 have hcall := law_callRh (w := W) (g7a 200000) g7d
  (a2W (enc := enc) (P := Tryz.prog) (w := W) 8 23 tCfg _ (by kernel_rfl) (by obtain ⟨m, hm⟩ := h0; exact ⟨m, _, hm⟩))
  (a2W (enc := enc) (P := Tryz.prog) (w := W) 8 87 tScr _ (by kernel_rfl) (by obtain ⟨m, hm⟩ := h1; exact ⟨m, _, hm⟩))
  (a2W (enc := enc) (P := Tryz.prog) (w := W) 8 25 (.sl tU) _ (by kernel_rfl) (by obtain ⟨m, hm⟩ := h2; exact ⟨m, _, hm⟩))
 refine hcall.mono fun e W' ⟨he, bel⟩ => ?_
 subst he
 exact ⟨_, rfl, _, _, _, [], _, [], hW', trodAll_mk1 (shut_bool Tryz.underlying4 _), (trodAll_cons_mk (Below.trod laidOut (by kernel_rfl) (of_decide_eq_true (by kernel_rfl)) k0 bel lt0) (trodAll_cons_mk (Below.trod laidOut (by kernel_rfl) (of_decide_eq_true (by kernel_rfl)) k1 bel lt1) (trodAll_cons_mk (Below.trod laidOut (by kernel_rfl) (of_decide_eq_true (by kernel_rfl)) k2 bel lt2) trodAll_mk0))), rfl, bel.frame _, fun h => by cases h⟩
end Go.Proofs.YtnfpdmhdpeffjaaGreat.runHalts
