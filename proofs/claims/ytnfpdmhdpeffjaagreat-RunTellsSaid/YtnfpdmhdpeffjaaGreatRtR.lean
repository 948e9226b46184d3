import Derived.Test.YtnfpdmhdpeffjaaGreatRows
import Derived.Test.YtnfpdmhdpeffjaaGreatPB
import Derived.Test.YtnfpdmhdpeffjaaGreatRA
import Derived.WalkKit
import Derived.ProofKit
import Derived.OpenShut
import Derived.ChangeOld
import Derived.Below
import Derived.Carry
import Derived.SizedLaws
set_option linter.unusedSimpArgs false
set_option linter.unusedVariables false
/- RunTells: for every input the law returns true. No condition. -/
namespace Go.Proofs.Zz
open Go
set_option maxRecDepth 100000
abbrev tSpl : Ty := .pair (.sl a0n) (.pair (.ar 16 tI) .unit)
theorem own16 {v : Den tSpl} (h : wf tSpl v) : (a0H.to v).Owner.length = 16 := by
 obtain ⟨_, ⟨a, _⟩, _⟩ := h;exact a
theorem law_callRt {w : World} {f n : Nat} {e : Fn' (Option Rs) [a0p, a0m, a0l, a0F, pI, a0d]} (h : CEok Q (⟨n, f, ⟨[.agg [.d (.sl a0y), .d tI, .d (.sl tU)], .agg [.d (.sl a0n), .d (.ar 16 tI)], .agg q_5, .agg [.d (.sl tI), .d (.sl tI)], .one (.d tI), .agg q_0], []⟩, [.one (.d tB)], true, []⟩, mkF [a0p, a0m, a0l, a0F, pI, a0d] [pB] e))
  (he : ∀ (x0 : a0s) (x1 : a0g) (x2 : a0f) (x3 : a0w) (x4 : Int) (x5 : a0b), x1.Owner.length = 16 → Wd x5 → e x0 x1 x2 x3 x4 x5 = some (0, gB.dv true []))
  {c0 : Array Value}    {c1 : Array Value}    {c2 : Array Value}    {c3 : Array Value}    {a4 : Int}    {c5 : Array Value}
  (g0 : ∃ v, RepD (fun b => b < w.heap.size) w tPrg v c0.toList ∧ wf tPrg v)
  (g1 : ∃ v, RepD (fun b => b < w.heap.size) w tSpl v c1.toList ∧ wf tSpl v)
  (g2 : ∃ v, RepD (fun b => b < w.heap.size) w tCfg v c2.toList ∧ wf tCfg v)
  (g3 : ∃ v, RepD (fun b => b < w.heap.size) w tScr v c3.toList ∧ wf tScr v)
  (g5 : ∃ v, RepD (fun b => b < w.heap.size) w tSta v c5.toList ∧ wf tSta v) :
  Calls Q f #[.agg c0, .agg c1, .agg c2, .agg c3, .int .i64 a4, .agg c5] w fun e w' => e = .returned (.bool true) ∧ RowKit.Below w.heap.size w w' := by
 obtain ⟨v0, h0, w0⟩ := g0;obtain ⟨v1, h1, w1⟩ := g1;obtain ⟨v2, h2, w2⟩ := g2;obtain ⟨v3, h3, w3⟩ := g3;obtain ⟨v5, h5, w5⟩ := g5;have hc := e3F (ys := (a1d.to v0, a0H.to v1, a0D.to v2, a1P.to v3, a4, stOf v5, ())) (zs := (true, ())) h (he _ _ _ _ _ _ (own16 w1) (f1b w5));refine d5y (vs := [.agg c0, .agg c1, .agg c2, .agg c3, .int .i64 a4, .agg c5]) (b := true) hc rfl rfl rfl rfl rfl ?_;have := (c8u (c0k (β := fun _ => nilEI .unit) h0) (c8u (c0k h1) (c8u (c0k h2) (c8u (c0k h3) (e3b (k := .i64) (x := a4) (c8u (c0k h5) (.nil [])))))));exact this
section
open Go.ChangeShapes
variable {H : Type} {enc : TypeId × Value → H} {P : Program} {w : World} {base : Nat} {spare : Nat → Bool} {held : Bool}
theorem trodAllRt {t0 t1 t2 t3 t4 t5 : TypeId} {args : Array Value} {ds : List (DataW H)} {ps : List MemPlace} (h : DataW.TrodAll enc P w base spare held [t0, t1, t2, t3, t4, t5] args.toList ds ps) :
  ∃ v0 v1 v2 v3 v4 v5 d0 d1 d2 d3 d4 d5 p0 p1 p2 p3 p4 p5, args = #[v0, v1, v2, v3, v4, v5] ∧ ds = [d0, d1, d2, d3, d4, d5] ∧ ps = p0 ++ (p1 ++ (p2 ++ (p3 ++ (p4 ++ (p5 ++ []))))) ∧ DataW.Trod enc P w base spare held t0 v0 d0 p0 ∧ DataW.Trod enc P w base spare held t1 v1 d1 p1 ∧ DataW.Trod enc P w base spare held t2 v2 d2 p2 ∧ DataW.Trod enc P w base spare held t3 v3 d3 p3 ∧ DataW.Trod enc P w base spare held t4 v4 d4 p4 ∧ DataW.Trod enc P w base spare held t5 v5 d5 p5 := by
 obtain ⟨v0, l0, d0, m0, p0, q0, hargs, rfl, rfl, h0, r0⟩ := trodAll_cons h;obtain ⟨v1, l1, d1, m1, p1, q1, rfl, rfl, rfl, h1, r1⟩ := trodAll_cons r0;obtain ⟨v2, l2, d2, m2, p2, q2, rfl, rfl, rfl, h2, r2⟩ := trodAll_cons r1;obtain ⟨v3, l3, d3, m3, p3, q3, rfl, rfl, rfl, h3, r3⟩ := trodAll_cons r2;obtain ⟨v4, l4, d4, m4, p4, q4, rfl, rfl, rfl, h4, r4⟩ := trodAll_cons r3;obtain ⟨v5, l5, d5, m5, p5, q5, rfl, rfl, rfl, h5, r5⟩ := trodAll_cons r4;obtain ⟨rfl, rfl, rfl⟩ := trodAll_nil r5;exact ⟨v0, v1, v2, v3, v4, v5, d0, d1, d2, d3, d4, d5, p0, p1, p2, p3, p4, p5, by cases args; simp_all, rfl, rfl, h0, h1, h2, h3, h4, h5⟩
end
end Go.Proofs.Zz
namespace Go.Proofs.YtnfpdmhdpeffjaaGreat.runTells
open Go.ChangeShapes Go.WideShapes Go.ChangeAt Go.RowKit
open Go.Proofs.Zz
theorem own : ownKnob Tryz.prog.godebug = none := by kernel_rfl
theorem laidOut : laidOutB Tryz.prog = true := by kernel_rfl
set_option maxRecDepth 100000 in
theorem lifted (os : Os) (started : os.Started) (H : Type) (enc : TypeId × Value → H) :
  ReturnsInHanded {} Tryz.checked os 17 .any (Rows.runTellsSpec.pre6 enc Tryz.prog Tryz.f17 Rows.runTellsRow.domain false) (Rows.runTellsSpec.post enc Tryz.prog Tryz.f17 false true false false) := by
 refine returnsInHanded_of_change (C := Tryz.checked) own started (by kernel_rfl) Tryz.func17
  (ChangeSpec.witness6 (enc := enc) (C := Tryz.checked) false ⟨#[], #[.agg #[.slice none 0 0, .int .i64 0, .slice none 0 0], .agg (#[.slice none 0 0] ++ Array.replicate 16 (.int .i64 0)), .agg (Array.replicate 12 (.int .i64 0)), .agg #[.slice none 0 0, .slice none 0 0], .int .i64 0, .agg ((Array.replicate 1 (.int .i64 0)) ++ (Array.replicate 16 (.int .u32 0) ++ Array.replicate 16 (.int .i64 0) ++ Array.replicate 4 (.int .i64 0) ++ #[.bool false, .int .i64 0]) ++ (Array.replicate 16 (.int .u32 0) ++ Array.replicate 16 (.int .i64 0) ++ Array.replicate 4 (.int .i64 0) ++ #[.bool false, .int .i64 0]) ++ Array.replicate 9 (.slice none 0 0) ++ Array.replicate 6 (.int .i64 0))], []⟩ 8 (by kernel_rfl) (by kernel_rfl) (by kernel_rfl) (by kernel_rfl)) ?_
 intro W base args ds gs before hval0 hW hcnd _
 have hval : ∀ (j : Nat) t v, Tryz.f17.params[j]? = some t → args[j]? = some v → Value.okWide Tryz.prog W .any base t v := hval0
 have hW' := hW
 obtain ⟨p, q, hA0, hV, rfl, hfz, hnd⟩ := hW
 have hA : DataW.TrodAll enc Tryz.prog W 0 (fun _ => true) true Tryz.f17.params.toList args.toList ds p := hA0
 rw [Tryz.params17] at hA hval
 obtain ⟨v0, v1, v2, v3, v4, v5, d0, d1, d2, d3, d4, d5, p0, p1, p2, p3, p4, p5, rfl, rfl, rfl, h0, h1, h2, h3, h4, h5⟩ := trodAllRt hA
 obtain ⟨rfl, rfl⟩ := trodVars_none hV
 obtain ⟨c0, rfl, _⟩ := okWide_struct Tryz.underlying27 (hval 0 27 v0 rfl rfl)
 obtain ⟨c1, rfl, _⟩ := okWide_struct Tryz.underlying52 (hval 1 52 v1 rfl rfl)
 obtain ⟨c2, rfl, _⟩ := okWide_struct Tryz.underlying23 (hval 2 23 v2 rfl rfl)
 obtain ⟨c3, rfl, _⟩ := okWide_struct Tryz.underlying87 (hval 3 87 v3 rfl rfl)
 obtain ⟨a4, rfl, rfl, rfl, wa4⟩ := open_int Tryz.underlying3 (hval 4 3 v4 rfl rfl) h4
 obtain ⟨c5, rfl, _⟩ := okWide_struct Tryz.underlying44 (hval 5 44 v5 rfl rfl)
 have k0 := h0
 have k1 := h1
 have k2 := h2
 have k3 := h3
 have k5 := h5
 have lt0 : ∀ x ∈ p0, x.block < W.heap.size := by obtain ⟨m, hm⟩ := k0; exact DataW.trod_lt m _ _ _ hm
 have lt1 : ∀ x ∈ p1, x.block < W.heap.size := by obtain ⟨m, hm⟩ := k1; exact DataW.trod_lt m _ _ _ hm
 have lt2 : ∀ x ∈ p2, x.block < W.heap.size := by obtain ⟨m, hm⟩ := k2; exact DataW.trod_lt m _ _ _ hm
 have lt3 : ∀ x ∈ p3, x.block < W.heap.size := by obtain ⟨m, hm⟩ := k3; exact DataW.trod_lt m _ _ _ hm
 have lt5 : ∀ x ∈ p5, x.block < W.heap.size := by obtain ⟨m, hm⟩ := k5; exact DataW.trod_lt m _ _ _ hm
 have hcall := law_callRt (w := W) (a4 := a4) (g1K 200000) (fun p s c t f x ho _ => g2x p s c t f x ho)
  (a2W (enc := enc) (P := Tryz.prog) (w := W) 8 27 tPrg _ (by kernel_rfl) (by obtain ⟨m, hm⟩ := h0; exact ⟨m, _, hm⟩))
  (a2W (enc := enc) (P := Tryz.prog) (w := W) 8 52 tSpl _ (by kernel_rfl) (by obtain ⟨m, hm⟩ := h1; exact ⟨m, _, hm⟩))
  (a2W (enc := enc) (P := Tryz.prog) (w := W) 8 23 tCfg _ (by kernel_rfl) (by obtain ⟨m, hm⟩ := h2; exact ⟨m, _, hm⟩))
  (a2W (enc := enc) (P := Tryz.prog) (w := W) 8 87 tScr _ (by kernel_rfl) (by obtain ⟨m, hm⟩ := h3; exact ⟨m, _, hm⟩))
  (a2W (enc := enc) (P := Tryz.prog) (w := W) 8 44 tSta _ (by kernel_rfl) (by obtain ⟨m, hm⟩ := h5; exact ⟨m, _, hm⟩))
 refine hcall.mono fun e W' ⟨he, bel⟩ => ?_
 subst he
 exact ⟨_, rfl, _, _, _, [], _, [], hW', trodAll_mk1 (shut_bool Tryz.underlying4 _), (trodAll_cons_mk (Below.trod laidOut (by kernel_rfl) (of_decide_eq_true (by kernel_rfl)) k0 bel lt0) (trodAll_cons_mk (Below.trod laidOut (by kernel_rfl) (of_decide_eq_true (by kernel_rfl)) k1 bel lt1) (trodAll_cons_mk (Below.trod laidOut (by kernel_rfl) (of_decide_eq_true (by kernel_rfl)) k2 bel lt2) (trodAll_cons_mk (Below.trod laidOut (by kernel_rfl) (of_decide_eq_true (by kernel_rfl)) k3 bel lt3) (trodAll_cons_mk (shut_int Tryz.underlying3 wa4) (trodAll_cons_mk (Below.trod laidOut (by kernel_rfl) (of_decide_eq_true (by kernel_rfl)) k5 bel lt5) trodAll_mk0)))))), rfl, bel.frame _, fun h => by cases h⟩
end Go.Proofs.YtnfpdmhdpeffjaaGreat.runTells
