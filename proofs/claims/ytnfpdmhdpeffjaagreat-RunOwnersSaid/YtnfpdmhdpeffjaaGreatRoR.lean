import Derived.Test.YtnfpdmhdpeffjaaGreatRows
import Derived.Test.YtnfpdmhdpeffjaaGreatYF
import Derived.Test.YtnfpdmhdpeffjaaGreatRA
import Derived.WalkKit
import Derived.ProofKit
import Derived.OpenShut
import Derived.ChangeOld
import Derived.Below
import Derived.Carry
import Derived.SizedLaws
set_option linter.unusedSimpArgs false
set_option linter.unusedVariables false
/- RunOwners: for every input the law returns true. No condition. -/
namespace Go.Proofs.Zz
open Go
set_option maxRecDepth 100000
theorem law_callRo {w : World} {f n : Nat} {e : Fn' (Option Rs) [a0p, pI, pI, a0l, a0F]} (h : CEok Q (⟨n, f, ⟨[.agg [.d (.sl a0y), .d tI, .d (.sl tU)], .one (.d tI), .one (.d tI), .agg q_5, .agg [.d (.sl tI), .d (.sl tI)]], []⟩, [.one (.d tB)], true, []⟩, mkF [a0p, pI, pI, a0l, a0F] [pB] e))
  (he : ∀ (x0 : a0s) (x1 : Int) (x2 : Int) (x3 : a0f) (x4 : a0w), e x0 x1 x2 x3 x4 = some (0, gB.dv true []))
  {c0 : Array Value}    {a1 : Int}    {a2 : Int}    {c3 : Array Value}    {c4 : Array Value}
  (g0 : ∃ v, RepD (fun b => b < w.heap.size) w tPrg v c0.toList ∧ wf tPrg v)
  (g3 : ∃ v, RepD (fun b => b < w.heap.size) w tCfg v c3.toList ∧ wf tCfg v)
  (g4 : ∃ v, RepD (fun b => b < w.heap.size) w tScr v c4.toList ∧ wf tScr v) :
  Calls Q f #[.agg c0, .int .i64 a1, .int .i64 a2, .agg c3, .agg c4] w fun e w' => e = .returned (.bool true) ∧ RowKit.Below w.heap.size w w' := by
 obtain ⟨v0, h0, w0⟩ := g0;obtain ⟨v3, h3, w3⟩ := g3;obtain ⟨v4, h4, w4⟩ := g4;have hc := e3F (ys := (a1d.to v0, a1, a2, a0D.to v3, a1P.to v4, ())) (zs := (true, ())) h (he _ _ _ _ _);refine d5y (vs := [.agg c0, .int .i64 a1, .int .i64 a2, .agg c3, .agg c4]) (b := true) hc rfl rfl rfl rfl rfl ?_;have := (c8u (c0k (β := fun _ => nilEI .unit) h0) (e3b (k := .i64) (x := a1) (e3b (k := .i64) (x := a2) (c8u (c0k h3) (c8u (c0k h4) (.nil []))))));exact this
section
open Go.ChangeShapes
variable {H : Type} {enc : TypeId × Value → H} {P : Program} {w : World} {base : Nat} {spare : Nat → Bool} {held : Bool}
theorem trodAllRo {t0 t1 t2 t3 t4 : TypeId} {args : Array Value} {ds : List (DataW H)} {ps : List MemPlace} (h : DataW.TrodAll enc P w base spare held [t0, t1, t2, t3, t4] args.toList ds ps) :
  ∃ v0 v1 v2 v3 v4 d0 d1 d2 d3 d4 p0 p1 p2 p3 p4, args = #[v0, v1, v2, v3, v4] ∧ ds = [d0, d1, d2, d3, d4] ∧ ps = p0 ++ (p1 ++ (p2 ++ (p3 ++ (p4 ++ [])))) ∧ DataW.Trod enc P w base spare held t0 v0 d0 p0 ∧ DataW.Trod enc P w base spare held t1 v1 d1 p1 ∧ DataW.Trod enc P w base spare held t2 v2 d2 p2 ∧ DataW.Trod enc P w base spare held t3 v3 d3 p3 ∧ DataW.Trod enc P w base spare held t4 v4 d4 p4 := by
 obtain ⟨v0, l0, d0, m0, p0, q0, hargs, rfl, rfl, h0, r0⟩ := trodAll_cons h;obtain ⟨v1, l1, d1, m1, p1, q1, rfl, rfl, rfl, h1, r1⟩ := trodAll_cons r0;obtain ⟨v2, l2, d2, m2, p2, q2, rfl, rfl, rfl, h2, r2⟩ := trodAll_cons r1;obtain ⟨v3, l3, d3, m3, p3, q3, rfl, rfl, rfl, h3, r3⟩ := trodAll_cons r2;obtain ⟨v4, l4, d4, m4, p4, q4, rfl, rfl, rfl, h4, r4⟩ := trodAll_cons r3;obtain ⟨rfl, rfl, rfl⟩ := trodAll_nil r4;exact ⟨v0, v1, v2, v3, v4, d0, d1, d2, d3, d4, p0, p1, p2, p3, p4, by cases args; simp_all, rfl, rfl, h0, h1, h2, h3, h4⟩
end
end Go.Proofs.Zz
namespace Go.Proofs.YtnfpdmhdpeffjaaGreat.runOwners
open Go.ChangeShapes Go.WideShapes Go.ChangeAt Go.RowKit
open Go.Proofs.Zz
theorem own : ownKnob Tryz.prog.godebug = none := by kernel_rfl
theorem laidOut : laidOutB Tryz.prog = true := by kernel_rfl
set_option maxRecDepth 100000 in
theorem lifted (os : Os) (started : os.Started) (H : Type) (enc : TypeId × Value → H) :
  ReturnsInHanded {} Tryz.checked os 20 .any (Rows.runOwnersSpec.pre6 enc Tryz.prog Tryz.f20 Rows.runOwnersRow.domain false) (Rows.runOwnersSpec.post enc Tryz.prog Tryz.f20 false true false false) := by
 refine returnsInHanded_of_change (C := Tryz.checked) own started (by kernel_rfl) Tryz.func20
  (ChangeSpec.witness6 (enc := enc) (C := Tryz.checked) false ⟨#[], #[.agg #[.slice none 0 0, .int .i64 0, .slice none 0 0], .int .i64 0, .int .i64 0, .agg (Array.replicate 12 (.int .i64 0)), .agg #[.slice none 0 0, .slice none 0 0]], []⟩ 8 (by kernel_rfl) (by kernel_rfl) (by kernel_rfl) (by kernel_rfl)) ?_
 intro W base args ds gs before hval0 hW hcnd _
 have hval : ∀ (j : Nat) t v, Tryz.f20.params[j]? = some t → args[j]? = some v → Value.okWide Tryz.prog W .any base t v := hval0
 have hW' := hW
 obtain ⟨p, q, hA0, hV, rfl, hfz, hnd⟩ := hW
 have hA : DataW.TrodAll enc Tryz.prog W 0 (fun _ => true) true Tryz.f20.params.toList args.toList ds p := hA0
 rw [Tryz.params20] at hA hval
 obtain ⟨v0, v1, v2, v3, v4, d0, d1, d2, d3, d4, p0, p1, p2, p3, p4, rfl, rfl, rfl, h0, h1, h2, h3, h4⟩ := trodAllRo hA
 obtain ⟨rfl, rfl⟩ := trodVars_none hV
 obtain ⟨c0, rfl, _⟩ := okWide_struct Tryz.underlying27 (hval 0 27 v0 rfl rfl)
 obtain ⟨a1, rfl, rfl, rfl, wa1⟩ := open_int Tryz.underlying3 (hval 1 3 v1 rfl rfl) h1
 obtain ⟨a2, rfl, rfl, rfl, wa2⟩ := open_int Tryz.underlying3 (hval 2 3 v2 rfl rfl) h2
 obtain ⟨c3, rfl, _⟩ := okWide_struct Tryz.underlying23 (hval 3 23 v3 rfl rfl)
 obtain ⟨c4, rfl, _⟩ := okWide_struct Tryz.underlying87 (hval 4 87 v4 rfl rfl)
 have k0 := h0
 have k3 := h3
 have k4 := h4
 have lt0 : ∀ x ∈ p0, x.block < W.heap.size := by obtain ⟨m, hm⟩ := k0; exact DataW.trod_lt m _ _ _ hm
 have lt3 : ∀ x ∈ p3, x.block < W.heap.size := by obtain ⟨m, hm⟩ := k3; exact DataW.trod_lt m _ _ _ hm
 have lt4 : ∀ x ∈ p4, x.block < W.heap.size := by obtain ⟨m, hm⟩ := k4; exact DataW.trod_lt m _ _ _ hm
 have hcall := law_callRo (w := W) (a1 := a1) (a2 := a2) (g8U 200000) g9k
  (a2W (enc := enc) (P := Tryz.prog) (w := W) 8 27 tPrg _ (by kernel_rfl) (by obtain ⟨m, hm⟩ := h0; exact ⟨m, _, hm⟩))
  (a2W (enc := enc) (P := Tryz.prog) (w := W) 8 23 tCfg _ (by kernel_rfl) (by obtain ⟨m, hm⟩ := h3; exact ⟨m, _, hm⟩))
  (a2W (enc := enc) (P := Tryz.prog) (w := W) 8 87 tScr _ (by kernel_rfl) (by obtain ⟨m, hm⟩ := h4; exact ⟨m, _, hm⟩))
 refine hcall.mono fun e W' ⟨he, bel⟩ => ?_
 subst he
 exact ⟨_, rfl, _, _, _, [], _, [], hW', trodAll_mk1 (shut_bool Tryz.underlying4 _), (trodAll_cons_mk (Below.trod laidOut (by kernel_rfl) (of_decide_eq_true (by kernel_rfl)) k0 bel lt0) (trodAll_cons_mk (shut_int Tryz.underlying3 wa1) (trodAll_cons_mk (shut_int Tryz.underlying3 wa2) (trodAll_cons_mk (Below.trod laidOut (by kernel_rfl) (of_decide_eq_true (by kernel_rfl)) k3 bel lt3) (trodAll_cons_mk (Below.trod laidOut (by kernel_rfl) (of_decide_eq_true (by kernel_rfl)) k4 bel lt4) trodAll_mk0))))), rfl, bel.frame _, fun h => by cases h⟩
end Go.Proofs.YtnfpdmhdpeffjaaGreat.runOwners
