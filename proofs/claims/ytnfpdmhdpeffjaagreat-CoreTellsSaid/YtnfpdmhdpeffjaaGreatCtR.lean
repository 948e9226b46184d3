import Derived.Test.YtnfpdmhdpeffjaaGreatRows
import Derived.Test.YtnfpdmhdpeffjaaGreatMK
import Derived.Test.YtnfpdmhdpeffjaaGreatRB
import Derived.WalkKit
import Derived.ProofKit
import Derived.OpenShut
import Derived.ChangeOld
import Derived.Below
import Derived.Carry
import Derived.SizedLaws
set_option linter.unusedSimpArgs false
set_option linter.unusedVariables false
/- CoreTells: for every input the law returns true. No condition. -/
namespace Go.Proofs.YtnfpdmhdpeffjaaGreat.coreTells
open Go.ChangeShapes Go.WideShapes Go.ChangeAt Go.RowKit
open Go.Proofs.Zz
theorem own : ownKnob Tryz.prog.godebug = none := by kernel_rfl
theorem laidOut : laidOutB Tryz.prog = true := by kernel_rfl
set_option maxRecDepth 100000 in
theorem lifted (os : Os) (started : os.Started) (H : Type) (enc : TypeId × Value → H) :
  ReturnsInHanded {} Tryz.checked os 11 .any (Rows.coreTellsSpec.pre6 enc Tryz.prog Tryz.f11 Rows.coreTellsRow.domain false) (Rows.coreTellsSpec.post enc Tryz.prog Tryz.f11 false true false false) := by
 refine returnsInHanded_of_change (C := Tryz.checked) own started (by kernel_rfl) Tryz.func11
  (ChangeSpec.witness6 (enc := enc) (C := Tryz.checked) false ⟨#[], #[.agg (Array.replicate 12 (.int .i64 0)), .agg #[.slice none 0 0, .int .i64 0, .slice none 0 0], .int .i64 0, .agg #[.slice none 0 0, .slice none 0 0], .agg ((Array.replicate 1 (.int .i64 0)) ++ (Array.replicate 16 (.int .u32 0) ++ Array.replicate 16 (.int .i64 0) ++ Array.replicate 4 (.int .i64 0) ++ #[.bool false, .int .i64 0]) ++ (Array.replicate 16 (.int .u32 0) ++ Array.replicate 16 (.int .i64 0) ++ Array.replicate 4 (.int .i64 0) ++ #[.bool false, .int .i64 0]) ++ Array.replicate 9 (.slice none 0 0) ++ Array.replicate 6 (.int .i64 0))], []⟩ 8 (by kernel_rfl) (by kernel_rfl) (by kernel_rfl) (by kernel_rfl)) ?_
 intro W base args ds gs before hval0 hW hcnd _
 have hval : ∀ (j : Nat) t v, Tryz.f11.params[j]? = some t → args[j]? = some v → Value.okWide Tryz.prog W .any base t v := hval0
 have hW' := hW
 obtain ⟨p, q, hA0, hV, rfl, hfz, hnd⟩ := hW
 have hA : DataW.TrodAll enc Tryz.prog W 0 (fun _ => true) true Tryz.f11.params.toList args.toList ds p := hA0
 rw [Tryz.params11] at hA hval
 obtain ⟨v0, v1, v2, v3, v4, d0, d1, d2, d3, d4, p0, p1, p2, p3, p4, rfl, rfl, rfl, h0, h1, h2, h3, h4⟩ := c5M hA
 obtain ⟨rfl, rfl⟩ := trodVars_none hV
 obtain ⟨c0, rfl, _⟩ := okWide_struct Tryz.underlying23 (hval 0 23 v0 rfl rfl)
 obtain ⟨c1, rfl, _⟩ := okWide_struct Tryz.underlying27 (hval 1 27 v1 rfl rfl)
 obtain ⟨a, rfl, rfl, rfl, wa⟩ := open_int Tryz.underlying3 (hval 2 3 v2 rfl rfl) h2
 obtain ⟨c3, rfl, _⟩ := okWide_struct Tryz.underlying87 (hval 3 87 v3 rfl rfl)
 obtain ⟨c4, rfl, _⟩ := okWide_struct Tryz.underlying44 (hval 4 44 v4 rfl rfl)
 have k4 := h4
 have k0 := h0
 have k1 := h1
 have k3 := h3
 have lt0 : ∀ x ∈ p0, x.block < W.heap.size := by obtain ⟨m, hm⟩ := k0; exact DataW.trod_lt m _ _ _ hm
 have lt1 : ∀ x ∈ p1, x.block < W.heap.size := by obtain ⟨m, hm⟩ := k1; exact DataW.trod_lt m _ _ _ hm
 have lt3 : ∀ x ∈ p3, x.block < W.heap.size := by obtain ⟨m, hm⟩ := k3; exact DataW.trod_lt m _ _ _ hm
 have lt4 : ∀ x ∈ p4, x.block < W.heap.size := by obtain ⟨m, hm⟩ := k4; exact DataW.trod_lt m _ _ _ hm
 have hcall := e3E (w := W) (k := a) (c7O 20000) c9T
  (a2W (enc := enc) (P := Tryz.prog) (w := W) 8 23 tCfg _ (by kernel_rfl) (by obtain ⟨m, hm⟩ := h0; exact ⟨m, _, hm⟩))
  (a2W (enc := enc) (P := Tryz.prog) (w := W) 8 27 tPrg _ (by kernel_rfl) (by obtain ⟨m, hm⟩ := h1; exact ⟨m, _, hm⟩))
  (a2W (enc := enc) (P := Tryz.prog) (w := W) 8 87 tScr _ (by kernel_rfl) (by obtain ⟨m, hm⟩ := h3; exact ⟨m, _, hm⟩))
  (a2W (enc := enc) (P := Tryz.prog) (w := W) 8 44 tSta _ (by kernel_rfl) (by obtain ⟨m, hm⟩ := h4; exact ⟨m, _, hm⟩))
 refine hcall.mono fun e W' ⟨he, bel⟩ => ?_
 subst he
 exact ⟨_, rfl, _, _, _, [], _, [], hW', trodAll_mk1 (shut_bool Tryz.underlying4 _), (trodAll_cons_mk (Below.trod laidOut (by kernel_rfl) (of_decide_eq_true (by kernel_rfl)) k0 bel lt0) (trodAll_cons_mk (Below.trod laidOut (by kernel_rfl) (of_decide_eq_true (by kernel_rfl)) k1 bel lt1) (trodAll_cons_mk (shut_int Tryz.underlying3 wa) (trodAll_cons_mk (Below.trod laidOut (by kernel_rfl) (of_decide_eq_true (by kernel_rfl)) k3 bel lt3) (trodAll_cons_mk (Below.trod laidOut (by kernel_rfl) (of_decide_eq_true (by kernel_rfl)) k4 bel lt4) trodAll_mk0))))), rfl, bel.frame _, fun h => by cases h⟩
end Go.Proofs.YtnfpdmhdpeffjaaGreat.coreTells
