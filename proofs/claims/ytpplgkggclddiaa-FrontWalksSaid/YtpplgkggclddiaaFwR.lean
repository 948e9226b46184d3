import Derived.Test.YtpplgkggclddiaaRows
import Derived.Test.YtpplgkggclddiaaFwL
import Derived.Test.YtpplgkggclddiaaEnhS
import Derived.Test.YtpplgkggclddiaaEnhK
import Derived.WalkKit
import Derived.ProofKit
import Derived.OpenShut
import Derived.ShutString
import Derived.ChangeOld
import Derived.Below
import Derived.Carry
import Derived.SizedLaws
set_option linter.unusedSimpArgs false
set_option linter.unusedVariables false
/- FrontWalks: for every input the law returns true. No condition. -/
namespace Go.Proofs.Zz
open Go
set_option maxRecDepth 100000
abbrev tPrF : Ty := .pair (.sl t_api_Ins) (.pair tI (.pair (.sl tU) .unit))
theorem law_callFw {w : World} {f n : Nat} {e : Fn' (Option Rs) [p_api_Program, pB, pI]} (h : CEok Q (⟨n, f, ⟨[.agg [.d (.sl t_api_Ins), .d tI, .d (.sl tU)], .one (.d tB), .one (.d tI)], []⟩, [.one (.d tB)], true, []⟩, mkF [p_api_Program, pB, pI] [pB] e))
  (he : ∀ (x0 : api_Program) (x1 : Bool) (x2 : Int), e x0 x1 x2 = some (0, gB.dv true [])) {c0 : Array Value} {y1 : Bool} {a2 : Int}
  (g0 : ∃ v, RepD (fun b => b < w.heap.size) w tPrF v c0.toList ∧ wf tPrF v) :
  Calls Q f #[.agg c0, .bool y1, .int .i64 a2] w fun e w' => e = .returned (.bool true) ∧ RowKit.Below w.heap.size w w' := by
 obtain ⟨v0, h0, w0⟩ := g0;have hc := call_of (ys := (g_api_Program.to v0, y1, a2, ())) (zs := (true, ())) h (he _ _ _);refine law_calls (vs := [.agg c0, .bool y1, .int .i64 a2]) (b := true) hc rfl rfl rfl rfl rfl ?_;have := (as_agg (ks_flat (β := fun _ => nilEI .unit) h0) (as_bool (x := y1) (as_int (k := .i64) (x := a2) (.nil []))));exact this
end Go.Proofs.Zz
namespace Go.Proofs.Ytpplgkggclddiaa.frontWalks
open Go.ChangeShapes Go.WideShapes Go.ChangeAt Go.RowKit
open Go.Proofs.Zz
theorem own : ownKnob Try.prog.godebug = none := by kernel_rfl
theorem laidOut : laidOutB Try.prog = true := by kernel_rfl
set_option maxRecDepth 100000 in
theorem lifted (os : Os) (started : os.Started) (H : Type) (enc : TypeId × Value → H) :
  ReturnsInHanded {} Try.checked os 3 .any (Rows.frontWalksSpec.pre6 enc Try.prog Try.f3 Rows.frontWalksRow.domain false) (Rows.frontWalksSpec.post enc Try.prog Try.f3 false true false false) := by
 refine returnsInHanded_of_change (C := Try.checked) own started (by kernel_rfl) Try.func3
  (ChangeSpec.witness6 (enc := enc) (C := Try.checked) false ⟨#[], #[.agg #[.slice none 0 0, .int .i64 0, .slice none 0 0], .bool false, .int .i64 0], []⟩ 8 (by kernel_rfl) (by kernel_rfl) (by kernel_rfl) (by kernel_rfl)) ?_
 intro W base args ds gs before hval0 hW hcnd _
 have hval : ∀ (j : Nat) t v, Try.f3.params[j]? = some t → args[j]? = some v → Value.okWide Try.prog W .any base t v := hval0
 have hW' := hW
 obtain ⟨p, q, hA0, hV, rfl, hfz, hnd⟩ := hW
 have hA : DataW.TrodAll enc Try.prog W 0 (fun _ => true) true Try.f3.params.toList args.toList ds p := hA0
 rw [Try.params3] at hA hval
 obtain ⟨v0, v1, v2, d0, d1, d2, p0, p1, p2, rfl, rfl, rfl, h0, h1, h2⟩ := trodAll_three hA
 obtain ⟨rfl, rfl⟩ := trodVars_none hV
 obtain ⟨cs, rfl, _⟩ := okWide_struct Try.underlying25 (hval 0 25 v0 rfl rfl)
 obtain ⟨y, rfl, rfl, rfl⟩ := open_bool Try.underlying4 (hval 1 4 v1 rfl rfl) h1
 obtain ⟨b, rfl, rfl, rfl, wb⟩ := open_int Try.underlying3 (hval 2 3 v2 rfl rfl) h2
 have k0 := h0
 have lt0 : ∀ x ∈ p0, x.block < W.heap.size := by obtain ⟨m, hm⟩ := k0; exact DataW.trod_lt m _ _ _ hm
 have hcall := law_callFw (w := W) (y1 := y) (a2 := b) (Y_l20_FrontWalks 200000) FrontWalks_true
  (rep_of_trod (enc := enc) (P := Try.prog) (w := W) 8 25 tPrF _ (by kernel_rfl) (by obtain ⟨m, hm⟩ := h0; exact ⟨m, _, hm⟩))
 refine hcall.mono fun e W' ⟨he, bel⟩ => ?_
 subst he
 exact ⟨_, rfl, _, _, _, [], _, [], hW', trodAll_mk1 (shut_bool Try.underlying4 _), (trodAll_cons_mk (Below.trod laidOut (by kernel_rfl) (of_decide_eq_true (by kernel_rfl)) k0 bel lt0) (trodAll_cons_mk (shut_bool Try.underlying4 y) (trodAll_cons_mk (shut_int Try.underlying3 wb) trodAll_mk0))), rfl, bel.frame _, fun h => by cases h⟩
theorem over : Rows.frontWalksRow.holds Try.pinned (OpenSpec.ofChange Rows.frontWalksSpec) :=
 OpenClaim.holds_of_wide 3 Try.f3 rfl rfl rfl rfl rfl rfl rfl ⟨rfl, rfl, rfl, rfl, rfl⟩ rfl rfl rfl rfl rfl (by kernel_rfl) Try.func3 (by kernel_rfl)
  (of_decide_eq_true (by kernel_rfl)) (by unfold Func.isWrapper; first | (rw [if_pos (by decide +kernel)]; kernel_rfl) | (rw [if_neg (by decide +kernel)]; exact ⟨rfl, rfl⟩))
  (fun os started H enc _ => lifted os started H enc)
theorem proved : Rows.FrontWalksSaid := over
end Go.Proofs.Ytpplgkggclddiaa.frontWalks
namespace Go.Proofs.Ytpplgkggclddiaa
theorem frontWalks_holds : Rows.FrontWalksSaid := frontWalks.proved
#print axioms frontWalks_holds
end Go.Proofs.Ytpplgkggclddiaa
