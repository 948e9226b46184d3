import Derived.Test.YtnfpdmhdpeffjaaGreatM10
import Derived.Test.YtnfpdmhdpeffjaaGreatEnhT
import Derived.KernelRfl
set_option linter.unusedSimpArgs false
set_option linter.unusedVariables false
/- Rows of laws over (Config, Program, int, State): the law's call. -/
set_option linter.unusedVariables false
set_option maxRecDepth 100000
namespace Go.Proofs.Zz
open Go
abbrev tCfg : Ty := .pair tI (.pair tI (.pair tI (.pair tI (.pair tI (.pair tI (.pair tI (.pair tI (.pair tI (.pair tI (.pair tI (.pair tI .unit)))))))))))
abbrev tPrg : Ty := .pair (.sl t_api_Ins) (.pair tI (.pair (.sl tU) .unit))
abbrev tSide : Ty := .pair (.ar 16 tW) (.pair (.ar 16 tI) (.pair (.pair tI (.pair tI (.pair tI .unit))) (.pair tI (.pair tB (.pair tI .unit)))))
abbrev tSta : Ty := .pair tI (.pair tSide (.pair tSide (.pair (.sl t_api_Slot) (.pair (.sl tW) (.pair (.sl tW) (.pair (.sl tB) (.pair (.sl tB) (.pair (.sl t_api_Entry) (.pair (.sl t_api_Request) (.pair (.sl tU) (.pair (.sl t_api_Write) (.pair (.pair tI (.pair tI (.pair tI .unit))) (.pair tI (.pair tI (.pair tI .unit)))))))))))))))
noncomputable def stOf (v : Den tSta) : api_State := gr_api_State.to (v, ())
theorem typed_of {v : Den tSta} (h : wf tSta v) : Typed (stOf v) := by
  obtain ⟨_, ⟨⟨_, a1⟩, ⟨a2, _⟩, _⟩, ⟨⟨_, b1⟩, ⟨b2, _⟩, _⟩, _⟩ := h
  have hu : ∀ x : Int, (Lit.int .u32 x).wf = true → U32 x := by
    intro x hx
    simp only [Lit.wf, Bool.and_eq_true, decide_eq_true_eq] at hx
    exact hx
  exact ⟨a2, b2, fun r hr => hu r (a1 r hr), fun r hr => hu r (b1 r hr)⟩
section
variable {w : World}
theorem law_call4 {f n : Nat} {e : Fn' (Option Rs) [p_api_Config, p_api_Program, pI, p_api_State]} (h : CEok Q (⟨n, f, ⟨[.agg q_5, .agg [.d (.sl t_api_Ins), .d tI, .d (.sl tU)], .one (.d tI), .agg q_0], []⟩, [.one (.d tB)], true, []⟩, mkF [p_api_Config, p_api_Program, pI, p_api_State] [pB] e))
    (he : ∀ (c : api_Config) (p : api_Program) (k : Int) (x : api_State), Typed x → e c p k x = some (0, gB.dv true []))
    {c0 c1 c3 : Array Value} {k : Int} (g0 : ∃ v, RepD (fun b => b < w.heap.size) w tCfg v c0.toList ∧ wf tCfg v) (g1 : ∃ v, RepD (fun b => b < w.heap.size) w tPrg v c1.toList ∧ wf tPrg v) (g3 : ∃ v, RepD (fun b => b < w.heap.size) w tSta v c3.toList ∧ wf tSta v) :
    Calls Q f #[.agg c0, .agg c1, .int .i64 k, .agg c3] w fun e w' => e = .returned (.bool true) ∧ RowKit.Below w.heap.size w w' := by
  obtain ⟨v0, h0, _⟩ := g0
  obtain ⟨v1, h1, _⟩ := g1
  obtain ⟨v3, h3, w3⟩ := g3
  have hc := call_of (ys := (g_api_Config.to v0, g_api_Program.to v1, k, stOf v3, ())) (zs := (true, ())) h (he _ _ _ _ (typed_of w3))
  refine law_calls (vs := [.agg c0, .agg c1, .int .i64 k, .agg c3]) (b := true) hc rfl rfl rfl rfl rfl ?_
  have := as_agg (ks_flat (β := fun _ => nilEI .unit) h0) (as_agg (ks_flat h1) (as_int (k := .i64) (x := k) (as_agg (ks_flat h3) (.nil []))))
  exact this
end
end Go.Proofs.Zz
/- Rows of laws over three ints: the law's call. -/
set_option linter.unusedVariables false
set_option maxRecDepth 100000
namespace Go.Proofs.Zz
open Go
theorem law_callI3 {w : World} {f n : Nat} {e : Fn' (Option Rs) [pI, pI, pI]} (h : CEok Q (⟨n, f, ⟨[.one (.d tI), .one (.d tI), .one (.d tI)], []⟩, [.one (.d tB)], true, []⟩, mkF [pI, pI, pI] [pB] e))
    (he : ∀ a b c : Int, e a b c = some (0, gB.dv true [])) {a b c : Int} :
    Calls Q f #[.int .i64 a, .int .i64 b, .int .i64 c] w fun e w' => e = .returned (.bool true) ∧ RowKit.Below w.heap.size w w' := by
  have hc := call_of (ys := (a, b, c, ())) (zs := (true, ())) h (he _ _ _)
  refine law_calls (vs := [.int .i64 a, .int .i64 b, .int .i64 c]) (b := true) hc rfl rfl rfl rfl rfl ?_
  have := as_int (β := fun _ => nilEI .unit) (F := fun b => b < w.heap.size) (w := w) (k := .i64) (x := a) (as_int (k := .i64) (x := b) (as_int (k := .i64) (x := c) (.nil [])))
  exact this
end Go.Proofs.Zz
