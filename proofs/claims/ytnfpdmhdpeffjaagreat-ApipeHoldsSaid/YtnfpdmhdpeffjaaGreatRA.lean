import Derived.Test.YtnfpdmhdpeffjaaGreatM10
import Derived.Test.YtnfpdmhdpeffjaaGreatEnhT
import Derived.KernelRfl
set_option linter.unusedSimpArgs false
set_option linter.unusedVariables false
/- Rows of laws over (Config, Program, int, State): the law's call. -/
set_option linter.unusedVariables false
set_option maxRecDepth 100000
namespace Go.Proofs.Zz
open Go
abbrev tCfg : Ty := .pair tI (.pair tI (.pair tI (.pair tI (.pair tI (.pair tI (.pair tI (.pair tI (.pair tI (.pair tI (.pair tI (.pair tI .unit)))))))))))
abbrev tPrg : Ty := .pair (.sl t_api_Ins) (.pair tI (.pair (.sl tU) .unit))
abbrev tSide : Ty := .pair (.ar 16 tW) (.pair (.ar 16 tI) (.pair (.pair tI (.pair tI (.pair tI .unit))) (.pair tI (.pair tB (.pair tI .unit)))))
abbrev tSta : Ty := .pair tI (.pair tSide (.pair tSide (.pair (.sl t_api_Slot) (.pair (.sl tW) (.pair (.sl tW) (.pair (.sl tB) (.pair (.sl tB) (.pair (.sl t_api_Entry) (.pair (.sl t_api_Request) (.pair (.sl tU) (.pair (.sl t_api_Write) (.pair (.pair tI (.pair tI (.pair tI .unit))) (.pair tI (.pair tI (.pair tI .unit)))))))))))))))
noncomputable def stOf (v : Den tSta) : api_State := gr_api_State.to (v, ())
theorem typed_of {v : Den tSta} (h : wf tSta v) : Typed (stOf v) := by
  obtain ⟨_, ⟨⟨_, a1⟩, ⟨a2, _⟩, _⟩, ⟨⟨_, b1⟩, ⟨b2, _⟩, _⟩, _⟩ := h
  have hu : ∀ x : Int, (Lit.int .u32 x).wf = true → U32 x := by
    intro x hx
    simp only [Lit.wf, Bool.and_eq_true, decide_eq_true_eq] at hx
    exact hx
  exact ⟨a2, b2, fun r hr => hu r (a1 r hr), fun r hr => hu r (b1 r hr)⟩
section
variable {w : World}
theorem law_call4 {f n : Nat} {e : Fn' (Option Rs) [p_api_Config, p_api_Program, pI, p_api_State]} (h : CEok Q (⟨n, f, ⟨[.agg q_5, .agg [.d (.sl t_api_Ins), .d tI, .d (.sl tU)], .one (.d tI), .agg q_0], []⟩, [.one (.d tB)], true, []⟩, mkF [p_api_Config, p_api_Program, pI, p_api_State] [pB] e))
    (he : ∀ (c : api_Config) (p : api_Program) (k : Int) (x : api_State), Typed x → e c p k x = some (0, gB.dv true []))
    {c0 c1 c3 : Array Value} {k : Int} (g0 : ∃ v, RepD (fun b => b < w.heap.size) w tCfg v c0.toList ∧ wf tCfg v) (g1 : ∃ v, RepD (fun b => b < w.heap.size) w tPrg v c1.toList ∧ wf tPrg v) (g3 : ∃ v, RepD (fun b => b < w.heap.size) w tSta v c3.toList ∧ wf tSta v) :
    Calls Q f #[.agg c0, .agg c1, .int .i64 k, .agg c3] w fun e w' => e = .returned (.bool true) ∧ RowKit.Below w.heap.size w w' := by
  obtain ⟨v0, h0, _⟩ := g0
  obtain ⟨v1, h1, _⟩ := g1
  obtain ⟨v3, h3, w3⟩ := g3
  have hc := call_of (ys := (g_api_Config.to v0, g_api_Program.to v1, k, stOf v3, ())) (zs := (true, ())) h (he _ _ _ _ (typed_of w3))
  refine law_calls (vs := [.agg c0, .agg c1, .int .i64 k, .agg c3]) (b := true) hc rfl rfl rfl rfl rfl ?_
  have := as_agg (ks_flat (β := fun _ => nilEI .unit) h0) (as_agg (ks_flat h1) (as_int (k := .i64) (x := k) (as_agg (ks_flat h3) (.nil []))))
  exact this
end
end Go.Proofs.Zz
/- The row of ApipeHolds: five arguments taken apart, and the law's call. -/
set_option linter.unusedVariables false
set_option maxRecDepth 100000
namespace Go.Proofs.Zz
open Go
theorem law_callH {w : World} {f n : Nat} {e : Fn' (Option Rs) [pD (.sl tU), pD (.sl t_api_Entry), pI, pI, pB]} (h : CEok Q (⟨n, f, ⟨[.one (.d (.sl tU)), .one (.d (.sl t_api_Entry)), .one (.d tI), .one (.d tI), .one (.d tB)], []⟩, [.one (.d tB)], true, []⟩, mkF [pD (.sl tU), pD (.sl t_api_Entry), pI, pI, pB] [pB] e))
    (he : ∀ (m : List Int) (l : List api_Entry) (a b : Int) (c : Bool), e m l a b c = some (0, gB.dv true [])) {a0 a1 : Option Addr} {n0 c0 n1 c1 : Nat} {a b : Int} {c : Bool}
    (g0 : ∃ v, RepD (fun b => b < w.heap.size) w (.sl tU) v [.slice a0 n0 c0] ∧ wf (.sl tU) v) (g1 : ∃ v, RepD (fun b => b < w.heap.size) w (.sl t_api_Entry) v [.slice a1 n1 c1] ∧ wf (.sl t_api_Entry) v) :
    Calls Q f #[.slice a0 n0 c0, .slice a1 n1 c1, .int .i64 a, .int .i64 b, .bool c] w fun e w' => e = .returned (.bool true) ∧ RowKit.Below w.heap.size w w' := by
  obtain ⟨v0, h0, _⟩ := g0
  obtain ⟨v1, h1, _⟩ := g1
  have hc := call_of (ys := (v0, v1, a, b, c, ())) (zs := (true, ())) h (he _ _ _ _ _)
  refine law_calls (vs := [.slice a0 n0 c0, .slice a1 n1 c1, .int .i64 a, .int .i64 b, .bool c]) (b := true) hc rfl rfl rfl rfl rfl ?_
  have := as_sl (β := fun _ => nilEI .unit) h0 (as_sl h1 (as_int (k := .i64) (x := a) (as_int (k := .i64) (x := b) (as_bool (x := c) (.nil [])))))
  exact this
section
open Go.ChangeShapes
variable {H : Type} {enc : TypeId × Value → H} {P : Program} {w : World} {base : Nat} {spare : Nat → Bool} {held : Bool}
theorem trodAll_five {t0 t1 t2 t3 t4 : TypeId} {args : Array Value} {ds : List (DataW H)} {ps : List MemPlace} (h : DataW.TrodAll enc P w base spare held [t0, t1, t2, t3, t4] args.toList ds ps) :
    ∃ v0 v1 v2 v3 v4 d0 d1 d2 d3 d4 p0 p1 p2 p3 p4, args = #[v0, v1, v2, v3, v4] ∧ ds = [d0, d1, d2, d3, d4] ∧ ps = p0 ++ (p1 ++ (p2 ++ (p3 ++ (p4 ++ [])))) ∧ DataW.Trod enc P w base spare held t0 v0 d0 p0 ∧ DataW.Trod enc P w base spare held t1 v1 d1 p1 ∧ DataW.Trod enc P w base spare held t2 v2 d2 p2 ∧ DataW.Trod enc P w base spare held t3 v3 d3 p3 ∧ DataW.Trod enc P w base spare held t4 v4 d4 p4 := by
  obtain ⟨v0, l0, d0, m0, p0, q0, hargs, rfl, rfl, h0, r0⟩ := trodAll_cons h
  obtain ⟨v1, l1, d1, m1, p1, q1, rfl, rfl, rfl, h1, r1⟩ := trodAll_cons r0
  obtain ⟨v2, l2, d2, m2, p2, q2, rfl, rfl, rfl, h2, r2⟩ := trodAll_cons r1
  obtain ⟨v3, l3, d3, m3, p3, q3, rfl, rfl, rfl, h3, r3⟩ := trodAll_cons r2
  obtain ⟨v4, l4, d4, m4, p4, q4, rfl, rfl, rfl, h4, r4⟩ := trodAll_cons r3
  obtain ⟨rfl, rfl, rfl⟩ := trodAll_nil r4
  exact ⟨v0, v1, v2, v3, v4, d0, d1, d2, d3, d4, p0, p1, p2, p3, p4, by cases args; simp_all, rfl, rfl, h0, h1, h2, h3, h4⟩
end
end Go.Proofs.Zz
