import Derived.Test.YtnfpdmhdpeffjaaGreatMX
import Derived.Test.YtnfpdmhdpeffjaaGreatEnhT
import Derived.KernelRfl
set_option linter.unusedSimpArgs false
set_option linter.unusedVariables false
/- Rows of laws over (Config, Program, int, State): the law's call. -/
set_option linter.unusedVariables false
set_option maxRecDepth 100000
namespace Go.Proofs.Zz
open Go
abbrev tCfg : Ty := .pair tI (.pair tI (.pair tI (.pair tI (.pair tI (.pair tI (.pair tI (.pair tI (.pair tI (.pair tI (.pair tI (.pair tI .unit)))))))))))
abbrev tPrg : Ty := .pair (.sl t_api_Ins) (.pair tI (.pair (.sl tU) .unit))
section
variable {w : World}
end
end Go.Proofs.Zz

/- The row of ApipeHolds: five arguments taken apart, and the law's call. -/
set_option linter.unusedVariables false
set_option maxRecDepth 100000
namespace Go.Proofs.Zz
open Go
section
open Go.ChangeShapes
variable {H : Type} {enc : TypeId × Value → H} {P : Program} {w : World} {base : Nat} {spare : Nat → Bool} {held : Bool}
theorem trodAll_five {t0 t1 t2 t3 t4 : TypeId} {args : Array Value} {ds : List (DataW H)} {ps : List MemPlace} (h : DataW.TrodAll enc P w base spare held [t0, t1, t2, t3, t4] args.toList ds ps) :
    ∃ v0 v1 v2 v3 v4 d0 d1 d2 d3 d4 p0 p1 p2 p3 p4, args = #[v0, v1, v2, v3, v4] ∧ ds = [d0, d1, d2, d3, d4] ∧ ps = p0 ++ (p1 ++ (p2 ++ (p3 ++ (p4 ++ [])))) ∧ DataW.Trod enc P w base spare held t0 v0 d0 p0 ∧ DataW.Trod enc P w base spare held t1 v1 d1 p1 ∧ DataW.Trod enc P w base spare held t2 v2 d2 p2 ∧ DataW.Trod enc P w base spare held t3 v3 d3 p3 ∧ DataW.Trod enc P w base spare held t4 v4 d4 p4 := by
  obtain ⟨v0, l0, d0, m0, p0, q0, hargs, rfl, rfl, h0, r0⟩ := trodAll_cons h
  obtain ⟨v1, l1, d1, m1, p1, q1, rfl, rfl, rfl, h1, r1⟩ := trodAll_cons r0
  obtain ⟨v2, l2, d2, m2, p2, q2, rfl, rfl, rfl, h2, r2⟩ := trodAll_cons r1
  obtain ⟨v3, l3, d3, m3, p3, q3, rfl, rfl, rfl, h3, r3⟩ := trodAll_cons r2
  obtain ⟨v4, l4, d4, m4, p4, q4, rfl, rfl, rfl, h4, r4⟩ := trodAll_cons r3
  obtain ⟨rfl, rfl, rfl⟩ := trodAll_nil r4
  exact ⟨v0, v1, v2, v3, v4, d0, d1, d2, d3, d4, p0, p1, p2, p3, p4, by cases args; simp_all, rfl, rfl, h0, h1, h2, h3, h4⟩
end
end Go.Proofs.Zz

/- Rows of laws over (Config, Program, int, Script, int): the law's call. -/
set_option linter.unusedVariables false
set_option maxRecDepth 100000
namespace Go.Proofs.Zz
open Go
abbrev tScr : Ty := .pair (.sl tI) (.pair (.sl tI) .unit)
theorem law_callC {w : World} {f n : Nat} {e : Fn' (Option Rs) [p_api_Config, p_api_Program, pI, p_api_Script, pI]} (h : CEok Q (⟨n, f, ⟨[.agg q_5, .agg [.d (.sl t_api_Ins), .d tI, .d (.sl tU)], .one (.d tI), .agg [.d (.sl tI), .d (.sl tI)], .one (.d tI)], []⟩, [.one (.d tB)], true, []⟩, mkF [p_api_Config, p_api_Program, pI, p_api_Script, pI] [pB] e))
    (he : ∀ (c : api_Config) (p : api_Program) (k : Int) (t : api_Script) (m : Int), e c p k t m = some (0, gB.dv true []))
    {c0 c1 c3 : Array Value} {k m : Int} (g0 : ∃ v, RepD (fun b => b < w.heap.size) w tCfg v c0.toList ∧ wf tCfg v) (g1 : ∃ v, RepD (fun b => b < w.heap.size) w tPrg v c1.toList ∧ wf tPrg v) (g3 : ∃ v, RepD (fun b => b < w.heap.size) w tScr v c3.toList ∧ wf tScr v) :
    Calls Q f #[.agg c0, .agg c1, .int .i64 k, .agg c3, .int .i64 m] w fun e w' => e = .returned (.bool true) ∧ RowKit.Below w.heap.size w w' := by
  obtain ⟨v0, h0, _⟩ := g0
  obtain ⟨v1, h1, _⟩ := g1
  obtain ⟨v3, h3, _⟩ := g3
  have hc := call_of (ys := (g_api_Config.to v0, g_api_Program.to v1, k, g_api_Script.to v3, m, ())) (zs := (true, ())) h (he _ _ _ _ _)
  refine law_calls (vs := [.agg c0, .agg c1, .int .i64 k, .agg c3, .int .i64 m]) (b := true) hc rfl rfl rfl rfl rfl ?_
  have := as_agg (ks_flat (β := fun _ => nilEI .unit) h0) (as_agg (ks_flat h1) (as_int (k := .i64) (x := k) (as_agg (ks_flat h3) (as_int (k := .i64) (x := m) (.nil [])))))
  exact this
end Go.Proofs.Zz
