import Derived.Test.YtnfpdmhdpeffjaaGreatR1
import Derived.Carry
set_option linter.unusedSimpArgs false
set_option linter.unusedVariables false
/- Rows of laws over (Config, Program, int, State, Cell, int, int, int): the law's call; eight open arguments. -/
set_option linter.unusedVariables false
set_option maxRecDepth 100000
namespace Go.Proofs.Zz
open Go
section
variable {w : World}
theorem law_call8 {f n : Nat} {e : Fn' (Option Rs) [p_api_Config, p_api_Program, pI, p_api_State, p_api_Cell, pI, pI, pI]} (h : CEok Q (⟨n, f, ⟨[.agg q_5, .agg [.d (.sl t_api_Ins), .d tI, .d (.sl tU)], .one (.d tI), .agg q_0, .agg q_2, .one (.d tI), .one (.d tI), .one (.d tI)], []⟩, [.one (.d tB)], true, []⟩, mkF [p_api_Config, p_api_Program, pI, p_api_State, p_api_Cell, pI, pI, pI] [pB] e))
    (he : ∀ (c : api_Config) (p : api_Program) (k : Int) (x : api_State) (l : api_Cell) (i j m : Int), Typed x → e c p k x l i j m = some (0, gB.dv true []))
    {c0 c1 c3 c4 : Array Value} {k i j m : Int} (g0 : ∃ v, RepD (fun b => b < w.heap.size) w tCfg v c0.toList ∧ wf tCfg v) (g1 : ∃ v, RepD (fun b => b < w.heap.size) w tPrg v c1.toList ∧ wf tPrg v) (g3 : ∃ v, RepD (fun b => b < w.heap.size) w tSta v c3.toList ∧ wf tSta v) (g4 : ∃ v, RepD (fun b => b < w.heap.size) w t_api_Cell v c4.toList ∧ wf t_api_Cell v) :
    Calls Q f #[.agg c0, .agg c1, .int .i64 k, .agg c3, .agg c4, .int .i64 i, .int .i64 j, .int .i64 m] w fun e w' => e = .returned (.bool true) ∧ RowKit.Below w.heap.size w w' := by
  obtain ⟨v0, h0, _⟩ := g0
  obtain ⟨v1, h1, _⟩ := g1
  obtain ⟨v3, h3, w3⟩ := g3
  obtain ⟨v4, h4, _⟩ := g4
  have hc := call_of (ys := (g_api_Config.to v0, g_api_Program.to v1, k, stOf v3, v4, i, j, m, ())) (zs := (true, ())) h (he _ _ _ _ _ _ _ _ (typed_of w3))
  refine law_calls (vs := [.agg c0, .agg c1, .int .i64 k, .agg c3, .agg c4, .int .i64 i, .int .i64 j, .int .i64 m]) (b := true) hc rfl rfl rfl rfl rfl ?_
  have := as_agg (ks_flat (β := fun _ => nilEI .unit) h0) (as_agg (ks_flat h1) (as_int (k := .i64) (x := k) (as_agg (ks_flat h3) (as_agg (ks_flat h4) (as_int (k := .i64) (x := i) (as_int (k := .i64) (x := j) (as_int (k := .i64) (x := m) (.nil []))))))))
  exact this
end
section
open Go.ChangeShapes
variable {H : Type} {enc : TypeId × Value → H} {P : Program} {w : World} {base : Nat} {spare : Nat → Bool} {held : Bool}
theorem trodAll_eight {t0 t1 t2 t3 t4 t5 t6 t7 : TypeId} {args : Array Value} {ds : List (DataW H)} {ps : List MemPlace} (h : DataW.TrodAll enc P w base spare held [t0, t1, t2, t3, t4, t5, t6, t7] args.toList ds ps) :
    ∃ v0 v1 v2 v3 v4 v5 v6 v7 d0 d1 d2 d3 d4 d5 d6 d7 p0 p1 p2 p3 p4 p5 p6 p7, args = #[v0, v1, v2, v3, v4, v5, v6, v7] ∧ ds = [d0, d1, d2, d3, d4, d5, d6, d7] ∧ ps = p0 ++ (p1 ++ (p2 ++ (p3 ++ (p4 ++ (p5 ++ (p6 ++ (p7 ++ []))))))) ∧ DataW.Trod enc P w base spare held t0 v0 d0 p0 ∧ DataW.Trod enc P w base spare held t1 v1 d1 p1 ∧ DataW.Trod enc P w base spare held t2 v2 d2 p2 ∧ DataW.Trod enc P w base spare held t3 v3 d3 p3 ∧ DataW.Trod enc P w base spare held t4 v4 d4 p4 ∧ DataW.Trod enc P w base spare held t5 v5 d5 p5 ∧ DataW.Trod enc P w base spare held t6 v6 d6 p6 ∧ DataW.Trod enc P w base spare held t7 v7 d7 p7 := by
  obtain ⟨v0, l0, d0, m0, p0, q0, hargs, rfl, rfl, h0, r0⟩ := trodAll_cons h
  obtain ⟨v1, l1, d1, m1, p1, q1, rfl, rfl, rfl, h1, r1⟩ := trodAll_cons r0
  obtain ⟨v2, l2, d2, m2, p2, q2, rfl, rfl, rfl, h2, r2⟩ := trodAll_cons r1
  obtain ⟨v3, l3, d3, m3, p3, q3, rfl, rfl, rfl, h3, r3⟩ := trodAll_cons r2
  obtain ⟨v4, l4, d4, m4, p4, q4, rfl, rfl, rfl, h4, r4⟩ := trodAll_cons r3
  obtain ⟨v5, l5, d5, m5, p5, q5, rfl, rfl, rfl, h5, r5⟩ := trodAll_cons r4
  obtain ⟨v6, l6, d6, m6, p6, q6, rfl, rfl, rfl, h6, r6⟩ := trodAll_cons r5
  obtain ⟨v7, l7, d7, m7, p7, q7, rfl, rfl, rfl, h7, r7⟩ := trodAll_cons r6
  obtain ⟨rfl, rfl, rfl⟩ := trodAll_nil r7
  exact ⟨v0, v1, v2, v3, v4, v5, v6, v7, d0, d1, d2, d3, d4, d5, d6, d7, p0, p1, p2, p3, p4, p5, p6, p7, by cases args; simp_all, rfl, rfl, h0, h1, h2, h3, h4, h5, h6, h7⟩
end
end Go.Proofs.Zz
