import Derived.Test.YtnhgipdlkcdeiaaDoorRows
import Derived.Test.YtnhgipdlkcdeiaaDoorSA
import Derived.Test.YtnhgipdlkcdeiaaDoorEnhK
import Derived.WalkKit
import Derived.ProofKit
import Derived.OpenShut
import Derived.ChangeOld
import Derived.Below
import Derived.Carry
import Derived.SizedLaws
import Derived.LaidLaws
import Derived.LaidHandle
import Derived.Stop.LaidErr
set_option linter.unusedSimpArgs false
set_option linter.unusedVariables false
/- ShowApart: for every input the law returns true. What is laid: a table of the library (powers of ten). -/
namespace Go.Proofs.Zs
open Go
set_option maxRecDepth 100000
theorem law_callSa {w : World} {f n : Nat} {e : Fn' (Option Rs) [p_api_Ins, p_api_Ins, pI, pI]} (h : CEok Q (⟨n, f, ⟨[.agg [.d tI, .d tI, .d tI, .d tI, .d tI], .agg [.d tI, .d tI, .d tI, .d tI, .d tI], .one (.d tI), .one (.d tI)], []⟩, [.one (.d tB)], true, []⟩, mkF [p_api_Ins, p_api_Ins, pI, pI] [pB] e))
    (he : ∀ (x0 x1 : api_Ins) (x2 x3 : Int), e x0 x1 x2 x3 = some (0, gB.dv true [])) (hF : Facts Q w)
    {c0 c1 : Array Value} {a2 a3 : Int}
    (g0 : ∃ v, RepD (fun b => b < w.heap.size) w t_api_Ins v c0.toList ∧ wf t_api_Ins v)
    (g1 : ∃ v, RepD (fun b => b < w.heap.size) w t_api_Ins v c1.toList ∧ wf t_api_Ins v) :
    Calls Q f #[.agg c0, .agg c1, .int .i64 a2, .int .i64 a3] w fun e w' => e = .returned (.bool true) ∧ RowKit.Below w.heap.size w w' := by
  obtain ⟨v0, h0, w0⟩ := g0
  obtain ⟨v1, h1, w1⟩ := g1
  have hc := call_of (ys := (v0, v1, a2, a3, ())) (zs := (true, ())) h (he _ _ _ _)
  refine law_calls (vs := [.agg c0, .agg c1, .int .i64 a2, .int .i64 a3]) (b := true) hc rfl rfl rfl rfl hF rfl ?_
  have := as_agg (ks_flat (β := fun _ => nilEI .unit) h0) (as_agg (ks_flat h1) (as_int (k := .i64) (x := a2) (as_int (k := .i64) (x := a3) (.nil []))))
  exact this
section
open Go.ChangeShapes
variable {H : Type} {enc : TypeId × Value → H} {P : Program} {w : World} {base : Nat} {spare : Nat → Bool} {held : Bool}
theorem trodAllSa {t0 t1 t2 t3 : TypeId} {args : Array Value} {ds : List (DataW H)} {ps : List MemPlace} (h : DataW.TrodAll enc P w base spare held [t0, t1, t2, t3] args.toList ds ps) :
    ∃ v0 v1 v2 v3 d0 d1 d2 d3 p0 p1 p2 p3, args = #[v0, v1, v2, v3] ∧ ds = [d0, d1, d2, d3] ∧ ps = p0 ++ (p1 ++ (p2 ++ (p3 ++ []))) ∧ DataW.Trod enc P w base spare held t0 v0 d0 p0 ∧ DataW.Trod enc P w base spare held t1 v1 d1 p1 ∧ DataW.Trod enc P w base spare held t2 v2 d2 p2 ∧ DataW.Trod enc P w base spare held t3 v3 d3 p3 := by
  obtain ⟨v0, l0, d0, m0, p0, q0, hargs, rfl, rfl, h0, r0⟩ := trodAll_cons h
  obtain ⟨v1, l1, d1, m1, p1, q1, rfl, rfl, rfl, h1, r1⟩ := trodAll_cons r0
  obtain ⟨v2, l2, d2, m2, p2, q2, rfl, rfl, rfl, h2, r2⟩ := trodAll_cons r1
  obtain ⟨v3, l3, d3, m3, p3, q3, rfl, rfl, rfl, h3, r3⟩ := trodAll_cons r2
  obtain ⟨rfl, rfl, rfl⟩ := trodAll_nil r3
  exact ⟨v0, v1, v2, v3, d0, d1, d2, d3, p0, p1, p2, p3, by cases args; simp_all, rfl, rfl, h0, h1, h2, h3⟩
end
end Go.Proofs.Zs
namespace Go.Proofs.YtnhgipdlkcdeiaaDoor.showApart
open Go.ChangeShapes Go.WideShapes Go.ChangeAt Go.RowKit
open Go.Proofs.Zs
set_option linter.unusedVariables false
theorem own : ownKnob Tryd.prog.godebug = none := by kernel_rfl
theorem laidOut : laidOutB Tryd.prog = true := by kernel_rfl
/-- The table, out of what the row lists. -/
theorem facts_of {W : World} (h : laidMetH Tryd.prog Rows.showApartRow.laid W) : Facts Tryd.prog W := by
  have h1 : laidMet Tryd.prog Rows.showApartRow.laid W := h
  have h2 : laidMet Tryd.prog [("internal/strconv.uint64pow10", Lib.tabData .u64 Lib.pow10Tab)] W := h1.tail.tail
  exact Lib.tabIs_of_head (g := 2) (by kernel_rfl) (t := 177) (by kernel_rfl) (e := 155) (n := 20) (by kernel_rfl) (by kernel_rfl) (by kernel_rfl) (by kernel_rfl) h2
def cellsD (d : DataW Unit) : Array Value :=
  match d with
  | .agg l => (l.map fun x => match x with
    | .lit (.int k z) => Value.int k z
    | _ => Value.bool false).toArray
  | _ => #[]
/-- A world that meets the condition. -/
noncomputable def laidWorld (os : Os) : World :=
  let w0 := World.holding Tryd.prog os ⟨#[], #[], []⟩
  let lay := fun (cs : Array Value) (o : Go.Obj) => match o with
    | .cells _ t frozen => .cells cs t frozen
    | o => o
  { w0 with heap := ((w0.heap.modify 6 (lay (cellsD Rows.laid_math_bits_deBruijn32tab))).modify 7 (lay (cellsD Rows.laid_math_bits_deBruijn64tab))).modify 2 (lay (cellsD Rows.laid_internal_strconv_uint64pow10)) }
theorem laid_met (os : Os) (args : Array Value) : laidMetH Tryd.prog Rows.showApartRow.laid ((laidWorld os).forCall (fun _ _ => 0) ⟨#[], args, []⟩).memory :=
  laidMetH_of_parts (laidMet_of_run' 8 (by kernel_rfl) (by kernel_rfl)) (by kernel_rfl)
set_option maxRecDepth 100000 in
theorem lifted (os : Os) (started : os.Started) (H : Type) (enc : TypeId × Value → H) :
    ReturnsInHanded {} Tryd.checked os 3 .any (fun w args => (Rows.showApartSpec.pre enc Tryd.prog Tryd.f3 Rows.showApartRow.domain false w args ∧ laidMetH Tryd.prog Rows.showApartRow.laid w) ∧ sizedMet enc Tryd.prog Tryd.f3 (OpenSpec.ofChange Rows.showApartSpec) false w args) (Rows.showApartSpec.post enc Tryd.prog Tryd.f3 false true false false) := by
  refine returnsInHanded_of_change_and (C := Tryd.checked) (X := fun w _ => laidMetH Tryd.prog Rows.showApartRow.laid w) (fun _ _ _ hh h => h.of_heap hh) own started (by kernel_rfl) Tryd.func3
    (ChangeSpec.witness_at (enc := enc) (C := Tryd.checked) (os := os) (X := fun w _ => laidMetH Tryd.prog Rows.showApartRow.laid w) false (laidWorld os) #[.agg (Array.replicate 5 (.int .i64 0)), .agg (Array.replicate 5 (.int .i64 0)), .int .i64 0, .int .i64 0] 8 rfl (by kernel_rfl) (by kernel_rfl) (by kernel_rfl) (by kernel_rfl) (by kernel_rfl) (laid_met os _)) ?_
  intro W base args ds gs before hval0 hW _ _ hL _
  have hval : ∀ (j : Nat) t v, Tryd.f3.params[j]? = some t → args[j]? = some v → Value.okWide Tryd.prog W .any base t v := hval0
  have hW' := hW
  obtain ⟨p, q, hA0, hV, rfl, hfz, hnd⟩ := hW
  have hA : DataW.TrodAll enc Tryd.prog W 0 (fun _ => true) true Tryd.f3.params.toList args.toList ds p := hA0
  rw [Tryd.params3] at hA hval
  obtain ⟨v0, v1, v2, v3, d0, d1, d2, d3, p0, p1, p2, p3, rfl, rfl, rfl, h0, h1, h2, h3⟩ := trodAllSa hA
  obtain ⟨rfl, rfl⟩ := trodVars_none hV
  obtain ⟨c0, rfl, _⟩ := okWide_struct Tryd.underlying23 (hval 0 23 v0 rfl rfl)
  obtain ⟨c1, rfl, _⟩ := okWide_struct Tryd.underlying23 (hval 1 23 v1 rfl rfl)
  obtain ⟨a2, rfl, rfl, rfl, wa2⟩ := open_int Tryd.underlying3 (hval 2 3 v2 rfl rfl) h2
  obtain ⟨a3, rfl, rfl, rfl, wa3⟩ := open_int Tryd.underlying3 (hval 3 3 v3 rfl rfl) h3
  have k0 := h0
  have k1 := h1
  have lt0 : ∀ x ∈ p0, x.block < W.heap.size := by obtain ⟨m, hm⟩ := k0; exact DataW.trod_lt m _ _ _ hm
  have lt1 : ∀ x ∈ p1, x.block < W.heap.size := by obtain ⟨m, hm⟩ := k1; exact DataW.trod_lt m _ _ _ hm
  have hcall := law_callSa (w := W) (a2 := a2) (a3 := a3) (Y_l9_ShowApart 300) ShowApart_true (facts_of hL)
    (rep_of_trod (enc := enc) (P := Tryd.prog) (w := W) 8 23 t_api_Ins _ (by kernel_rfl) (by obtain ⟨m, hm⟩ := h0; exact ⟨m, _, hm⟩))
    (rep_of_trod (enc := enc) (P := Tryd.prog) (w := W) 8 23 t_api_Ins _ (by kernel_rfl) (by obtain ⟨m, hm⟩ := h1; exact ⟨m, _, hm⟩))
  refine hcall.mono fun e W' ⟨he, bel⟩ => ?_
  subst he
  exact ⟨_, rfl, _, _, _, [], _, [], hW', trodAll_mk1 (shut_bool Tryd.underlying4 _), (trodAll_cons_mk (Below.trod laidOut (by kernel_rfl) (of_decide_eq_true (by kernel_rfl)) k0 bel lt0) (trodAll_cons_mk (Below.trod laidOut (by kernel_rfl) (of_decide_eq_true (by kernel_rfl)) k1 bel lt1) (trodAll_cons_mk (shut_int Tryd.underlying3 wa2) (trodAll_cons_mk (shut_int Tryd.underlying3 wa3) trodAll_mk0)))), rfl, bel.frame _, fun h => by cases h⟩
end Go.Proofs.YtnhgipdlkcdeiaaDoor.showApart
