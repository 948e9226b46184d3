import Derived.Test.YtnfpdmhdpeffjaaGreatRA
import Derived.Test.YtnfpdmhdpeffjaaGreatMG
set_option linter.unusedSimpArgs false
set_option linter.unusedVariables false
/- Rows of laws over (Config, Program, int, Script, State): the law's call. -/
set_option maxRecDepth 100000
namespace Go.Proofs.Zz
open Go
theorem f1b {v:Den tSta} (h:wf tSta v):Wd (stOf v):=by
 have hu:∀ x:Int,(Lit.int .u32 x).wf = true→U32 x:=by
  intro x hx
  simp only [Lit.wf,Bool.and_eq_true,decide_eq_true_eq] at hx
  exact hx
 obtain ⟨_,⟨⟨_,a1⟩,⟨a2,_⟩,_⟩,⟨⟨_,b1⟩,⟨b2,_⟩,_⟩,l,q1,q2,_,_,s,_⟩:=h
 refine ⟨⟨a2,fun r hr=>hu r (a1 r hr)⟩,⟨b2,fun r hr=>hu r (b1 r hr)⟩,fun e he=>hu _ (l.2 e he).2.2.1,fun e he=>hu _ (s.2 e he).2.2.2.2.1,fun e he=>hu _ (q1.2 e he),fun e he=>hu _ (q2.2 e he)⟩
theorem e3E {w:World} {f n:Nat} {e:Fn' (Option Rs) [a0l,a0p,pI,a0F,a0d]} (h:CEok Q (⟨n,f,⟨[.agg q_5,.agg [.d (.sl a0y),.d tI,.d (.sl tU)],.one (.d tI),.agg [.d (.sl tI),.d (.sl tI)],.agg q_0],[]⟩,[.one (.d tB)],true,[]⟩,mkF [a0l,a0p,pI,a0F,a0d] [pB] e))
  (he:∀ (c:a0f) (p:a0s) (k:Int) (t:a0w) (x:a0b),Wd x→e c p k t x = some (0,gB.dv true []))
  {c0 c1 c3 c4:Array Value} {k:Int} (g0:∃ v,RepD (fun b=>b < w.heap.size) w tCfg v c0.toList∧wf tCfg v) (g1:∃ v,RepD (fun b=>b < w.heap.size) w tPrg v c1.toList∧wf tPrg v) (g3:∃ v,RepD (fun b=>b < w.heap.size) w tScr v c3.toList∧wf tScr v) (g4:∃ v,RepD (fun b=>b < w.heap.size) w tSta v c4.toList∧wf tSta v) :
  Calls Q f #[.agg c0,.agg c1,.int .i64 k,.agg c3,.agg c4] w fun e w'=>e = .returned (.bool true)∧RowKit.Below w.heap.size w w':=by
 obtain ⟨v0,h0,_⟩:=g0
 obtain ⟨v1,h1,_⟩:=g1
 obtain ⟨v3,h3,_⟩:=g3
 obtain ⟨v4,h4,w4⟩:=g4
 have hc:=e3F (ys:=(a0D.to v0,a1d.to v1,k,a1P.to v3,stOf v4,())) (zs:=(true,())) h (he _ _ _ _ _ (f1b w4))
 refine d5y (vs:=[.agg c0,.agg c1,.int .i64 k,.agg c3,.agg c4]) (b:=true) hc rfl rfl rfl rfl rfl ?_
 have:=c8u (c0k (β:=fun _=>nilEI .unit) h0) (c8u (c0k h1) (e3b (k:=.i64) (x:=k) (c8u (c0k h3) (c8u (c0k h4) (.nil [])))))
 exact this
end Go.Proofs.Zz
