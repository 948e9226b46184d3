import Derived.Test.YtnfpdmhdpeffjaaGreatMX
import Derived.Test.YtnfpdmhdpeffjaaGreatEnhT
import Derived.KernelRfl
set_option linter.unusedSimpArgs false
set_option linter.unusedVariables false
/- Rows of laws over (Config, Program, int, State): the law's call. -/
set_option maxRecDepth 100000
namespace Go.Proofs.Zz
open Go
abbrev tCfg:Ty:=.pair tI (.pair tI (.pair tI (.pair tI (.pair tI (.pair tI (.pair tI (.pair tI (.pair tI (.pair tI (.pair tI (.pair tI .unit)))))))))))
abbrev tPrg:Ty:=.pair (.sl a0y) (.pair tI (.pair (.sl tU) .unit))
abbrev tSide:Ty:=.pair (.ar 16 tW) (.pair (.ar 16 tI) (.pair (.pair tI (.pair tI (.pair tI .unit))) (.pair tI (.pair tB (.pair tI .unit)))))
abbrev tSta:Ty:=.pair tI (.pair tSide (.pair tSide (.pair (.sl a0k) (.pair (.sl tW) (.pair (.sl tW) (.pair (.sl tB) (.pair (.sl tB) (.pair (.sl a0t) (.pair (.sl a0j) (.pair (.sl tU) (.pair (.sl a0Q) (.pair (.pair tI (.pair tI (.pair tI .unit))) (.pair tI (.pair tI (.pair tI .unit)))))))))))))))
noncomputable def stOf (v:Den tSta):a0b:=a1t.to (v,())
section
variable {w:World}
end
end Go.Proofs.Zz

/- The row of ApipeHolds: five arguments taken apart, and the law's call. -/
set_option maxRecDepth 100000
namespace Go.Proofs.Zz
open Go
section
open Go.ChangeShapes
variable {H:Type} {enc:TypeId × Value→H} {P:Program} {w:World} {base:Nat} {spare:Nat→Bool} {held:Bool}
theorem c5M {t0 t1 t2 t3 t4:TypeId} {args:Array Value} {ds:List (DataW H)} {ps:List MemPlace} (h:DataW.TrodAll enc P w base spare held [t0,t1,t2,t3,t4] args.toList ds ps) :
  ∃ v0 v1 v2 v3 v4 d0 d1 d2 d3 d4 p0 p1 p2 p3 p4,args = #[v0,v1,v2,v3,v4]∧ds = [d0,d1,d2,d3,d4]∧ps = p0++(p1++(p2++(p3++(p4++[]))))∧DataW.Trod enc P w base spare held t0 v0 d0 p0∧DataW.Trod enc P w base spare held t1 v1 d1 p1∧DataW.Trod enc P w base spare held t2 v2 d2 p2∧DataW.Trod enc P w base spare held t3 v3 d3 p3∧DataW.Trod enc P w base spare held t4 v4 d4 p4:=by
 obtain ⟨v0,l0,d0,m0,p0,q0,hargs,rfl,rfl,h0,r0⟩:=trodAll_cons h
 obtain ⟨v1,l1,d1,m1,p1,q1,rfl,rfl,rfl,h1,r1⟩:=trodAll_cons r0
 obtain ⟨v2,l2,d2,m2,p2,q2,rfl,rfl,rfl,h2,r2⟩:=trodAll_cons r1
 obtain ⟨v3,l3,d3,m3,p3,q3,rfl,rfl,rfl,h3,r3⟩:=trodAll_cons r2
 obtain ⟨v4,l4,d4,m4,p4,q4,rfl,rfl,rfl,h4,r4⟩:=trodAll_cons r3
 obtain ⟨rfl,rfl,rfl⟩:=trodAll_nil r4
 exact ⟨v0,v1,v2,v3,v4,d0,d1,d2,d3,d4,p0,p1,p2,p3,p4,by cases args; simp_all,rfl,rfl,h0,h1,h2,h3,h4⟩
end
end Go.Proofs.Zz

/- Rows of laws over (Config, Program, int, Script, int): the law's call. -/
set_option maxRecDepth 100000
namespace Go.Proofs.Zz
open Go
abbrev tScr:Ty:=.pair (.sl tI) (.pair (.sl tI) .unit)
theorem e3e {w:World} {f n:Nat} {e:Fn' (Option Rs) [a0l,a0p,pI,a0F,pI]} (h:CEok Q (⟨n,f,⟨[.agg q_5,.agg [.d (.sl a0y),.d tI,.d (.sl tU)],.one (.d tI),.agg [.d (.sl tI),.d (.sl tI)],.one (.d tI)],[]⟩,[.one (.d tB)],true,[]⟩,mkF [a0l,a0p,pI,a0F,pI] [pB] e))
  (he:∀ (c:a0f) (p:a0s) (k:Int) (t:a0w) (m:Int),e c p k t m = some (0,gB.dv true []))
  {c0 c1 c3:Array Value} {k m:Int} (g0:∃ v,RepD (fun b=>b < w.heap.size) w tCfg v c0.toList∧wf tCfg v) (g1:∃ v,RepD (fun b=>b < w.heap.size) w tPrg v c1.toList∧wf tPrg v) (g3:∃ v,RepD (fun b=>b < w.heap.size) w tScr v c3.toList∧wf tScr v) :
  Calls Q f #[.agg c0,.agg c1,.int .i64 k,.agg c3,.int .i64 m] w fun e w'=>e = .returned (.bool true)∧RowKit.Below w.heap.size w w':=by
 obtain ⟨v0,h0,_⟩:=g0
 obtain ⟨v1,h1,_⟩:=g1
 obtain ⟨v3,h3,_⟩:=g3
 have hc:=e3F (ys:=(a0D.to v0,a1d.to v1,k,a1P.to v3,m,())) (zs:=(true,())) h (he _ _ _ _ _)
 refine d5y (vs:=[.agg c0,.agg c1,.int .i64 k,.agg c3,.int .i64 m]) (b:=true) hc rfl rfl rfl rfl rfl ?_
 have:=c8u (c0k (β:=fun _=>nilEI .unit) h0) (c8u (c0k h1) (e3b (k:=.i64) (x:=k) (c8u (c0k h3) (e3b (k:=.i64) (x:=m) (.nil [])))))
 exact this
end Go.Proofs.Zz
