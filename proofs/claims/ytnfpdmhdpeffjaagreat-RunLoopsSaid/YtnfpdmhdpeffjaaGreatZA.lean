import Derived.Test.YtnfpdmhdpeffjaaGreatYT
import Derived.Test.YtnfpdmhdpeffjaaGreatVK
set_option linter.unusedSimpArgs false
set_option linter.unusedVariables false
set_option maxRecDepth 100000
namespace Go.Proofs.Zz
open Go
variable {N:Nat}
structure At1 (p:aw) (m0:List Int) (n:Nat) (r:cO) (pc:Int):Prop where
 en:r.End=0
 tp:r.Trap=cQ.z
 st:r.Steps=(n:Int)
 l16:r.Regs.length=16
 r0:r.Regs.getD 0 0=0
 rg:∀k:Int,1≤k→k≤15→r.Regs.getD k.toNat 0=(runG p m0 n).regs k
 me:r.Mem=(runG p m0 n).mem
 wr:r.Writes=wrG p m0 n
 pc:pc=((runG p m0 n).pc:Int)
 le:(runG p m0 n).pc≤p.Code.length
 ps:∀u,u<n→(runG p m0 u).pc<p.Code.length∧ae (insG p m0 u).1≠8∧bX (runG p m0 u) (insG p m0 u)=0
section
variable {p:aw} {m0:List Int} {n:Nat} {r r':cO} {pc pc':Int}
theorem At1.next (h:At1 p m0 n r pc) (hp:cg p=true) (hpc:(runG p m0 n).pc<p.Code.length) (h8:ae (insG p m0 n).1≠8) (ht:bX (runG p m0 n) (insG p m0 n)=0)
  (fr:r'={r with Steps:=(n:Int)+1,Regs:=r'.Regs,Mem:=gMem (runG p m0 n) (insG p m0 n),Writes:=r.Writes++(qst p m0 n).map (·.2)})
  (hr:r'.Regs.length=16∧r'.Regs.getD 0 0=0∧∀k:Int,1≤k→k≤15→r'.Regs.getD k.toNat 0=rgsG (runG p m0 n) (insG p m0 n) k) (hpc':pc'=((gPc p (runG p m0 n) (insG p m0 n):Nat):Int)):At1 p m0 (n+1) r' pc':=by
 have e1:=iQ (m0:=m0) hpc;refine⟨by rw[fr]; exact h.en,by rw[fr]; exact h.tp,by rw[fr]; show (n:Int)+1=_; omega,hr.1,hr.2.1,λk k1 k2=>?_,?_,?_,?_,?_,λu hu=>?_⟩
 ·rw[e1]; exact hr.2.2 k k1 k2
 ·rw[e1,fr]
 ·
  rw[fr];show r.Writes++_=((evq (qst p m0) n++qst p m0 n).map (·.2));rw[mv,h.wr]; rfl
 ·rw[e1]; exact hpc'
 ·
  rw[e1];show gPc p (runG p m0 n) (insG p m0 n)≤_;unfold gPc;split
  ·
   by_cases hneg:0≤tgtM p ((runG p m0 n).pc:Int)
   ·have:=g3t hneg; omega
   ·omega
  ·omega
 ·
  by_cases e:u=n
  ·subst e; exact⟨hpc,h8,ht⟩
  ·exact h.ps u (by omega)
end
variable {N:Nat}
section
variable {p:aw} {m0:List Int}
theorem At1.first (p:aw) (m0:List Int):At1 p m0 0 (cO.mk 0 cQ.z 0 (List.replicate 16 (0:Int)) m0 ([]:List bv)) 0 :=
 ⟨rfl,rfl,rfl,rfl,g8K _ _,λk _ _=>g8K _ _,rfl,rfl,rfl,nU _,λu hu=>absurd hu (by omega)⟩
theorem At1.mem {n:Nat} {r:cO} {pc:Int} (h:At1 p m0 n r pc):r.Mem=(wrG p m0 n).foldl wrOf m0:=by
 rw[h.me];exact g9U p m0 n λt ht=>⟨(h.ps t ht).1,λ_=>(h.ps t ht).2.2⟩
theorem At1.regs {n:Nat} {r:cO} {pc:Int} (h:At1 p m0 n r pc):r.Regs=gk (runG p m0 n):=by
 have hl:=h.l16;refine g9u (by rw[hl]; simp[gk]) λk hk=>?_
 have e1:(gk (runG p m0 n)).getD k 0=gv (runG p m0 n) (k:Int):=by
  unfold gk;rw[mA,nW,pi (by omega)];rfl
 rw[e1];unfold gv;by_cases h0:1≤(k:Int)∧(k:Int)≤15
 ·
  rw[if_pos h0];have:=h.rg k h0.1 h0.2;rw[mF]at this;exact this
 ·
  rw[if_neg h0,show k=0 by omega];exact h.r0
end
end Go.Proofs.Zz
