import Derived.Test.YtpplgkggclddiaaYT
import Derived.Test.YtpplgkggclddiaaPB
set_option linter.unusedSimpArgs false
set_option linter.unusedVariables false
/- Traps that are noted stay; nothing is left when it is over: the two laws' answers. -/
set_option maxRecDepth 100000
namespace Go.Proofs.Zz
open Go
variable {N:Nat}
def TrLess (a b:api_Trap):Prop:=b = a∨(b.Kind≠0∧(a.Kind≠0→b.Step < a.Step))
theorem TrLess.trans {a b c:api_Trap} (h:TrLess a b) (g:TrLess b c):TrLess a c:=by
 rcases g with rfl | ⟨g1,g2⟩
 · exact h
 ·
  rcases h with rfl | ⟨h1,h2⟩
  · exact .inr ⟨g1,g2⟩
  · exact .inr ⟨g1,fun hk=>by have:=g2 h1; have:=h2 hk; omega⟩
end Go.Proofs.Zz

/- Traps that are noted stay; nothing is left when it is over: the two laws. -/
set_option maxRecDepth 100000
namespace Go.Proofs.Zz
open Go
variable {N:Nat}
theorem with_spl {p:api_Program} {o:List Int} (h:closedM p o = true):Spl p o (withS p o)∧rightP p = true∧(withS p o).Blocks.length≤2000∧p.Code.length≤2000∧len (memM p)≤65536:=by
 have hs:=Spl.of h;have hr:=hs.right;have h1:=(leadI_Lead p).len;have h2:=(rightP_Right hr).2.1;have h3:=right_size hr;refine ⟨hs,hr,by rw [hs.len]; omega,h2,by simp only [len,memM_len hr]; omega⟩
end Go.Proofs.Zz
