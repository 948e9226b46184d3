import Derived.Test.YtpplgkggclddiaaMC
import Derived.Test.YtpplgkggclddiaaNA
set_option linter.unusedSimpArgs false
set_option linter.unusedVariables false
/- What E does in a cycle: the program answers as the model says. -/
namespace Go.Proofs.Zz
open Go
variable {N:Nat}
theorem rm0 {α:Type} {l:List α} {n:Nat} (h:l.length*n≤35184372088832):rm [] l n = true:=rmT (by simpa using h)
/-! The load queue's first -/
/-! E's cell, and what it does -/
def NextOk (s:api_Split):Prop:=∀ b:Int,hasM s b = true→(blockM s b).2.2.1 < 0∨(b < (blockM s b).2.2.1∧hasM s (blockM s b).2.2.1 = true)
end Go.Proofs.Zz

/- Whether two states are the same, of one; states small enough; E's laws. -/
namespace Go.Proofs.Zz
open Go
variable {N:Nat}
theorem NextOk.of {s:api_Split} (h:SplitOk s.Blocks):NextOk s:=by
 intro b hb;have h2:=hasM_iff.1 hb;have h3:=(h.blk b.toNat (by omega)).2.2.2.1;unfold blockM;rcases h3 with h3 | h3
 · left; omega
 ·
  right
  exact ⟨by omega,hasM_iff.2 (by omega)⟩
end Go.Proofs.Zz

/- In a cycle E does one cell at most: the model's law, and the reference law's answer. -/
namespace Go.Proofs.Zz
open Go
variable {N:Nat}
end Go.Proofs.Zz
