import Derived.Test.YtpplgkggclddiaaPA
import Derived.Test.YtpplgkggclddiaaF2
import Derived.Test.YtpplgkggclddiaaMK
set_option linter.unusedSimpArgs false
set_option linter.unusedVariables false
/- The program's splits are the reference's. -/
set_option maxRecDepth 100000
namespace Go.Proofs.Zz
open Go
variable {N:Nat}
end Go.Proofs.Zz

/- Whether two splits are the same: the program and the reference alike. -/
set_option maxRecDepth 100000
namespace Go.Proofs.Zz
open Go
open Classical
variable {N:Nat}
/-! Splits of programs are short -/
end Go.Proofs.Zz

/- The core's run is the reference's. -/
set_option maxRecDepth 100000
namespace Go.Proofs.Zz
open Go
variable {N:Nat}
/-! A cycle -/
/-! Memory at first -/
def memM (p:api_Program):List Int:=p.Data++List.replicate (p.Size.toNat - p.Data.length) 0
theorem right_size {p:api_Program} (h:rightP p = true):0≤p.Size∧p.Size≤65536∧(p.Data.length:Int)≤p.Size:=by
 unfold rightP at h;simp only [Bool.and_eq_true,decide_eq_true_eq] at h;exact h.1.2.2
theorem laid_is {p:api_Program} (h:rightP p = true):laid (List.replicate p.Size.toNat (0:Int)) 0 (List.take (List.length (List.replicate p.Size.toNat (0:Int))) p.Data) = memM p:=by
 obtain ⟨h1,h2,h3⟩:=right_size h;unfold laid memM;rw [List.length_replicate,List.take_of_length_le (show p.Data.length≤p.Size.toNat by omega),List.take_zero,List.nil_append,Nat.zero_add,List.drop_replicate]
theorem memM_len {p:api_Program} (h:rightP p = true):(memM p).length = p.Size.toNat:=by
 obtain ⟨h1,h2,h3⟩:=right_size h;unfold memM;rw [List.length_append,List.length_replicate];omega
theorem seq_Memory_is {p:api_Program} (h:rightP p = true):seq_Memory N p = some (0,(gD (.sl tU)).dv (memM p) []):=by
 obtain ⟨h1,h2,h3⟩:=right_size h;unfold seq_Memory;rw [show decide (0≤p.Size∧p.Size≤p.Size∧p.Size*((1:Nat):Int)≤((reach:Nat):Int)∧p.Size≤((reach:Nat):Int)) = true from decide_eq_true (by simp only [reach]; omega),gd_true,laid_is h]
theorem r1_First_is {p:api_Program} (h:rightP p = true):r1_First N p = some (0,(gD (.sl tU)).dv (memM p) []):=seq_Memory_is (N:=N) h
/-! Cycles, as many as there are, or till it is over -/
section
variable (s:api_Split)
end
/-! What a state that is over comes to -/
end Go.Proofs.Zz

/- RunTells, RunFuel: the plain laws. -/
set_option maxRecDepth 100000
namespace Go.Proofs.Zz
open Go
variable {N:Nat}
/-! Owners -/
/-! The example -/
end Go.Proofs.Zz
