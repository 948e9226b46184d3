import Derived.Test.YtnfpdmhdpeffjaaGreatPA
import Derived.Test.YtnfpdmhdpeffjaaGreatVK
import Derived.Test.YtnfpdmhdpeffjaaGreatMK
set_option linter.unusedSimpArgs false
set_option linter.unusedVariables false
/- The program's splits are the reference's. -/
set_option maxRecDepth 100000
namespace Go.Proofs.Zz
open Go
variable {N:Nat}
end Go.Proofs.Zz

/- Whether two splits are the same: the program and the reference alike. -/
set_option maxRecDepth 100000
namespace Go.Proofs.Zz
open Go
open Classical
variable {N:Nat}
/-! Splits of programs are short -/
end Go.Proofs.Zz

/- The core's run is the reference's. -/
set_option maxRecDepth 100000
namespace Go.Proofs.Zz
open Go
variable {N:Nat}
/-! A cycle -/
/-! Memory at first -/
def memM (p:a0s):List Int:=p.Data++List.replicate (p.Size.toNat - p.Data.length) 0
theorem f5u {p:a0s} (h:rightP p = true):0≤p.Size∧p.Size≤65536∧(p.Data.length:Int)≤p.Size:=by
 unfold rightP at h;simp only [Bool.and_eq_true,decide_eq_true_eq] at h;exact h.1.2.2
theorem g5G {p:a0s} (h:rightP p = true):laid (List.replicate p.Size.toNat (0:Int)) 0 (List.take (List.length (List.replicate p.Size.toNat (0:Int))) p.Data) = memM p:=by
 obtain ⟨h1,h2,h3⟩:=f5u h;unfold laid memM;rw [List.length_replicate,List.take_of_length_le (show p.Data.length≤p.Size.toNat by omega),List.take_zero,List.nil_append,Nat.zero_add,List.drop_replicate]
theorem g1Z {p:a0s} (h:rightP p = true):(memM p).length = p.Size.toNat:=by
 obtain ⟨h1,h2,h3⟩:=f5u h;unfold memM;rw [List.length_append,List.length_replicate];omega
theorem f9o {p:a0s} (h:rightP p = true):f8b N p = some (0,(gD (.sl tU)).dv (memM p) []):=by
 obtain ⟨h1,h2,h3⟩:=f5u h;unfold f8b;rw [show decide (0≤p.Size∧p.Size≤p.Size∧p.Size*((1:Nat):Int)≤((reach:Nat):Int)∧p.Size≤((reach:Nat):Int)) = true from decide_eq_true (by simp only [reach]; omega),g7n,g5G h]
theorem g3r {p:a0s} (h:rightP p = true):d3t N p = some (0,(gD (.sl tU)).dv (memM p) []):=f9o (N:=N) h
theorem g2z {p:a0s} (h:rightP p = true) (hN:2000 < N):c2w N p = some (0,a0c.dv (st0 (memM p)) []):=by
 unfold c2w;rw [f9c p hN,g7j,g7m,g7l,h,Bool.not_true,g7i,g3r h,g7j,g7m,g7l]
/-! Cycles, as many as there are, or till it is over -/
section
variable (c:a0f) (t:a0w) (s:a0g)
end
/-! What a state that is over comes to -/
end Go.Proofs.Zz

/- RunTells, RunFuel: the plain laws. -/
set_option maxRecDepth 100000
namespace Go.Proofs.Zz
open Go
variable {N:Nat}
/-! Owners -/
theorem g4P {l o:List Int} {f:Int→Nat} {v:Int} (h:o.length = 16):(l.foldl (fun o r=>o.set (f r) v) o).length = 16:=by
 induction l generalizing o with
 | nil=>exact h
 | cons a l ih=>exact ih (by rw [List.length_set]; exact h)
theorem g4z {o:List Int} (x:a0o) (h:o.length = 16):(giveM o x).length = 16:=by
 unfold giveM;have h1:(if (formM x.1 = 4∨formM x.1 = 5)∧0 < x.2.2.1 then o.set x.2.2.1.toNat 1 else o).length = 16:=by
  split
  · rw [List.length_set]; exact h
  · exact h
 dsimp only
 generalize (if (formM x.1 = 4∨formM x.1 = 5)∧0 < x.2.2.1 then o.set x.2.2.1.toNat 1 else o) = o1 at h1 ⊢;split
 · exact g4P (f:=fun r=>r.toNat) h1
 · exact h1
theorem g3M (p:a0s):∀ (n:Nat) (o:List Int),o.length = 16→(ownN p n o).length = 16
 | 0,o,h=>h
 | n+1,o,h=>by
  unfold ownN;refine g3M p n _ ?_;generalize p.Code = l;induction l generalizing o with
  | nil=>exact h
  | cons a l ih=>exact ih _ (g4z a h)
theorem g4r (p:a0s):(ownerM p).length = 16:=by
 unfold ownerM;split
 · exact g3M p 17 _ rfl
 · rfl
theorem g6U (pick:Int) (r:List Int):∀ (n:Nat) (i:Int) (o:List Int),1≤i→i≤16→16 - i < n→o.length = 16 →
  ∃ o',a9y N n pick i r o = some (1,(gD (.ar 16 tI)).dv r ((gD (.ar 16 tI)).dv o' []))∧o'.length = 16:=by
 intro n;induction n with
 | zero=>intro i o h0 h1 h2; omega
 | succ n ih =>
  intro i o h0 h1 h2 h3;show ∃ o',a9w N (a9y N n) pick i r o = _∧_
  unfold a9w;by_cases hi:i < 16
  ·
   have hu:w.u64 i = i:=IntWalk.u64_in _ (by omega);rw [dt hi,a1l (by omega) (by omega),hu,df (show ¬ i < 0 by omega),wS' (by omega) (by omega)];simp only [g7k,g7n,g7w];simp only [a1u];split
   · exact ih _ _ (by omega) (by omega) (by omega) (by simp [h3])
   · exact ih _ _ (by omega) (by omega) (by omega) (by simp [h3])
  ·
   rw [df hi];exact ⟨_,rfl,h3⟩
theorem g6V (p:a0s) (pick:Int) (hN:2000 < N):∃ o:List Int,o.length = 16∧b2R N p pick = some (0,a0H.dv (withS p o) (gB.dv (closedM p o) [])):=by
 unfold b2R c3E;obtain ⟨o,ho,hl⟩:=g6U (N:=N) pick (List.replicate 16 0) N 1 (List.replicate 16 0) (by omega) (by omega) (by omega) rfl;simp only [ho,g7u,g7j,g7m,g7l,g3z p _ hN,g5e p hN];unfold withE;cases hc:closedM p o with
 | true=>exact ⟨o,hl,by rw [hc]; rfl⟩
 | false =>
  refine ⟨ownerM p,g4r p,?_⟩;rw [if_neg (by simp)];cases closedM p (ownerM p) <;> rfl
/-! The example -/
theorem g5o (p:a0s):∃ b,c8s N p = some (0,gB.dv b [])∧(b = true→p.Code.length≤200∧p.Data.length≤500∧p.Size≤300):=by
 unfold c8s;rw [e6F,g7j,g7m,g7l];by_cases h:p.Code.length≤200∧p.Data.length≤500
 ·
  rw [dt h,g7k];exact ⟨_,rfl,fun hb=>⟨h.1,h.2,of_decide_eq_true hb⟩⟩
 ·
  rw [df h,g7i];exact ⟨_,rfl,fun hb=>by cases hb⟩
end Go.Proofs.Zz
