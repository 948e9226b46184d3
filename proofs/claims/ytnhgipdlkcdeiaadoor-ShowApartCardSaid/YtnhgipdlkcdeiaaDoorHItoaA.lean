import Derived.Test.YtnhgipdlkcdeiaaDoorA1
import Derived.Test.YtnhgipdlkcdeiaaDoorLayTryd
set_option linter.unusedSimpArgs false
set_option linter.unusedVariables false
/- strconv.Itoa: by the library's contract. -/
set_option linter.unusedVariables false
set_option linter.unusedSimpArgs false
set_option maxRecDepth 100000
namespace Go.Proofs.Zs
open Go Go.Proofs Go.Proofs.Tryd Go.Shelf
theorem below_grow (w : World) (k : Nat) (os : Array Go.Obj) : RowKit.Below w.heap.size w (Sort.grow (w.drewN k) os) := by
  refine ⟨rfl, rfl, rfl, ?_, fun b hb => ?_⟩
  · show w.heap.size ≤ (w.heap ++ os).size
    simp
  · show (w.heap ++ os)[b]? = w.heap[b]?
    rw [Array.getElem?_append_left hb]
def itoaB (n : Int) : ByteArray := ⟨(Lib.itoa n).toArray⟩
def c_strconv_Itoa : CS := ⟨8, 48, ⟨[.one (.d tI)], []⟩, [.one (.d tS)], true, []⟩
noncomputable def strconv_Itoa (N : Nat) (x0 : Int) : Option Rs := if -9223372036854775808 ≤ x0 ∧ x0 ≤ 9223372036854775807 then some (0, gT.dv (itoaB x0) []) else none
noncomputable def X_strconv_Itoa (N : Nat) : CE := (c_strconv_Itoa, mkF [pI] [pT] (strconv_Itoa N))
theorem Y_strconv_Itoa (N : Nat) : CEok Q (X_strconv_Itoa N) := mkF_ok fun ys n q h => by
  have h1 : strconv_Itoa N ys.1 = some (n, q) := h
  unfold strconv_Itoa at h1
  split at h1
  · rename_i hb
    simp only [Option.some.injEq, Prod.mk.injEq] at h1
    obtain ⟨_, rfl⟩ := h1
    refine lib_ok (callFunc_ok (fn := f48) (by kernel_rfl) (by kernel_rfl) (by kernel_rfl)) rfl rfl (fun t => by simp [c_strconv_Itoa]) rfl fun β F w vs hfb hL hl hA => ?_
    have hv := dargs (ps := [⟨.int .i64, ys.1⟩]) hA hl
    obtain ⟨v, rfl⟩ : ∃ v, vs = [v] := List.length_eq_one_iff.1 hl
    have hv : RepD F w (.int .i64) ys.1 [v] := hv.1
    rw [RepD] at hv
    simp only [List.cons.injEq, and_true] at hv
    subst hv
    refine (Tryd.strconv_Itoa ys.1 hb.1 hb.2 w hL).mono ?_
    rintro out w' ⟨h2, k, os, rfl⟩
    exact ⟨_, [.string (itoaB ys.1)], h2, rfl, rfl, dres_str _, below_grow w k os⟩
  · simp at h1
end Go.Proofs.Zs
