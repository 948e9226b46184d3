import Derived.Test.YtnhgipdlkcdeiaaDoorA2
import Derived.Test.YtnhgipdlkcdeiaaDoorLayTryd
set_option linter.unusedSimpArgs false
set_option linter.unusedVariables false
/- strings.Join: by the library's contract. -/
set_option linter.unusedVariables false
set_option linter.unusedSimpArgs false
set_option maxRecDepth 100000
namespace Go.Proofs.Zs
open Go Go.Proofs Go.Proofs.Tryd Go.Shelf
def joinB (xs : List ByteArray) (s : ByteArray) : ByteArray := ⟨(Lib.join (xs.map (·.data.toList)) s.data.toList).toArray⟩
def joinOk (xs : List ByteArray) (s : ByteArray) : Prop := xs ≠ [] ∧ xs.length ≤ 140737488355328 ∧ (Lib.join (xs.map (·.data.toList)) s.data.toList).length ≤ 140737488355328
noncomputable instance (xs : List ByteArray) (s : ByteArray) : Decidable (joinOk xs s) := inferInstanceAs (Decidable (_ ∧ _))
theorem strs_cells {F : Nat → Prop} {w : World} : ∀ {xs : List ByteArray} {ds : List Value}, All (fun (x : Den tS) c => RepD F w tS x c) xs ds → ds = xs.map Value.string
  | [], _, h => h
  | x :: xs, ds, h => by
    obtain ⟨c, d, rfl, h1, h2⟩ := h
    rw [RepD] at h1
    rw [h1, strs_cells h2]
    rfl
def c_ss_Join : CS := ⟨10, 49, ⟨[.one (.d (.sl tS)), .one (.d tS)], []⟩, [.one (.d tS)], true, []⟩
noncomputable def ss_Join (N : Nat) (x0 : List ByteArray) (x1 : ByteArray) : Option Rs := if joinOk x0 x1 then some (0, gT.dv (joinB x0 x1) []) else none
noncomputable def X_ss_Join (N : Nat) : CE := (c_ss_Join, mkF [pD (.sl tS), pT] [pT] (ss_Join N))
theorem Y_ss_Join (N : Nat) : CEok Q (X_ss_Join N) := mkF_ok fun ys n q h => by
  have h1 : ss_Join N ys.1 ys.2.1 = some (n, q) := h
  unfold ss_Join at h1
  split at h1
  · rename_i hb
    simp only [Option.some.injEq, Prod.mk.injEq] at h1
    obtain ⟨_, rfl⟩ := h1
    refine lib_ok (callFunc_ok (fn := f49) (by kernel_rfl) (by kernel_rfl) (by kernel_rfl)) rfl rfl (fun t => by simp [c_ss_Join]) rfl fun β F w vs hfb hL hl hA => ?_
    have hv := dargs (ps := [⟨.sl .str, ys.1⟩, ⟨.str, ys.2.1⟩]) hA hl
    obtain ⟨v, v2, rfl⟩ : ∃ v v2, vs = [v, v2] := by
      match vs, hl with
      | [a, b], _ => exact ⟨a, b, rfl⟩
    obtain ⟨hv, hv2, _⟩ := hv
    have hv : RepD F w (.sl .str) ys.1 [v] := hv
    have hv2 : RepD F w .str ys.2.1 [v2] := hv2
    rw [RepD] at hv2
    rw [RepD] at hv
    obtain ⟨ad, cap, hv, hcap, hds⟩ := hv
    simp only [List.cons.injEq, and_true] at hv hv2
    subst hv
    subst hv2
    obtain ⟨hne, hlen, hout⟩ := hb
    rcases hds with hds | ⟨b, o, ds, rfl, hF, hall, hat⟩
    · exact absurd hds hne
    · have hc := strs_cells hall
      subst hc
      refine (Tryd.strings_Join b o cap ys.1 ys.2.1 w (fun j x hj => hat j _ (by rw [List.getElem?_map, hj]; rfl)) (hfb b hF) hlen hcap hout).mono ?_
      rintro out w' ⟨h2, h3⟩
      exact ⟨_, [.string (joinB ys.1 ys.2.1)], h2, rfl, rfl, dres_str _, h3⟩
  · simp at h1
end Go.Proofs.Zs
