import Derived.Test.YtnfpdmhdpeffjaaGreatRows
import Derived.WalkKit
import Derived.ProofKit
import Derived.ChangeOld
import Derived.SizedLaws
set_option linter.unusedSimpArgs false
set_option linter.unusedVariables false
/- Closed facts of the seat: the words at the program's head. -/
namespace Go.Proofs.YtnfpdmhdpeffjaaGreat.facts
open Go
set_option maxRecDepth 100000
def join : List (List Char) → List Char
  | [] => []
  | [w] => w
  | w :: r => w ++ (Char.ofNat 32) :: join r
def plain (w : List Char) : Bool := w.all fun c => !Nat.beq c.toNat 32
theorem word1 : ∀ (w : List Char), plain w = true → wordsSigns w = [w]
  | [], _ => rfl
  | c :: w, h => by
    unfold plain at h
    rw [List.all_cons, Bool.and_eq_true] at h
    have hc : c ≠ (Char.ofNat 32) := by rintro rfl; simp at h
    unfold wordsSigns
    split
    · simp_all
    · rename_i h1; simp at h1; exact absurd h1.1 hc
    · rename_i c' r' _ h1
      simp at h1
      obtain ⟨rfl, rfl⟩ := h1
      rw [word1 _ h.2]
theorem word2 : ∀ (w r : List Char), plain w = true → wordsSigns (w ++ (Char.ofNat 32) :: r) = w :: wordsSigns r
  | [], r, _ => rfl
  | c :: w, r, h => by
    unfold plain at h
    rw [List.all_cons, Bool.and_eq_true] at h
    have hc : c ≠ (Char.ofNat 32) := by rintro rfl; simp at h
    have ih := word2 w r h.2
    rw [List.cons_append]
    rw [wordsSigns.eq_def]
    split
    · simp_all
    · rename_i h1; simp at h1; exact absurd h1.1 hc
    · rename_i c' r' _ h1
      simp at h1
      obtain ⟨rfl, rfl⟩ := h1
      rw [ih]
theorem words_join : ∀ (l : List (List Char)), l ≠ [] → l.all plain = true → wordsSigns (join l) = l
  | [], h, _ => absurd rfl h
  | [w], _, h => by simp at h; exact word1 _ h
  | w :: v :: r, _, h => by
    rw [List.all_cons, Bool.and_eq_true] at h
    show wordsSigns (w ++ (Char.ofNat 32) :: join (v :: r)) = _
    rw [word2 _ _ h.1, words_join (v :: r) (by simp) h.2]
def charsOf (l : List Nat) : List Char := l.map Char.ofNat
def words : List (List Char) := ([[104, 97, 114, 110, 101, 115, 115], [99, 102, 100, 55, 52, 100, 97, 56, 53, 50, 52, 52, 49, 57, 53, 48, 98, 49, 49, 49, 49, 49, 55, 101, 97, 101, 54, 99, 98, 49, 53, 97, 100, 54, 101, 101, 100, 97, 97, 98, 54, 55, 52, 99, 48, 48, 56, 55, 100, 101, 98, 55, 50, 97, 55, 51, 98, 50, 102, 52, 99, 48, 53, 48], [99, 117, 116], [97, 116], [102, 111, 114, 101, 114, 117, 110, 110, 101, 114, 47, 102, 111, 114, 101, 114, 117, 110, 110, 101, 114, 108, 97, 119, 50, 49, 46, 69, 112, 105, 112, 101, 84, 101, 108, 108, 115], [102, 111, 114, 101, 114, 117, 110, 110, 101, 114, 47, 102, 111, 114, 101, 114, 117, 110, 110, 101, 114, 108, 97, 119, 50, 49, 46, 69, 112, 105, 112, 101, 79, 110, 101], [102, 111, 114, 101, 114, 117, 110, 110, 101, 114, 47, 102, 111, 114, 101, 114, 117, 110, 110, 101, 114, 108, 97, 119, 50, 49, 46, 69, 112, 105, 112, 101, 87, 97, 105, 116, 115], [102, 111, 114, 101, 114, 117, 110, 110, 101, 114, 47, 102, 111, 114, 101, 114, 117, 110, 110, 101, 114, 108, 97, 119, 50, 49, 46, 69, 112, 105, 112, 101, 83, 116, 111, 112, 115], [102, 111, 114, 101, 114, 117, 110, 110, 101, 114, 47, 102, 111, 114, 101, 114, 117, 110, 110, 101, 114, 108, 97, 119, 50, 50, 46, 65, 112, 105, 112, 101, 79, 110, 101], [102, 111, 114, 101, 114, 117, 110, 110, 101, 114, 47, 102, 111, 114, 101, 114, 117, 110, 110, 101, 114, 108, 97, 119, 50, 50, 46, 65, 112, 105, 112, 101, 72, 111, 108, 100, 115], [102, 111, 114, 101, 114, 117, 110, 110, 101, 114, 47, 102, 111, 114, 101, 114, 117, 110, 110, 101, 114, 108, 97, 119, 50, 50, 46, 65, 112, 105, 112, 101, 83, 108, 105, 112, 115], [102, 111, 114, 101, 114, 117, 110, 110, 101, 114, 47, 102, 111, 114, 101, 114, 117, 110, 110, 101, 114, 108, 97, 119, 50, 50, 46, 65, 112, 105, 112, 101, 84, 114, 97, 112, 115], [102, 111, 114, 101, 114, 117, 110, 110, 101, 114, 47, 102, 111, 114, 101, 114, 117, 110, 110, 101, 114, 108, 97, 119, 50, 52, 46, 67, 111, 114, 101, 84, 101, 108, 108, 115], [102, 111, 114, 101, 114, 117, 110, 110, 101, 114, 47, 102, 111, 114, 101, 114, 117, 110, 110, 101, 114, 108, 97, 119, 50, 52, 46, 67, 111, 114, 101, 82, 101, 97, 99, 104, 101, 100], [102, 111, 114, 101, 114, 117, 110, 110, 101, 114, 47, 102, 111, 114, 101, 114, 117, 110, 110, 101, 114, 108, 97, 119, 50, 52, 46, 67, 111, 114, 101, 87, 114, 105, 116, 101, 115], [102, 111, 114, 101, 114, 117, 110, 110, 101, 114, 47, 102, 111, 114, 101, 114, 117, 110, 110, 101, 114, 108, 97, 119, 50, 52, 46, 67, 111, 114, 101, 69, 109, 112, 116, 121], [102, 111, 114, 101, 114, 117, 110, 110, 101, 114, 47, 102, 111, 114, 101, 114, 117, 110, 110, 101, 114, 108, 97, 119, 50, 52, 46, 67, 111, 114, 101, 83, 105, 100, 101, 115], [102, 111, 114, 101, 114, 117, 110, 110, 101, 114, 47, 102, 111, 114, 101, 114, 117, 110, 110, 101, 114, 108, 97, 119, 50, 52, 46, 67, 111, 114, 101, 84, 114, 97, 112, 115], [102, 111, 114, 101, 114, 117, 110, 110, 101, 114, 47, 102, 111, 114, 101, 114, 117, 110, 110, 101, 114, 108, 97, 119, 50, 53, 46, 82, 117, 110, 84, 101, 108, 108, 115], [102, 111, 114, 101, 114, 117, 110, 110, 101, 114, 47, 102, 111, 114, 101, 114, 117, 110, 110, 101, 114, 108, 97, 119, 50, 53, 46, 82, 117, 110, 83, 97, 109, 101], [102, 111, 114, 101, 114, 117, 110, 110, 101, 114, 47, 102, 111, 114, 101, 114, 117, 110, 110, 101, 114, 108, 97, 119, 50, 53, 46, 82, 117, 110, 70, 117, 101, 108], [102, 111, 114, 101, 114, 117, 110, 110, 101, 114, 47, 102, 111, 114, 101, 114, 117, 110, 110, 101, 114, 108, 97, 119, 50, 53, 46, 82, 117, 110, 79, 119, 110, 101, 114, 115], [102, 111, 114, 101, 114, 117, 110, 110, 101, 114, 47, 102, 111, 114, 101, 114, 117, 110, 110, 101, 114, 108, 97, 119, 50, 53, 46, 82, 117, 110, 76, 111, 111, 112, 115], [102, 111, 114, 101, 114, 117, 110, 110, 101, 114, 47, 102, 111, 114, 101, 114, 117, 110, 110, 101, 114, 108, 97, 119, 50, 53, 46, 82, 117, 110, 72, 97, 108, 116, 115]] : List (List Nat)).map charsOf
theorem io : Tryz.prog.initOrder = String.ofList (join words) := by kernel_rfl
theorem io' : Tryz.prog.initOrder.toList = join words := by rw [io]; exact String.toList_ofList
theorem ws : wordsSigns Tryz.prog.initOrder.toList = words := by rw [io']; exact words_join _ (by simp [words]) (by kernel_rfl)
def cutw : List Char := charsOf [99, 117, 116]
def rest : List (List Char) := words.drop 3
theorem bw : behindMainWord (wordsSigns Tryz.prog.initOrder.toList) = cutw :: rest := by rw [ws]; kernel_rfl
theorem strip : stripLifts liftWords (cutw :: rest) = ([], cutw :: rest) := by kernel_rfl
theorem cut_is : "cut".toList = cutw := by kernel_rfl
theorem head : Tryz.prog.headLifts = [] := by
  unfold Program.headLifts
  rw [bw, strip]
  kernel_rfl
theorem ne1 : (cutw == "gc".toList || cutw == "spec".toList) = false := by kernel_rfl
theorem ne2 : (cutw == "carried".toList) = false := by kernel_rfl
theorem later : Tryz.prog.laysLater = false := by kernel_rfl
theorem bears : Tryz.prog.bearsReflect = false := by kernel_rfl
theorem door : Tryz.prog.doorFits [] = true := by kernel_rfl
theorem make_of (P : Program) (c : List Char) (r : List (List Char)) (h : behindMainWord (wordsSigns P.initOrder.toList) = c :: r) (h1 : (c == "gc".toList || c == "spec".toList) = false) (h2 : (c == "cut".toList) = true) : P.make = some .cut := by
  unfold Program.make
  rw [h]
  simp only [h1, h2, Bool.true_or]
  rfl
theorem enter_of (P : Program) (c : List Char) (r : List (List Char)) (h : behindMainWord (wordsSigns P.initOrder.toList) = c :: r) (hs : stripLifts liftWords (c :: r) = ([], c :: r)) (h2 : (c == "cut".toList) = true) (h3 : P.laysLater = false) (h4 : P.bearsReflect = false) (h5 : P.doorFits [] = true) : P.mayEnter = true := by
  have e : (some c == some "cut".toList) = true := by simpa using h2
  unfold Program.mayEnter
  rw [h]
  simp only [hs, h3, h4, h5, List.head?_cons, e, List.contains_nil, Bool.not_false, Bool.or_true, Bool.true_or, Bool.and_true, Bool.true_and]
theorem lifts_of (P : Program) (c : List Char) (r : List (List Char)) (h : behindMainWord (wordsSigns P.initOrder.toList) = c :: r) (hh : P.headLifts = []) (h1 : (some c == some "carried".toList) = false) : P.liftsFinal = false := by
  unfold Program.liftsFinal
  simp only [h, hh, List.head?_cons, h1, Bool.false_and, Bool.false_or]
  rfl
theorem make : Tryz.prog.make = some .cut := make_of _ _ _ bw ne1 (by kernel_rfl)
theorem enter : Tryz.prog.mayEnter = true := enter_of _ _ _ bw strip (by kernel_rfl) later bears door
theorem lifts : Tryz.prog.liftsFinal = false := lifts_of _ _ _ bw head (by kernel_rfl)
end Go.Proofs.YtnfpdmhdpeffjaaGreat.facts
