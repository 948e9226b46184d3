import Derived.Test.YtnhgipdlkcdeiaaDoorRows
import Derived.WalkKit
import Derived.ProofKit
import Derived.ChangeOld
import Derived.SizedLaws
set_option linter.unusedSimpArgs false
set_option linter.unusedVariables false
/- Closed facts of the seat: the words at the program's head. -/
namespace Go.Proofs.YtnhgipdlkcdeiaaDoor.facts
open Go
set_option maxRecDepth 100000
def join : List (List Char) → List Char
  | [] => []
  | [w] => w
  | w :: r => w ++ ' ' :: join r
def plain (w : List Char) : Bool := w.all fun c => !Nat.beq c.toNat 32
theorem word1 : ∀ (w : List Char), plain w = true → wordsSigns w = [w]
  | [], _ => rfl
  | c :: w, h => by
    unfold plain at h
    rw [List.all_cons, Bool.and_eq_true] at h
    have hc : c ≠ ' ' := by rintro rfl; simp at h
    unfold wordsSigns
    split
    · simp_all
    · rename_i h1; simp at h1; exact absurd h1.1 hc
    · rename_i c' r' _ h1
      simp at h1
      obtain ⟨rfl, rfl⟩ := h1
      rw [word1 _ h.2]
theorem word2 : ∀ (w r : List Char), plain w = true → wordsSigns (w ++ ' ' :: r) = w :: wordsSigns r
  | [], r, _ => rfl
  | c :: w, r, h => by
    unfold plain at h
    rw [List.all_cons, Bool.and_eq_true] at h
    have hc : c ≠ ' ' := by rintro rfl; simp at h
    have ih := word2 w r h.2
    rw [List.cons_append]
    rw [wordsSigns.eq_def]
    split
    · simp_all
    · rename_i h1; simp at h1; exact absurd h1.1 hc
    · rename_i c' r' _ h1
      simp at h1
      obtain ⟨rfl, rfl⟩ := h1
      rw [ih]
theorem words_join : ∀ (l : List (List Char)), l ≠ [] → l.all plain = true → wordsSigns (join l) = l
  | [], h, _ => absurd rfl h
  | [w], _, h => by simp at h; exact word1 _ h
  | w :: v :: r, _, h => by
    rw [List.all_cons, Bool.and_eq_true] at h
    show wordsSigns (w ++ ' ' :: join (v :: r)) = _
    rw [word2 _ _ h.1, words_join (v :: r) (by simp) h.2]
def words : List (List Char) := [['h', 'a', 'r', 'n', 'e', 's', 's'], ['2', '8', 'd', 'e', '2', 'e', '5', '6', '5', 'a', '3', '5', 'c', 'c', '4', '9', '1', '0', '7', '3', '8', 'b', '3', '0', '9', '6', '3', 'd', '8', '9', 'e', '6', '1', '1', '8', 'e', '4', '1', 'e', 'd', 'c', 'a', 'c', 'e', '8', '1', '3', '3', '1', 'f', '1', '1', '6', 'b', '8', '4', '5', '1', 'd', '8', 'c', '8', '8', '7'], ['c', 'u', 't'], ['a', 't'], ['f', 'o', 'r', 'e', 'r', 'u', 'n', 'n', 'e', 'r', '/', 'f', 'o', 'r', 'e', 'r', 'u', 'n', 'n', 'e', 'r', 'l', 'a', 'w', '9', '.', 'S', 'h', 'o', 'w', 'A', 'p', 'a', 'r', 't'], ['f', 'o', 'r', 'e', 'r', 'u', 'n', 'n', 'e', 'r', '/', 'f', 'o', 'r', 'e', 'r', 'u', 'n', 'n', 'e', 'r', 'l', 'a', 'w', '9', '.', 'S', 'h', 'o', 'w', 'T', 'e', 'l', 'l', 's'], ['f', 'o', 'r', 'e', 'r', 'u', 'n', 'n', 'e', 'r', '/', 'f', 'o', 'r', 'e', 'r', 'u', 'n', 'n', 'e', 'r', 'l', 'a', 'w', '9', '.', 'S', 'h', 'o', 'w', 'L', 'i', 'n', 'e', 's'], ['f', 'o', 'r', 'e', 'r', 'u', 'n', 'n', 'e', 'r', '/', 'f', 'o', 'r', 'e', 'r', 'u', 'n', 'n', 'e', 'r', 'l', 'a', 'w', '9', '.', 'S', 'h', 'o', 'w', 'B', 'a', 'c', 'k'], ['f', 'o', 'r', 'e', 'r', 'u', 'n', 'n', 'e', 'r', '/', 'f', 'o', 'r', 'e', 'r', 'u', 'n', 'n', 'e', 'r', 'l', 'a', 'w', '7', '.', 'L', 'e', 'x', 'T', 'e', 'l', 'l', 's'], ['f', 'o', 'r', 'e', 'r', 'u', 'n', 'n', 'e', 'r', '/', 'f', 'o', 'r', 'e', 'r', 'u', 'n', 'n', 'e', 'r', 'l', 'a', 'w', '7', '.', 'L', 'e', 'x', 'S', 't', 'a', 'n', 'd', 's'], ['f', 'o', 'r', 'e', 'r', 'u', 'n', 'n', 'e', 'r', '/', 'f', 'o', 'r', 'e', 'r', 'u', 'n', 'n', 'e', 'r', 'l', 'a', 'w', '7', '.', 'L', 'e', 'x', 'L', 'i', 'n', 'e', 's'], ['f', 'o', 'r', 'e', 'r', 'u', 'n', 'n', 'e', 'r', '/', 'f', 'o', 'r', 'e', 'r', 'u', 'n', 'n', 'e', 'r', 'l', 'a', 'w', '7', '.', 'L', 'e', 'x', 'N', 'u', 'm', 'b', 'e', 'r', 's'], ['f', 'o', 'r', 'e', 'r', 'u', 'n', 'n', 'e', 'r', '/', 'f', 'o', 'r', 'e', 'r', 'u', 'n', 'n', 'e', 'r', 'l', 'a', 'w', '7', '.', 'L', 'e', 'x', 'W', 'r', 'o', 'n', 'g'], ['f', 'o', 'r', 'e', 'r', 'u', 'n', 'n', 'e', 'r', '/', 'f', 'o', 'r', 'e', 'r', 'u', 'n', 'n', 'e', 'r', 'l', 'a', 'w', '7', '.', 'L', 'e', 'x', 'L', 'e', 't', 't', 'e', 'r', 's'], ['f', 'o', 'r', 'e', 'r', 'u', 'n', 'n', 'e', 'r', '/', 'f', 'o', 'r', 'e', 'r', 'u', 'n', 'n', 'e', 'r', 'l', 'a', 'w', '8', '.', 'A', 's', 'm', 'N', 'a', 'm', 'e', 's'], ['f', 'o', 'r', 'e', 'r', 'u', 'n', 'n', 'e', 'r', '/', 'f', 'o', 'r', 'e', 'r', 'u', 'n', 'n', 'e', 'r', 'l', 'a', 'w', '8', '.', 'A', 's', 'm', 'L', 'a', 'b', 'e', 'l', 's'], ['f', 'o', 'r', 'e', 'r', 'u', 'n', 'n', 'e', 'r', '/', 'f', 'o', 'r', 'e', 'r', 'u', 'n', 'n', 'e', 'r', 'l', 'a', 'w', '8', '.', 'A', 's', 'm', 'W', 'r', 'o', 'n', 'g'], ['f', 'o', 'r', 'e', 'r', 'u', 'n', 'n', 'e', 'r', '/', 'f', 'o', 'r', 'e', 'r', 'u', 'n', 'n', 'e', 'r', 'l', 'a', 'w', '8', '.', 'A', 's', 'm', 'B', 'y', 't', 'e', 's'], ['f', 'o', 'r', 'e', 'r', 'u', 'n', 'n', 'e', 'r', '/', 'f', 'o', 'r', 'e', 'r', 'u', 'n', 'n', 'e', 'r', 'l', 'a', 'w', '8', '.', 'A', 's', 'm', 'H', 'e', 'x']]
theorem io : Tryd.prog.initOrder = String.ofList (join words) := by kernel_rfl
theorem io' : Tryd.prog.initOrder.toList = join words := by rw [io]; exact String.toList_ofList
theorem ws : wordsSigns Tryd.prog.initOrder.toList = words := by rw [io']; exact words_join _ (by simp [words]) (by kernel_rfl)
def cutw : List Char := ['c', 'u', 't']
def rest : List (List Char) := words.drop 3
theorem bw : behindMainWord (wordsSigns Tryd.prog.initOrder.toList) = cutw :: rest := by rw [ws]; kernel_rfl
theorem strip : stripLifts liftWords (cutw :: rest) = ([], cutw :: rest) := by kernel_rfl
theorem cut_is : "cut".toList = cutw := by kernel_rfl
theorem head : Tryd.prog.headLifts = [] := by
  unfold Program.headLifts
  rw [bw, strip]
  kernel_rfl
theorem ne1 : (cutw == "gc".toList || cutw == "spec".toList) = false := by kernel_rfl
theorem ne2 : (cutw == "carried".toList) = false := by kernel_rfl
theorem later : Tryd.prog.laysLater = false := by kernel_rfl
theorem bears : Tryd.prog.bearsReflect = false := by kernel_rfl
theorem door : Tryd.prog.doorFits [] = true := by kernel_rfl
theorem make_of (P : Program) (c : List Char) (r : List (List Char)) (h : behindMainWord (wordsSigns P.initOrder.toList) = c :: r) (h1 : (c == "gc".toList || c == "spec".toList) = false) (h2 : (c == "cut".toList) = true) : P.make = some .cut := by
  unfold Program.make
  rw [h]
  simp only [h1, h2, Bool.true_or]
  rfl
theorem enter_of (P : Program) (c : List Char) (r : List (List Char)) (h : behindMainWord (wordsSigns P.initOrder.toList) = c :: r) (hs : stripLifts liftWords (c :: r) = ([], c :: r)) (h2 : (c == "cut".toList) = true) (h3 : P.laysLater = false) (h4 : P.bearsReflect = false) (h5 : P.doorFits [] = true) : P.mayEnter = true := by
  have e : (some c == some "cut".toList) = true := by simpa using h2
  unfold Program.mayEnter
  rw [h]
  simp only [hs, h3, h4, h5, List.head?_cons, e, List.contains_nil, Bool.not_false, Bool.or_true, Bool.true_or, Bool.and_true, Bool.true_and]
theorem lifts_of (P : Program) (c : List Char) (r : List (List Char)) (h : behindMainWord (wordsSigns P.initOrder.toList) = c :: r) (hh : P.headLifts = []) (h1 : (some c == some "carried".toList) = false) : P.liftsFinal = false := by
  unfold Program.liftsFinal
  simp only [h, hh, List.head?_cons, h1, Bool.false_and, Bool.false_or]
  rfl
theorem make : Tryd.prog.make = some .cut := make_of _ _ _ bw ne1 (by kernel_rfl)
theorem enter : Tryd.prog.mayEnter = true := enter_of _ _ _ bw strip (by kernel_rfl) later bears door
theorem lifts : Tryd.prog.liftsFinal = false := lifts_of _ _ _ bw head (by kernel_rfl)
end Go.Proofs.YtnhgipdlkcdeiaaDoor.facts
