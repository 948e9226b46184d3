import Derived.Test.YtnfpdmhdpeffjaaGreatRows
import Derived.WalkKit
import Derived.ProofKit
import Derived.ChangeOld
import Derived.SizedLaws
set_option linter.unusedSimpArgs false
set_option linter.unusedVariables false
/- Closed facts of the seat: the words at the program's head. -/
namespace Go.Proofs.YtnfpdmhdpeffjaaGreat.facts
open Go
set_option maxRecDepth 100000
def join : List (List Char) → List Char
 | [] => []
 | [w] => w
 | w :: r => w ++ ' ' :: join r
def plain (w : List Char) : Bool := w.all fun c => !Nat.beq c.toNat 32
theorem word1 : ∀ (w : List Char), plain w = true → wordsSigns w = [w]
 | [], _ => rfl
 | c :: w, h => by
  unfold plain at h;rw [List.all_cons, Bool.and_eq_true] at h;have hc : c ≠ ' ' := by rintro rfl; simp at h
  unfold wordsSigns;split
  · simp_all
  · rename_i h1; simp at h1; exact absurd h1.1 hc
  ·
   rename_i c' r' _ h1;simp at h1;obtain ⟨rfl, rfl⟩ := h1;rw [word1 _ h.2]
theorem word2 : ∀ (w r : List Char), plain w = true → wordsSigns (w ++ ' ' :: r) = w :: wordsSigns r
 | [], r, _ => rfl
 | c :: w, r, h => by
  unfold plain at h;rw [List.all_cons, Bool.and_eq_true] at h;have hc : c ≠ ' ' := by rintro rfl; simp at h
  have ih := word2 w r h.2;rw [List.cons_append];rw [wordsSigns.eq_def];split
  · simp_all
  · rename_i h1; simp at h1; exact absurd h1.1 hc
  ·
   rename_i c' r' _ h1;simp at h1;obtain ⟨rfl, rfl⟩ := h1;rw [ih]
theorem words_join : ∀ (l : List (List Char)), l ≠ [] → l.all plain = true → wordsSigns (join l) = l
 | [], h, _ => absurd rfl h
 | [w], _, h => by simp at h; exact word1 _ h
 | w :: v :: r, _, h => by
  rw [List.all_cons, Bool.and_eq_true] at h;show wordsSigns (w ++ ' ' :: join (v :: r)) = _;rw [word2 _ _ h.1, words_join (v :: r) (by simp) h.2]
def words : List (List Char) := [['h', 'a', 'r', 'n', 'e', 's', 's'], ['c', 'f', 'd', '7', '4', 'd', 'a', '8', '5', '2', '4', '4', '1', '9', '5', '0', 'b', '1', '1', '1', '1', '1', '7', 'e', 'a', 'e', '6', 'c', 'b', '1', '5', 'a', 'd', '6', 'e', 'e', 'd', 'a', 'a', 'b', '6', '7', '4', 'c', '0', '0', '8', '7', 'd', 'e', 'b', '7', '2', 'a', '7', '3', 'b', '2', 'f', '4', 'c', '0', '5', '0'], ['c', 'u', 't'], ['a', 't'], ['f', 'o', 'r', 'e', 'r', 'u', 'n', 'n', 'e', 'r', '/', 'f', 'o', 'r', 'e', 'r', 'u', 'n', 'n', 'e', 'r', 'l', 'a', 'w', '2', '1', '.', 'E', 'p', 'i', 'p', 'e', 'T', 'e', 'l', 'l', 's'], ['f', 'o', 'r', 'e', 'r', 'u', 'n', 'n', 'e', 'r', '/', 'f', 'o', 'r', 'e', 'r', 'u', 'n', 'n', 'e', 'r', 'l', 'a', 'w', '2', '1', '.', 'E', 'p', 'i', 'p', 'e', 'O', 'n', 'e'], ['f', 'o', 'r', 'e', 'r', 'u', 'n', 'n', 'e', 'r', '/', 'f', 'o', 'r', 'e', 'r', 'u', 'n', 'n', 'e', 'r', 'l', 'a', 'w', '2', '1', '.', 'E', 'p', 'i', 'p', 'e', 'W', 'a', 'i', 't', 's'], ['f', 'o', 'r', 'e', 'r', 'u', 'n', 'n', 'e', 'r', '/', 'f', 'o', 'r', 'e', 'r', 'u', 'n', 'n', 'e', 'r', 'l', 'a', 'w', '2', '1', '.', 'E', 'p', 'i', 'p', 'e', 'S', 't', 'o', 'p', 's'], ['f', 'o', 'r', 'e', 'r', 'u', 'n', 'n', 'e', 'r', '/', 'f', 'o', 'r', 'e', 'r', 'u', 'n', 'n', 'e', 'r', 'l', 'a', 'w', '2', '2', '.', 'A', 'p', 'i', 'p', 'e', 'O', 'n', 'e'], ['f', 'o', 'r', 'e', 'r', 'u', 'n', 'n', 'e', 'r', '/', 'f', 'o', 'r', 'e', 'r', 'u', 'n', 'n', 'e', 'r', 'l', 'a', 'w', '2', '2', '.', 'A', 'p', 'i', 'p', 'e', 'H', 'o', 'l', 'd', 's'], ['f', 'o', 'r', 'e', 'r', 'u', 'n', 'n', 'e', 'r', '/', 'f', 'o', 'r', 'e', 'r', 'u', 'n', 'n', 'e', 'r', 'l', 'a', 'w', '2', '2', '.', 'A', 'p', 'i', 'p', 'e', 'S', 'l', 'i', 'p', 's'], ['f', 'o', 'r', 'e', 'r', 'u', 'n', 'n', 'e', 'r', '/', 'f', 'o', 'r', 'e', 'r', 'u', 'n', 'n', 'e', 'r', 'l', 'a', 'w', '2', '2', '.', 'A', 'p', 'i', 'p', 'e', 'T', 'r', 'a', 'p', 's'], ['f', 'o', 'r', 'e', 'r', 'u', 'n', 'n', 'e', 'r', '/', 'f', 'o', 'r', 'e', 'r', 'u', 'n', 'n', 'e', 'r', 'l', 'a', 'w', '2', '4', '.', 'C', 'o', 'r', 'e', 'T', 'e', 'l', 'l', 's'], ['f', 'o', 'r', 'e', 'r', 'u', 'n', 'n', 'e', 'r', '/', 'f', 'o', 'r', 'e', 'r', 'u', 'n', 'n', 'e', 'r', 'l', 'a', 'w', '2', '4', '.', 'C', 'o', 'r', 'e', 'R', 'e', 'a', 'c', 'h', 'e', 'd'], ['f', 'o', 'r', 'e', 'r', 'u', 'n', 'n', 'e', 'r', '/', 'f', 'o', 'r', 'e', 'r', 'u', 'n', 'n', 'e', 'r', 'l', 'a', 'w', '2', '4', '.', 'C', 'o', 'r', 'e', 'W', 'r', 'i', 't', 'e', 's'], ['f', 'o', 'r', 'e', 'r', 'u', 'n', 'n', 'e', 'r', '/', 'f', 'o', 'r', 'e', 'r', 'u', 'n', 'n', 'e', 'r', 'l', 'a', 'w', '2', '4', '.', 'C', 'o', 'r', 'e', 'E', 'm', 'p', 't', 'y'], ['f', 'o', 'r', 'e', 'r', 'u', 'n', 'n', 'e', 'r', '/', 'f', 'o', 'r', 'e', 'r', 'u', 'n', 'n', 'e', 'r', 'l', 'a', 'w', '2', '4', '.', 'C', 'o', 'r', 'e', 'S', 'i', 'd', 'e', 's'], ['f', 'o', 'r', 'e', 'r', 'u', 'n', 'n', 'e', 'r', '/', 'f', 'o', 'r', 'e', 'r', 'u', 'n', 'n', 'e', 'r', 'l', 'a', 'w', '2', '4', '.', 'C', 'o', 'r', 'e', 'T', 'r', 'a', 'p', 's'], ['f', 'o', 'r', 'e', 'r', 'u', 'n', 'n', 'e', 'r', '/', 'f', 'o', 'r', 'e', 'r', 'u', 'n', 'n', 'e', 'r', 'l', 'a', 'w', '2', '5', '.', 'R', 'u', 'n', 'T', 'e', 'l', 'l', 's'], ['f', 'o', 'r', 'e', 'r', 'u', 'n', 'n', 'e', 'r', '/', 'f', 'o', 'r', 'e', 'r', 'u', 'n', 'n', 'e', 'r', 'l', 'a', 'w', '2', '5', '.', 'R', 'u', 'n', 'S', 'a', 'm', 'e'], ['f', 'o', 'r', 'e', 'r', 'u', 'n', 'n', 'e', 'r', '/', 'f', 'o', 'r', 'e', 'r', 'u', 'n', 'n', 'e', 'r', 'l', 'a', 'w', '2', '5', '.', 'R', 'u', 'n', 'F', 'u', 'e', 'l'], ['f', 'o', 'r', 'e', 'r', 'u', 'n', 'n', 'e', 'r', '/', 'f', 'o', 'r', 'e', 'r', 'u', 'n', 'n', 'e', 'r', 'l', 'a', 'w', '2', '5', '.', 'R', 'u', 'n', 'O', 'w', 'n', 'e', 'r', 's'], ['f', 'o', 'r', 'e', 'r', 'u', 'n', 'n', 'e', 'r', '/', 'f', 'o', 'r', 'e', 'r', 'u', 'n', 'n', 'e', 'r', 'l', 'a', 'w', '2', '5', '.', 'R', 'u', 'n', 'L', 'o', 'o', 'p', 's'], ['f', 'o', 'r', 'e', 'r', 'u', 'n', 'n', 'e', 'r', '/', 'f', 'o', 'r', 'e', 'r', 'u', 'n', 'n', 'e', 'r', 'l', 'a', 'w', '2', '5', '.', 'R', 'u', 'n', 'H', 'a', 'l', 't', 's']]
theorem io : Tryz.prog.initOrder = String.ofList (join words) := by kernel_rfl
theorem io' : Tryz.prog.initOrder.toList = join words := by rw [io]; exact String.toList_ofList
theorem ws : wordsSigns Tryz.prog.initOrder.toList = words := by rw [io']; exact words_join _ (by simp [words]) (by kernel_rfl)
def cutw : List Char := ['c', 'u', 't']
def rest : List (List Char) := words.drop 3
theorem bw : behindMainWord (wordsSigns Tryz.prog.initOrder.toList) = cutw :: rest := by rw [ws]; kernel_rfl
theorem strip : stripLifts liftWords (cutw :: rest) = ([], cutw :: rest) := by kernel_rfl
theorem cut_is : "cut".toList = cutw := by kernel_rfl
theorem head : Tryz.prog.headLifts = [] := by
 unfold Program.headLifts;rw [bw, strip]
 kernel_rfl
theorem ne1 : (cutw == "gc".toList || cutw == "spec".toList) = false := by kernel_rfl
theorem ne2 : (cutw == "carried".toList) = false := by kernel_rfl
theorem later : Tryz.prog.laysLater = false := by kernel_rfl
theorem bears : Tryz.prog.bearsReflect = false := by kernel_rfl
theorem door : Tryz.prog.doorFits [] = true := by kernel_rfl
theorem make_of (P : Program) (c : List Char) (r : List (List Char)) (h : behindMainWord (wordsSigns P.initOrder.toList) = c :: r) (h1 : (c == "gc".toList || c == "spec".toList) = false) (h2 : (c == "cut".toList) = true) : P.make = some .cut := by
 unfold Program.make;rw [h];simp only [h1, h2, Bool.true_or];rfl
theorem enter_of (P : Program) (c : List Char) (r : List (List Char)) (h : behindMainWord (wordsSigns P.initOrder.toList) = c :: r) (hs : stripLifts liftWords (c :: r) = ([], c :: r)) (h2 : (c == "cut".toList) = true) (h3 : P.laysLater = false) (h4 : P.bearsReflect = false) (h5 : P.doorFits [] = true) : P.mayEnter = true := by
 have e : (some c == some "cut".toList) = true := by simpa using h2
 unfold Program.mayEnter;rw [h];simp only [hs, h3, h4, h5, List.head?_cons, e, List.contains_nil, Bool.not_false, Bool.or_true, Bool.true_or, Bool.and_true, Bool.true_and]
theorem lifts_of (P : Program) (c : List Char) (r : List (List Char)) (h : behindMainWord (wordsSigns P.initOrder.toList) = c :: r) (hh : P.headLifts = []) (h1 : (some c == some "carried".toList) = false) : P.liftsFinal = false := by
 unfold Program.liftsFinal;simp only [h, hh, List.head?_cons, h1, Bool.false_and, Bool.false_or];rfl
theorem make : Tryz.prog.make = some .cut := make_of _ _ _ bw ne1 (by kernel_rfl)
theorem enter : Tryz.prog.mayEnter = true := enter_of _ _ _ bw strip (by kernel_rfl) later bears door
theorem lifts : Tryz.prog.liftsFinal = false := lifts_of _ _ _ bw head (by kernel_rfl)
end Go.Proofs.YtnfpdmhdpeffjaaGreat.facts
