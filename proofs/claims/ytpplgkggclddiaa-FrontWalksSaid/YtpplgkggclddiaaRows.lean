/-
  No cell of these rows narrows 'for every input' (looked for: loops, veiled, ifaces, maps, wideKeys, modest, calm, conditions, laid).
  DERIVED. THE GIVEN ROWS OF THIS SEAT. 3 by the template 'for every input the law returns true; each argument reads behind the call as it read before'; 0 by the template 'total and deterministic' (their statements: YtpplgkggclddiaaTotals.lean).
  GIVEN WITH THE SEED: the statements are not yours to turn. If you find one false, say at which input.
  Laid BY PROGRAM, IN A SANDBOX (cutbox-rows.mjs): the forced cells as the released guide's own fill.sh prints them over the translation 5a0e24b4b849802f… (all of the seat's roots in one cut). By AI agents, Wed Nov 11 2026. No macro, syntax, notation, axiom, sorry.
-/
import Derived.Test.YtpplgkggclddiaaChecked
import GoSem.Claim
import GoSem.ClaimJoined
import GoSem.ClaimMapViews
import Derived.JoinedTies
import Derived.KernelRfl
namespace Go.Proofs.Ytpplgkggclddiaa
/- THE CELL 'sum', in the pinned program and in every row, IS THE sha256 OF THE DUMP (.gsa) THAT YtpplgkggclddiaaProg.lean LOADS. Nothing in Lean hashes anything: it is a label: what it is worth is what the hold of that sum in a sandbox is worth. -/
noncomputable def Try.pinned : Pinned := { name := "ytpplgkggclddiaa", sum := "5a0e24b4b849802f1e010950f77df0c9c4e4bd634bf35388bd864f4b84abd00e", checked := Try.checked }
namespace Rows
def none {H : Type} : Left H := { results := [], args := [] }

/-- 'forerunnerlaw20.FrontWalks': WHATEVER THE INPUT: true; the input reads as it did. -/
def frontWalksSpec : ChangeSpec := { name := "frontWalks", fn := fun _ => fun
  | [d1, d2, d3] => { results := [.lit (.bool true)], args := [d1, d2, d3] }
  | _ => none }
def frontWalksRow : OpenClaim := { program := "ytpplgkggclddiaa", sum := "5a0e24b4b849802f1e010950f77df0c9c4e4bd634bf35388bd864f4b84abd00e", func := "forerunner/forerunnerlaw20.FrontWalks", spec := "frontWalks", apart := false }
def FrontWalksSaid : Prop := frontWalksRow.holds Try.pinned (OpenSpec.ofChange frontWalksSpec)

/-- ITS FALSE NEIGHBOUR: 'it returns false'. Refute it at one input. -/
def frontWalksWrong : ChangeSpec := { name := "frontWalks", fn := fun _ => fun
  | [d1, d2, d3] => { results := [.lit (.bool false)], args := [d1, d2, d3] }
  | _ => none }
def FrontWalksWrongFalsely : Prop := frontWalksRow.holds Try.pinned (OpenSpec.ofChange frontWalksWrong)

/-- 'forerunnerlaw20.FrontGoes': WHATEVER THE INPUT: true; the input reads as it did. -/
def frontGoesSpec : ChangeSpec := { name := "frontGoes", fn := fun _ => fun
  | [d1, d2, d3, d4] => { results := [.lit (.bool true)], args := [d1, d2, d3, d4] }
  | _ => none }
def frontGoesRow : OpenClaim := { program := "ytpplgkggclddiaa", sum := "5a0e24b4b849802f1e010950f77df0c9c4e4bd634bf35388bd864f4b84abd00e", func := "forerunner/forerunnerlaw20.FrontGoes", spec := "frontGoes", apart := false }
def FrontGoesSaid : Prop := frontGoesRow.holds Try.pinned (OpenSpec.ofChange frontGoesSpec)

/-- ITS FALSE NEIGHBOUR: 'it returns false'. Refute it at one input. -/
def frontGoesWrong : ChangeSpec := { name := "frontGoes", fn := fun _ => fun
  | [d1, d2, d3, d4] => { results := [.lit (.bool false)], args := [d1, d2, d3, d4] }
  | _ => none }
def FrontGoesWrongFalsely : Prop := frontGoesRow.holds Try.pinned (OpenSpec.ofChange frontGoesWrong)

/-- 'forerunnerlaw21.EpipeNotes': WHATEVER THE INPUT: true; the input reads as it did. -/
def epipeNotesSpec : ChangeSpec := { name := "epipeNotes", fn := fun _ => fun
  | [d] => { results := [.lit (.bool true)], args := [d] }
  | _ => none }
def epipeNotesRow : OpenClaim := { program := "ytpplgkggclddiaa", sum := "5a0e24b4b849802f1e010950f77df0c9c4e4bd634bf35388bd864f4b84abd00e", func := "forerunner/forerunnerlaw21.EpipeNotes", spec := "epipeNotes", unfollowed := true, recurses := true, apart := false }
def EpipeNotesSaid : Prop := epipeNotesRow.holds Try.pinned (OpenSpec.ofChange epipeNotesSpec)

/-- ITS FALSE NEIGHBOUR: 'it returns false'. Refute it at one input. -/
def epipeNotesWrong : ChangeSpec := { name := "epipeNotes", fn := fun _ => fun
  | [d] => { results := [.lit (.bool false)], args := [d] }
  | _ => none }
def EpipeNotesWrongFalsely : Prop := epipeNotesRow.holds Try.pinned (OpenSpec.ofChange epipeNotesWrong)

/- THE SECOND FORM. 'bulk': how many values and letters a reading holds, each counted each time it is reached (what is shared counts as often as it is met; a slice's spare places count too). A statement '..UptoSaid' is the law's where the arguments, and the package variables that the reading takes, are together of bulk at most 1048576: NARROWER than '..Said'. Prove '..Said' where nothing that the law and all that it calls make is longer than what came in: it says more and counts as full. Else prove '..UptoSaid'. A law counts once. -/
mutual
def uptoBulk {H : Type} : DataW H → Nat
  | .lit (.string bytes) => bytes.length + 1
  | .lit _ => 1
  | .nil => 1
  | .ptr d => uptoBulk d + 1
  | .slice elems spare => uptoBulkAll elems + uptoBulkAll spare + 1
  | .agg parts => uptoBulkAll parts + 1
  | .iface _ d => uptoBulk d + 1
  | .map entries => uptoBulkEntries entries + 1
  | .held _ => 1
def uptoBulkAll {H : Type} : List (DataW H) → Nat
  | [] => 0
  | d :: r => uptoBulk d + uptoBulkAll r
def uptoBulkEntries {H : Type} : List (Lit × DataW H) → Nat
  | [] => 0
  | x :: r => uptoBulkEntry x + uptoBulkEntries r
def uptoBulkEntry {H : Type} : Lit × DataW H → Nat
  | (.string bytes, d) => bytes.length + uptoBulk d + 1
  | (_, d) => uptoBulk d + 1
 end
def uptoSmall : (H : Type) → List (DataW H) → Bool := fun _ ds => decide (uptoBulkAll ds ≤ 1048576)
def OpenSpec.upto (s : _root_.Go.ChangeSpec) : _root_.Go.OpenSpec := { _root_.Go.OpenSpec.ofChange s with cond := some uptoSmall }

/-- 'forerunnerlaw20.FrontWalks', WHERE WHAT IT READS IS OF BULK AT MOST 1048576: true; the input reads as it did. -/
def frontWalksUptoRow : OpenClaim := { program := "ytpplgkggclddiaa", sum := "5a0e24b4b849802f1e010950f77df0c9c4e4bd634bf35388bd864f4b84abd00e", func := "forerunner/forerunnerlaw20.FrontWalks", spec := "frontWalks", apart := false, narrowed := true }
def FrontWalksUptoSaid : Prop := frontWalksUptoRow.holds Try.pinned (OpenSpec.upto frontWalksSpec)

/-- 'forerunnerlaw20.FrontGoes', WHERE WHAT IT READS IS OF BULK AT MOST 1048576: true; the input reads as it did. -/
def frontGoesUptoRow : OpenClaim := { program := "ytpplgkggclddiaa", sum := "5a0e24b4b849802f1e010950f77df0c9c4e4bd634bf35388bd864f4b84abd00e", func := "forerunner/forerunnerlaw20.FrontGoes", spec := "frontGoes", apart := false, narrowed := true }
def FrontGoesUptoSaid : Prop := frontGoesUptoRow.holds Try.pinned (OpenSpec.upto frontGoesSpec)

/-- 'forerunnerlaw21.EpipeNotes', WHERE WHAT IT READS IS OF BULK AT MOST 1048576: true; the input reads as it did. -/
def epipeNotesUptoRow : OpenClaim := { program := "ytpplgkggclddiaa", sum := "5a0e24b4b849802f1e010950f77df0c9c4e4bd634bf35388bd864f4b84abd00e", func := "forerunner/forerunnerlaw21.EpipeNotes", spec := "epipeNotes", unfollowed := true, recurses := true, apart := false, narrowed := true }
def EpipeNotesUptoSaid : Prop := epipeNotesUptoRow.holds Try.pinned (OpenSpec.upto epipeNotesSpec)

end Rows
end Go.Proofs.Ytpplgkggclddiaa
