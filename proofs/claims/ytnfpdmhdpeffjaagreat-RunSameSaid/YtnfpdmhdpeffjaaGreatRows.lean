/-
  No cell of these rows narrows 'for every input' (looked for: loops, veiled, ifaces, maps, wideKeys, modest, calm, conditions, laid).
  DERIVED. THE GIVEN ROWS OF THIS SEAT. 20 by the template 'for every input the law returns true; each argument reads behind the call as it read before'; 0 by the template 'total and deterministic' (their statements: YtnfpdmhdpeffjaaGreatTotals.lean).
  GIVEN WITH THE SEED: the statements are not yours to turn. If you find one false, say at which input.
  Laid BY PROGRAM, IN A SANDBOX (cutbox-rows.mjs): the forced cells as the released guide's own fill.sh prints them over the translation e0bf6af6f4c18bbc… (all of the seat's roots in one cut). By AI agents, Wed Nov 11 2026. No macro, syntax, notation, axiom, sorry.
-/
import Derived.Test.YtnfpdmhdpeffjaaGreatChecked
import GoSem.Claim
import GoSem.ClaimJoined
import GoSem.ClaimMapViews
import Derived.JoinedTies
import Derived.KernelRfl
namespace Go.Proofs.YtnfpdmhdpeffjaaGreat
/- THE CELL 'sum', in the pinned program and in every row, IS THE sha256 OF THE DUMP (.gsa) THAT YtnfpdmhdpeffjaaGreatProg.lean LOADS. Nothing in Lean hashes anything: it is a label: what it is worth is what the hold of that sum in a sandbox is worth. -/
noncomputable def Tryz.pinned : Pinned := { name := "ytnfpdmhdpeffjaagreat", sum := "e0bf6af6f4c18bbc32954f43ffa7494bba5477532cab140ec9ab7fe7beb35212", checked := Tryz.checked }
namespace Rows
def none {H : Type} : Left H := { results := [], args := [] }

/-- 'forerunnerlaw21.EpipeTells': WHATEVER THE INPUT: true; the input reads as it did. -/
def epipeTellsSpec : ChangeSpec := { name := "epipeTells", fn := fun _ => fun
  | [d1, d2, d3, d4, d5, d6, d7, d8] => { results := [.lit (.bool true)], args := [d1, d2, d3, d4, d5, d6, d7, d8] }
  | _ => none }
def epipeTellsRow : OpenClaim := { program := "ytnfpdmhdpeffjaagreat", sum := "e0bf6af6f4c18bbc32954f43ffa7494bba5477532cab140ec9ab7fe7beb35212", func := "forerunner/forerunnerlaw21.EpipeTells", spec := "epipeTells", unfollowed := true, recurses := true, named := ["math/bits.overflowError"], apart := false }
def EpipeTellsSaid : Prop := epipeTellsRow.holds Tryz.pinned (OpenSpec.ofChange epipeTellsSpec)

/-- ITS FALSE NEIGHBOUR: 'it returns false'. Refute it at one input. -/
def epipeTellsWrong : ChangeSpec := { name := "epipeTells", fn := fun _ => fun
  | [d1, d2, d3, d4, d5, d6, d7, d8] => { results := [.lit (.bool false)], args := [d1, d2, d3, d4, d5, d6, d7, d8] }
  | _ => none }
def EpipeTellsWrongFalsely : Prop := epipeTellsRow.holds Tryz.pinned (OpenSpec.ofChange epipeTellsWrong)

/-- 'forerunnerlaw21.EpipeOne': WHATEVER THE INPUT: true; the input reads as it did. -/
def epipeOneSpec : ChangeSpec := { name := "epipeOne", fn := fun _ => fun
  | [d1, d2, d3, d4] => { results := [.lit (.bool true)], args := [d1, d2, d3, d4] }
  | _ => none }
def epipeOneRow : OpenClaim := { program := "ytnfpdmhdpeffjaagreat", sum := "e0bf6af6f4c18bbc32954f43ffa7494bba5477532cab140ec9ab7fe7beb35212", func := "forerunner/forerunnerlaw21.EpipeOne", spec := "epipeOne", unfollowed := true, recurses := true, named := ["math/bits.overflowError"], apart := false }
def EpipeOneSaid : Prop := epipeOneRow.holds Tryz.pinned (OpenSpec.ofChange epipeOneSpec)

/-- ITS FALSE NEIGHBOUR: 'it returns false'. Refute it at one input. -/
def epipeOneWrong : ChangeSpec := { name := "epipeOne", fn := fun _ => fun
  | [d1, d2, d3, d4] => { results := [.lit (.bool false)], args := [d1, d2, d3, d4] }
  | _ => none }
def EpipeOneWrongFalsely : Prop := epipeOneRow.holds Tryz.pinned (OpenSpec.ofChange epipeOneWrong)

/-- 'forerunnerlaw21.EpipeWaits': WHATEVER THE INPUT: true; the input reads as it did. -/
def epipeWaitsSpec : ChangeSpec := { name := "epipeWaits", fn := fun _ => fun
  | [d1, d2, d3, d4] => { results := [.lit (.bool true)], args := [d1, d2, d3, d4] }
  | _ => none }
def epipeWaitsRow : OpenClaim := { program := "ytnfpdmhdpeffjaagreat", sum := "e0bf6af6f4c18bbc32954f43ffa7494bba5477532cab140ec9ab7fe7beb35212", func := "forerunner/forerunnerlaw21.EpipeWaits", spec := "epipeWaits", unfollowed := true, recurses := true, named := ["math/bits.overflowError"], apart := false }
def EpipeWaitsSaid : Prop := epipeWaitsRow.holds Tryz.pinned (OpenSpec.ofChange epipeWaitsSpec)

/-- ITS FALSE NEIGHBOUR: 'it returns false'. Refute it at one input. -/
def epipeWaitsWrong : ChangeSpec := { name := "epipeWaits", fn := fun _ => fun
  | [d1, d2, d3, d4] => { results := [.lit (.bool false)], args := [d1, d2, d3, d4] }
  | _ => none }
def EpipeWaitsWrongFalsely : Prop := epipeWaitsRow.holds Tryz.pinned (OpenSpec.ofChange epipeWaitsWrong)

/-- 'forerunnerlaw21.EpipeStops': WHATEVER THE INPUT: true; the input reads as it did. -/
def epipeStopsSpec : ChangeSpec := { name := "epipeStops", fn := fun _ => fun
  | [d1, d2, d3, d4] => { results := [.lit (.bool true)], args := [d1, d2, d3, d4] }
  | _ => none }
def epipeStopsRow : OpenClaim := { program := "ytnfpdmhdpeffjaagreat", sum := "e0bf6af6f4c18bbc32954f43ffa7494bba5477532cab140ec9ab7fe7beb35212", func := "forerunner/forerunnerlaw21.EpipeStops", spec := "epipeStops", unfollowed := true, recurses := true, named := ["math/bits.overflowError"], apart := false }
def EpipeStopsSaid : Prop := epipeStopsRow.holds Tryz.pinned (OpenSpec.ofChange epipeStopsSpec)

/-- ITS FALSE NEIGHBOUR: 'it returns false'. Refute it at one input. -/
def epipeStopsWrong : ChangeSpec := { name := "epipeStops", fn := fun _ => fun
  | [d1, d2, d3, d4] => { results := [.lit (.bool false)], args := [d1, d2, d3, d4] }
  | _ => none }
def EpipeStopsWrongFalsely : Prop := epipeStopsRow.holds Tryz.pinned (OpenSpec.ofChange epipeStopsWrong)

/-- 'forerunnerlaw22.ApipeOne': WHATEVER THE INPUT: true; the input reads as it did. -/
def apipeOneSpec : ChangeSpec := { name := "apipeOne", fn := fun _ => fun
  | [d1, d2, d3, d4] => { results := [.lit (.bool true)], args := [d1, d2, d3, d4] }
  | _ => none }
def apipeOneRow : OpenClaim := { program := "ytnfpdmhdpeffjaagreat", sum := "e0bf6af6f4c18bbc32954f43ffa7494bba5477532cab140ec9ab7fe7beb35212", func := "forerunner/forerunnerlaw22.ApipeOne", spec := "apipeOne", unfollowed := true, recurses := true, named := ["math/bits.overflowError"], apart := false }
def ApipeOneSaid : Prop := apipeOneRow.holds Tryz.pinned (OpenSpec.ofChange apipeOneSpec)

/-- ITS FALSE NEIGHBOUR: 'it returns false'. Refute it at one input. -/
def apipeOneWrong : ChangeSpec := { name := "apipeOne", fn := fun _ => fun
  | [d1, d2, d3, d4] => { results := [.lit (.bool false)], args := [d1, d2, d3, d4] }
  | _ => none }
def ApipeOneWrongFalsely : Prop := apipeOneRow.holds Tryz.pinned (OpenSpec.ofChange apipeOneWrong)

/-- 'forerunnerlaw22.ApipeHolds': WHATEVER THE INPUT: true; the input reads as it did. -/
def apipeHoldsSpec : ChangeSpec := { name := "apipeHolds", fn := fun _ => fun
  | [d1, d2, d3, d4, d5] => { results := [.lit (.bool true)], args := [d1, d2, d3, d4, d5] }
  | _ => none }
def apipeHoldsRow : OpenClaim := { program := "ytnfpdmhdpeffjaagreat", sum := "e0bf6af6f4c18bbc32954f43ffa7494bba5477532cab140ec9ab7fe7beb35212", func := "forerunner/forerunnerlaw22.ApipeHolds", spec := "apipeHolds", unfollowed := true, recurses := true, named := ["math/bits.overflowError"], apart := false }
def ApipeHoldsSaid : Prop := apipeHoldsRow.holds Tryz.pinned (OpenSpec.ofChange apipeHoldsSpec)

/-- ITS FALSE NEIGHBOUR: 'it returns false'. Refute it at one input. -/
def apipeHoldsWrong : ChangeSpec := { name := "apipeHolds", fn := fun _ => fun
  | [d1, d2, d3, d4, d5] => { results := [.lit (.bool false)], args := [d1, d2, d3, d4, d5] }
  | _ => none }
def ApipeHoldsWrongFalsely : Prop := apipeHoldsRow.holds Tryz.pinned (OpenSpec.ofChange apipeHoldsWrong)

/-- 'forerunnerlaw22.ApipeSlips': WHATEVER THE INPUT: true; the input reads as it did. -/
def apipeSlipsSpec : ChangeSpec := { name := "apipeSlips", fn := fun _ => fun
  | [d1, d2, d3, d4] => { results := [.lit (.bool true)], args := [d1, d2, d3, d4] }
  | _ => none }
def apipeSlipsRow : OpenClaim := { program := "ytnfpdmhdpeffjaagreat", sum := "e0bf6af6f4c18bbc32954f43ffa7494bba5477532cab140ec9ab7fe7beb35212", func := "forerunner/forerunnerlaw22.ApipeSlips", spec := "apipeSlips", unfollowed := true, recurses := true, named := ["math/bits.overflowError"], apart := false }
def ApipeSlipsSaid : Prop := apipeSlipsRow.holds Tryz.pinned (OpenSpec.ofChange apipeSlipsSpec)

/-- ITS FALSE NEIGHBOUR: 'it returns false'. Refute it at one input. -/
def apipeSlipsWrong : ChangeSpec := { name := "apipeSlips", fn := fun _ => fun
  | [d1, d2, d3, d4] => { results := [.lit (.bool false)], args := [d1, d2, d3, d4] }
  | _ => none }
def ApipeSlipsWrongFalsely : Prop := apipeSlipsRow.holds Tryz.pinned (OpenSpec.ofChange apipeSlipsWrong)

/-- 'forerunnerlaw22.ApipeTraps': WHATEVER THE INPUT: true; the input reads as it did. -/
def apipeTrapsSpec : ChangeSpec := { name := "apipeTraps", fn := fun _ => fun
  | [d1, d2, d3] => { results := [.lit (.bool true)], args := [d1, d2, d3] }
  | _ => none }
def apipeTrapsRow : OpenClaim := { program := "ytnfpdmhdpeffjaagreat", sum := "e0bf6af6f4c18bbc32954f43ffa7494bba5477532cab140ec9ab7fe7beb35212", func := "forerunner/forerunnerlaw22.ApipeTraps", spec := "apipeTraps", unfollowed := true, recurses := true, named := ["math/bits.overflowError"], apart := false }
def ApipeTrapsSaid : Prop := apipeTrapsRow.holds Tryz.pinned (OpenSpec.ofChange apipeTrapsSpec)

/-- ITS FALSE NEIGHBOUR: 'it returns false'. Refute it at one input. -/
def apipeTrapsWrong : ChangeSpec := { name := "apipeTraps", fn := fun _ => fun
  | [d1, d2, d3] => { results := [.lit (.bool false)], args := [d1, d2, d3] }
  | _ => none }
def ApipeTrapsWrongFalsely : Prop := apipeTrapsRow.holds Tryz.pinned (OpenSpec.ofChange apipeTrapsWrong)

/-- 'forerunnerlaw24.CoreTells': WHATEVER THE INPUT: true; the input reads as it did. -/
def coreTellsSpec : ChangeSpec := { name := "coreTells", fn := fun _ => fun
  | [d1, d2, d3, d4, d5] => { results := [.lit (.bool true)], args := [d1, d2, d3, d4, d5] }
  | _ => none }
def coreTellsRow : OpenClaim := { program := "ytnfpdmhdpeffjaagreat", sum := "e0bf6af6f4c18bbc32954f43ffa7494bba5477532cab140ec9ab7fe7beb35212", func := "forerunner/forerunnerlaw24.CoreTells", spec := "coreTells", unfollowed := true, recurses := true, named := ["math/bits.overflowError"], apart := false }
def CoreTellsSaid : Prop := coreTellsRow.holds Tryz.pinned (OpenSpec.ofChange coreTellsSpec)

/-- ITS FALSE NEIGHBOUR: 'it returns false'. Refute it at one input. -/
def coreTellsWrong : ChangeSpec := { name := "coreTells", fn := fun _ => fun
  | [d1, d2, d3, d4, d5] => { results := [.lit (.bool false)], args := [d1, d2, d3, d4, d5] }
  | _ => none }
def CoreTellsWrongFalsely : Prop := coreTellsRow.holds Tryz.pinned (OpenSpec.ofChange coreTellsWrong)

/-- 'forerunnerlaw24.CoreReached': WHATEVER THE INPUT: true; the input reads as it did. -/
def coreReachedSpec : ChangeSpec := { name := "coreReached", fn := fun _ => fun
  | [d1, d2, d3, d4, d5] => { results := [.lit (.bool true)], args := [d1, d2, d3, d4, d5] }
  | _ => none }
def coreReachedRow : OpenClaim := { program := "ytnfpdmhdpeffjaagreat", sum := "e0bf6af6f4c18bbc32954f43ffa7494bba5477532cab140ec9ab7fe7beb35212", func := "forerunner/forerunnerlaw24.CoreReached", spec := "coreReached", unfollowed := true, recurses := true, named := ["math/bits.overflowError"], apart := false }
def CoreReachedSaid : Prop := coreReachedRow.holds Tryz.pinned (OpenSpec.ofChange coreReachedSpec)

/-- ITS FALSE NEIGHBOUR: 'it returns false'. Refute it at one input. -/
def coreReachedWrong : ChangeSpec := { name := "coreReached", fn := fun _ => fun
  | [d1, d2, d3, d4, d5] => { results := [.lit (.bool false)], args := [d1, d2, d3, d4, d5] }
  | _ => none }
def CoreReachedWrongFalsely : Prop := coreReachedRow.holds Tryz.pinned (OpenSpec.ofChange coreReachedWrong)

/-- 'forerunnerlaw24.CoreWrites': WHATEVER THE INPUT: true; the input reads as it did. -/
def coreWritesSpec : ChangeSpec := { name := "coreWrites", fn := fun _ => fun
  | [d1, d2, d3, d4, d5] => { results := [.lit (.bool true)], args := [d1, d2, d3, d4, d5] }
  | _ => none }
def coreWritesRow : OpenClaim := { program := "ytnfpdmhdpeffjaagreat", sum := "e0bf6af6f4c18bbc32954f43ffa7494bba5477532cab140ec9ab7fe7beb35212", func := "forerunner/forerunnerlaw24.CoreWrites", spec := "coreWrites", unfollowed := true, recurses := true, named := ["math/bits.overflowError"], apart := false }
def CoreWritesSaid : Prop := coreWritesRow.holds Tryz.pinned (OpenSpec.ofChange coreWritesSpec)

/-- ITS FALSE NEIGHBOUR: 'it returns false'. Refute it at one input. -/
def coreWritesWrong : ChangeSpec := { name := "coreWrites", fn := fun _ => fun
  | [d1, d2, d3, d4, d5] => { results := [.lit (.bool false)], args := [d1, d2, d3, d4, d5] }
  | _ => none }
def CoreWritesWrongFalsely : Prop := coreWritesRow.holds Tryz.pinned (OpenSpec.ofChange coreWritesWrong)

/-- 'forerunnerlaw24.CoreEmpty': WHATEVER THE INPUT: true; the input reads as it did. -/
def coreEmptySpec : ChangeSpec := { name := "coreEmpty", fn := fun _ => fun
  | [d1, d2, d3, d4] => { results := [.lit (.bool true)], args := [d1, d2, d3, d4] }
  | _ => none }
def coreEmptyRow : OpenClaim := { program := "ytnfpdmhdpeffjaagreat", sum := "e0bf6af6f4c18bbc32954f43ffa7494bba5477532cab140ec9ab7fe7beb35212", func := "forerunner/forerunnerlaw24.CoreEmpty", spec := "coreEmpty", unfollowed := true, recurses := true, named := ["math/bits.overflowError"], apart := false }
def CoreEmptySaid : Prop := coreEmptyRow.holds Tryz.pinned (OpenSpec.ofChange coreEmptySpec)

/-- ITS FALSE NEIGHBOUR: 'it returns false'. Refute it at one input. -/
def coreEmptyWrong : ChangeSpec := { name := "coreEmpty", fn := fun _ => fun
  | [d1, d2, d3, d4] => { results := [.lit (.bool false)], args := [d1, d2, d3, d4] }
  | _ => none }
def CoreEmptyWrongFalsely : Prop := coreEmptyRow.holds Tryz.pinned (OpenSpec.ofChange coreEmptyWrong)

/-- 'forerunnerlaw24.CoreSides': WHATEVER THE INPUT: true; the input reads as it did. -/
def coreSidesSpec : ChangeSpec := { name := "coreSides", fn := fun _ => fun
  | [d1, d2, d3, d4, d5] => { results := [.lit (.bool true)], args := [d1, d2, d3, d4, d5] }
  | _ => none }
def coreSidesRow : OpenClaim := { program := "ytnfpdmhdpeffjaagreat", sum := "e0bf6af6f4c18bbc32954f43ffa7494bba5477532cab140ec9ab7fe7beb35212", func := "forerunner/forerunnerlaw24.CoreSides", spec := "coreSides", unfollowed := true, recurses := true, named := ["math/bits.overflowError"], apart := false }
def CoreSidesSaid : Prop := coreSidesRow.holds Tryz.pinned (OpenSpec.ofChange coreSidesSpec)

/-- ITS FALSE NEIGHBOUR: 'it returns false'. Refute it at one input. -/
def coreSidesWrong : ChangeSpec := { name := "coreSides", fn := fun _ => fun
  | [d1, d2, d3, d4, d5] => { results := [.lit (.bool false)], args := [d1, d2, d3, d4, d5] }
  | _ => none }
def CoreSidesWrongFalsely : Prop := coreSidesRow.holds Tryz.pinned (OpenSpec.ofChange coreSidesWrong)

/-- 'forerunnerlaw24.CoreTraps': WHATEVER THE INPUT: true; the input reads as it did. -/
def coreTrapsSpec : ChangeSpec := { name := "coreTraps", fn := fun _ => fun
  | [d1, d2, d3, d4, d5] => { results := [.lit (.bool true)], args := [d1, d2, d3, d4, d5] }
  | _ => none }
def coreTrapsRow : OpenClaim := { program := "ytnfpdmhdpeffjaagreat", sum := "e0bf6af6f4c18bbc32954f43ffa7494bba5477532cab140ec9ab7fe7beb35212", func := "forerunner/forerunnerlaw24.CoreTraps", spec := "coreTraps", unfollowed := true, recurses := true, named := ["math/bits.overflowError"], apart := false }
def CoreTrapsSaid : Prop := coreTrapsRow.holds Tryz.pinned (OpenSpec.ofChange coreTrapsSpec)

/-- ITS FALSE NEIGHBOUR: 'it returns false'. Refute it at one input. -/
def coreTrapsWrong : ChangeSpec := { name := "coreTraps", fn := fun _ => fun
  | [d1, d2, d3, d4, d5] => { results := [.lit (.bool false)], args := [d1, d2, d3, d4, d5] }
  | _ => none }
def CoreTrapsWrongFalsely : Prop := coreTrapsRow.holds Tryz.pinned (OpenSpec.ofChange coreTrapsWrong)

/-- 'forerunnerlaw25.RunTells': WHATEVER THE INPUT: true; the input reads as it did. -/
def runTellsSpec : ChangeSpec := { name := "runTells", fn := fun _ => fun
  | [d1, d2, d3, d4, d5, d6] => { results := [.lit (.bool true)], args := [d1, d2, d3, d4, d5, d6] }
  | _ => none }
def runTellsRow : OpenClaim := { program := "ytnfpdmhdpeffjaagreat", sum := "e0bf6af6f4c18bbc32954f43ffa7494bba5477532cab140ec9ab7fe7beb35212", func := "forerunner/forerunnerlaw25.RunTells", spec := "runTells", unfollowed := true, recurses := true, named := ["math/bits.overflowError"], apart := false }
def RunTellsSaid : Prop := runTellsRow.holds Tryz.pinned (OpenSpec.ofChange runTellsSpec)

/-- ITS FALSE NEIGHBOUR: 'it returns false'. Refute it at one input. -/
def runTellsWrong : ChangeSpec := { name := "runTells", fn := fun _ => fun
  | [d1, d2, d3, d4, d5, d6] => { results := [.lit (.bool false)], args := [d1, d2, d3, d4, d5, d6] }
  | _ => none }
def RunTellsWrongFalsely : Prop := runTellsRow.holds Tryz.pinned (OpenSpec.ofChange runTellsWrong)

/-- 'forerunnerlaw25.RunSame': WHATEVER THE INPUT: true; the input reads as it did. -/
def runSameSpec : ChangeSpec := { name := "runSame", fn := fun _ => fun
  | [d1, d2, d3, d4] => { results := [.lit (.bool true)], args := [d1, d2, d3, d4] }
  | _ => none }
def runSameRow : OpenClaim := { program := "ytnfpdmhdpeffjaagreat", sum := "e0bf6af6f4c18bbc32954f43ffa7494bba5477532cab140ec9ab7fe7beb35212", func := "forerunner/forerunnerlaw25.RunSame", spec := "runSame", unfollowed := true, recurses := true, named := ["math/bits.overflowError"], apart := false }
def RunSameSaid : Prop := runSameRow.holds Tryz.pinned (OpenSpec.ofChange runSameSpec)

/-- ITS FALSE NEIGHBOUR: 'it returns false'. Refute it at one input. -/
def runSameWrong : ChangeSpec := { name := "runSame", fn := fun _ => fun
  | [d1, d2, d3, d4] => { results := [.lit (.bool false)], args := [d1, d2, d3, d4] }
  | _ => none }
def RunSameWrongFalsely : Prop := runSameRow.holds Tryz.pinned (OpenSpec.ofChange runSameWrong)

/-- 'forerunnerlaw25.RunFuel': WHATEVER THE INPUT: true; the input reads as it did. -/
def runFuelSpec : ChangeSpec := { name := "runFuel", fn := fun _ => fun
  | [d1, d2, d3, d4, d5, d6] => { results := [.lit (.bool true)], args := [d1, d2, d3, d4, d5, d6] }
  | _ => none }
def runFuelRow : OpenClaim := { program := "ytnfpdmhdpeffjaagreat", sum := "e0bf6af6f4c18bbc32954f43ffa7494bba5477532cab140ec9ab7fe7beb35212", func := "forerunner/forerunnerlaw25.RunFuel", spec := "runFuel", unfollowed := true, recurses := true, named := ["math/bits.overflowError"], apart := false }
def RunFuelSaid : Prop := runFuelRow.holds Tryz.pinned (OpenSpec.ofChange runFuelSpec)

/-- ITS FALSE NEIGHBOUR: 'it returns false'. Refute it at one input. -/
def runFuelWrong : ChangeSpec := { name := "runFuel", fn := fun _ => fun
  | [d1, d2, d3, d4, d5, d6] => { results := [.lit (.bool false)], args := [d1, d2, d3, d4, d5, d6] }
  | _ => none }
def RunFuelWrongFalsely : Prop := runFuelRow.holds Tryz.pinned (OpenSpec.ofChange runFuelWrong)

/-- 'forerunnerlaw25.RunOwners': WHATEVER THE INPUT: true; the input reads as it did. -/
def runOwnersSpec : ChangeSpec := { name := "runOwners", fn := fun _ => fun
  | [d1, d2, d3, d4, d5] => { results := [.lit (.bool true)], args := [d1, d2, d3, d4, d5] }
  | _ => none }
def runOwnersRow : OpenClaim := { program := "ytnfpdmhdpeffjaagreat", sum := "e0bf6af6f4c18bbc32954f43ffa7494bba5477532cab140ec9ab7fe7beb35212", func := "forerunner/forerunnerlaw25.RunOwners", spec := "runOwners", unfollowed := true, recurses := true, named := ["math/bits.overflowError"], apart := false }
def RunOwnersSaid : Prop := runOwnersRow.holds Tryz.pinned (OpenSpec.ofChange runOwnersSpec)

/-- ITS FALSE NEIGHBOUR: 'it returns false'. Refute it at one input. -/
def runOwnersWrong : ChangeSpec := { name := "runOwners", fn := fun _ => fun
  | [d1, d2, d3, d4, d5] => { results := [.lit (.bool false)], args := [d1, d2, d3, d4, d5] }
  | _ => none }
def RunOwnersWrongFalsely : Prop := runOwnersRow.holds Tryz.pinned (OpenSpec.ofChange runOwnersWrong)

/-- 'forerunnerlaw25.RunLoops': WHATEVER THE INPUT: true; the input reads as it did. -/
def runLoopsSpec : ChangeSpec := { name := "runLoops", fn := fun _ => fun
  | [d1, d2, d3, d4] => { results := [.lit (.bool true)], args := [d1, d2, d3, d4] }
  | _ => none }
def runLoopsRow : OpenClaim := { program := "ytnfpdmhdpeffjaagreat", sum := "e0bf6af6f4c18bbc32954f43ffa7494bba5477532cab140ec9ab7fe7beb35212", func := "forerunner/forerunnerlaw25.RunLoops", spec := "runLoops", unfollowed := true, recurses := true, named := ["math/bits.overflowError"], apart := false }
def RunLoopsSaid : Prop := runLoopsRow.holds Tryz.pinned (OpenSpec.ofChange runLoopsSpec)

/-- ITS FALSE NEIGHBOUR: 'it returns false'. Refute it at one input. -/
def runLoopsWrong : ChangeSpec := { name := "runLoops", fn := fun _ => fun
  | [d1, d2, d3, d4] => { results := [.lit (.bool false)], args := [d1, d2, d3, d4] }
  | _ => none }
def RunLoopsWrongFalsely : Prop := runLoopsRow.holds Tryz.pinned (OpenSpec.ofChange runLoopsWrong)

/-- 'forerunnerlaw25.RunHalts': WHATEVER THE INPUT: true; the input reads as it did. -/
def runHaltsSpec : ChangeSpec := { name := "runHalts", fn := fun _ => fun
  | [d1, d2, d3] => { results := [.lit (.bool true)], args := [d1, d2, d3] }
  | _ => none }
def runHaltsRow : OpenClaim := { program := "ytnfpdmhdpeffjaagreat", sum := "e0bf6af6f4c18bbc32954f43ffa7494bba5477532cab140ec9ab7fe7beb35212", func := "forerunner/forerunnerlaw25.RunHalts", spec := "runHalts", unfollowed := true, recurses := true, named := ["math/bits.overflowError"], apart := false }
def RunHaltsSaid : Prop := runHaltsRow.holds Tryz.pinned (OpenSpec.ofChange runHaltsSpec)

/-- ITS FALSE NEIGHBOUR: 'it returns false'. Refute it at one input. -/
def runHaltsWrong : ChangeSpec := { name := "runHalts", fn := fun _ => fun
  | [d1, d2, d3] => { results := [.lit (.bool false)], args := [d1, d2, d3] }
  | _ => none }
def RunHaltsWrongFalsely : Prop := runHaltsRow.holds Tryz.pinned (OpenSpec.ofChange runHaltsWrong)

/- THE SECOND FORM. 'bulk': how many values and letters a reading holds, each counted each time it is reached (what is shared counts as often as it is met; a slice's spare places count too). A statement '..UptoSaid' is the law's where the arguments, and the package variables that the reading takes, are together of bulk at most 1048576: NARROWER than '..Said'. Prove '..Said' where nothing that the law and all that it calls make is longer than what came in: it says more and counts as full. Else prove '..UptoSaid'. A law counts once. -/
mutual
def uptoBulk {H : Type} : DataW H → Nat
  | .lit (.string bytes) => bytes.length + 1
  | .lit _ => 1
  | .nil => 1
  | .ptr d => uptoBulk d + 1
  | .slice elems spare => uptoBulkAll elems + uptoBulkAll spare + 1
  | .agg parts => uptoBulkAll parts + 1
  | .iface _ d => uptoBulk d + 1
  | .map entries => uptoBulkEntries entries + 1
  | .held _ => 1
def uptoBulkAll {H : Type} : List (DataW H) → Nat
  | [] => 0
  | d :: r => uptoBulk d + uptoBulkAll r
def uptoBulkEntries {H : Type} : List (Lit × DataW H) → Nat
  | [] => 0
  | x :: r => uptoBulkEntry x + uptoBulkEntries r
def uptoBulkEntry {H : Type} : Lit × DataW H → Nat
  | (.string bytes, d) => bytes.length + uptoBulk d + 1
  | (_, d) => uptoBulk d + 1
 end
def uptoSmall : (H : Type) → List (DataW H) → Bool := fun _ ds => decide (uptoBulkAll ds ≤ 1048576)
def OpenSpec.upto (s : _root_.Go.ChangeSpec) : _root_.Go.OpenSpec := { _root_.Go.OpenSpec.ofChange s with cond := some uptoSmall }

/-- 'forerunnerlaw21.EpipeTells', WHERE WHAT IT READS IS OF BULK AT MOST 1048576: true; the input reads as it did. -/
def epipeTellsUptoRow : OpenClaim := { program := "ytnfpdmhdpeffjaagreat", sum := "e0bf6af6f4c18bbc32954f43ffa7494bba5477532cab140ec9ab7fe7beb35212", func := "forerunner/forerunnerlaw21.EpipeTells", spec := "epipeTells", unfollowed := true, recurses := true, named := ["math/bits.overflowError"], apart := false, narrowed := true }
def EpipeTellsUptoSaid : Prop := epipeTellsUptoRow.holds Tryz.pinned (OpenSpec.upto epipeTellsSpec)

/-- 'forerunnerlaw21.EpipeOne', WHERE WHAT IT READS IS OF BULK AT MOST 1048576: true; the input reads as it did. -/
def epipeOneUptoRow : OpenClaim := { program := "ytnfpdmhdpeffjaagreat", sum := "e0bf6af6f4c18bbc32954f43ffa7494bba5477532cab140ec9ab7fe7beb35212", func := "forerunner/forerunnerlaw21.EpipeOne", spec := "epipeOne", unfollowed := true, recurses := true, named := ["math/bits.overflowError"], apart := false, narrowed := true }
def EpipeOneUptoSaid : Prop := epipeOneUptoRow.holds Tryz.pinned (OpenSpec.upto epipeOneSpec)

/-- 'forerunnerlaw21.EpipeWaits', WHERE WHAT IT READS IS OF BULK AT MOST 1048576: true; the input reads as it did. -/
def epipeWaitsUptoRow : OpenClaim := { program := "ytnfpdmhdpeffjaagreat", sum := "e0bf6af6f4c18bbc32954f43ffa7494bba5477532cab140ec9ab7fe7beb35212", func := "forerunner/forerunnerlaw21.EpipeWaits", spec := "epipeWaits", unfollowed := true, recurses := true, named := ["math/bits.overflowError"], apart := false, narrowed := true }
def EpipeWaitsUptoSaid : Prop := epipeWaitsUptoRow.holds Tryz.pinned (OpenSpec.upto epipeWaitsSpec)

/-- 'forerunnerlaw21.EpipeStops', WHERE WHAT IT READS IS OF BULK AT MOST 1048576: true; the input reads as it did. -/
def epipeStopsUptoRow : OpenClaim := { program := "ytnfpdmhdpeffjaagreat", sum := "e0bf6af6f4c18bbc32954f43ffa7494bba5477532cab140ec9ab7fe7beb35212", func := "forerunner/forerunnerlaw21.EpipeStops", spec := "epipeStops", unfollowed := true, recurses := true, named := ["math/bits.overflowError"], apart := false, narrowed := true }
def EpipeStopsUptoSaid : Prop := epipeStopsUptoRow.holds Tryz.pinned (OpenSpec.upto epipeStopsSpec)

/-- 'forerunnerlaw22.ApipeOne', WHERE WHAT IT READS IS OF BULK AT MOST 1048576: true; the input reads as it did. -/
def apipeOneUptoRow : OpenClaim := { program := "ytnfpdmhdpeffjaagreat", sum := "e0bf6af6f4c18bbc32954f43ffa7494bba5477532cab140ec9ab7fe7beb35212", func := "forerunner/forerunnerlaw22.ApipeOne", spec := "apipeOne", unfollowed := true, recurses := true, named := ["math/bits.overflowError"], apart := false, narrowed := true }
def ApipeOneUptoSaid : Prop := apipeOneUptoRow.holds Tryz.pinned (OpenSpec.upto apipeOneSpec)

/-- 'forerunnerlaw22.ApipeHolds', WHERE WHAT IT READS IS OF BULK AT MOST 1048576: true; the input reads as it did. -/
def apipeHoldsUptoRow : OpenClaim := { program := "ytnfpdmhdpeffjaagreat", sum := "e0bf6af6f4c18bbc32954f43ffa7494bba5477532cab140ec9ab7fe7beb35212", func := "forerunner/forerunnerlaw22.ApipeHolds", spec := "apipeHolds", unfollowed := true, recurses := true, named := ["math/bits.overflowError"], apart := false, narrowed := true }
def ApipeHoldsUptoSaid : Prop := apipeHoldsUptoRow.holds Tryz.pinned (OpenSpec.upto apipeHoldsSpec)

/-- 'forerunnerlaw22.ApipeSlips', WHERE WHAT IT READS IS OF BULK AT MOST 1048576: true; the input reads as it did. -/
def apipeSlipsUptoRow : OpenClaim := { program := "ytnfpdmhdpeffjaagreat", sum := "e0bf6af6f4c18bbc32954f43ffa7494bba5477532cab140ec9ab7fe7beb35212", func := "forerunner/forerunnerlaw22.ApipeSlips", spec := "apipeSlips", unfollowed := true, recurses := true, named := ["math/bits.overflowError"], apart := false, narrowed := true }
def ApipeSlipsUptoSaid : Prop := apipeSlipsUptoRow.holds Tryz.pinned (OpenSpec.upto apipeSlipsSpec)

/-- 'forerunnerlaw22.ApipeTraps', WHERE WHAT IT READS IS OF BULK AT MOST 1048576: true; the input reads as it did. -/
def apipeTrapsUptoRow : OpenClaim := { program := "ytnfpdmhdpeffjaagreat", sum := "e0bf6af6f4c18bbc32954f43ffa7494bba5477532cab140ec9ab7fe7beb35212", func := "forerunner/forerunnerlaw22.ApipeTraps", spec := "apipeTraps", unfollowed := true, recurses := true, named := ["math/bits.overflowError"], apart := false, narrowed := true }
def ApipeTrapsUptoSaid : Prop := apipeTrapsUptoRow.holds Tryz.pinned (OpenSpec.upto apipeTrapsSpec)

/-- 'forerunnerlaw24.CoreTells', WHERE WHAT IT READS IS OF BULK AT MOST 1048576: true; the input reads as it did. -/
def coreTellsUptoRow : OpenClaim := { program := "ytnfpdmhdpeffjaagreat", sum := "e0bf6af6f4c18bbc32954f43ffa7494bba5477532cab140ec9ab7fe7beb35212", func := "forerunner/forerunnerlaw24.CoreTells", spec := "coreTells", unfollowed := true, recurses := true, named := ["math/bits.overflowError"], apart := false, narrowed := true }
def CoreTellsUptoSaid : Prop := coreTellsUptoRow.holds Tryz.pinned (OpenSpec.upto coreTellsSpec)

/-- 'forerunnerlaw24.CoreReached', WHERE WHAT IT READS IS OF BULK AT MOST 1048576: true; the input reads as it did. -/
def coreReachedUptoRow : OpenClaim := { program := "ytnfpdmhdpeffjaagreat", sum := "e0bf6af6f4c18bbc32954f43ffa7494bba5477532cab140ec9ab7fe7beb35212", func := "forerunner/forerunnerlaw24.CoreReached", spec := "coreReached", unfollowed := true, recurses := true, named := ["math/bits.overflowError"], apart := false, narrowed := true }
def CoreReachedUptoSaid : Prop := coreReachedUptoRow.holds Tryz.pinned (OpenSpec.upto coreReachedSpec)

/-- 'forerunnerlaw24.CoreWrites', WHERE WHAT IT READS IS OF BULK AT MOST 1048576: true; the input reads as it did. -/
def coreWritesUptoRow : OpenClaim := { program := "ytnfpdmhdpeffjaagreat", sum := "e0bf6af6f4c18bbc32954f43ffa7494bba5477532cab140ec9ab7fe7beb35212", func := "forerunner/forerunnerlaw24.CoreWrites", spec := "coreWrites", unfollowed := true, recurses := true, named := ["math/bits.overflowError"], apart := false, narrowed := true }
def CoreWritesUptoSaid : Prop := coreWritesUptoRow.holds Tryz.pinned (OpenSpec.upto coreWritesSpec)

/-- 'forerunnerlaw24.CoreEmpty', WHERE WHAT IT READS IS OF BULK AT MOST 1048576: true; the input reads as it did. -/
def coreEmptyUptoRow : OpenClaim := { program := "ytnfpdmhdpeffjaagreat", sum := "e0bf6af6f4c18bbc32954f43ffa7494bba5477532cab140ec9ab7fe7beb35212", func := "forerunner/forerunnerlaw24.CoreEmpty", spec := "coreEmpty", unfollowed := true, recurses := true, named := ["math/bits.overflowError"], apart := false, narrowed := true }
def CoreEmptyUptoSaid : Prop := coreEmptyUptoRow.holds Tryz.pinned (OpenSpec.upto coreEmptySpec)

/-- 'forerunnerlaw24.CoreSides', WHERE WHAT IT READS IS OF BULK AT MOST 1048576: true; the input reads as it did. -/
def coreSidesUptoRow : OpenClaim := { program := "ytnfpdmhdpeffjaagreat", sum := "e0bf6af6f4c18bbc32954f43ffa7494bba5477532cab140ec9ab7fe7beb35212", func := "forerunner/forerunnerlaw24.CoreSides", spec := "coreSides", unfollowed := true, recurses := true, named := ["math/bits.overflowError"], apart := false, narrowed := true }
def CoreSidesUptoSaid : Prop := coreSidesUptoRow.holds Tryz.pinned (OpenSpec.upto coreSidesSpec)

/-- 'forerunnerlaw24.CoreTraps', WHERE WHAT IT READS IS OF BULK AT MOST 1048576: true; the input reads as it did. -/
def coreTrapsUptoRow : OpenClaim := { program := "ytnfpdmhdpeffjaagreat", sum := "e0bf6af6f4c18bbc32954f43ffa7494bba5477532cab140ec9ab7fe7beb35212", func := "forerunner/forerunnerlaw24.CoreTraps", spec := "coreTraps", unfollowed := true, recurses := true, named := ["math/bits.overflowError"], apart := false, narrowed := true }
def CoreTrapsUptoSaid : Prop := coreTrapsUptoRow.holds Tryz.pinned (OpenSpec.upto coreTrapsSpec)

/-- 'forerunnerlaw25.RunTells', WHERE WHAT IT READS IS OF BULK AT MOST 1048576: true; the input reads as it did. -/
def runTellsUptoRow : OpenClaim := { program := "ytnfpdmhdpeffjaagreat", sum := "e0bf6af6f4c18bbc32954f43ffa7494bba5477532cab140ec9ab7fe7beb35212", func := "forerunner/forerunnerlaw25.RunTells", spec := "runTells", unfollowed := true, recurses := true, named := ["math/bits.overflowError"], apart := false, narrowed := true }
def RunTellsUptoSaid : Prop := runTellsUptoRow.holds Tryz.pinned (OpenSpec.upto runTellsSpec)

/-- 'forerunnerlaw25.RunSame', WHERE WHAT IT READS IS OF BULK AT MOST 1048576: true; the input reads as it did. -/
def runSameUptoRow : OpenClaim := { program := "ytnfpdmhdpeffjaagreat", sum := "e0bf6af6f4c18bbc32954f43ffa7494bba5477532cab140ec9ab7fe7beb35212", func := "forerunner/forerunnerlaw25.RunSame", spec := "runSame", unfollowed := true, recurses := true, named := ["math/bits.overflowError"], apart := false, narrowed := true }
def RunSameUptoSaid : Prop := runSameUptoRow.holds Tryz.pinned (OpenSpec.upto runSameSpec)

/-- 'forerunnerlaw25.RunFuel', WHERE WHAT IT READS IS OF BULK AT MOST 1048576: true; the input reads as it did. -/
def runFuelUptoRow : OpenClaim := { program := "ytnfpdmhdpeffjaagreat", sum := "e0bf6af6f4c18bbc32954f43ffa7494bba5477532cab140ec9ab7fe7beb35212", func := "forerunner/forerunnerlaw25.RunFuel", spec := "runFuel", unfollowed := true, recurses := true, named := ["math/bits.overflowError"], apart := false, narrowed := true }
def RunFuelUptoSaid : Prop := runFuelUptoRow.holds Tryz.pinned (OpenSpec.upto runFuelSpec)

/-- 'forerunnerlaw25.RunOwners', WHERE WHAT IT READS IS OF BULK AT MOST 1048576: true; the input reads as it did. -/
def runOwnersUptoRow : OpenClaim := { program := "ytnfpdmhdpeffjaagreat", sum := "e0bf6af6f4c18bbc32954f43ffa7494bba5477532cab140ec9ab7fe7beb35212", func := "forerunner/forerunnerlaw25.RunOwners", spec := "runOwners", unfollowed := true, recurses := true, named := ["math/bits.overflowError"], apart := false, narrowed := true }
def RunOwnersUptoSaid : Prop := runOwnersUptoRow.holds Tryz.pinned (OpenSpec.upto runOwnersSpec)

/-- 'forerunnerlaw25.RunLoops', WHERE WHAT IT READS IS OF BULK AT MOST 1048576: true; the input reads as it did. -/
def runLoopsUptoRow : OpenClaim := { program := "ytnfpdmhdpeffjaagreat", sum := "e0bf6af6f4c18bbc32954f43ffa7494bba5477532cab140ec9ab7fe7beb35212", func := "forerunner/forerunnerlaw25.RunLoops", spec := "runLoops", unfollowed := true, recurses := true, named := ["math/bits.overflowError"], apart := false, narrowed := true }
def RunLoopsUptoSaid : Prop := runLoopsUptoRow.holds Tryz.pinned (OpenSpec.upto runLoopsSpec)

/-- 'forerunnerlaw25.RunHalts', WHERE WHAT IT READS IS OF BULK AT MOST 1048576: true; the input reads as it did. -/
def runHaltsUptoRow : OpenClaim := { program := "ytnfpdmhdpeffjaagreat", sum := "e0bf6af6f4c18bbc32954f43ffa7494bba5477532cab140ec9ab7fe7beb35212", func := "forerunner/forerunnerlaw25.RunHalts", spec := "runHalts", unfollowed := true, recurses := true, named := ["math/bits.overflowError"], apart := false, narrowed := true }
def RunHaltsUptoSaid : Prop := runHaltsUptoRow.holds Tryz.pinned (OpenSpec.upto runHaltsSpec)

end Rows
end Go.Proofs.YtnfpdmhdpeffjaaGreat
