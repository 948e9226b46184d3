/- What functions of the program compute, as plain functions. -/
import Derived.Test.YtpplgkggclddiaaFgT
set_option linter.unusedVariables false
set_option maxRecDepth 100000
set_option linter.unusedSimpArgs false
namespace Go.Proofs.Zz
open Go
def c25 : CS := { id := 0, fn := 25, i := { av := [.one (.d (.int .i64))], bx := [] }, r := [.one (.d (.int .i64))], one := true, ob := [] }
def h25 : Hi := { cs := [], ls := [], sp := [3, 6, 10, 13, 16, 19, 22, 25, 28] }
noncomputable def t25 (N : Nat) : List CE := []
theorem t25_ok (N : Nat) : AllP (CEok Go.Proofs.Try.prog) (t25 N) := trivial
theorem a25 (N : Nat) : AllP (fun e => lookC (t25 N) e.2.id = some e.2) h25.cs := trivial
theorem fn25 : Fn Go.Proofs.Try.prog 25 Go.Proofs.Try.f25 (codeOf Go.Proofs.Try.f25) := ⟨by kernel_rfl, by kernel_rfl, by kernel_rfl, by kernel_rfl⟩
noncomputable def on25 {R : Type} (r : Option Rs) (k : Cur (Option R) [(.int .i64)]) : Option R := onR [(.int .i64)] r k
noncomputable def e25 (N : Nat) (x1599 : Int) : Option Rs :=
  match ((decide (x1599 < (1 : Int))) : Bool) with
  | true =>
    some (0, [⟨(.int .i64), ((0 : Int) : Int)⟩])
  | false =>
    match ((decide (x1599 > (41 : Int))) : Bool) with
    | true =>
      some (0, [⟨(.int .i64), ((0 : Int) : Int)⟩])
    | false =>
      match ((decide (x1599 ≤ (16 : Int))) : Bool) with
      | true =>
        some (0, [⟨(.int .i64), ((1 : Int) : Int)⟩])
      | false =>
        match ((decide (x1599 ≤ (24 : Int))) : Bool) with
        | true =>
          some (0, [⟨(.int .i64), ((2 : Int) : Int)⟩])
        | false =>
          match ((x1599 == (25 : Int)) : Bool) with
          | true =>
            some (0, [⟨(.int .i64), ((3 : Int) : Int)⟩])
          | false =>
            match ((decide (x1599 ≤ (30 : Int))) : Bool) with
            | true =>
              some (0, [⟨(.int .i64), ((4 : Int) : Int)⟩])
            | false =>
              match ((decide (x1599 ≤ (33 : Int))) : Bool) with
              | true =>
                some (0, [⟨(.int .i64), ((5 : Int) : Int)⟩])
              | false =>
                match ((decide (x1599 ≤ (39 : Int))) : Bool) with
                | true =>
                  some (0, [⟨(.int .i64), ((6 : Int) : Int)⟩])
                | false =>
                  match ((x1599 == (40 : Int)) : Bool) with
                  | true =>
                    some (0, [⟨(.int .i64), ((7 : Int) : Int)⟩])
                  | false =>
                    some (0, [⟨(.int .i64), ((8 : Int) : Int)⟩])
theorem k25 (N : Nat) (x1599 : Int) : den cx0 h25 (ctL (t25 N)) (ltL []) Go.Proofs.Try.f25 (codeOf Go.Proofs.Try.f25) c25.i c25.r c25.ob [⟨(.int .i64), x1599⟩] = e25 N x1599 := by kernel_rfl
theorem c25_ok (N : Nat) (x1599 : Int) (n0 : Nat) (q : List DV) (h : e25 N x1599 = some (n0, q)) : CallOK Go.Proofs.Try.prog c25 [⟨(.int .i64), x1599⟩] q :=
  fn_ok (l := t25 N) (t := []) ti_ok hmix (t25_ok N) (a25 N) fn25 (by kernel_rfl) (by kernel_rfl) trivial ((k25 N x1599).trans h)
noncomputable def x25 (N : Nat) : List DV → (List DV → Option Rs) → Option Rs := mkX [(.int .i64)] [(.int .i64)] (e25 N)
theorem x25_ok (N : Nat) : CEok Go.Proofs.Try.prog (c25, x25 N) := mkX_ok fun ys n q h => c25_ok N ys.1 n q h
def c75 : CS := { id := 1, fn := 75, i := { av := [.agg [(.d (.sl (.pair (.int .i64) (.pair (.int .i64) (.pair (.int .i64) (.pair (.int .i64) (.pair (.int .i64) .unit))))))), (.d (.int .i64)), (.d (.sl (.int .u8)))], .one (.d (.int .i64))], bx := [] }, r := [.one (.d (.int .i64))], one := true, ob := [] }
def h75 : Hi := { cs := [((2, 2), c25)], ls := [], sp := [17, 21, 26, 31, 38, 47] }
noncomputable def t75 (N : Nat) : List CE := [(c25, x25 N)]
theorem t75_ok (N : Nat) : AllP (CEok Go.Proofs.Try.prog) (t75 N) := ⟨x25_ok N, trivial⟩
theorem a75 (N : Nat) : AllP (fun e => lookC (t75 N) e.2.id = some e.2) h75.cs := ⟨rfl, trivial⟩
theorem fn75 : Fn Go.Proofs.Try.prog 75 Go.Proofs.Try.f75 (codeOf Go.Proofs.Try.f75) := ⟨by kernel_rfl, by kernel_rfl, by kernel_rfl, by kernel_rfl⟩
noncomputable def on75 {R : Type} (r : Option Rs) (k : Cur (Option R) [(.int .i64)]) : Option R := onR [(.int .i64)] r k
noncomputable def e75 (N : Nat) (x1614 : (List (Int × (Int × (Int × (Int × (Int × Unit))))))) (x1615 : Int) (x1616 : (List Int)) (x1617 : Int) : Option Rs :=
  match ((idx x1617 (List.length x1614)) : Bool) with
  | true =>
    on25 (e25 N ((List.getD x1614 (Int.toNat x1617) ((0 : Int), ((0 : Int), ((0 : Int), ((0 : Int), ((0 : Int), ())))))).1 : Int)) (fun x1618 =>
      match ((x1618 != (6 : Int)) : Bool) with
      | true =>
        match ((x1618 != (7 : Int)) : Bool) with
        | true =>
          some (0, [⟨(.int .i64), ((-1 : Int) : Int)⟩])
        | false =>
          match ((decide ((List.getD x1614 (Int.toNat x1617) ((0 : Int), ((0 : Int), ((0 : Int), ((0 : Int), ((0 : Int), ())))))).2.2.2.2.1 < (-8192 : Int))) : Bool) with
          | true =>
            some (0, [⟨(.int .i64), ((-1 : Int) : Int)⟩])
          | false =>
            match ((decide ((List.getD x1614 (Int.toNat x1617) ((0 : Int), ((0 : Int), ((0 : Int), ((0 : Int), ((0 : Int), ())))))).2.2.2.2.1 > (8191 : Int))) : Bool) with
            | true =>
              some (0, [⟨(.int .i64), ((-1 : Int) : Int)⟩])
            | false =>
              match ((decide ((IntKind.i64.wrap (x1617 + (List.getD x1614 (Int.toNat x1617) ((0 : Int), ((0 : Int), ((0 : Int), ((0 : Int), ((0 : Int), ())))))).2.2.2.2.1)) < (0 : Int))) : Bool) with
              | true =>
                some (0, [⟨(.int .i64), ((-1 : Int) : Int)⟩])
              | false =>
                match ((decide ((IntKind.i64.wrap (x1617 + (List.getD x1614 (Int.toNat x1617) ((0 : Int), ((0 : Int), ((0 : Int), ((0 : Int), ((0 : Int), ())))))).2.2.2.2.1)) ≥ ((List.length x1614 : Nat) : Int))) : Bool) with
                | true =>
                  some (0, [⟨(.int .i64), ((-1 : Int) : Int)⟩])
                | false =>
                  some (0, [⟨(.int .i64), ((IntKind.i64.wrap (x1617 + (List.getD x1614 (Int.toNat x1617) ((0 : Int), ((0 : Int), ((0 : Int), ((0 : Int), ((0 : Int), ())))))).2.2.2.2.1)) : Int)⟩])
      | false =>
        match ((decide ((List.getD x1614 (Int.toNat x1617) ((0 : Int), ((0 : Int), ((0 : Int), ((0 : Int), ((0 : Int), ())))))).2.2.2.2.1 < (-8192 : Int))) : Bool) with
        | true =>
          some (0, [⟨(.int .i64), ((-1 : Int) : Int)⟩])
        | false =>
          match ((decide ((List.getD x1614 (Int.toNat x1617) ((0 : Int), ((0 : Int), ((0 : Int), ((0 : Int), ((0 : Int), ())))))).2.2.2.2.1 > (8191 : Int))) : Bool) with
          | true =>
            some (0, [⟨(.int .i64), ((-1 : Int) : Int)⟩])
          | false =>
            match ((decide ((IntKind.i64.wrap (x1617 + (List.getD x1614 (Int.toNat x1617) ((0 : Int), ((0 : Int), ((0 : Int), ((0 : Int), ((0 : Int), ())))))).2.2.2.2.1)) < (0 : Int))) : Bool) with
            | true =>
              some (0, [⟨(.int .i64), ((-1 : Int) : Int)⟩])
            | false =>
              match ((decide ((IntKind.i64.wrap (x1617 + (List.getD x1614 (Int.toNat x1617) ((0 : Int), ((0 : Int), ((0 : Int), ((0 : Int), ((0 : Int), ())))))).2.2.2.2.1)) ≥ ((List.length x1614 : Nat) : Int))) : Bool) with
              | true =>
                some (0, [⟨(.int .i64), ((-1 : Int) : Int)⟩])
              | false =>
                some (0, [⟨(.int .i64), ((IntKind.i64.wrap (x1617 + (List.getD x1614 (Int.toNat x1617) ((0 : Int), ((0 : Int), ((0 : Int), ((0 : Int), ((0 : Int), ())))))).2.2.2.2.1)) : Int)⟩]))
  | false =>
    none
theorem k75 (N : Nat) (x1614 : (List (Int × (Int × (Int × (Int × (Int × Unit))))))) (x1615 : Int) (x1616 : (List Int)) (x1617 : Int) : den cx0 h75 (ctL (t75 N)) (ltL []) Go.Proofs.Try.f75 (codeOf Go.Proofs.Try.f75) c75.i c75.r c75.ob [⟨(.sl (.pair (.int .i64) (.pair (.int .i64) (.pair (.int .i64) (.pair (.int .i64) (.pair (.int .i64) .unit)))))), x1614⟩, ⟨(.int .i64), x1615⟩, ⟨(.sl (.int .u8)), x1616⟩, ⟨(.int .i64), x1617⟩] = e75 N x1614 x1615 x1616 x1617 := by kernel_rfl
theorem c75_ok (N : Nat) (x1614 : (List (Int × (Int × (Int × (Int × (Int × Unit))))))) (x1615 : Int) (x1616 : (List Int)) (x1617 : Int) (n0 : Nat) (q : List DV) (h : e75 N x1614 x1615 x1616 x1617 = some (n0, q)) : CallOK Go.Proofs.Try.prog c75 [⟨(.sl (.pair (.int .i64) (.pair (.int .i64) (.pair (.int .i64) (.pair (.int .i64) (.pair (.int .i64) .unit)))))), x1614⟩, ⟨(.int .i64), x1615⟩, ⟨(.sl (.int .u8)), x1616⟩, ⟨(.int .i64), x1617⟩] q :=
  fn_ok (l := t75 N) (t := []) ti_ok hmix (t75_ok N) (a75 N) fn75 (by kernel_rfl) (by kernel_rfl) trivial ((k75 N x1614 x1615 x1616 x1617).trans h)
noncomputable def x75 (N : Nat) : List DV → (List DV → Option Rs) → Option Rs := mkX [(.sl (.pair (.int .i64) (.pair (.int .i64) (.pair (.int .i64) (.pair (.int .i64) (.pair (.int .i64) .unit)))))), (.int .i64), (.sl (.int .u8)), (.int .i64)] [(.int .i64)] (e75 N)
theorem x75_ok (N : Nat) : CEok Go.Proofs.Try.prog (c75, x75 N) := mkX_ok fun ys n q h => c75_ok N ys.1 ys.2.1 ys.2.2.1 ys.2.2.2.1 n q h
def c54 : CS := { id := 2, fn := 54, i := { av := [.agg [(.d (.sl (.pair (.int .i64) (.pair (.int .i64) (.pair (.int .i64) (.pair (.int .i64) (.pair (.int .i64) .unit))))))), (.d (.int .i64)), (.d (.sl (.int .u8)))]], bx := [] }, r := [.one (.d (.int .i64))], one := true, ob := [] }
def s54_0 : LS := { h := { av := [.no, .one (.p 0 0 [1, 1, 1]), .no, .one (.d (.int .i64)), .no, .no, .no, .no, .no, .no, .no, .no, .no, .no, .no, .no, .no, .no, .no, .no, .no, .no, .no, .no, .no, .no, .no, .no, .no, .no, .no], bx := [[(.d (.sl (.pair (.int .i64) (.pair (.int .i64) (.pair (.int .i64) (.pair (.int .i64) (.pair (.int .i64) .unit))))))), (.d (.int .i64)), (.d (.sl (.int .u8)))]] }, x := [(0, { av := [.no, .no, .one (.d (.int .i64)), .no, .no, .no, .no, .no, .no, .no, .no, .no, .no, .no, .no, .no, .no, .no, .no, .no, .no, .no, .no, .no, .no, .no, .no, .no, .no, .no, .no], bx := [] }), (1, { av := [.no, .no, .no, .no, .no, .no, .no, .no, .no, .no, .no, .no, .no, .no, .no, .no, .no, .no, .no, .no, .no, .no, .no, .no, .no, .no, .no, .no, .no, .no, .no], bx := [] })] }
def h54 : Hi := { cs := [((4, 6), c25), ((5, 9), c75)], ls := [(0, s54_0)], sp := [9, 21, 25, 30] }
noncomputable def t54 (N : Nat) : List CE := [(c25, x25 N), (c75, x75 N)]
theorem t54_ok (N : Nat) : AllP (CEok Go.Proofs.Try.prog) (t54 N) := ⟨x25_ok N, x75_ok N, trivial⟩
theorem a54 (N : Nat) : AllP (fun e => lookC (t54 N) e.2.id = some e.2) h54.cs := ⟨rfl, rfl, trivial⟩
theorem fn54 : Fn Go.Proofs.Try.prog 54 Go.Proofs.Try.f54 (codeOf Go.Proofs.Try.f54) := ⟨by kernel_rfl, by kernel_rfl, by kernel_rfl, by kernel_rfl⟩
noncomputable def on54_0 {R : Type} (r : Option Rs) (k0 : Cur (Option R) [(.int .i64)]) (k1 : Cur (Option R) []) : Option R :=
  match r with
  | some (n, p) => match n with
    | 0 => onG [(.int .i64)] p k0
    | 1 => onG [] p k1
    | _ => none
  | none => none
noncomputable def r54_0 (N : Nat) (again : Int → (List (Int × (Int × (Int × (Int × (Int × Unit)))))) → Int → (List Int) → Option Rs) (x1606 : Int) (x1607 : (List (Int × (Int × (Int × (Int × (Int × Unit))))))) (x1608 : Int) (x1609 : (List Int)) : Option Rs :=
  match ((decide (x1606 < ((List.length x1607 : Nat) : Int))) : Bool) with
  | true =>
    match ((idx x1606 (List.length x1607)) : Bool) with
    | true =>
      on25 (e25 N ((List.getD x1607 (Int.toNat x1606) ((0 : Int), ((0 : Int), ((0 : Int), ((0 : Int), ((0 : Int), ())))))).1 : Int)) (fun x1610 =>
        match ((x1610 == (6 : Int)) : Bool) with
        | true =>
          on75 (e75 N (x1607 : (List (Int × (Int × (Int × (Int × (Int × Unit))))))) (x1608 : Int) (x1609 : (List Int)) (x1606 : Int)) (fun x1611 =>
            match ((decide (x1611 < (0 : Int))) : Bool) with
            | true =>
              some (0, [⟨(.int .i64), ((4 : Int) : Int)⟩])
            | false =>
              again ((IntKind.i64.wrap (x1606 + (1 : Int))) : Int) (x1607 : (List (Int × (Int × (Int × (Int × (Int × Unit))))))) (x1608 : Int) (x1609 : (List Int)))
        | false =>
          match ((x1610 == (7 : Int)) : Bool) with
          | true =>
            on75 (e75 N (x1607 : (List (Int × (Int × (Int × (Int × (Int × Unit))))))) (x1608 : Int) (x1609 : (List Int)) (x1606 : Int)) (fun x1612 =>
              match ((decide (x1612 < (0 : Int))) : Bool) with
              | true =>
                some (0, [⟨(.int .i64), ((4 : Int) : Int)⟩])
              | false =>
                again ((IntKind.i64.wrap (x1606 + (1 : Int))) : Int) (x1607 : (List (Int × (Int × (Int × (Int × (Int × Unit))))))) (x1608 : Int) (x1609 : (List Int)))
          | false =>
            again ((IntKind.i64.wrap (x1606 + (1 : Int))) : Int) (x1607 : (List (Int × (Int × (Int × (Int × (Int × Unit))))))) (x1608 : Int) (x1609 : (List Int)))
    | false =>
      none
  | false =>
    some (1, [])
noncomputable def l54_0 (N : Nat) : Nat → Int → (List (Int × (Int × (Int × (Int × (Int × Unit)))))) → Int → (List Int) → Option Rs
  | 0, _, _, _, _ => none
  | n + 1, x1606, x1607, x1608, x1609 => r54_0 N (l54_0 N n) x1606 x1607 x1608 x1609
theorem on54_0_K (r : Option Rs) (K : Rs → Option Rs) (x : Rs) (h : on54_0 r (curK [(.int .i64)] fun q => K (0, q)) (curK [] fun q => K (1, q)) = some x) : ∃ q, r = some q ∧ K q = some x := by
  unfold on54_0 at h
  split at h
  · split at h
    · exact ⟨_, rfl, onG_K h⟩
    · exact ⟨_, rfl, onG_K h⟩
    · simp at h
  · simp at h
noncomputable def R54_0 (N : Nat) : (List DV → Option Rs) → List DV → Option Rs := round cx0 h54 (ctL (t54 N)) (ltL []) Go.Proofs.Try.f54.ntmps c54.i.bx.length 0 s54_0 (bodyAt Go.Proofs.Try.f54 0)
theorem r54_0_eq (N : Nat) (A : List DV → Option Rs) (x1606 : Int) (x1607 : (List (Int × (Int × (Int × (Int × (Int × Unit))))))) (x1608 : Int) (x1609 : (List Int)) : R54_0 N A [⟨(.int .i64), x1606⟩, ⟨(.sl (.pair (.int .i64) (.pair (.int .i64) (.pair (.int .i64) (.pair (.int .i64) (.pair (.int .i64) .unit)))))), x1607⟩, ⟨(.int .i64), x1608⟩, ⟨(.sl (.int .u8)), x1609⟩] = r54_0 N (fun x1606 x1607 x1608 x1609 => A [⟨(.int .i64), x1606⟩, ⟨(.sl (.pair (.int .i64) (.pair (.int .i64) (.pair (.int .i64) (.pair (.int .i64) (.pair (.int .i64) .unit)))))), x1607⟩, ⟨(.int .i64), x1608⟩, ⟨(.sl (.int .u8)), x1609⟩]) x1606 x1607 x1608 x1609 := by kernel_rfl
theorem l54_0_eq (N : Nat) : ∀ (n : Nat) (x1606 : Int) (x1607 : (List (Int × (Int × (Int × (Int × (Int × Unit))))))) (x1608 : Int) (x1609 : (List Int)), iter (R54_0 N) n [⟨(.int .i64), x1606⟩, ⟨(.sl (.pair (.int .i64) (.pair (.int .i64) (.pair (.int .i64) (.pair (.int .i64) (.pair (.int .i64) .unit)))))), x1607⟩, ⟨(.int .i64), x1608⟩, ⟨(.sl (.int .u8)), x1609⟩] = l54_0 N n x1606 x1607 x1608 x1609
  | 0, _, _, _, _ => rfl
  | n + 1, x1606, x1607, x1608, x1609 => (r54_0_eq N (iter (R54_0 N) n) x1606 x1607 x1608 x1609).trans (congrArg (fun A => r54_0 N A x1606 x1607 x1608 x1609) (funext fun x1606 => funext fun x1607 => funext fun x1608 => funext fun x1609 => l54_0_eq N n x1606 x1607 x1608 x1609))
noncomputable def x54_0 (N : Nat) : List DV → (Rs → Option Rs) → Option Rs := mkL [(.int .i64), (.sl (.pair (.int .i64) (.pair (.int .i64) (.pair (.int .i64) (.pair (.int .i64) (.pair (.int .i64) .unit)))))), (.int .i64), (.sl (.int .u8))] (l54_0 N N) fun r K => on54_0 r (curK [(.int .i64)] fun q => K (0, q)) (curK [] fun q => K (1, q))
theorem x54_0_ok (N : Nat) : LEok Go.Proofs.Try.prog h54 (bodOf Go.Proofs.Try.f54) Go.Proofs.Try.f54.ntmps c54.i.bx.length (0, x54_0 N) :=
  mkL_ok on54_0_K (ls := s54_0) (body := bodyAt Go.Proofs.Try.f54 0) (by kernel_rfl) (by kernel_rfl) fun ys q h =>
    loop_ok (l := t54 N) (t := []) ti_ok hmix (t54_ok N) (a54 N) fn54 trivial (by kernel_rfl) (by kernel_rfl) (n := N) ((l54_0_eq N N ys.1 ys.2.1 ys.2.2.1 ys.2.2.2.1).trans h)
noncomputable def on54 {R : Type} (r : Option Rs) (k : Cur (Option R) [(.int .i64)]) : Option R := onR [(.int .i64)] r k
noncomputable def e54 (N : Nat) (x1603 : (List (Int × (Int × (Int × (Int × (Int × Unit))))))) (x1604 : Int) (x1605 : (List Int)) : Option Rs :=
  on54_0 (l54_0 N N ((0 : Int) : Int) (x1603 : (List (Int × (Int × (Int × (Int × (Int × Unit))))))) (x1604 : Int) (x1605 : (List Int))) (fun x1613 =>
    some (0, [⟨(.int .i64), (x1613 : Int)⟩])) (
    some (0, [⟨(.int .i64), ((0 : Int) : Int)⟩]))
theorem k54 (N : Nat) (x1603 : (List (Int × (Int × (Int × (Int × (Int × Unit))))))) (x1604 : Int) (x1605 : (List Int)) : den cx0 h54 (ctL (t54 N)) (ltL [(0, x54_0 N)]) Go.Proofs.Try.f54 (codeOf Go.Proofs.Try.f54) c54.i c54.r c54.ob [⟨(.sl (.pair (.int .i64) (.pair (.int .i64) (.pair (.int .i64) (.pair (.int .i64) (.pair (.int .i64) .unit)))))), x1603⟩, ⟨(.int .i64), x1604⟩, ⟨(.sl (.int .u8)), x1605⟩] = e54 N x1603 x1604 x1605 := by kernel_rfl
theorem c54_ok (N : Nat) (x1603 : (List (Int × (Int × (Int × (Int × (Int × Unit))))))) (x1604 : Int) (x1605 : (List Int)) (n0 : Nat) (q : List DV) (h : e54 N x1603 x1604 x1605 = some (n0, q)) : CallOK Go.Proofs.Try.prog c54 [⟨(.sl (.pair (.int .i64) (.pair (.int .i64) (.pair (.int .i64) (.pair (.int .i64) (.pair (.int .i64) .unit)))))), x1603⟩, ⟨(.int .i64), x1604⟩, ⟨(.sl (.int .u8)), x1605⟩] q :=
  fn_ok (l := t54 N) (t := [(0, x54_0 N)]) ti_ok hmix (t54_ok N) (a54 N) fn54 (by kernel_rfl) (by kernel_rfl) ⟨x54_0_ok N, trivial⟩ ((k54 N x1603 x1604 x1605).trans h)
noncomputable def x54 (N : Nat) : List DV → (List DV → Option Rs) → Option Rs := mkX [(.sl (.pair (.int .i64) (.pair (.int .i64) (.pair (.int .i64) (.pair (.int .i64) (.pair (.int .i64) .unit)))))), (.int .i64), (.sl (.int .u8))] [(.int .i64)] (e54 N)
theorem x54_ok (N : Nat) : CEok Go.Proofs.Try.prog (c54, x54 N) := mkX_ok fun ys n q h => c54_ok N ys.1 ys.2.1 ys.2.2.1 n q h
def c59 : CS := { id := 3, fn := 59, i := { av := [.one (.d (.int .i64))], bx := [] }, r := [.one (.d .bool), .one (.d .bool), .one (.d .bool), .one (.d .bool)], one := false, ob := [] }
def h59 : Hi := { cs := [], ls := [], sp := [7, 9, 12, 14, 17] }
noncomputable def t59 (N : Nat) : List CE := []
theorem t59_ok (N : Nat) : AllP (CEok Go.Proofs.Try.prog) (t59 N) := trivial
theorem a59 (N : Nat) : AllP (fun e => lookC (t59 N) e.2.id = some e.2) h59.cs := trivial
theorem fn59 : Fn Go.Proofs.Try.prog 59 Go.Proofs.Try.f59 (codeOf Go.Proofs.Try.f59) := ⟨by kernel_rfl, by kernel_rfl, by kernel_rfl, by kernel_rfl⟩
noncomputable def on59 {R : Type} (r : Option Rs) (k : Cur (Option R) [.bool, .bool, .bool, .bool]) : Option R := onR [.bool, .bool, .bool, .bool] r k
noncomputable def e59 (N : Nat) (x1600 : Int) : Option Rs :=
  match ((x1600 == (1 : Int)) : Bool) with
  | true =>
    some (0, [⟨.bool, (true : Bool)⟩, ⟨.bool, (true : Bool)⟩, ⟨.bool, (true : Bool)⟩, ⟨.bool, (false : Bool)⟩])
  | false =>
    match ((x1600 == (2 : Int)) : Bool) with
    | true =>
      some (0, [⟨.bool, (true : Bool)⟩, ⟨.bool, (true : Bool)⟩, ⟨.bool, (false : Bool)⟩, ⟨.bool, (true : Bool)⟩])
    | false =>
      match ((x1600 == (4 : Int)) : Bool) with
      | true =>
        some (0, [⟨.bool, (true : Bool)⟩, ⟨.bool, (true : Bool)⟩, ⟨.bool, (false : Bool)⟩, ⟨.bool, (true : Bool)⟩])
      | false =>
        match ((x1600 == (3 : Int)) : Bool) with
        | true =>
          some (0, [⟨.bool, (true : Bool)⟩, ⟨.bool, (false : Bool)⟩, ⟨.bool, (false : Bool)⟩, ⟨.bool, (true : Bool)⟩])
        | false =>
          match ((x1600 == (5 : Int)) : Bool) with
          | true =>
            some (0, [⟨.bool, (false : Bool)⟩, ⟨.bool, (true : Bool)⟩, ⟨.bool, (true : Bool)⟩, ⟨.bool, (true : Bool)⟩])
          | false =>
            match ((x1600 == (6 : Int)) : Bool) with
            | true =>
              some (0, [⟨.bool, (false : Bool)⟩, ⟨.bool, (true : Bool)⟩, ⟨.bool, (true : Bool)⟩, ⟨.bool, (true : Bool)⟩])
            | false =>
              match ((x1600 == (7 : Int)) : Bool) with
              | true =>
                some (0, [⟨.bool, (false : Bool)⟩, ⟨.bool, (false : Bool)⟩, ⟨.bool, (false : Bool)⟩, ⟨.bool, (true : Bool)⟩])
              | false =>
                some (0, [⟨.bool, (false : Bool)⟩, ⟨.bool, (false : Bool)⟩, ⟨.bool, (false : Bool)⟩, ⟨.bool, (false : Bool)⟩])
theorem k59 (N : Nat) (x1600 : Int) : den cx0 h59 (ctL (t59 N)) (ltL []) Go.Proofs.Try.f59 (codeOf Go.Proofs.Try.f59) c59.i c59.r c59.ob [⟨(.int .i64), x1600⟩] = e59 N x1600 := by kernel_rfl
theorem c59_ok (N : Nat) (x1600 : Int) (n0 : Nat) (q : List DV) (h : e59 N x1600 = some (n0, q)) : CallOK Go.Proofs.Try.prog c59 [⟨(.int .i64), x1600⟩] q :=
  fn_ok (l := t59 N) (t := []) ti_ok hmix (t59_ok N) (a59 N) fn59 (by kernel_rfl) (by kernel_rfl) trivial ((k59 N x1600).trans h)
noncomputable def x59 (N : Nat) : List DV → (List DV → Option Rs) → Option Rs := mkX [(.int .i64)] [.bool, .bool, .bool, .bool] (e59 N)
theorem x59_ok (N : Nat) : CEok Go.Proofs.Try.prog (c59, x59 N) := mkX_ok fun ys n q h => c59_ok N ys.1 n q h
def c60 : CS := { id := 4, fn := 60, i := { av := [.one (.d (.int .i64)), .one (.d .bool)], bx := [] }, r := [.one (.d .bool)], one := true, ob := [] }
def h60 : Hi := { cs := [], ls := [], sp := [7, 9, 13] }
noncomputable def t60 (N : Nat) : List CE := []
theorem t60_ok (N : Nat) : AllP (CEok Go.Proofs.Try.prog) (t60 N) := trivial
theorem a60 (N : Nat) : AllP (fun e => lookC (t60 N) e.2.id = some e.2) h60.cs := trivial
theorem fn60 : Fn Go.Proofs.Try.prog 60 Go.Proofs.Try.f60 (codeOf Go.Proofs.Try.f60) := ⟨by kernel_rfl, by kernel_rfl, by kernel_rfl, by kernel_rfl⟩
noncomputable def on60 {R : Type} (r : Option Rs) (k : Cur (Option R) [.bool]) : Option R := onR [.bool] r k
noncomputable def e60 (N : Nat) (x1601 : Int) (x1602 : Bool) : Option Rs :=
  match ((x1601 == (0 : Int)) : Bool) with
  | true =>
    some (0, [⟨.bool, (true : Bool)⟩])
  | false =>
    match (x1602 : Bool) with
    | true =>
      match ((decide (x1601 > (0 : Int))) : Bool) with
      | true =>
        some (0, [⟨.bool, ((decide (x1601 ≤ (15 : Int))) : Bool)⟩])
      | false =>
        some (0, [⟨.bool, (false : Bool)⟩])
    | false =>
      some (0, [⟨.bool, (false : Bool)⟩])
theorem k60 (N : Nat) (x1601 : Int) (x1602 : Bool) : den cx0 h60 (ctL (t60 N)) (ltL []) Go.Proofs.Try.f60 (codeOf Go.Proofs.Try.f60) c60.i c60.r c60.ob [⟨(.int .i64), x1601⟩, ⟨.bool, x1602⟩] = e60 N x1601 x1602 := by kernel_rfl
theorem c60_ok (N : Nat) (x1601 : Int) (x1602 : Bool) (n0 : Nat) (q : List DV) (h : e60 N x1601 x1602 = some (n0, q)) : CallOK Go.Proofs.Try.prog c60 [⟨(.int .i64), x1601⟩, ⟨.bool, x1602⟩] q :=
  fn_ok (l := t60 N) (t := []) ti_ok hmix (t60_ok N) (a60 N) fn60 (by kernel_rfl) (by kernel_rfl) trivial ((k60 N x1601 x1602).trans h)
noncomputable def x60 (N : Nat) : List DV → (List DV → Option Rs) → Option Rs := mkX [(.int .i64), .bool] [.bool] (e60 N)
theorem x60_ok (N : Nat) : CEok Go.Proofs.Try.prog (c60, x60 N) := mkX_ok fun ys n q h => c60_ok N ys.1 ys.2.1 n q h
def c36 : CS := { id := 5, fn := 36, i := { av := [.agg [(.d (.int .i64)), (.d (.int .i64)), (.d (.int .i64)), (.d (.int .i64)), (.d (.int .i64))]], bx := [] }, r := [.one (.d .bool)], one := true, ob := [] }
def h36 : Hi := { cs := [((1, 2), c25), ((2, 1), c59), ((3, 6), c60), ((3, 13), c60), ((3, 20), c60)], ls := [], sp := [20, 27, 34, 41, 44, 49, 53, 58, 62, 66, 74] }
noncomputable def t36 (N : Nat) : List CE := [(c25, x25 N), (c59, x59 N), (c60, x60 N)]
theorem t36_ok (N : Nat) : AllP (CEok Go.Proofs.Try.prog) (t36 N) := ⟨x25_ok N, x59_ok N, x60_ok N, trivial⟩
theorem a36 (N : Nat) : AllP (fun e => lookC (t36 N) e.2.id = some e.2) h36.cs := ⟨rfl, rfl, rfl, rfl, rfl, trivial⟩
theorem fn36 : Fn Go.Proofs.Try.prog 36 Go.Proofs.Try.f36 (codeOf Go.Proofs.Try.f36) := ⟨by kernel_rfl, by kernel_rfl, by kernel_rfl, by kernel_rfl⟩
noncomputable def on36 {R : Type} (r : Option Rs) (k : Cur (Option R) [.bool]) : Option R := onR [.bool] r k
noncomputable def e36 (N : Nat) (x1586 : Int) (x1587 : Int) (x1588 : Int) (x1589 : Int) (x1590 : Int) : Option Rs :=
  on25 (e25 N (x1586 : Int)) (fun x1591 =>
    on59 (e59 N (x1591 : Int)) (fun x1592 x1593 x1594 x1595 =>
      match ((x1591 == (0 : Int)) : Bool) with
      | true =>
        some (0, [⟨.bool, (false : Bool)⟩])
      | false =>
        on60 (e60 N (x1587 : Int) (x1592 : Bool)) (fun x1596 =>
          match ((!x1596) : Bool) with
          | true =>
            some (0, [⟨.bool, (false : Bool)⟩])
          | false =>
            on60 (e60 N (x1588 : Int) (x1593 : Bool)) (fun x1597 =>
              match ((!x1597) : Bool) with
              | true =>
                some (0, [⟨.bool, (false : Bool)⟩])
              | false =>
                on60 (e60 N (x1589 : Int) (x1594 : Bool)) (fun x1598 =>
                  match ((!x1598) : Bool) with
                  | true =>
                    some (0, [⟨.bool, (false : Bool)⟩])
                  | false =>
                    match ((!x1595) : Bool) with
                    | true =>
                      match ((x1590 != (0 : Int)) : Bool) with
                      | true =>
                        some (0, [⟨.bool, (false : Bool)⟩])
                      | false =>
                        match ((x1586 == (22 : Int)) : Bool) with
                        | true =>
                          match ((decide (x1590 ≥ (0 : Int))) : Bool) with
                          | true =>
                            some (0, [⟨.bool, ((decide (x1590 ≤ (31 : Int))) : Bool)⟩])
                          | false =>
                            some (0, [⟨.bool, (false : Bool)⟩])
                        | false =>
                          match ((x1586 == (23 : Int)) : Bool) with
                          | true =>
                            match ((decide (x1590 ≥ (0 : Int))) : Bool) with
                            | true =>
                              some (0, [⟨.bool, ((decide (x1590 ≤ (31 : Int))) : Bool)⟩])
                            | false =>
                              some (0, [⟨.bool, (false : Bool)⟩])
                          | false =>
                            match ((x1586 == (24 : Int)) : Bool) with
                            | true =>
                              match ((decide (x1590 ≥ (0 : Int))) : Bool) with
                              | true =>
                                some (0, [⟨.bool, ((decide (x1590 ≤ (31 : Int))) : Bool)⟩])
                              | false =>
                                some (0, [⟨.bool, (false : Bool)⟩])
                            | false =>
                              match ((decide (x1590 ≥ (-8192 : Int))) : Bool) with
                              | true =>
                                some (0, [⟨.bool, ((decide (x1590 ≤ (8191 : Int))) : Bool)⟩])
                              | false =>
                                some (0, [⟨.bool, (false : Bool)⟩])
                    | false =>
                      match ((x1586 == (22 : Int)) : Bool) with
                      | true =>
                        match ((decide (x1590 ≥ (0 : Int))) : Bool) with
                        | true =>
                          some (0, [⟨.bool, ((decide (x1590 ≤ (31 : Int))) : Bool)⟩])
                        | false =>
                          some (0, [⟨.bool, (false : Bool)⟩])
                      | false =>
                        match ((x1586 == (23 : Int)) : Bool) with
                        | true =>
                          match ((decide (x1590 ≥ (0 : Int))) : Bool) with
                          | true =>
                            some (0, [⟨.bool, ((decide (x1590 ≤ (31 : Int))) : Bool)⟩])
                          | false =>
                            some (0, [⟨.bool, (false : Bool)⟩])
                        | false =>
                          match ((x1586 == (24 : Int)) : Bool) with
                          | true =>
                            match ((decide (x1590 ≥ (0 : Int))) : Bool) with
                            | true =>
                              some (0, [⟨.bool, ((decide (x1590 ≤ (31 : Int))) : Bool)⟩])
                            | false =>
                              some (0, [⟨.bool, (false : Bool)⟩])
                          | false =>
                            match ((decide (x1590 ≥ (-8192 : Int))) : Bool) with
                            | true =>
                              some (0, [⟨.bool, ((decide (x1590 ≤ (8191 : Int))) : Bool)⟩])
                            | false =>
                              some (0, [⟨.bool, (false : Bool)⟩]))))))
theorem k36 (N : Nat) (x1586 : Int) (x1587 : Int) (x1588 : Int) (x1589 : Int) (x1590 : Int) : den cx0 h36 (ctL (t36 N)) (ltL []) Go.Proofs.Try.f36 (codeOf Go.Proofs.Try.f36) c36.i c36.r c36.ob [⟨(.int .i64), x1586⟩, ⟨(.int .i64), x1587⟩, ⟨(.int .i64), x1588⟩, ⟨(.int .i64), x1589⟩, ⟨(.int .i64), x1590⟩] = e36 N x1586 x1587 x1588 x1589 x1590 := by kernel_rfl
theorem c36_ok (N : Nat) (x1586 : Int) (x1587 : Int) (x1588 : Int) (x1589 : Int) (x1590 : Int) (n0 : Nat) (q : List DV) (h : e36 N x1586 x1587 x1588 x1589 x1590 = some (n0, q)) : CallOK Go.Proofs.Try.prog c36 [⟨(.int .i64), x1586⟩, ⟨(.int .i64), x1587⟩, ⟨(.int .i64), x1588⟩, ⟨(.int .i64), x1589⟩, ⟨(.int .i64), x1590⟩] q :=
  fn_ok (l := t36 N) (t := []) ti_ok hmix (t36_ok N) (a36 N) fn36 (by kernel_rfl) (by kernel_rfl) trivial ((k36 N x1586 x1587 x1588 x1589 x1590).trans h)
noncomputable def x36 (N : Nat) : List DV → (List DV → Option Rs) → Option Rs := mkX [(.int .i64), (.int .i64), (.int .i64), (.int .i64), (.int .i64)] [.bool] (e36 N)
theorem x36_ok (N : Nat) : CEok Go.Proofs.Try.prog (c36, x36 N) := mkX_ok fun ys n q h => c36_ok N ys.1 ys.2.1 ys.2.2.1 ys.2.2.2.1 ys.2.2.2.2.1 n q h
def c22 : CS := { id := 6, fn := 22, i := { av := [.agg [(.d (.sl (.pair (.int .i64) (.pair (.int .i64) (.pair (.int .i64) (.pair (.int .i64) (.pair (.int .i64) .unit))))))), (.d (.int .i64)), (.d (.sl (.int .u8)))]], bx := [] }, r := [.one (.d .bool)], one := true, ob := [] }
def s22_0 : LS := { h := { av := [.no, .one (.p 0 0 [1, 1, 1]), .no, .one (.d (.int .i64)), .no, .no, .no, .no, .no, .no, .no, .no, .no, .no, .no, .no, .no, .no, .no, .no, .no, .no, .no, .no, .no, .no, .no, .no, .no, .no, .no, .no, .no, .no, .no, .no, .no, .no, .no, .no, .no, .no, .no, .no, .no, .no, .no, .no, .no], bx := [[(.d (.sl (.pair (.int .i64) (.pair (.int .i64) (.pair (.int .i64) (.pair (.int .i64) (.pair (.int .i64) .unit))))))), (.d (.int .i64)), (.d (.sl (.int .u8)))]] }, x := [(0, { av := [.no, .no, .one (.d .bool), .no, .no, .no, .no, .no, .no, .no, .no, .no, .no, .no, .no, .no, .no, .no, .no, .no, .no, .no, .no, .no, .no, .no, .no, .no, .no, .no, .no, .no, .no, .no, .no, .no, .no, .no, .no, .no, .no, .no, .no, .no, .no, .no, .no, .no, .no], bx := [] }), (1, { av := [.no, .one (.p 0 0 [1, 1, 1]), .no, .no, .no, .no, .no, .no, .no, .no, .no, .no, .no, .no, .no, .no, .no, .no, .no, .no, .no, .no, .no, .no, .no, .no, .no, .no, .no, .no, .no, .no, .no, .no, .no, .no, .no, .no, .no, .no, .no, .no, .no, .no, .no, .no, .no, .no, .no], bx := [[(.d (.sl (.pair (.int .i64) (.pair (.int .i64) (.pair (.int .i64) (.pair (.int .i64) (.pair (.int .i64) .unit))))))), (.d (.int .i64)), (.d (.sl (.int .u8)))]] })] }
def h22 : Hi := { cs := [((6, 5), c36), ((8, 1), c54)], ls := [(0, s22_0)], sp := [8, 14, 19, 24, 31, 36, 45] }
noncomputable def t22 (N : Nat) : List CE := [(c36, x36 N), (c54, x54 N)]
theorem t22_ok (N : Nat) : AllP (CEok Go.Proofs.Try.prog) (t22 N) := ⟨x36_ok N, x54_ok N, trivial⟩
theorem a22 (N : Nat) : AllP (fun e => lookC (t22 N) e.2.id = some e.2) h22.cs := ⟨rfl, rfl, trivial⟩
theorem fn22 : Fn Go.Proofs.Try.prog 22 Go.Proofs.Try.f22 (codeOf Go.Proofs.Try.f22) := ⟨by kernel_rfl, by kernel_rfl, by kernel_rfl, by kernel_rfl⟩
noncomputable def on22_0 {R : Type} (r : Option Rs) (k0 : Cur (Option R) [.bool]) (k1 : Cur (Option R) [(.sl (.pair (.int .i64) (.pair (.int .i64) (.pair (.int .i64) (.pair (.int .i64) (.pair (.int .i64) .unit)))))), (.int .i64), (.sl (.int .u8))]) : Option R :=
  match r with
  | some (n, p) => match n with
    | 0 => onG [.bool] p k0
    | 1 => onG [(.sl (.pair (.int .i64) (.pair (.int .i64) (.pair (.int .i64) (.pair (.int .i64) (.pair (.int .i64) .unit)))))), (.int .i64), (.sl (.int .u8))] p k1
    | _ => none
  | none => none
noncomputable def r22_0 (N : Nat) (again : Int → (List (Int × (Int × (Int × (Int × (Int × Unit)))))) → Int → (List Int) → Option Rs) (x1576 : Int) (x1577 : (List (Int × (Int × (Int × (Int × (Int × Unit))))))) (x1578 : Int) (x1579 : (List Int)) : Option Rs :=
  match ((decide (x1576 < ((List.length x1577 : Nat) : Int))) : Bool) with
  | true =>
    match ((idx x1576 (List.length x1577)) : Bool) with
    | true =>
      on36 (e36 N ((List.getD x1577 (Int.toNat x1576) ((0 : Int), ((0 : Int), ((0 : Int), ((0 : Int), ((0 : Int), ())))))).1 : Int) ((List.getD x1577 (Int.toNat x1576) ((0 : Int), ((0 : Int), ((0 : Int), ((0 : Int), ((0 : Int), ())))))).2.1 : Int) ((List.getD x1577 (Int.toNat x1576) ((0 : Int), ((0 : Int), ((0 : Int), ((0 : Int), ((0 : Int), ())))))).2.2.1 : Int) ((List.getD x1577 (Int.toNat x1576) ((0 : Int), ((0 : Int), ((0 : Int), ((0 : Int), ((0 : Int), ())))))).2.2.2.1 : Int) ((List.getD x1577 (Int.toNat x1576) ((0 : Int), ((0 : Int), ((0 : Int), ((0 : Int), ((0 : Int), ())))))).2.2.2.2.1 : Int)) (fun x1580 =>
        match ((!x1580) : Bool) with
        | true =>
          some (0, [⟨.bool, (false : Bool)⟩])
        | false =>
          again ((IntKind.i64.wrap (x1576 + (1 : Int))) : Int) (x1577 : (List (Int × (Int × (Int × (Int × (Int × Unit))))))) (x1578 : Int) (x1579 : (List Int)))
    | false =>
      none
  | false =>
    some (1, [⟨(.sl (.pair (.int .i64) (.pair (.int .i64) (.pair (.int .i64) (.pair (.int .i64) (.pair (.int .i64) .unit)))))), (x1577 : (List (Int × (Int × (Int × (Int × (Int × Unit)))))))⟩, ⟨(.int .i64), (x1578 : Int)⟩, ⟨(.sl (.int .u8)), (x1579 : (List Int))⟩])
noncomputable def l22_0 (N : Nat) : Nat → Int → (List (Int × (Int × (Int × (Int × (Int × Unit)))))) → Int → (List Int) → Option Rs
  | 0, _, _, _, _ => none
  | n + 1, x1576, x1577, x1578, x1579 => r22_0 N (l22_0 N n) x1576 x1577 x1578 x1579
theorem on22_0_K (r : Option Rs) (K : Rs → Option Rs) (x : Rs) (h : on22_0 r (curK [.bool] fun q => K (0, q)) (curK [(.sl (.pair (.int .i64) (.pair (.int .i64) (.pair (.int .i64) (.pair (.int .i64) (.pair (.int .i64) .unit)))))), (.int .i64), (.sl (.int .u8))] fun q => K (1, q)) = some x) : ∃ q, r = some q ∧ K q = some x := by
  unfold on22_0 at h
  split at h
  · split at h
    · exact ⟨_, rfl, onG_K h⟩
    · exact ⟨_, rfl, onG_K h⟩
    · simp at h
  · simp at h
noncomputable def R22_0 (N : Nat) : (List DV → Option Rs) → List DV → Option Rs := round cx0 h22 (ctL (t22 N)) (ltL []) Go.Proofs.Try.f22.ntmps c22.i.bx.length 0 s22_0 (bodyAt Go.Proofs.Try.f22 0)
theorem r22_0_eq (N : Nat) (A : List DV → Option Rs) (x1576 : Int) (x1577 : (List (Int × (Int × (Int × (Int × (Int × Unit))))))) (x1578 : Int) (x1579 : (List Int)) : R22_0 N A [⟨(.int .i64), x1576⟩, ⟨(.sl (.pair (.int .i64) (.pair (.int .i64) (.pair (.int .i64) (.pair (.int .i64) (.pair (.int .i64) .unit)))))), x1577⟩, ⟨(.int .i64), x1578⟩, ⟨(.sl (.int .u8)), x1579⟩] = r22_0 N (fun x1576 x1577 x1578 x1579 => A [⟨(.int .i64), x1576⟩, ⟨(.sl (.pair (.int .i64) (.pair (.int .i64) (.pair (.int .i64) (.pair (.int .i64) (.pair (.int .i64) .unit)))))), x1577⟩, ⟨(.int .i64), x1578⟩, ⟨(.sl (.int .u8)), x1579⟩]) x1576 x1577 x1578 x1579 := by kernel_rfl
theorem l22_0_eq (N : Nat) : ∀ (n : Nat) (x1576 : Int) (x1577 : (List (Int × (Int × (Int × (Int × (Int × Unit))))))) (x1578 : Int) (x1579 : (List Int)), iter (R22_0 N) n [⟨(.int .i64), x1576⟩, ⟨(.sl (.pair (.int .i64) (.pair (.int .i64) (.pair (.int .i64) (.pair (.int .i64) (.pair (.int .i64) .unit)))))), x1577⟩, ⟨(.int .i64), x1578⟩, ⟨(.sl (.int .u8)), x1579⟩] = l22_0 N n x1576 x1577 x1578 x1579
  | 0, _, _, _, _ => rfl
  | n + 1, x1576, x1577, x1578, x1579 => (r22_0_eq N (iter (R22_0 N) n) x1576 x1577 x1578 x1579).trans (congrArg (fun A => r22_0 N A x1576 x1577 x1578 x1579) (funext fun x1576 => funext fun x1577 => funext fun x1578 => funext fun x1579 => l22_0_eq N n x1576 x1577 x1578 x1579))
noncomputable def x22_0 (N : Nat) : List DV → (Rs → Option Rs) → Option Rs := mkL [(.int .i64), (.sl (.pair (.int .i64) (.pair (.int .i64) (.pair (.int .i64) (.pair (.int .i64) (.pair (.int .i64) .unit)))))), (.int .i64), (.sl (.int .u8))] (l22_0 N N) fun r K => on22_0 r (curK [.bool] fun q => K (0, q)) (curK [(.sl (.pair (.int .i64) (.pair (.int .i64) (.pair (.int .i64) (.pair (.int .i64) (.pair (.int .i64) .unit)))))), (.int .i64), (.sl (.int .u8))] fun q => K (1, q))
theorem x22_0_ok (N : Nat) : LEok Go.Proofs.Try.prog h22 (bodOf Go.Proofs.Try.f22) Go.Proofs.Try.f22.ntmps c22.i.bx.length (0, x22_0 N) :=
  mkL_ok on22_0_K (ls := s22_0) (body := bodyAt Go.Proofs.Try.f22 0) (by kernel_rfl) (by kernel_rfl) fun ys q h =>
    loop_ok (l := t22 N) (t := []) ti_ok hmix (t22_ok N) (a22 N) fn22 trivial (by kernel_rfl) (by kernel_rfl) (n := N) ((l22_0_eq N N ys.1 ys.2.1 ys.2.2.1 ys.2.2.2.1).trans h)
noncomputable def on22 {R : Type} (r : Option Rs) (k : Cur (Option R) [.bool]) : Option R := onR [.bool] r k
noncomputable def e22 (N : Nat) (x1573 : (List (Int × (Int × (Int × (Int × (Int × Unit))))))) (x1574 : Int) (x1575 : (List Int)) : Option Rs :=
  match ((decide (((List.length x1573 : Nat) : Int) < (1 : Int))) : Bool) with
  | true =>
    some (0, [⟨.bool, (false : Bool)⟩])
  | false =>
    match ((decide (((List.length x1573 : Nat) : Int) > (2000 : Int))) : Bool) with
    | true =>
      some (0, [⟨.bool, (false : Bool)⟩])
    | false =>
      match ((decide (x1574 < (0 : Int))) : Bool) with
      | true =>
        some (0, [⟨.bool, (false : Bool)⟩])
      | false =>
        match ((decide (x1574 > (65536 : Int))) : Bool) with
        | true =>
          some (0, [⟨.bool, (false : Bool)⟩])
        | false =>
          match ((decide (((List.length x1575 : Nat) : Int) > x1574)) : Bool) with
          | true =>
            some (0, [⟨.bool, (false : Bool)⟩])
          | false =>
            on22_0 (l22_0 N N ((0 : Int) : Int) (x1573 : (List (Int × (Int × (Int × (Int × (Int × Unit))))))) (x1574 : Int) (x1575 : (List Int))) (fun x1581 =>
              some (0, [⟨.bool, (x1581 : Bool)⟩])) (fun x1582 x1583 x1584 =>
              on54 (e54 N (x1582 : (List (Int × (Int × (Int × (Int × (Int × Unit))))))) (x1583 : Int) (x1584 : (List Int))) (fun x1585 =>
                some (0, [⟨.bool, ((x1585 == (0 : Int)) : Bool)⟩])))
theorem k22 (N : Nat) (x1573 : (List (Int × (Int × (Int × (Int × (Int × Unit))))))) (x1574 : Int) (x1575 : (List Int)) : den cx0 h22 (ctL (t22 N)) (ltL [(0, x22_0 N)]) Go.Proofs.Try.f22 (codeOf Go.Proofs.Try.f22) c22.i c22.r c22.ob [⟨(.sl (.pair (.int .i64) (.pair (.int .i64) (.pair (.int .i64) (.pair (.int .i64) (.pair (.int .i64) .unit)))))), x1573⟩, ⟨(.int .i64), x1574⟩, ⟨(.sl (.int .u8)), x1575⟩] = e22 N x1573 x1574 x1575 := by kernel_rfl
theorem c22_ok (N : Nat) (x1573 : (List (Int × (Int × (Int × (Int × (Int × Unit))))))) (x1574 : Int) (x1575 : (List Int)) (n0 : Nat) (q : List DV) (h : e22 N x1573 x1574 x1575 = some (n0, q)) : CallOK Go.Proofs.Try.prog c22 [⟨(.sl (.pair (.int .i64) (.pair (.int .i64) (.pair (.int .i64) (.pair (.int .i64) (.pair (.int .i64) .unit)))))), x1573⟩, ⟨(.int .i64), x1574⟩, ⟨(.sl (.int .u8)), x1575⟩] q :=
  fn_ok (l := t22 N) (t := [(0, x22_0 N)]) ti_ok hmix (t22_ok N) (a22 N) fn22 (by kernel_rfl) (by kernel_rfl) ⟨x22_0_ok N, trivial⟩ ((k22 N x1573 x1574 x1575).trans h)
noncomputable def x22 (N : Nat) : List DV → (List DV → Option Rs) → Option Rs := mkX [(.sl (.pair (.int .i64) (.pair (.int .i64) (.pair (.int .i64) (.pair (.int .i64) (.pair (.int .i64) .unit)))))), (.int .i64), (.sl (.int .u8))] [.bool] (e22 N)
theorem x22_ok (N : Nat) : CEok Go.Proofs.Try.prog (c22, x22 N) := mkX_ok fun ys n q h => c22_ok N ys.1 ys.2.1 ys.2.2.1 n q h
def c45 : CS := { id := 7, fn := 45, i := { av := [.agg [(.d (.int .i64)), (.d (.int .i64)), (.d (.int .i64)), (.d (.int .i64)), (.d (.int .i64))]], bx := [] }, r := [.one (.o (.int .i64))], one := true, ob := [] }
def h45 : Hi := { cs := [((1, 1), c36), ((3, 2), c25), ((3, 3), c59)], ls := [], sp := [10, 21, 25, 32, 36] }
noncomputable def t45 (N : Nat) : List CE := [(c36, x36 N), (c25, x25 N), (c59, x59 N)]
theorem t45_ok (N : Nat) : AllP (CEok Go.Proofs.Try.prog) (t45 N) := ⟨x36_ok N, x25_ok N, x59_ok N, trivial⟩
theorem a45 (N : Nat) : AllP (fun e => lookC (t45 N) e.2.id = some e.2) h45.cs := ⟨rfl, rfl, rfl, trivial⟩
theorem fn45 : Fn Go.Proofs.Try.prog 45 Go.Proofs.Try.f45 (codeOf Go.Proofs.Try.f45) := ⟨by kernel_rfl, by kernel_rfl, by kernel_rfl, by kernel_rfl⟩
noncomputable def on45 {R : Type} (r : Option Rs) (k : Cur (Option R) [(.sl (.int .i64))]) : Option R := onR [(.sl (.int .i64))] r k
noncomputable def e45 (N : Nat) (x1619 : Int) (x1620 : Int) (x1621 : Int) (x1622 : Int) (x1623 : Int) : Option Rs :=
  on36 (e36 N (x1619 : Int) (x1620 : Int) (x1621 : Int) (x1622 : Int) (x1623 : Int)) (fun x1624 =>
    match ((!x1624) : Bool) with
    | true =>
      some (0, [⟨(.sl (.int .i64)), (([] : List Int) : (List Int))⟩])
    | false =>
      on25 (e25 N (x1619 : Int)) (fun x1625 =>
        on59 (e59 N (x1625 : Int)) (fun x1626 x1627 x1628 x1629 =>
          match (x1627 : Bool) with
          | true =>
            match ((x1621 != (0 : Int)) : Bool) with
            | true =>
              match ((decide ((List.length (([] : List Int) : List Int) + List.length [x1621]) * 8 ≤ reach)) : Bool) with
              | true =>
                match (x1628 : Bool) with
                | true =>
                  match ((x1622 != (0 : Int)) : Bool) with
                  | true =>
                    match ((decide ((List.length ((([] : List Int) ++ [x1621]) : List Int) + List.length [x1622]) * 8 ≤ reach)) : Bool) with
                    | true =>
                      some (0, [⟨(.sl (.int .i64)), (((([] : List Int) ++ [x1621]) ++ [x1622]) : (List Int))⟩])
                    | false =>
                      none
                  | false =>
                    some (0, [⟨(.sl (.int .i64)), ((([] : List Int) ++ [x1621]) : (List Int))⟩])
                | false =>
                  some (0, [⟨(.sl (.int .i64)), ((([] : List Int) ++ [x1621]) : (List Int))⟩])
              | false =>
                none
            | false =>
              match (x1628 : Bool) with
              | true =>
                match ((x1622 != (0 : Int)) : Bool) with
                | true =>
                  match ((decide ((List.length (([] : List Int) : List Int) + List.length [x1622]) * 8 ≤ reach)) : Bool) with
                  | true =>
                    some (0, [⟨(.sl (.int .i64)), ((([] : List Int) ++ [x1622]) : (List Int))⟩])
                  | false =>
                    none
                | false =>
                  some (0, [⟨(.sl (.int .i64)), (([] : List Int) : (List Int))⟩])
              | false =>
                some (0, [⟨(.sl (.int .i64)), (([] : List Int) : (List Int))⟩])
          | false =>
            match (x1628 : Bool) with
            | true =>
              match ((x1622 != (0 : Int)) : Bool) with
              | true =>
                match ((decide ((List.length (([] : List Int) : List Int) + List.length [x1622]) * 8 ≤ reach)) : Bool) with
                | true =>
                  some (0, [⟨(.sl (.int .i64)), ((([] : List Int) ++ [x1622]) : (List Int))⟩])
                | false =>
                  none
              | false =>
                some (0, [⟨(.sl (.int .i64)), (([] : List Int) : (List Int))⟩])
            | false =>
              some (0, [⟨(.sl (.int .i64)), (([] : List Int) : (List Int))⟩]))))
theorem k45 (N : Nat) (x1619 : Int) (x1620 : Int) (x1621 : Int) (x1622 : Int) (x1623 : Int) : den cx0 h45 (ctL (t45 N)) (ltL []) Go.Proofs.Try.f45 (codeOf Go.Proofs.Try.f45) c45.i c45.r c45.ob [⟨(.int .i64), x1619⟩, ⟨(.int .i64), x1620⟩, ⟨(.int .i64), x1621⟩, ⟨(.int .i64), x1622⟩, ⟨(.int .i64), x1623⟩] = e45 N x1619 x1620 x1621 x1622 x1623 := by kernel_rfl
theorem c45_ok (N : Nat) (x1619 : Int) (x1620 : Int) (x1621 : Int) (x1622 : Int) (x1623 : Int) (n0 : Nat) (q : List DV) (h : e45 N x1619 x1620 x1621 x1622 x1623 = some (n0, q)) : CallOK Go.Proofs.Try.prog c45 [⟨(.int .i64), x1619⟩, ⟨(.int .i64), x1620⟩, ⟨(.int .i64), x1621⟩, ⟨(.int .i64), x1622⟩, ⟨(.int .i64), x1623⟩] q :=
  fn_ok (l := t45 N) (t := []) ti_ok hmix (t45_ok N) (a45 N) fn45 (by kernel_rfl) (by kernel_rfl) trivial ((k45 N x1619 x1620 x1621 x1622 x1623).trans h)
noncomputable def x45 (N : Nat) : List DV → (List DV → Option Rs) → Option Rs := mkX [(.int .i64), (.int .i64), (.int .i64), (.int .i64), (.int .i64)] [(.sl (.int .i64))] (e45 N)
theorem x45_ok (N : Nat) : CEok Go.Proofs.Try.prog (c45, x45 N) := mkX_ok fun ys n q h => c45_ok N ys.1 ys.2.1 ys.2.2.1 ys.2.2.2.1 ys.2.2.2.2.1 n q h
def c20 : CS := { id := 8, fn := 20, i := { av := [.agg [(.d (.sl (.pair (.int .i64) (.pair (.int .i64) (.pair (.int .i64) (.pair (.int .i64) (.pair (.int .i64) .unit))))))), (.d (.int .i64)), (.d (.sl (.int .u8)))]], bx := [] }, r := [.agg [(.d (.ar 16 (.int .i64)))]], one := true, ob := [] }
def s20_0 : LS := { h := { av := [.no, .one (.p 0 0 [1, 1, 1]), .one (.p 1 0 [16]), .one (.p 2 0 [16]), .one (.d (.int .i64)), .no, .no, .no, .no, .no, .no, .no, .no, .no, .no, .no, .no, .no, .no, .no, .no, .no, .no, .no, .no, .no, .no, .no, .no, .no, .no, .no, .no, .no, .no, .no, .no, .no, .no, .no, .no, .no, .no, .no, .no, .no, .no, .no, .no, .no, .no, .no, .no, .no, .no, .no, .no, .no, .no, .no, .no, .no, .no, .no, .no, .no, .no, .no, .no, .no, .no, .no, .no, .no, .no, .no, .no, .no, .no, .no, .no, .no, .no, .no, .no, .no], bx := [[(.d (.sl (.pair (.int .i64) (.pair (.int .i64) (.pair (.int .i64) (.pair (.int .i64) (.pair (.int .i64) .unit))))))), (.d (.int .i64)), (.d (.sl (.int .u8)))], [(.d (.ar 16 (.int .i64)))], [(.d (.ar 16 (.int .i64)))]] }, x := [(1, { av := [.no, .one (.p 0 0 [1, 1, 1]), .one (.p 1 0 [16]), .one (.p 2 0 [16]), .no, .no, .no, .no, .no, .no, .no, .no, .no, .no, .no, .no, .no, .no, .no, .no, .no, .no, .no, .no, .no, .no, .no, .no, .no, .no, .no, .no, .no, .no, .no, .no, .no, .no, .no, .no, .no, .no, .no, .no, .no, .no, .no, .no, .no, .no, .no, .no, .no, .no, .no, .no, .no, .no, .no, .no, .no, .no, .no, .no, .no, .no, .no, .no, .no, .no, .no, .no, .no, .no, .no, .no, .no, .no, .no, .no, .no, .no, .no, .no, .no, .no], bx := [[(.d (.sl (.pair (.int .i64) (.pair (.int .i64) (.pair (.int .i64) (.pair (.int .i64) (.pair (.int .i64) .unit))))))), (.d (.int .i64)), (.d (.sl (.int .u8)))], [(.d (.ar 16 (.int .i64)))], [(.d (.ar 16 (.int .i64)))]] })] }
def s20_6 : LS := { h := { av := [.no, .one (.p 0 0 [1, 1, 1]), .one (.p 1 0 [16]), .one (.p 2 0 [16]), .no, .one (.d (.int .i64)), .one (.d (.int .i64)), .no, .no, .one (.o (.int .i64)), .one (.d (.int .i64)), .no, .no, .no, .no, .no, .no, .no, .no, .no, .no, .no, .no, .no, .no, .no, .no, .no, .no, .no, .no, .no, .no, .no, .no, .no, .no, .no, .no, .no, .no, .no, .no, .no, .no, .no, .no, .no, .no, .no, .no, .no, .no, .no, .no, .no, .no, .no, .no, .no, .no, .no, .no, .no, .no, .no, .no, .no, .no, .no, .no, .no, .no, .no, .no, .no, .no, .no, .no, .no, .no, .no, .no, .no, .no, .no], bx := [[(.d (.sl (.pair (.int .i64) (.pair (.int .i64) (.pair (.int .i64) (.pair (.int .i64) (.pair (.int .i64) .unit))))))), (.d (.int .i64)), (.d (.sl (.int .u8)))], [(.d (.ar 16 (.int .i64)))], [(.d (.ar 16 (.int .i64)))]] }, x := [(7, { av := [.no, .one (.p 0 0 [1, 1, 1]), .one (.p 1 0 [16]), .one (.p 2 0 [16]), .no, .one (.d (.int .i64)), .one (.d (.int .i64)), .no, .no, .no, .no, .no, .no, .no, .no, .no, .no, .no, .no, .no, .no, .no, .no, .no, .no, .no, .no, .no, .no, .no, .no, .no, .no, .no, .no, .no, .no, .no, .no, .no, .no, .no, .no, .no, .no, .no, .no, .no, .no, .no, .no, .no, .no, .no, .no, .no, .no, .no, .no, .no, .no, .no, .no, .no, .no, .no, .no, .no, .no, .no, .no, .no, .no, .no, .no, .no, .no, .no, .no, .no, .no, .no, .no, .no, .no, .no], bx := [[(.d (.sl (.pair (.int .i64) (.pair (.int .i64) (.pair (.int .i64) (.pair (.int .i64) (.pair (.int .i64) .unit))))))), (.d (.int .i64)), (.d (.sl (.int .u8)))], [(.d (.ar 16 (.int .i64)))], [(.d (.ar 16 (.int .i64)))]] })] }
def s20_4 : LS := { h := { av := [.no, .one (.p 0 0 [1, 1, 1]), .one (.p 1 0 [16]), .one (.p 2 0 [16]), .no, .one (.d (.int .i64)), .one (.d (.int .i64)), .no, .no, .no, .no, .no, .no, .no, .no, .no, .no, .no, .no, .no, .no, .no, .no, .no, .no, .no, .no, .no, .no, .no, .no, .no, .no, .no, .no, .no, .no, .no, .no, .no, .no, .no, .no, .no, .no, .no, .no, .no, .no, .no, .no, .no, .no, .no, .no, .no, .no, .no, .no, .no, .no, .no, .no, .no, .no, .no, .no, .no, .no, .no, .no, .no, .no, .no, .no, .no, .no, .no, .no, .no, .no, .no, .no, .no, .no, .no], bx := [[(.d (.sl (.pair (.int .i64) (.pair (.int .i64) (.pair (.int .i64) (.pair (.int .i64) (.pair (.int .i64) .unit))))))), (.d (.int .i64)), (.d (.sl (.int .u8)))], [(.d (.ar 16 (.int .i64)))], [(.d (.ar 16 (.int .i64)))]] }, x := [(5, { av := [.no, .one (.p 0 0 [1, 1, 1]), .one (.p 1 0 [16]), .one (.p 2 0 [16]), .no, .one (.d (.int .i64)), .no, .no, .no, .no, .no, .no, .no, .no, .no, .no, .no, .no, .no, .no, .no, .no, .no, .no, .no, .no, .no, .no, .no, .no, .no, .no, .no, .no, .no, .no, .no, .no, .no, .no, .no, .no, .no, .no, .no, .no, .no, .no, .no, .no, .no, .no, .no, .no, .no, .no, .no, .no, .no, .no, .no, .no, .no, .no, .no, .no, .no, .no, .no, .no, .no, .no, .no, .no, .no, .no, .no, .no, .no, .no, .no, .no, .no, .no, .no, .no], bx := [[(.d (.sl (.pair (.int .i64) (.pair (.int .i64) (.pair (.int .i64) (.pair (.int .i64) (.pair (.int .i64) .unit))))))), (.d (.int .i64)), (.d (.sl (.int .u8)))], [(.d (.ar 16 (.int .i64)))], [(.d (.ar 16 (.int .i64)))]] })] }
def s20_2 : LS := { h := { av := [.no, .one (.p 0 0 [1, 1, 1]), .one (.p 1 0 [16]), .one (.p 2 0 [16]), .no, .one (.d (.int .i64)), .no, .no, .no, .no, .no, .no, .no, .no, .no, .no, .no, .no, .no, .no, .no, .no, .no, .no, .no, .no, .no, .no, .no, .no, .no, .no, .no, .no, .no, .no, .no, .no, .no, .no, .no, .no, .no, .no, .no, .no, .no, .no, .no, .no, .no, .no, .no, .no, .no, .no, .no, .no, .no, .no, .no, .no, .no, .no, .no, .no, .no, .no, .no, .no, .no, .no, .no, .no, .no, .no, .no, .no, .no, .no, .no, .no, .no, .no, .no, .no], bx := [[(.d (.sl (.pair (.int .i64) (.pair (.int .i64) (.pair (.int .i64) (.pair (.int .i64) (.pair (.int .i64) .unit))))))), (.d (.int .i64)), (.d (.sl (.int .u8)))], [(.d (.ar 16 (.int .i64)))], [(.d (.ar 16 (.int .i64)))]] }, x := [(3, { av := [.no, .no, .one (.p 0 0 [16]), .one (.p 1 0 [16]), .no, .no, .no, .no, .no, .no, .no, .no, .no, .no, .no, .no, .no, .no, .no, .no, .no, .no, .no, .no, .no, .no, .no, .no, .no, .no, .no, .no, .no, .no, .no, .no, .no, .no, .no, .no, .no, .no, .no, .no, .no, .no, .no, .no, .no, .no, .no, .no, .no, .no, .no, .no, .no, .no, .no, .no, .no, .no, .no, .no, .no, .no, .no, .no, .no, .no, .no, .no, .no, .no, .no, .no, .no, .no, .no, .no, .no, .no, .no, .no, .no, .no], bx := [[(.d (.ar 16 (.int .i64)))], [(.d (.ar 16 (.int .i64)))]] })] }
def h20 : Hi := { cs := [((2, 1), c22), ((15, 2), c25), ((19, 1), c45)], ls := [(0, s20_0), (6, s20_6), (4, s20_4), (2, s20_2)], sp := [13, 16, 22, 29, 42, 46, 50, 56, 60, 65, 71, 77] }
noncomputable def t20 (N : Nat) : List CE := [(c22, x22 N), (c25, x25 N), (c45, x45 N)]
theorem t20_ok (N : Nat) : AllP (CEok Go.Proofs.Try.prog) (t20 N) := ⟨x22_ok N, x25_ok N, x45_ok N, trivial⟩
theorem a20 (N : Nat) : AllP (fun e => lookC (t20 N) e.2.id = some e.2) h20.cs := ⟨rfl, rfl, rfl, trivial⟩
theorem fn20 : Fn Go.Proofs.Try.prog 20 Go.Proofs.Try.f20 (codeOf Go.Proofs.Try.f20) := ⟨by kernel_rfl, by kernel_rfl, by kernel_rfl, by kernel_rfl⟩
noncomputable def on20_0 {R : Type} (r : Option Rs) (k1 : Cur (Option R) [(.sl (.pair (.int .i64) (.pair (.int .i64) (.pair (.int .i64) (.pair (.int .i64) (.pair (.int .i64) .unit)))))), (.int .i64), (.sl (.int .u8)), (.ar 16 (.int .i64)), (.ar 16 (.int .i64))]) : Option R :=
  match r with
  | some (n, p) => match n with
    | 1 => onG [(.sl (.pair (.int .i64) (.pair (.int .i64) (.pair (.int .i64) (.pair (.int .i64) (.pair (.int .i64) .unit)))))), (.int .i64), (.sl (.int .u8)), (.ar 16 (.int .i64)), (.ar 16 (.int .i64))] p k1
    | _ => none
  | none => none
noncomputable def r20_0 (N : Nat) (again : Int → (List (Int × (Int × (Int × (Int × (Int × Unit)))))) → Int → (List Int) → (List Int) → (List Int) → Option Rs) (x1491 : Int) (x1492 : (List (Int × (Int × (Int × (Int × (Int × Unit))))))) (x1493 : Int) (x1494 : (List Int)) (x1495 : (List Int)) (x1496 : (List Int)) : Option Rs :=
  match ((decide (x1491 < (16 : Int))) : Bool) with
  | true =>
    match ((idx x1491 16) : Bool) with
    | true =>
      again ((IntKind.i64.wrap (x1491 + (1 : Int))) : Int) (x1492 : (List (Int × (Int × (Int × (Int × (Int × Unit))))))) (x1493 : Int) (x1494 : (List Int)) (x1495 : (List Int)) ((List.set x1496 (Int.toNat x1491) (2 : Int)) : (List Int))
    | false =>
      none
  | false =>
    some (1, [⟨(.sl (.pair (.int .i64) (.pair (.int .i64) (.pair (.int .i64) (.pair (.int .i64) (.pair (.int .i64) .unit)))))), (x1492 : (List (Int × (Int × (Int × (Int × (Int × Unit)))))))⟩, ⟨(.int .i64), (x1493 : Int)⟩, ⟨(.sl (.int .u8)), (x1494 : (List Int))⟩, ⟨(.ar 16 (.int .i64)), (x1495 : (List Int))⟩, ⟨(.ar 16 (.int .i64)), (x1496 : (List Int))⟩])
noncomputable def l20_0 (N : Nat) : Nat → Int → (List (Int × (Int × (Int × (Int × (Int × Unit)))))) → Int → (List Int) → (List Int) → (List Int) → Option Rs
  | 0, _, _, _, _, _, _ => none
  | n + 1, x1491, x1492, x1493, x1494, x1495, x1496 => r20_0 N (l20_0 N n) x1491 x1492 x1493 x1494 x1495 x1496
theorem on20_0_K (r : Option Rs) (K : Rs → Option Rs) (x : Rs) (h : on20_0 r (curK [(.sl (.pair (.int .i64) (.pair (.int .i64) (.pair (.int .i64) (.pair (.int .i64) (.pair (.int .i64) .unit)))))), (.int .i64), (.sl (.int .u8)), (.ar 16 (.int .i64)), (.ar 16 (.int .i64))] fun q => K (1, q)) = some x) : ∃ q, r = some q ∧ K q = some x := by
  unfold on20_0 at h
  split at h
  · split at h
    · exact ⟨_, rfl, onG_K h⟩
    · simp at h
  · simp at h
noncomputable def R20_0 (N : Nat) : (List DV → Option Rs) → List DV → Option Rs := round cx0 h20 (ctL (t20 N)) (ltL []) Go.Proofs.Try.f20.ntmps c20.i.bx.length 0 s20_0 (bodyAt Go.Proofs.Try.f20 0)
theorem r20_0_eq (N : Nat) (A : List DV → Option Rs) (x1491 : Int) (x1492 : (List (Int × (Int × (Int × (Int × (Int × Unit))))))) (x1493 : Int) (x1494 : (List Int)) (x1495 : (List Int)) (x1496 : (List Int)) : R20_0 N A [⟨(.int .i64), x1491⟩, ⟨(.sl (.pair (.int .i64) (.pair (.int .i64) (.pair (.int .i64) (.pair (.int .i64) (.pair (.int .i64) .unit)))))), x1492⟩, ⟨(.int .i64), x1493⟩, ⟨(.sl (.int .u8)), x1494⟩, ⟨(.ar 16 (.int .i64)), x1495⟩, ⟨(.ar 16 (.int .i64)), x1496⟩] = r20_0 N (fun x1491 x1492 x1493 x1494 x1495 x1496 => A [⟨(.int .i64), x1491⟩, ⟨(.sl (.pair (.int .i64) (.pair (.int .i64) (.pair (.int .i64) (.pair (.int .i64) (.pair (.int .i64) .unit)))))), x1492⟩, ⟨(.int .i64), x1493⟩, ⟨(.sl (.int .u8)), x1494⟩, ⟨(.ar 16 (.int .i64)), x1495⟩, ⟨(.ar 16 (.int .i64)), x1496⟩]) x1491 x1492 x1493 x1494 x1495 x1496 := by kernel_rfl
theorem l20_0_eq (N : Nat) : ∀ (n : Nat) (x1491 : Int) (x1492 : (List (Int × (Int × (Int × (Int × (Int × Unit))))))) (x1493 : Int) (x1494 : (List Int)) (x1495 : (List Int)) (x1496 : (List Int)), iter (R20_0 N) n [⟨(.int .i64), x1491⟩, ⟨(.sl (.pair (.int .i64) (.pair (.int .i64) (.pair (.int .i64) (.pair (.int .i64) (.pair (.int .i64) .unit)))))), x1492⟩, ⟨(.int .i64), x1493⟩, ⟨(.sl (.int .u8)), x1494⟩, ⟨(.ar 16 (.int .i64)), x1495⟩, ⟨(.ar 16 (.int .i64)), x1496⟩] = l20_0 N n x1491 x1492 x1493 x1494 x1495 x1496
  | 0, _, _, _, _, _, _ => rfl
  | n + 1, x1491, x1492, x1493, x1494, x1495, x1496 => (r20_0_eq N (iter (R20_0 N) n) x1491 x1492 x1493 x1494 x1495 x1496).trans (congrArg (fun A => r20_0 N A x1491 x1492 x1493 x1494 x1495 x1496) (funext fun x1491 => funext fun x1492 => funext fun x1493 => funext fun x1494 => funext fun x1495 => funext fun x1496 => l20_0_eq N n x1491 x1492 x1493 x1494 x1495 x1496))
noncomputable def x20_0 (N : Nat) : List DV → (Rs → Option Rs) → Option Rs := mkL [(.int .i64), (.sl (.pair (.int .i64) (.pair (.int .i64) (.pair (.int .i64) (.pair (.int .i64) (.pair (.int .i64) .unit)))))), (.int .i64), (.sl (.int .u8)), (.ar 16 (.int .i64)), (.ar 16 (.int .i64))] (l20_0 N N) fun r K => on20_0 r (curK [(.sl (.pair (.int .i64) (.pair (.int .i64) (.pair (.int .i64) (.pair (.int .i64) (.pair (.int .i64) .unit)))))), (.int .i64), (.sl (.int .u8)), (.ar 16 (.int .i64)), (.ar 16 (.int .i64))] fun q => K (1, q))
theorem x20_0_ok (N : Nat) : LEok Go.Proofs.Try.prog h20 (bodOf Go.Proofs.Try.f20) Go.Proofs.Try.f20.ntmps c20.i.bx.length (0, x20_0 N) :=
  mkL_ok on20_0_K (ls := s20_0) (body := bodyAt Go.Proofs.Try.f20 0) (by kernel_rfl) (by kernel_rfl) fun ys q h =>
    loop_ok (l := t20 N) (t := []) ti_ok hmix (t20_ok N) (a20 N) fn20 trivial (by kernel_rfl) (by kernel_rfl) (n := N) ((l20_0_eq N N ys.1 ys.2.1 ys.2.2.1 ys.2.2.2.1 ys.2.2.2.2.1 ys.2.2.2.2.2.1).trans h)
noncomputable def on20_6 {R : Type} (r : Option Rs) (k7 : Cur (Option R) [(.int .i64), (.int .i64), (.sl (.pair (.int .i64) (.pair (.int .i64) (.pair (.int .i64) (.pair (.int .i64) (.pair (.int .i64) .unit)))))), (.int .i64), (.sl (.int .u8)), (.ar 16 (.int .i64)), (.ar 16 (.int .i64))]) : Option R :=
  match r with
  | some (n, p) => match n with
    | 7 => onG [(.int .i64), (.int .i64), (.sl (.pair (.int .i64) (.pair (.int .i64) (.pair (.int .i64) (.pair (.int .i64) (.pair (.int .i64) .unit)))))), (.int .i64), (.sl (.int .u8)), (.ar 16 (.int .i64)), (.ar 16 (.int .i64))] p k7
    | _ => none
  | none => none
noncomputable def r20_6 (N : Nat) (again : Int → Int → (List Int) → Int → (List (Int × (Int × (Int × (Int × (Int × Unit)))))) → Int → (List Int) → (List Int) → (List Int) → Option Rs) (x1517 : Int) (x1518 : Int) (x1519 : (List Int)) (x1520 : Int) (x1521 : (List (Int × (Int × (Int × (Int × (Int × Unit))))))) (x1522 : Int) (x1523 : (List Int)) (x1524 : (List Int)) (x1525 : (List Int)) : Option Rs :=
  match ((decide (x1520 < ((List.length x1519 : Nat) : Int))) : Bool) with
  | true =>
    match ((idx x1520 (List.length x1519)) : Bool) with
    | true =>
      match ((idx (List.getD x1519 (Int.toNat x1520) (0 : Int)) 16) : Bool) with
      | true =>
        again (x1517 : Int) (x1518 : Int) (x1519 : (List Int)) ((IntKind.i64.wrap (x1520 + (1 : Int))) : Int) (x1521 : (List (Int × (Int × (Int × (Int × (Int × Unit))))))) (x1522 : Int) (x1523 : (List Int)) (x1524 : (List Int)) ((List.set x1525 (Int.toNat (List.getD x1519 (Int.toNat x1520) (0 : Int))) (1 : Int)) : (List Int))
      | false =>
        none
    | false =>
      none
  | false =>
    some (7, [⟨(.int .i64), (x1517 : Int)⟩, ⟨(.int .i64), (x1518 : Int)⟩, ⟨(.sl (.pair (.int .i64) (.pair (.int .i64) (.pair (.int .i64) (.pair (.int .i64) (.pair (.int .i64) .unit)))))), (x1521 : (List (Int × (Int × (Int × (Int × (Int × Unit)))))))⟩, ⟨(.int .i64), (x1522 : Int)⟩, ⟨(.sl (.int .u8)), (x1523 : (List Int))⟩, ⟨(.ar 16 (.int .i64)), (x1524 : (List Int))⟩, ⟨(.ar 16 (.int .i64)), (x1525 : (List Int))⟩])
noncomputable def l20_6 (N : Nat) : Nat → Int → Int → (List Int) → Int → (List (Int × (Int × (Int × (Int × (Int × Unit)))))) → Int → (List Int) → (List Int) → (List Int) → Option Rs
  | 0, _, _, _, _, _, _, _, _, _ => none
  | n + 1, x1517, x1518, x1519, x1520, x1521, x1522, x1523, x1524, x1525 => r20_6 N (l20_6 N n) x1517 x1518 x1519 x1520 x1521 x1522 x1523 x1524 x1525
theorem on20_6_K (r : Option Rs) (K : Rs → Option Rs) (x : Rs) (h : on20_6 r (curK [(.int .i64), (.int .i64), (.sl (.pair (.int .i64) (.pair (.int .i64) (.pair (.int .i64) (.pair (.int .i64) (.pair (.int .i64) .unit)))))), (.int .i64), (.sl (.int .u8)), (.ar 16 (.int .i64)), (.ar 16 (.int .i64))] fun q => K (7, q)) = some x) : ∃ q, r = some q ∧ K q = some x := by
  unfold on20_6 at h
  split at h
  · split at h
    · exact ⟨_, rfl, onG_K h⟩
    · simp at h
  · simp at h
noncomputable def R20_6 (N : Nat) : (List DV → Option Rs) → List DV → Option Rs := round cx0 h20 (ctL (t20 N)) (ltL []) Go.Proofs.Try.f20.ntmps c20.i.bx.length 6 s20_6 (bodyAt Go.Proofs.Try.f20 6)
theorem r20_6_eq (N : Nat) (A : List DV → Option Rs) (x1517 : Int) (x1518 : Int) (x1519 : (List Int)) (x1520 : Int) (x1521 : (List (Int × (Int × (Int × (Int × (Int × Unit))))))) (x1522 : Int) (x1523 : (List Int)) (x1524 : (List Int)) (x1525 : (List Int)) : R20_6 N A [⟨(.int .i64), x1517⟩, ⟨(.int .i64), x1518⟩, ⟨(.sl (.int .i64)), x1519⟩, ⟨(.int .i64), x1520⟩, ⟨(.sl (.pair (.int .i64) (.pair (.int .i64) (.pair (.int .i64) (.pair (.int .i64) (.pair (.int .i64) .unit)))))), x1521⟩, ⟨(.int .i64), x1522⟩, ⟨(.sl (.int .u8)), x1523⟩, ⟨(.ar 16 (.int .i64)), x1524⟩, ⟨(.ar 16 (.int .i64)), x1525⟩] = r20_6 N (fun x1517 x1518 x1519 x1520 x1521 x1522 x1523 x1524 x1525 => A [⟨(.int .i64), x1517⟩, ⟨(.int .i64), x1518⟩, ⟨(.sl (.int .i64)), x1519⟩, ⟨(.int .i64), x1520⟩, ⟨(.sl (.pair (.int .i64) (.pair (.int .i64) (.pair (.int .i64) (.pair (.int .i64) (.pair (.int .i64) .unit)))))), x1521⟩, ⟨(.int .i64), x1522⟩, ⟨(.sl (.int .u8)), x1523⟩, ⟨(.ar 16 (.int .i64)), x1524⟩, ⟨(.ar 16 (.int .i64)), x1525⟩]) x1517 x1518 x1519 x1520 x1521 x1522 x1523 x1524 x1525 := by kernel_rfl
theorem l20_6_eq (N : Nat) : ∀ (n : Nat) (x1517 : Int) (x1518 : Int) (x1519 : (List Int)) (x1520 : Int) (x1521 : (List (Int × (Int × (Int × (Int × (Int × Unit))))))) (x1522 : Int) (x1523 : (List Int)) (x1524 : (List Int)) (x1525 : (List Int)), iter (R20_6 N) n [⟨(.int .i64), x1517⟩, ⟨(.int .i64), x1518⟩, ⟨(.sl (.int .i64)), x1519⟩, ⟨(.int .i64), x1520⟩, ⟨(.sl (.pair (.int .i64) (.pair (.int .i64) (.pair (.int .i64) (.pair (.int .i64) (.pair (.int .i64) .unit)))))), x1521⟩, ⟨(.int .i64), x1522⟩, ⟨(.sl (.int .u8)), x1523⟩, ⟨(.ar 16 (.int .i64)), x1524⟩, ⟨(.ar 16 (.int .i64)), x1525⟩] = l20_6 N n x1517 x1518 x1519 x1520 x1521 x1522 x1523 x1524 x1525
  | 0, _, _, _, _, _, _, _, _, _ => rfl
  | n + 1, x1517, x1518, x1519, x1520, x1521, x1522, x1523, x1524, x1525 => (r20_6_eq N (iter (R20_6 N) n) x1517 x1518 x1519 x1520 x1521 x1522 x1523 x1524 x1525).trans (congrArg (fun A => r20_6 N A x1517 x1518 x1519 x1520 x1521 x1522 x1523 x1524 x1525) (funext fun x1517 => funext fun x1518 => funext fun x1519 => funext fun x1520 => funext fun x1521 => funext fun x1522 => funext fun x1523 => funext fun x1524 => funext fun x1525 => l20_6_eq N n x1517 x1518 x1519 x1520 x1521 x1522 x1523 x1524 x1525))
noncomputable def x20_6 (N : Nat) : List DV → (Rs → Option Rs) → Option Rs := mkL [(.int .i64), (.int .i64), (.sl (.int .i64)), (.int .i64), (.sl (.pair (.int .i64) (.pair (.int .i64) (.pair (.int .i64) (.pair (.int .i64) (.pair (.int .i64) .unit)))))), (.int .i64), (.sl (.int .u8)), (.ar 16 (.int .i64)), (.ar 16 (.int .i64))] (l20_6 N N) fun r K => on20_6 r (curK [(.int .i64), (.int .i64), (.sl (.pair (.int .i64) (.pair (.int .i64) (.pair (.int .i64) (.pair (.int .i64) (.pair (.int .i64) .unit)))))), (.int .i64), (.sl (.int .u8)), (.ar 16 (.int .i64)), (.ar 16 (.int .i64))] fun q => K (7, q))
theorem x20_6_ok (N : Nat) : LEok Go.Proofs.Try.prog h20 (bodOf Go.Proofs.Try.f20) Go.Proofs.Try.f20.ntmps c20.i.bx.length (6, x20_6 N) :=
  mkL_ok on20_6_K (ls := s20_6) (body := bodyAt Go.Proofs.Try.f20 6) (by kernel_rfl) (by kernel_rfl) fun ys q h =>
    loop_ok (l := t20 N) (t := []) ti_ok hmix (t20_ok N) (a20 N) fn20 trivial (by kernel_rfl) (by kernel_rfl) (n := N) ((l20_6_eq N N ys.1 ys.2.1 ys.2.2.1 ys.2.2.2.1 ys.2.2.2.2.1 ys.2.2.2.2.2.1 ys.2.2.2.2.2.2.1 ys.2.2.2.2.2.2.2.1 ys.2.2.2.2.2.2.2.2.1).trans h)
noncomputable def on20_4 {R : Type} (r : Option Rs) (k5 : Cur (Option R) [(.int .i64), (.sl (.pair (.int .i64) (.pair (.int .i64) (.pair (.int .i64) (.pair (.int .i64) (.pair (.int .i64) .unit)))))), (.int .i64), (.sl (.int .u8)), (.ar 16 (.int .i64)), (.ar 16 (.int .i64))]) : Option R :=
  match r with
  | some (n, p) => match n with
    | 5 => onG [(.int .i64), (.sl (.pair (.int .i64) (.pair (.int .i64) (.pair (.int .i64) (.pair (.int .i64) (.pair (.int .i64) .unit)))))), (.int .i64), (.sl (.int .u8)), (.ar 16 (.int .i64)), (.ar 16 (.int .i64))] p k5
    | _ => none
  | none => none
noncomputable def r20_4 (N : Nat) (again : Int → Int → (List (Int × (Int × (Int × (Int × (Int × Unit)))))) → Int → (List Int) → (List Int) → (List Int) → Option Rs) (x1508 : Int) (x1509 : Int) (x1510 : (List (Int × (Int × (Int × (Int × (Int × Unit))))))) (x1511 : Int) (x1512 : (List Int)) (x1513 : (List Int)) (x1514 : (List Int)) : Option Rs :=
  match ((decide (x1509 < ((List.length x1510 : Nat) : Int))) : Bool) with
  | true =>
    match ((idx x1509 (List.length x1510)) : Bool) with
    | true =>
      on25 (e25 N ((List.getD x1510 (Int.toNat x1509) ((0 : Int), ((0 : Int), ((0 : Int), ((0 : Int), ((0 : Int), ())))))).1 : Int)) (fun x1515 =>
        match ((x1515 == (4 : Int)) : Bool) with
        | true =>
          match ((decide ((List.getD x1510 (Int.toNat x1509) ((0 : Int), ((0 : Int), ((0 : Int), ((0 : Int), ((0 : Int), ())))))).2.2.1 > (0 : Int))) : Bool) with
          | true =>
            match ((idx (List.getD x1510 (Int.toNat x1509) ((0 : Int), ((0 : Int), ((0 : Int), ((0 : Int), ((0 : Int), ())))))).2.2.1 16) : Bool) with
            | true =>
              match ((decide (x1515 ≥ (1 : Int))) : Bool) with
              | true =>
                match ((decide (x1515 ≤ (3 : Int))) : Bool) with
                | true =>
                  match ((decide ((List.getD x1510 (Int.toNat x1509) ((0 : Int), ((0 : Int), ((0 : Int), ((0 : Int), ((0 : Int), ())))))).2.1 > (0 : Int))) : Bool) with
                  | true =>
                    match ((idx (List.getD x1510 (Int.toNat x1509) ((0 : Int), ((0 : Int), ((0 : Int), ((0 : Int), ((0 : Int), ())))))).2.1 16) : Bool) with
                    | true =>
                      match (((List.getD (List.set x1514 (Int.toNat (List.getD x1510 (Int.toNat x1509) ((0 : Int), ((0 : Int), ((0 : Int), ((0 : Int), ((0 : Int), ())))))).2.2.1) (1 : Int)) (Int.toNat (List.getD x1510 (Int.toNat x1509) ((0 : Int), ((0 : Int), ((0 : Int), ((0 : Int), ((0 : Int), ())))))).2.1) (0 : Int)) == (1 : Int)) : Bool) with
                      | true =>
                        on45 (e45 N ((List.getD x1510 (Int.toNat x1509) ((0 : Int), ((0 : Int), ((0 : Int), ((0 : Int), ((0 : Int), ())))))).1 : Int) ((List.getD x1510 (Int.toNat x1509) ((0 : Int), ((0 : Int), ((0 : Int), ((0 : Int), ((0 : Int), ())))))).2.1 : Int) ((List.getD x1510 (Int.toNat x1509) ((0 : Int), ((0 : Int), ((0 : Int), ((0 : Int), ((0 : Int), ())))))).2.2.1 : Int) ((List.getD x1510 (Int.toNat x1509) ((0 : Int), ((0 : Int), ((0 : Int), ((0 : Int), ((0 : Int), ())))))).2.2.2.1 : Int) ((List.getD x1510 (Int.toNat x1509) ((0 : Int), ((0 : Int), ((0 : Int), ((0 : Int), ((0 : Int), ())))))).2.2.2.2.1 : Int)) (fun x1516 =>
                          on20_6 (l20_6 N N (x1508 : Int) (x1509 : Int) (x1516 : (List Int)) ((0 : Int) : Int) (x1510 : (List (Int × (Int × (Int × (Int × (Int × Unit))))))) (x1511 : Int) (x1512 : (List Int)) (x1513 : (List Int)) ((List.set x1514 (Int.toNat (List.getD x1510 (Int.toNat x1509) ((0 : Int), ((0 : Int), ((0 : Int), ((0 : Int), ((0 : Int), ())))))).2.2.1) (1 : Int)) : (List Int))) (fun x1526 x1527 x1528 x1529 x1530 x1531 x1532 =>
                            again (x1526 : Int) ((IntKind.i64.wrap (x1527 + (1 : Int))) : Int) (x1528 : (List (Int × (Int × (Int × (Int × (Int × Unit))))))) (x1529 : Int) (x1530 : (List Int)) (x1531 : (List Int)) (x1532 : (List Int))))
                      | false =>
                        again (x1508 : Int) ((IntKind.i64.wrap (x1509 + (1 : Int))) : Int) (x1510 : (List (Int × (Int × (Int × (Int × (Int × Unit))))))) (x1511 : Int) (x1512 : (List Int)) (x1513 : (List Int)) ((List.set x1514 (Int.toNat (List.getD x1510 (Int.toNat x1509) ((0 : Int), ((0 : Int), ((0 : Int), ((0 : Int), ((0 : Int), ())))))).2.2.1) (1 : Int)) : (List Int))
                    | false =>
                      none
                  | false =>
                    again (x1508 : Int) ((IntKind.i64.wrap (x1509 + (1 : Int))) : Int) (x1510 : (List (Int × (Int × (Int × (Int × (Int × Unit))))))) (x1511 : Int) (x1512 : (List Int)) (x1513 : (List Int)) ((List.set x1514 (Int.toNat (List.getD x1510 (Int.toNat x1509) ((0 : Int), ((0 : Int), ((0 : Int), ((0 : Int), ((0 : Int), ())))))).2.2.1) (1 : Int)) : (List Int))
                | false =>
                  again (x1508 : Int) ((IntKind.i64.wrap (x1509 + (1 : Int))) : Int) (x1510 : (List (Int × (Int × (Int × (Int × (Int × Unit))))))) (x1511 : Int) (x1512 : (List Int)) (x1513 : (List Int)) ((List.set x1514 (Int.toNat (List.getD x1510 (Int.toNat x1509) ((0 : Int), ((0 : Int), ((0 : Int), ((0 : Int), ((0 : Int), ())))))).2.2.1) (1 : Int)) : (List Int))
              | false =>
                again (x1508 : Int) ((IntKind.i64.wrap (x1509 + (1 : Int))) : Int) (x1510 : (List (Int × (Int × (Int × (Int × (Int × Unit))))))) (x1511 : Int) (x1512 : (List Int)) (x1513 : (List Int)) ((List.set x1514 (Int.toNat (List.getD x1510 (Int.toNat x1509) ((0 : Int), ((0 : Int), ((0 : Int), ((0 : Int), ((0 : Int), ())))))).2.2.1) (1 : Int)) : (List Int))
            | false =>
              none
          | false =>
            match ((decide (x1515 ≥ (1 : Int))) : Bool) with
            | true =>
              match ((decide (x1515 ≤ (3 : Int))) : Bool) with
              | true =>
                match ((decide ((List.getD x1510 (Int.toNat x1509) ((0 : Int), ((0 : Int), ((0 : Int), ((0 : Int), ((0 : Int), ())))))).2.1 > (0 : Int))) : Bool) with
                | true =>
                  match ((idx (List.getD x1510 (Int.toNat x1509) ((0 : Int), ((0 : Int), ((0 : Int), ((0 : Int), ((0 : Int), ())))))).2.1 16) : Bool) with
                  | true =>
                    match (((List.getD x1514 (Int.toNat (List.getD x1510 (Int.toNat x1509) ((0 : Int), ((0 : Int), ((0 : Int), ((0 : Int), ((0 : Int), ())))))).2.1) (0 : Int)) == (1 : Int)) : Bool) with
                    | true =>
                      on45 (e45 N ((List.getD x1510 (Int.toNat x1509) ((0 : Int), ((0 : Int), ((0 : Int), ((0 : Int), ((0 : Int), ())))))).1 : Int) ((List.getD x1510 (Int.toNat x1509) ((0 : Int), ((0 : Int), ((0 : Int), ((0 : Int), ((0 : Int), ())))))).2.1 : Int) ((List.getD x1510 (Int.toNat x1509) ((0 : Int), ((0 : Int), ((0 : Int), ((0 : Int), ((0 : Int), ())))))).2.2.1 : Int) ((List.getD x1510 (Int.toNat x1509) ((0 : Int), ((0 : Int), ((0 : Int), ((0 : Int), ((0 : Int), ())))))).2.2.2.1 : Int) ((List.getD x1510 (Int.toNat x1509) ((0 : Int), ((0 : Int), ((0 : Int), ((0 : Int), ((0 : Int), ())))))).2.2.2.2.1 : Int)) (fun x1533 =>
                        on20_6 (l20_6 N N (x1508 : Int) (x1509 : Int) (x1533 : (List Int)) ((0 : Int) : Int) (x1510 : (List (Int × (Int × (Int × (Int × (Int × Unit))))))) (x1511 : Int) (x1512 : (List Int)) (x1513 : (List Int)) (x1514 : (List Int))) (fun x1534 x1535 x1536 x1537 x1538 x1539 x1540 =>
                          again (x1534 : Int) ((IntKind.i64.wrap (x1535 + (1 : Int))) : Int) (x1536 : (List (Int × (Int × (Int × (Int × (Int × Unit))))))) (x1537 : Int) (x1538 : (List Int)) (x1539 : (List Int)) (x1540 : (List Int))))
                    | false =>
                      again (x1508 : Int) ((IntKind.i64.wrap (x1509 + (1 : Int))) : Int) (x1510 : (List (Int × (Int × (Int × (Int × (Int × Unit))))))) (x1511 : Int) (x1512 : (List Int)) (x1513 : (List Int)) (x1514 : (List Int))
                  | false =>
                    none
                | false =>
                  again (x1508 : Int) ((IntKind.i64.wrap (x1509 + (1 : Int))) : Int) (x1510 : (List (Int × (Int × (Int × (Int × (Int × Unit))))))) (x1511 : Int) (x1512 : (List Int)) (x1513 : (List Int)) (x1514 : (List Int))
              | false =>
                again (x1508 : Int) ((IntKind.i64.wrap (x1509 + (1 : Int))) : Int) (x1510 : (List (Int × (Int × (Int × (Int × (Int × Unit))))))) (x1511 : Int) (x1512 : (List Int)) (x1513 : (List Int)) (x1514 : (List Int))
            | false =>
              again (x1508 : Int) ((IntKind.i64.wrap (x1509 + (1 : Int))) : Int) (x1510 : (List (Int × (Int × (Int × (Int × (Int × Unit))))))) (x1511 : Int) (x1512 : (List Int)) (x1513 : (List Int)) (x1514 : (List Int))
        | false =>
          match ((x1515 == (5 : Int)) : Bool) with
          | true =>
            match ((decide ((List.getD x1510 (Int.toNat x1509) ((0 : Int), ((0 : Int), ((0 : Int), ((0 : Int), ((0 : Int), ())))))).2.2.1 > (0 : Int))) : Bool) with
            | true =>
              match ((idx (List.getD x1510 (Int.toNat x1509) ((0 : Int), ((0 : Int), ((0 : Int), ((0 : Int), ((0 : Int), ())))))).2.2.1 16) : Bool) with
              | true =>
                match ((decide (x1515 ≥ (1 : Int))) : Bool) with
                | true =>
                  match ((decide (x1515 ≤ (3 : Int))) : Bool) with
                  | true =>
                    match ((decide ((List.getD x1510 (Int.toNat x1509) ((0 : Int), ((0 : Int), ((0 : Int), ((0 : Int), ((0 : Int), ())))))).2.1 > (0 : Int))) : Bool) with
                    | true =>
                      match ((idx (List.getD x1510 (Int.toNat x1509) ((0 : Int), ((0 : Int), ((0 : Int), ((0 : Int), ((0 : Int), ())))))).2.1 16) : Bool) with
                      | true =>
                        match (((List.getD (List.set x1514 (Int.toNat (List.getD x1510 (Int.toNat x1509) ((0 : Int), ((0 : Int), ((0 : Int), ((0 : Int), ((0 : Int), ())))))).2.2.1) (1 : Int)) (Int.toNat (List.getD x1510 (Int.toNat x1509) ((0 : Int), ((0 : Int), ((0 : Int), ((0 : Int), ((0 : Int), ())))))).2.1) (0 : Int)) == (1 : Int)) : Bool) with
                        | true =>
                          on45 (e45 N ((List.getD x1510 (Int.toNat x1509) ((0 : Int), ((0 : Int), ((0 : Int), ((0 : Int), ((0 : Int), ())))))).1 : Int) ((List.getD x1510 (Int.toNat x1509) ((0 : Int), ((0 : Int), ((0 : Int), ((0 : Int), ((0 : Int), ())))))).2.1 : Int) ((List.getD x1510 (Int.toNat x1509) ((0 : Int), ((0 : Int), ((0 : Int), ((0 : Int), ((0 : Int), ())))))).2.2.1 : Int) ((List.getD x1510 (Int.toNat x1509) ((0 : Int), ((0 : Int), ((0 : Int), ((0 : Int), ((0 : Int), ())))))).2.2.2.1 : Int) ((List.getD x1510 (Int.toNat x1509) ((0 : Int), ((0 : Int), ((0 : Int), ((0 : Int), ((0 : Int), ())))))).2.2.2.2.1 : Int)) (fun x1541 =>
                            on20_6 (l20_6 N N (x1508 : Int) (x1509 : Int) (x1541 : (List Int)) ((0 : Int) : Int) (x1510 : (List (Int × (Int × (Int × (Int × (Int × Unit))))))) (x1511 : Int) (x1512 : (List Int)) (x1513 : (List Int)) ((List.set x1514 (Int.toNat (List.getD x1510 (Int.toNat x1509) ((0 : Int), ((0 : Int), ((0 : Int), ((0 : Int), ((0 : Int), ())))))).2.2.1) (1 : Int)) : (List Int))) (fun x1542 x1543 x1544 x1545 x1546 x1547 x1548 =>
                              again (x1542 : Int) ((IntKind.i64.wrap (x1543 + (1 : Int))) : Int) (x1544 : (List (Int × (Int × (Int × (Int × (Int × Unit))))))) (x1545 : Int) (x1546 : (List Int)) (x1547 : (List Int)) (x1548 : (List Int))))
                        | false =>
                          again (x1508 : Int) ((IntKind.i64.wrap (x1509 + (1 : Int))) : Int) (x1510 : (List (Int × (Int × (Int × (Int × (Int × Unit))))))) (x1511 : Int) (x1512 : (List Int)) (x1513 : (List Int)) ((List.set x1514 (Int.toNat (List.getD x1510 (Int.toNat x1509) ((0 : Int), ((0 : Int), ((0 : Int), ((0 : Int), ((0 : Int), ())))))).2.2.1) (1 : Int)) : (List Int))
                      | false =>
                        none
                    | false =>
                      again (x1508 : Int) ((IntKind.i64.wrap (x1509 + (1 : Int))) : Int) (x1510 : (List (Int × (Int × (Int × (Int × (Int × Unit))))))) (x1511 : Int) (x1512 : (List Int)) (x1513 : (List Int)) ((List.set x1514 (Int.toNat (List.getD x1510 (Int.toNat x1509) ((0 : Int), ((0 : Int), ((0 : Int), ((0 : Int), ((0 : Int), ())))))).2.2.1) (1 : Int)) : (List Int))
                  | false =>
                    again (x1508 : Int) ((IntKind.i64.wrap (x1509 + (1 : Int))) : Int) (x1510 : (List (Int × (Int × (Int × (Int × (Int × Unit))))))) (x1511 : Int) (x1512 : (List Int)) (x1513 : (List Int)) ((List.set x1514 (Int.toNat (List.getD x1510 (Int.toNat x1509) ((0 : Int), ((0 : Int), ((0 : Int), ((0 : Int), ((0 : Int), ())))))).2.2.1) (1 : Int)) : (List Int))
                | false =>
                  again (x1508 : Int) ((IntKind.i64.wrap (x1509 + (1 : Int))) : Int) (x1510 : (List (Int × (Int × (Int × (Int × (Int × Unit))))))) (x1511 : Int) (x1512 : (List Int)) (x1513 : (List Int)) ((List.set x1514 (Int.toNat (List.getD x1510 (Int.toNat x1509) ((0 : Int), ((0 : Int), ((0 : Int), ((0 : Int), ((0 : Int), ())))))).2.2.1) (1 : Int)) : (List Int))
              | false =>
                none
            | false =>
              match ((decide (x1515 ≥ (1 : Int))) : Bool) with
              | true =>
                match ((decide (x1515 ≤ (3 : Int))) : Bool) with
                | true =>
                  match ((decide ((List.getD x1510 (Int.toNat x1509) ((0 : Int), ((0 : Int), ((0 : Int), ((0 : Int), ((0 : Int), ())))))).2.1 > (0 : Int))) : Bool) with
                  | true =>
                    match ((idx (List.getD x1510 (Int.toNat x1509) ((0 : Int), ((0 : Int), ((0 : Int), ((0 : Int), ((0 : Int), ())))))).2.1 16) : Bool) with
                    | true =>
                      match (((List.getD x1514 (Int.toNat (List.getD x1510 (Int.toNat x1509) ((0 : Int), ((0 : Int), ((0 : Int), ((0 : Int), ((0 : Int), ())))))).2.1) (0 : Int)) == (1 : Int)) : Bool) with
                      | true =>
                        on45 (e45 N ((List.getD x1510 (Int.toNat x1509) ((0 : Int), ((0 : Int), ((0 : Int), ((0 : Int), ((0 : Int), ())))))).1 : Int) ((List.getD x1510 (Int.toNat x1509) ((0 : Int), ((0 : Int), ((0 : Int), ((0 : Int), ((0 : Int), ())))))).2.1 : Int) ((List.getD x1510 (Int.toNat x1509) ((0 : Int), ((0 : Int), ((0 : Int), ((0 : Int), ((0 : Int), ())))))).2.2.1 : Int) ((List.getD x1510 (Int.toNat x1509) ((0 : Int), ((0 : Int), ((0 : Int), ((0 : Int), ((0 : Int), ())))))).2.2.2.1 : Int) ((List.getD x1510 (Int.toNat x1509) ((0 : Int), ((0 : Int), ((0 : Int), ((0 : Int), ((0 : Int), ())))))).2.2.2.2.1 : Int)) (fun x1549 =>
                          on20_6 (l20_6 N N (x1508 : Int) (x1509 : Int) (x1549 : (List Int)) ((0 : Int) : Int) (x1510 : (List (Int × (Int × (Int × (Int × (Int × Unit))))))) (x1511 : Int) (x1512 : (List Int)) (x1513 : (List Int)) (x1514 : (List Int))) (fun x1550 x1551 x1552 x1553 x1554 x1555 x1556 =>
                            again (x1550 : Int) ((IntKind.i64.wrap (x1551 + (1 : Int))) : Int) (x1552 : (List (Int × (Int × (Int × (Int × (Int × Unit))))))) (x1553 : Int) (x1554 : (List Int)) (x1555 : (List Int)) (x1556 : (List Int))))
                      | false =>
                        again (x1508 : Int) ((IntKind.i64.wrap (x1509 + (1 : Int))) : Int) (x1510 : (List (Int × (Int × (Int × (Int × (Int × Unit))))))) (x1511 : Int) (x1512 : (List Int)) (x1513 : (List Int)) (x1514 : (List Int))
                    | false =>
                      none
                  | false =>
                    again (x1508 : Int) ((IntKind.i64.wrap (x1509 + (1 : Int))) : Int) (x1510 : (List (Int × (Int × (Int × (Int × (Int × Unit))))))) (x1511 : Int) (x1512 : (List Int)) (x1513 : (List Int)) (x1514 : (List Int))
                | false =>
                  again (x1508 : Int) ((IntKind.i64.wrap (x1509 + (1 : Int))) : Int) (x1510 : (List (Int × (Int × (Int × (Int × (Int × Unit))))))) (x1511 : Int) (x1512 : (List Int)) (x1513 : (List Int)) (x1514 : (List Int))
              | false =>
                again (x1508 : Int) ((IntKind.i64.wrap (x1509 + (1 : Int))) : Int) (x1510 : (List (Int × (Int × (Int × (Int × (Int × Unit))))))) (x1511 : Int) (x1512 : (List Int)) (x1513 : (List Int)) (x1514 : (List Int))
          | false =>
            match ((decide (x1515 ≥ (1 : Int))) : Bool) with
            | true =>
              match ((decide (x1515 ≤ (3 : Int))) : Bool) with
              | true =>
                match ((decide ((List.getD x1510 (Int.toNat x1509) ((0 : Int), ((0 : Int), ((0 : Int), ((0 : Int), ((0 : Int), ())))))).2.1 > (0 : Int))) : Bool) with
                | true =>
                  match ((idx (List.getD x1510 (Int.toNat x1509) ((0 : Int), ((0 : Int), ((0 : Int), ((0 : Int), ((0 : Int), ())))))).2.1 16) : Bool) with
                  | true =>
                    match (((List.getD x1514 (Int.toNat (List.getD x1510 (Int.toNat x1509) ((0 : Int), ((0 : Int), ((0 : Int), ((0 : Int), ((0 : Int), ())))))).2.1) (0 : Int)) == (1 : Int)) : Bool) with
                    | true =>
                      on45 (e45 N ((List.getD x1510 (Int.toNat x1509) ((0 : Int), ((0 : Int), ((0 : Int), ((0 : Int), ((0 : Int), ())))))).1 : Int) ((List.getD x1510 (Int.toNat x1509) ((0 : Int), ((0 : Int), ((0 : Int), ((0 : Int), ((0 : Int), ())))))).2.1 : Int) ((List.getD x1510 (Int.toNat x1509) ((0 : Int), ((0 : Int), ((0 : Int), ((0 : Int), ((0 : Int), ())))))).2.2.1 : Int) ((List.getD x1510 (Int.toNat x1509) ((0 : Int), ((0 : Int), ((0 : Int), ((0 : Int), ((0 : Int), ())))))).2.2.2.1 : Int) ((List.getD x1510 (Int.toNat x1509) ((0 : Int), ((0 : Int), ((0 : Int), ((0 : Int), ((0 : Int), ())))))).2.2.2.2.1 : Int)) (fun x1557 =>
                        on20_6 (l20_6 N N (x1508 : Int) (x1509 : Int) (x1557 : (List Int)) ((0 : Int) : Int) (x1510 : (List (Int × (Int × (Int × (Int × (Int × Unit))))))) (x1511 : Int) (x1512 : (List Int)) (x1513 : (List Int)) (x1514 : (List Int))) (fun x1558 x1559 x1560 x1561 x1562 x1563 x1564 =>
                          again (x1558 : Int) ((IntKind.i64.wrap (x1559 + (1 : Int))) : Int) (x1560 : (List (Int × (Int × (Int × (Int × (Int × Unit))))))) (x1561 : Int) (x1562 : (List Int)) (x1563 : (List Int)) (x1564 : (List Int))))
                    | false =>
                      again (x1508 : Int) ((IntKind.i64.wrap (x1509 + (1 : Int))) : Int) (x1510 : (List (Int × (Int × (Int × (Int × (Int × Unit))))))) (x1511 : Int) (x1512 : (List Int)) (x1513 : (List Int)) (x1514 : (List Int))
                  | false =>
                    none
                | false =>
                  again (x1508 : Int) ((IntKind.i64.wrap (x1509 + (1 : Int))) : Int) (x1510 : (List (Int × (Int × (Int × (Int × (Int × Unit))))))) (x1511 : Int) (x1512 : (List Int)) (x1513 : (List Int)) (x1514 : (List Int))
              | false =>
                again (x1508 : Int) ((IntKind.i64.wrap (x1509 + (1 : Int))) : Int) (x1510 : (List (Int × (Int × (Int × (Int × (Int × Unit))))))) (x1511 : Int) (x1512 : (List Int)) (x1513 : (List Int)) (x1514 : (List Int))
            | false =>
              again (x1508 : Int) ((IntKind.i64.wrap (x1509 + (1 : Int))) : Int) (x1510 : (List (Int × (Int × (Int × (Int × (Int × Unit))))))) (x1511 : Int) (x1512 : (List Int)) (x1513 : (List Int)) (x1514 : (List Int)))
    | false =>
      none
  | false =>
    some (5, [⟨(.int .i64), (x1508 : Int)⟩, ⟨(.sl (.pair (.int .i64) (.pair (.int .i64) (.pair (.int .i64) (.pair (.int .i64) (.pair (.int .i64) .unit)))))), (x1510 : (List (Int × (Int × (Int × (Int × (Int × Unit)))))))⟩, ⟨(.int .i64), (x1511 : Int)⟩, ⟨(.sl (.int .u8)), (x1512 : (List Int))⟩, ⟨(.ar 16 (.int .i64)), (x1513 : (List Int))⟩, ⟨(.ar 16 (.int .i64)), (x1514 : (List Int))⟩])
noncomputable def l20_4 (N : Nat) : Nat → Int → Int → (List (Int × (Int × (Int × (Int × (Int × Unit)))))) → Int → (List Int) → (List Int) → (List Int) → Option Rs
  | 0, _, _, _, _, _, _, _ => none
  | n + 1, x1508, x1509, x1510, x1511, x1512, x1513, x1514 => r20_4 N (l20_4 N n) x1508 x1509 x1510 x1511 x1512 x1513 x1514
theorem on20_4_K (r : Option Rs) (K : Rs → Option Rs) (x : Rs) (h : on20_4 r (curK [(.int .i64), (.sl (.pair (.int .i64) (.pair (.int .i64) (.pair (.int .i64) (.pair (.int .i64) (.pair (.int .i64) .unit)))))), (.int .i64), (.sl (.int .u8)), (.ar 16 (.int .i64)), (.ar 16 (.int .i64))] fun q => K (5, q)) = some x) : ∃ q, r = some q ∧ K q = some x := by
  unfold on20_4 at h
  split at h
  · split at h
    · exact ⟨_, rfl, onG_K h⟩
    · simp at h
  · simp at h
noncomputable def R20_4 (N : Nat) : (List DV → Option Rs) → List DV → Option Rs := round cx0 h20 (ctL (t20 N)) (ltL [(6, x20_6 N)]) Go.Proofs.Try.f20.ntmps c20.i.bx.length 4 s20_4 (bodyAt Go.Proofs.Try.f20 4)
theorem r20_4_eq (N : Nat) (A : List DV → Option Rs) (x1508 : Int) (x1509 : Int) (x1510 : (List (Int × (Int × (Int × (Int × (Int × Unit))))))) (x1511 : Int) (x1512 : (List Int)) (x1513 : (List Int)) (x1514 : (List Int)) : R20_4 N A [⟨(.int .i64), x1508⟩, ⟨(.int .i64), x1509⟩, ⟨(.sl (.pair (.int .i64) (.pair (.int .i64) (.pair (.int .i64) (.pair (.int .i64) (.pair (.int .i64) .unit)))))), x1510⟩, ⟨(.int .i64), x1511⟩, ⟨(.sl (.int .u8)), x1512⟩, ⟨(.ar 16 (.int .i64)), x1513⟩, ⟨(.ar 16 (.int .i64)), x1514⟩] = r20_4 N (fun x1508 x1509 x1510 x1511 x1512 x1513 x1514 => A [⟨(.int .i64), x1508⟩, ⟨(.int .i64), x1509⟩, ⟨(.sl (.pair (.int .i64) (.pair (.int .i64) (.pair (.int .i64) (.pair (.int .i64) (.pair (.int .i64) .unit)))))), x1510⟩, ⟨(.int .i64), x1511⟩, ⟨(.sl (.int .u8)), x1512⟩, ⟨(.ar 16 (.int .i64)), x1513⟩, ⟨(.ar 16 (.int .i64)), x1514⟩]) x1508 x1509 x1510 x1511 x1512 x1513 x1514 := by kernel_rfl
theorem l20_4_eq (N : Nat) : ∀ (n : Nat) (x1508 : Int) (x1509 : Int) (x1510 : (List (Int × (Int × (Int × (Int × (Int × Unit))))))) (x1511 : Int) (x1512 : (List Int)) (x1513 : (List Int)) (x1514 : (List Int)), iter (R20_4 N) n [⟨(.int .i64), x1508⟩, ⟨(.int .i64), x1509⟩, ⟨(.sl (.pair (.int .i64) (.pair (.int .i64) (.pair (.int .i64) (.pair (.int .i64) (.pair (.int .i64) .unit)))))), x1510⟩, ⟨(.int .i64), x1511⟩, ⟨(.sl (.int .u8)), x1512⟩, ⟨(.ar 16 (.int .i64)), x1513⟩, ⟨(.ar 16 (.int .i64)), x1514⟩] = l20_4 N n x1508 x1509 x1510 x1511 x1512 x1513 x1514
  | 0, _, _, _, _, _, _, _ => rfl
  | n + 1, x1508, x1509, x1510, x1511, x1512, x1513, x1514 => (r20_4_eq N (iter (R20_4 N) n) x1508 x1509 x1510 x1511 x1512 x1513 x1514).trans (congrArg (fun A => r20_4 N A x1508 x1509 x1510 x1511 x1512 x1513 x1514) (funext fun x1508 => funext fun x1509 => funext fun x1510 => funext fun x1511 => funext fun x1512 => funext fun x1513 => funext fun x1514 => l20_4_eq N n x1508 x1509 x1510 x1511 x1512 x1513 x1514))
noncomputable def x20_4 (N : Nat) : List DV → (Rs → Option Rs) → Option Rs := mkL [(.int .i64), (.int .i64), (.sl (.pair (.int .i64) (.pair (.int .i64) (.pair (.int .i64) (.pair (.int .i64) (.pair (.int .i64) .unit)))))), (.int .i64), (.sl (.int .u8)), (.ar 16 (.int .i64)), (.ar 16 (.int .i64))] (l20_4 N N) fun r K => on20_4 r (curK [(.int .i64), (.sl (.pair (.int .i64) (.pair (.int .i64) (.pair (.int .i64) (.pair (.int .i64) (.pair (.int .i64) .unit)))))), (.int .i64), (.sl (.int .u8)), (.ar 16 (.int .i64)), (.ar 16 (.int .i64))] fun q => K (5, q))
theorem x20_4_ok (N : Nat) : LEok Go.Proofs.Try.prog h20 (bodOf Go.Proofs.Try.f20) Go.Proofs.Try.f20.ntmps c20.i.bx.length (4, x20_4 N) :=
  mkL_ok on20_4_K (ls := s20_4) (body := bodyAt Go.Proofs.Try.f20 4) (by kernel_rfl) (by kernel_rfl) fun ys q h =>
    loop_ok (l := t20 N) (t := [(6, x20_6 N)]) ti_ok hmix (t20_ok N) (a20 N) fn20 ⟨x20_6_ok N, trivial⟩ (by kernel_rfl) (by kernel_rfl) (n := N) ((l20_4_eq N N ys.1 ys.2.1 ys.2.2.1 ys.2.2.2.1 ys.2.2.2.2.1 ys.2.2.2.2.2.1 ys.2.2.2.2.2.2.1).trans h)
noncomputable def on20_2 {R : Type} (r : Option Rs) (k3 : Cur (Option R) [(.ar 16 (.int .i64)), (.ar 16 (.int .i64))]) : Option R :=
  match r with
  | some (n, p) => match n with
    | 3 => onG [(.ar 16 (.int .i64)), (.ar 16 (.int .i64))] p k3
    | _ => none
  | none => none
noncomputable def r20_2 (N : Nat) (again : Int → (List (Int × (Int × (Int × (Int × (Int × Unit)))))) → Int → (List Int) → (List Int) → (List Int) → Option Rs) (x1502 : Int) (x1503 : (List (Int × (Int × (Int × (Int × (Int × Unit))))))) (x1504 : Int) (x1505 : (List Int)) (x1506 : (List Int)) (x1507 : (List Int)) : Option Rs :=
  match ((decide (x1502 < (17 : Int))) : Bool) with
  | true =>
    on20_4 (l20_4 N N (x1502 : Int) ((0 : Int) : Int) (x1503 : (List (Int × (Int × (Int × (Int × (Int × Unit))))))) (x1504 : Int) (x1505 : (List Int)) (x1506 : (List Int)) (x1507 : (List Int))) (fun x1565 x1566 x1567 x1568 x1569 x1570 =>
      again ((IntKind.i64.wrap (x1565 + (1 : Int))) : Int) (x1566 : (List (Int × (Int × (Int × (Int × (Int × Unit))))))) (x1567 : Int) (x1568 : (List Int)) (x1569 : (List Int)) (x1570 : (List Int)))
  | false =>
    some (3, [⟨(.ar 16 (.int .i64)), (x1506 : (List Int))⟩, ⟨(.ar 16 (.int .i64)), (x1507 : (List Int))⟩])
noncomputable def l20_2 (N : Nat) : Nat → Int → (List (Int × (Int × (Int × (Int × (Int × Unit)))))) → Int → (List Int) → (List Int) → (List Int) → Option Rs
  | 0, _, _, _, _, _, _ => none
  | n + 1, x1502, x1503, x1504, x1505, x1506, x1507 => r20_2 N (l20_2 N n) x1502 x1503 x1504 x1505 x1506 x1507
theorem on20_2_K (r : Option Rs) (K : Rs → Option Rs) (x : Rs) (h : on20_2 r (curK [(.ar 16 (.int .i64)), (.ar 16 (.int .i64))] fun q => K (3, q)) = some x) : ∃ q, r = some q ∧ K q = some x := by
  unfold on20_2 at h
  split at h
  · split at h
    · exact ⟨_, rfl, onG_K h⟩
    · simp at h
  · simp at h
noncomputable def R20_2 (N : Nat) : (List DV → Option Rs) → List DV → Option Rs := round cx0 h20 (ctL (t20 N)) (ltL [(4, x20_4 N)]) Go.Proofs.Try.f20.ntmps c20.i.bx.length 2 s20_2 (bodyAt Go.Proofs.Try.f20 2)
theorem r20_2_eq (N : Nat) (A : List DV → Option Rs) (x1502 : Int) (x1503 : (List (Int × (Int × (Int × (Int × (Int × Unit))))))) (x1504 : Int) (x1505 : (List Int)) (x1506 : (List Int)) (x1507 : (List Int)) : R20_2 N A [⟨(.int .i64), x1502⟩, ⟨(.sl (.pair (.int .i64) (.pair (.int .i64) (.pair (.int .i64) (.pair (.int .i64) (.pair (.int .i64) .unit)))))), x1503⟩, ⟨(.int .i64), x1504⟩, ⟨(.sl (.int .u8)), x1505⟩, ⟨(.ar 16 (.int .i64)), x1506⟩, ⟨(.ar 16 (.int .i64)), x1507⟩] = r20_2 N (fun x1502 x1503 x1504 x1505 x1506 x1507 => A [⟨(.int .i64), x1502⟩, ⟨(.sl (.pair (.int .i64) (.pair (.int .i64) (.pair (.int .i64) (.pair (.int .i64) (.pair (.int .i64) .unit)))))), x1503⟩, ⟨(.int .i64), x1504⟩, ⟨(.sl (.int .u8)), x1505⟩, ⟨(.ar 16 (.int .i64)), x1506⟩, ⟨(.ar 16 (.int .i64)), x1507⟩]) x1502 x1503 x1504 x1505 x1506 x1507 := by kernel_rfl
theorem l20_2_eq (N : Nat) : ∀ (n : Nat) (x1502 : Int) (x1503 : (List (Int × (Int × (Int × (Int × (Int × Unit))))))) (x1504 : Int) (x1505 : (List Int)) (x1506 : (List Int)) (x1507 : (List Int)), iter (R20_2 N) n [⟨(.int .i64), x1502⟩, ⟨(.sl (.pair (.int .i64) (.pair (.int .i64) (.pair (.int .i64) (.pair (.int .i64) (.pair (.int .i64) .unit)))))), x1503⟩, ⟨(.int .i64), x1504⟩, ⟨(.sl (.int .u8)), x1505⟩, ⟨(.ar 16 (.int .i64)), x1506⟩, ⟨(.ar 16 (.int .i64)), x1507⟩] = l20_2 N n x1502 x1503 x1504 x1505 x1506 x1507
  | 0, _, _, _, _, _, _ => rfl
  | n + 1, x1502, x1503, x1504, x1505, x1506, x1507 => (r20_2_eq N (iter (R20_2 N) n) x1502 x1503 x1504 x1505 x1506 x1507).trans (congrArg (fun A => r20_2 N A x1502 x1503 x1504 x1505 x1506 x1507) (funext fun x1502 => funext fun x1503 => funext fun x1504 => funext fun x1505 => funext fun x1506 => funext fun x1507 => l20_2_eq N n x1502 x1503 x1504 x1505 x1506 x1507))
noncomputable def x20_2 (N : Nat) : List DV → (Rs → Option Rs) → Option Rs := mkL [(.int .i64), (.sl (.pair (.int .i64) (.pair (.int .i64) (.pair (.int .i64) (.pair (.int .i64) (.pair (.int .i64) .unit)))))), (.int .i64), (.sl (.int .u8)), (.ar 16 (.int .i64)), (.ar 16 (.int .i64))] (l20_2 N N) fun r K => on20_2 r (curK [(.ar 16 (.int .i64)), (.ar 16 (.int .i64))] fun q => K (3, q))
theorem x20_2_ok (N : Nat) : LEok Go.Proofs.Try.prog h20 (bodOf Go.Proofs.Try.f20) Go.Proofs.Try.f20.ntmps c20.i.bx.length (2, x20_2 N) :=
  mkL_ok on20_2_K (ls := s20_2) (body := bodyAt Go.Proofs.Try.f20 2) (by kernel_rfl) (by kernel_rfl) fun ys q h =>
    loop_ok (l := t20 N) (t := [(4, x20_4 N)]) ti_ok hmix (t20_ok N) (a20 N) fn20 ⟨x20_4_ok N, trivial⟩ (by kernel_rfl) (by kernel_rfl) (n := N) ((l20_2_eq N N ys.1 ys.2.1 ys.2.2.1 ys.2.2.2.1 ys.2.2.2.2.1 ys.2.2.2.2.2.1).trans h)
noncomputable def on20 {R : Type} (r : Option Rs) (k : Cur (Option R) [(.ar 16 (.int .i64))]) : Option R := onR [(.ar 16 (.int .i64))] r k
noncomputable def e20 (N : Nat) (x1487 : (List (Int × (Int × (Int × (Int × (Int × Unit))))))) (x1488 : Int) (x1489 : (List Int)) : Option Rs :=
  on22 (e22 N (x1487 : (List (Int × (Int × (Int × (Int × (Int × Unit))))))) (x1488 : Int) (x1489 : (List Int))) (fun x1490 =>
    match ((!x1490) : Bool) with
    | true =>
      some (0, [⟨(.ar 16 (.int .i64)), ((List.replicate 16 (0 : Int)) : (List Int))⟩])
    | false =>
      on20_0 (l20_0 N N ((1 : Int) : Int) (x1487 : (List (Int × (Int × (Int × (Int × (Int × Unit))))))) (x1488 : Int) (x1489 : (List Int)) ((List.replicate 16 (0 : Int)) : (List Int)) ((List.replicate 16 (0 : Int)) : (List Int))) (fun x1497 x1498 x1499 x1500 x1501 =>
        on20_2 (l20_2 N N ((0 : Int) : Int) (x1497 : (List (Int × (Int × (Int × (Int × (Int × Unit))))))) (x1498 : Int) (x1499 : (List Int)) (x1500 : (List Int)) (x1501 : (List Int))) (fun x1571 x1572 =>
          some (0, [⟨(.ar 16 (.int .i64)), (x1572 : (List Int))⟩]))))
theorem k20 (N : Nat) (x1487 : (List (Int × (Int × (Int × (Int × (Int × Unit))))))) (x1488 : Int) (x1489 : (List Int)) : den cx0 h20 (ctL (t20 N)) (ltL [(0, x20_0 N), (6, x20_6 N), (4, x20_4 N), (2, x20_2 N)]) Go.Proofs.Try.f20 (codeOf Go.Proofs.Try.f20) c20.i c20.r c20.ob [⟨(.sl (.pair (.int .i64) (.pair (.int .i64) (.pair (.int .i64) (.pair (.int .i64) (.pair (.int .i64) .unit)))))), x1487⟩, ⟨(.int .i64), x1488⟩, ⟨(.sl (.int .u8)), x1489⟩] = e20 N x1487 x1488 x1489 := by kernel_rfl
theorem c20_ok (N : Nat) (x1487 : (List (Int × (Int × (Int × (Int × (Int × Unit))))))) (x1488 : Int) (x1489 : (List Int)) (n0 : Nat) (q : List DV) (h : e20 N x1487 x1488 x1489 = some (n0, q)) : CallOK Go.Proofs.Try.prog c20 [⟨(.sl (.pair (.int .i64) (.pair (.int .i64) (.pair (.int .i64) (.pair (.int .i64) (.pair (.int .i64) .unit)))))), x1487⟩, ⟨(.int .i64), x1488⟩, ⟨(.sl (.int .u8)), x1489⟩] q :=
  fn_ok (l := t20 N) (t := [(0, x20_0 N), (6, x20_6 N), (4, x20_4 N), (2, x20_2 N)]) ti_ok hmix (t20_ok N) (a20 N) fn20 (by kernel_rfl) (by kernel_rfl) ⟨x20_0_ok N, x20_6_ok N, x20_4_ok N, x20_2_ok N, trivial⟩ ((k20 N x1487 x1488 x1489).trans h)
noncomputable def x20 (N : Nat) : List DV → (List DV → Option Rs) → Option Rs := mkX [(.sl (.pair (.int .i64) (.pair (.int .i64) (.pair (.int .i64) (.pair (.int .i64) (.pair (.int .i64) .unit)))))), (.int .i64), (.sl (.int .u8))] [(.ar 16 (.int .i64))] (e20 N)
theorem x20_ok (N : Nat) : CEok Go.Proofs.Try.prog (c20, x20 N) := mkX_ok fun ys n q h => c20_ok N ys.1 ys.2.1 ys.2.2.1 n q h
def c41 : CS := { id := 9, fn := 41, i := { av := [.agg [(.d (.ar 16 (.int .i64)))], .one (.d (.int .i64))], bx := [] }, r := [.one (.d .bool)], one := true, ob := [] }
def h41 : Hi := { cs := [], ls := [], sp := [7] }
noncomputable def t41 (N : Nat) : List CE := []
theorem t41_ok (N : Nat) : AllP (CEok Go.Proofs.Try.prog) (t41 N) := trivial
theorem a41 (N : Nat) : AllP (fun e => lookC (t41 N) e.2.id = some e.2) h41.cs := trivial
theorem fn41 : Fn Go.Proofs.Try.prog 41 Go.Proofs.Try.f41 (codeOf Go.Proofs.Try.f41) := ⟨by kernel_rfl, by kernel_rfl, by kernel_rfl, by kernel_rfl⟩
noncomputable def on41 {R : Type} (r : Option Rs) (k : Cur (Option R) [.bool]) : Option R := onR [.bool] r k
noncomputable def e41 (N : Nat) (x1735 : (List Int)) (x1736 : Int) : Option Rs :=
  match ((decide (x1736 > (0 : Int))) : Bool) with
  | true =>
    match ((idx x1736 16) : Bool) with
    | true =>
      some (0, [⟨.bool, (((List.getD x1735 (Int.toNat x1736) (0 : Int)) == (2 : Int)) : Bool)⟩])
    | false =>
      none
  | false =>
    some (0, [⟨.bool, (false : Bool)⟩])
theorem k41 (N : Nat) (x1735 : (List Int)) (x1736 : Int) : den cx0 h41 (ctL (t41 N)) (ltL []) Go.Proofs.Try.f41 (codeOf Go.Proofs.Try.f41) c41.i c41.r c41.ob [⟨(.ar 16 (.int .i64)), x1735⟩, ⟨(.int .i64), x1736⟩] = e41 N x1735 x1736 := by kernel_rfl
theorem c41_ok (N : Nat) (x1735 : (List Int)) (x1736 : Int) (n0 : Nat) (q : List DV) (h : e41 N x1735 x1736 = some (n0, q)) : CallOK Go.Proofs.Try.prog c41 [⟨(.ar 16 (.int .i64)), x1735⟩, ⟨(.int .i64), x1736⟩] q :=
  fn_ok (l := t41 N) (t := []) ti_ok hmix (t41_ok N) (a41 N) fn41 (by kernel_rfl) (by kernel_rfl) trivial ((k41 N x1735 x1736).trans h)
noncomputable def x41 (N : Nat) : List DV → (List DV → Option Rs) → Option Rs := mkX [(.ar 16 (.int .i64)), (.int .i64)] [.bool] (e41 N)
theorem x41_ok (N : Nat) : CEok Go.Proofs.Try.prog (c41, x41 N) := mkX_ok fun ys n q h => c41_ok N ys.1 ys.2.1 n q h
def c44 : CS := { id := 10, fn := 44, i := { av := [.agg [(.d (.ar 16 (.int .i64)))], .one (.d (.sl (.int .i64)))], bx := [] }, r := [.one (.d .bool)], one := true, ob := [] }
def s44_0 : LS := { h := { av := [.no, .one (.d (.sl (.int .i64))), .one (.p 0 0 [16]), .no, .no, .one (.d (.int .i64)), .no, .no, .no, .no, .no, .no, .no, .no, .no, .no, .no, .no], bx := [[(.d (.ar 16 (.int .i64)))]] }, x := [(0, { av := [.no, .no, .no, .no, .one (.d .bool), .no, .no, .no, .no, .no, .no, .no, .no, .no, .no, .no, .no, .no], bx := [] }), (1, { av := [.no, .no, .no, .no, .no, .no, .no, .no, .no, .no, .no, .no, .no, .no, .no, .no, .no, .no], bx := [] })] }
def h44 : Hi := { cs := [((4, 5), c41)], ls := [(0, s44_0)], sp := [9, 17] }
noncomputable def t44 (N : Nat) : List CE := [(c41, x41 N)]
theorem t44_ok (N : Nat) : AllP (CEok Go.Proofs.Try.prog) (t44 N) := ⟨x41_ok N, trivial⟩
theorem a44 (N : Nat) : AllP (fun e => lookC (t44 N) e.2.id = some e.2) h44.cs := ⟨rfl, trivial⟩
theorem fn44 : Fn Go.Proofs.Try.prog 44 Go.Proofs.Try.f44 (codeOf Go.Proofs.Try.f44) := ⟨by kernel_rfl, by kernel_rfl, by kernel_rfl, by kernel_rfl⟩
noncomputable def on44_0 {R : Type} (r : Option Rs) (k0 : Cur (Option R) [.bool]) (k1 : Cur (Option R) []) : Option R :=
  match r with
  | some (n, p) => match n with
    | 0 => onG [.bool] p k0
    | 1 => onG [] p k1
    | _ => none
  | none => none
noncomputable def r44_0 (N : Nat) (again : (List Int) → Int → (List Int) → Option Rs) (x1739 : (List Int)) (x1740 : Int) (x1741 : (List Int)) : Option Rs :=
  match ((decide (x1740 < ((List.length x1739 : Nat) : Int))) : Bool) with
  | true =>
    match ((idx x1740 (List.length x1739)) : Bool) with
    | true =>
      on41 (e41 N (x1741 : (List Int)) ((List.getD x1739 (Int.toNat x1740) (0 : Int)) : Int)) (fun x1742 =>
        match (x1742 : Bool) with
        | true =>
          some (0, [⟨.bool, (true : Bool)⟩])
        | false =>
          again (x1739 : (List Int)) ((IntKind.i64.wrap (x1740 + (1 : Int))) : Int) (x1741 : (List Int)))
    | false =>
      none
  | false =>
    some (1, [])
noncomputable def l44_0 (N : Nat) : Nat → (List Int) → Int → (List Int) → Option Rs
  | 0, _, _, _ => none
  | n + 1, x1739, x1740, x1741 => r44_0 N (l44_0 N n) x1739 x1740 x1741
theorem on44_0_K (r : Option Rs) (K : Rs → Option Rs) (x : Rs) (h : on44_0 r (curK [.bool] fun q => K (0, q)) (curK [] fun q => K (1, q)) = some x) : ∃ q, r = some q ∧ K q = some x := by
  unfold on44_0 at h
  split at h
  · split at h
    · exact ⟨_, rfl, onG_K h⟩
    · exact ⟨_, rfl, onG_K h⟩
    · simp at h
  · simp at h
noncomputable def R44_0 (N : Nat) : (List DV → Option Rs) → List DV → Option Rs := round cx0 h44 (ctL (t44 N)) (ltL []) Go.Proofs.Try.f44.ntmps c44.i.bx.length 0 s44_0 (bodyAt Go.Proofs.Try.f44 0)
theorem r44_0_eq (N : Nat) (A : List DV → Option Rs) (x1739 : (List Int)) (x1740 : Int) (x1741 : (List Int)) : R44_0 N A [⟨(.sl (.int .i64)), x1739⟩, ⟨(.int .i64), x1740⟩, ⟨(.ar 16 (.int .i64)), x1741⟩] = r44_0 N (fun x1739 x1740 x1741 => A [⟨(.sl (.int .i64)), x1739⟩, ⟨(.int .i64), x1740⟩, ⟨(.ar 16 (.int .i64)), x1741⟩]) x1739 x1740 x1741 := by kernel_rfl
theorem l44_0_eq (N : Nat) : ∀ (n : Nat) (x1739 : (List Int)) (x1740 : Int) (x1741 : (List Int)), iter (R44_0 N) n [⟨(.sl (.int .i64)), x1739⟩, ⟨(.int .i64), x1740⟩, ⟨(.ar 16 (.int .i64)), x1741⟩] = l44_0 N n x1739 x1740 x1741
  | 0, _, _, _ => rfl
  | n + 1, x1739, x1740, x1741 => (r44_0_eq N (iter (R44_0 N) n) x1739 x1740 x1741).trans (congrArg (fun A => r44_0 N A x1739 x1740 x1741) (funext fun x1739 => funext fun x1740 => funext fun x1741 => l44_0_eq N n x1739 x1740 x1741))
noncomputable def x44_0 (N : Nat) : List DV → (Rs → Option Rs) → Option Rs := mkL [(.sl (.int .i64)), (.int .i64), (.ar 16 (.int .i64))] (l44_0 N N) fun r K => on44_0 r (curK [.bool] fun q => K (0, q)) (curK [] fun q => K (1, q))
theorem x44_0_ok (N : Nat) : LEok Go.Proofs.Try.prog h44 (bodOf Go.Proofs.Try.f44) Go.Proofs.Try.f44.ntmps c44.i.bx.length (0, x44_0 N) :=
  mkL_ok on44_0_K (ls := s44_0) (body := bodyAt Go.Proofs.Try.f44 0) (by kernel_rfl) (by kernel_rfl) fun ys q h =>
    loop_ok (l := t44 N) (t := []) ti_ok hmix (t44_ok N) (a44 N) fn44 trivial (by kernel_rfl) (by kernel_rfl) (n := N) ((l44_0_eq N N ys.1 ys.2.1 ys.2.2.1).trans h)
noncomputable def on44 {R : Type} (r : Option Rs) (k : Cur (Option R) [.bool]) : Option R := onR [.bool] r k
noncomputable def e44 (N : Nat) (x1737 : (List Int)) (x1738 : (List Int)) : Option Rs :=
  on44_0 (l44_0 N N (x1738 : (List Int)) ((0 : Int) : Int) (x1737 : (List Int))) (fun x1743 =>
    some (0, [⟨.bool, (x1743 : Bool)⟩])) (
    some (0, [⟨.bool, (false : Bool)⟩]))
theorem k44 (N : Nat) (x1737 : (List Int)) (x1738 : (List Int)) : den cx0 h44 (ctL (t44 N)) (ltL [(0, x44_0 N)]) Go.Proofs.Try.f44 (codeOf Go.Proofs.Try.f44) c44.i c44.r c44.ob [⟨(.ar 16 (.int .i64)), x1737⟩, ⟨(.sl (.int .i64)), x1738⟩] = e44 N x1737 x1738 := by kernel_rfl
theorem c44_ok (N : Nat) (x1737 : (List Int)) (x1738 : (List Int)) (n0 : Nat) (q : List DV) (h : e44 N x1737 x1738 = some (n0, q)) : CallOK Go.Proofs.Try.prog c44 [⟨(.ar 16 (.int .i64)), x1737⟩, ⟨(.sl (.int .i64)), x1738⟩] q :=
  fn_ok (l := t44 N) (t := [(0, x44_0 N)]) ti_ok hmix (t44_ok N) (a44 N) fn44 (by kernel_rfl) (by kernel_rfl) ⟨x44_0_ok N, trivial⟩ ((k44 N x1737 x1738).trans h)
noncomputable def x44 (N : Nat) : List DV → (List DV → Option Rs) → Option Rs := mkX [(.ar 16 (.int .i64)), (.sl (.int .i64))] [.bool] (e44 N)
theorem x44_ok (N : Nat) : CEok Go.Proofs.Try.prog (c44, x44 N) := mkX_ok fun ys n q h => c44_ok N ys.1 ys.2.1 n q h
def c52 : CS := { id := 11, fn := 52, i := { av := [.agg [(.d (.sl (.pair (.int .i64) (.pair (.int .i64) (.pair (.int .i64) (.pair (.int .i64) (.pair (.int .i64) .unit))))))), (.d (.int .i64)), (.d (.sl (.int .u8)))], .agg [(.d (.ar 16 (.int .i64)))]], bx := [] }, r := [.one (.d .bool)], one := true, ob := [] }
def s52_0 : LS := { h := { av := [.no, .no, .one (.p 0 0 [1, 1, 1]), .one (.p 1 0 [16]), .no, .one (.d (.int .i64)), .no, .no, .no, .no, .no, .no, .no, .no, .no, .no, .no, .no, .no, .no, .no, .no, .no, .no, .no, .no, .no, .no, .no, .no, .no, .no, .no, .no, .no, .no, .no, .no, .no, .no, .no, .no, .no, .no, .no, .no, .no, .no, .no, .no, .no, .no, .no, .no, .no, .no, .no, .no, .no, .no, .no, .no, .no, .no, .no, .no, .no, .no, .no, .no, .no, .no, .no, .no, .no, .no, .no, .no, .no, .no, .no, .no], bx := [[(.d (.sl (.pair (.int .i64) (.pair (.int .i64) (.pair (.int .i64) (.pair (.int .i64) (.pair (.int .i64) .unit))))))), (.d (.int .i64)), (.d (.sl (.int .u8)))], [(.d (.ar 16 (.int .i64)))]] }, x := [(0, { av := [.no, .no, .no, .no, .one (.d .bool), .no, .no, .no, .no, .no, .no, .no, .no, .no, .no, .no, .no, .no, .no, .no, .no, .no, .no, .no, .no, .no, .no, .no, .no, .no, .no, .no, .no, .no, .no, .no, .no, .no, .no, .no, .no, .no, .no, .no, .no, .no, .no, .no, .no, .no, .no, .no, .no, .no, .no, .no, .no, .no, .no, .no, .no, .no, .no, .no, .no, .no, .no, .no, .no, .no, .no, .no, .no, .no, .no, .no, .no, .no, .no, .no, .no, .no], bx := [] }), (1, { av := [.no, .no, .one (.p 0 0 [1, 1, 1]), .one (.p 1 0 [16]), .no, .no, .no, .no, .no, .no, .no, .no, .no, .no, .no, .no, .no, .no, .no, .no, .no, .no, .no, .no, .no, .no, .no, .no, .no, .no, .no, .no, .no, .no, .no, .no, .no, .no, .no, .no, .no, .no, .no, .no, .no, .no, .no, .no, .no, .no, .no, .no, .no, .no, .no, .no, .no, .no, .no, .no, .no, .no, .no, .no, .no, .no, .no, .no, .no, .no, .no, .no, .no, .no, .no, .no, .no, .no, .no, .no, .no, .no], bx := [[(.d (.sl (.pair (.int .i64) (.pair (.int .i64) (.pair (.int .i64) (.pair (.int .i64) (.pair (.int .i64) .unit))))))), (.d (.int .i64)), (.d (.sl (.int .u8)))], [(.d (.ar 16 (.int .i64)))]] })] }
def s52_2 : LS := { h := { av := [.no, .no, .one (.p 0 0 [1, 1, 1]), .one (.p 1 0 [16]), .no, .no, .one (.d (.int .i64)), .no, .no, .no, .no, .no, .no, .no, .no, .no, .no, .no, .no, .no, .no, .no, .no, .no, .no, .no, .no, .no, .no, .no, .no, .no, .no, .no, .no, .no, .no, .no, .no, .no, .no, .no, .no, .no, .no, .no, .no, .no, .no, .no, .no, .no, .no, .no, .no, .no, .no, .no, .no, .no, .no, .no, .no, .no, .no, .no, .no, .no, .no, .no, .no, .no, .no, .no, .no, .no, .no, .no, .no, .no, .no, .no], bx := [[(.d (.sl (.pair (.int .i64) (.pair (.int .i64) (.pair (.int .i64) (.pair (.int .i64) (.pair (.int .i64) .unit))))))), (.d (.int .i64)), (.d (.sl (.int .u8)))], [(.d (.ar 16 (.int .i64)))]] }, x := [(0, { av := [.no, .no, .no, .no, .one (.d .bool), .no, .no, .no, .no, .no, .no, .no, .no, .no, .no, .no, .no, .no, .no, .no, .no, .no, .no, .no, .no, .no, .no, .no, .no, .no, .no, .no, .no, .no, .no, .no, .no, .no, .no, .no, .no, .no, .no, .no, .no, .no, .no, .no, .no, .no, .no, .no, .no, .no, .no, .no, .no, .no, .no, .no, .no, .no, .no, .no, .no, .no, .no, .no, .no, .no, .no, .no, .no, .no, .no, .no, .no, .no, .no, .no, .no, .no], bx := [] }), (3, { av := [.no, .no, .no, .no, .no, .no, .no, .no, .no, .no, .no, .no, .no, .no, .no, .no, .no, .no, .no, .no, .no, .no, .no, .no, .no, .no, .no, .no, .no, .no, .no, .no, .no, .no, .no, .no, .no, .no, .no, .no, .no, .no, .no, .no, .no, .no, .no, .no, .no, .no, .no, .no, .no, .no, .no, .no, .no, .no, .no, .no, .no, .no, .no, .no, .no, .no, .no, .no, .no, .no, .no, .no, .no, .no, .no, .no, .no, .no, .no, .no, .no, .no], bx := [] })] }
def h52 : Hi := { cs := [((1, 1), c22), ((12, 2), c25), ((13, 10), c41), ((15, 21), c45), ((15, 22), c44)], ls := [(0, s52_0), (2, s52_2)], sp := [12, 16, 18, 25, 30, 35, 48, 52, 57, 60, 64, 69, 76, 81] }
noncomputable def t52 (N : Nat) : List CE := [(c22, x22 N), (c25, x25 N), (c41, x41 N), (c45, x45 N), (c44, x44 N)]
theorem t52_ok (N : Nat) : AllP (CEok Go.Proofs.Try.prog) (t52 N) := ⟨x22_ok N, x25_ok N, x41_ok N, x45_ok N, x44_ok N, trivial⟩
theorem a52 (N : Nat) : AllP (fun e => lookC (t52 N) e.2.id = some e.2) h52.cs := ⟨rfl, rfl, rfl, rfl, rfl, trivial⟩
theorem fn52 : Fn Go.Proofs.Try.prog 52 Go.Proofs.Try.f52 (codeOf Go.Proofs.Try.f52) := ⟨by kernel_rfl, by kernel_rfl, by kernel_rfl, by kernel_rfl⟩
noncomputable def on52_0 {R : Type} (r : Option Rs) (k0 : Cur (Option R) [.bool]) (k1 : Cur (Option R) [(.sl (.pair (.int .i64) (.pair (.int .i64) (.pair (.int .i64) (.pair (.int .i64) (.pair (.int .i64) .unit)))))), (.int .i64), (.sl (.int .u8)), (.ar 16 (.int .i64))]) : Option R :=
  match r with
  | some (n, p) => match n with
    | 0 => onG [.bool] p k0
    | 1 => onG [(.sl (.pair (.int .i64) (.pair (.int .i64) (.pair (.int .i64) (.pair (.int .i64) (.pair (.int .i64) .unit)))))), (.int .i64), (.sl (.int .u8)), (.ar 16 (.int .i64))] p k1
    | _ => none
  | none => none
noncomputable def r52_0 (N : Nat) (again : Int → (List (Int × (Int × (Int × (Int × (Int × Unit)))))) → Int → (List Int) → (List Int) → Option Rs) (x1710 : Int) (x1711 : (List (Int × (Int × (Int × (Int × (Int × Unit))))))) (x1712 : Int) (x1713 : (List Int)) (x1714 : (List Int)) : Option Rs :=
  match ((decide (x1710 < (16 : Int))) : Bool) with
  | true =>
    match ((idx x1710 16) : Bool) with
    | true =>
      match (((List.getD x1714 (Int.toNat x1710) (0 : Int)) != (1 : Int)) : Bool) with
      | true =>
        match ((idx x1710 16) : Bool) with
        | true =>
          match (((List.getD x1714 (Int.toNat x1710) (0 : Int)) != (2 : Int)) : Bool) with
          | true =>
            some (0, [⟨.bool, (false : Bool)⟩])
          | false =>
            again ((IntKind.i64.wrap (x1710 + (1 : Int))) : Int) (x1711 : (List (Int × (Int × (Int × (Int × (Int × Unit))))))) (x1712 : Int) (x1713 : (List Int)) (x1714 : (List Int))
        | false =>
          none
      | false =>
        again ((IntKind.i64.wrap (x1710 + (1 : Int))) : Int) (x1711 : (List (Int × (Int × (Int × (Int × (Int × Unit))))))) (x1712 : Int) (x1713 : (List Int)) (x1714 : (List Int))
    | false =>
      none
  | false =>
    some (1, [⟨(.sl (.pair (.int .i64) (.pair (.int .i64) (.pair (.int .i64) (.pair (.int .i64) (.pair (.int .i64) .unit)))))), (x1711 : (List (Int × (Int × (Int × (Int × (Int × Unit)))))))⟩, ⟨(.int .i64), (x1712 : Int)⟩, ⟨(.sl (.int .u8)), (x1713 : (List Int))⟩, ⟨(.ar 16 (.int .i64)), (x1714 : (List Int))⟩])
noncomputable def l52_0 (N : Nat) : Nat → Int → (List (Int × (Int × (Int × (Int × (Int × Unit)))))) → Int → (List Int) → (List Int) → Option Rs
  | 0, _, _, _, _, _ => none
  | n + 1, x1710, x1711, x1712, x1713, x1714 => r52_0 N (l52_0 N n) x1710 x1711 x1712 x1713 x1714
theorem on52_0_K (r : Option Rs) (K : Rs → Option Rs) (x : Rs) (h : on52_0 r (curK [.bool] fun q => K (0, q)) (curK [(.sl (.pair (.int .i64) (.pair (.int .i64) (.pair (.int .i64) (.pair (.int .i64) (.pair (.int .i64) .unit)))))), (.int .i64), (.sl (.int .u8)), (.ar 16 (.int .i64))] fun q => K (1, q)) = some x) : ∃ q, r = some q ∧ K q = some x := by
  unfold on52_0 at h
  split at h
  · split at h
    · exact ⟨_, rfl, onG_K h⟩
    · exact ⟨_, rfl, onG_K h⟩
    · simp at h
  · simp at h
noncomputable def R52_0 (N : Nat) : (List DV → Option Rs) → List DV → Option Rs := round cx0 h52 (ctL (t52 N)) (ltL []) Go.Proofs.Try.f52.ntmps c52.i.bx.length 0 s52_0 (bodyAt Go.Proofs.Try.f52 0)
theorem r52_0_eq (N : Nat) (A : List DV → Option Rs) (x1710 : Int) (x1711 : (List (Int × (Int × (Int × (Int × (Int × Unit))))))) (x1712 : Int) (x1713 : (List Int)) (x1714 : (List Int)) : R52_0 N A [⟨(.int .i64), x1710⟩, ⟨(.sl (.pair (.int .i64) (.pair (.int .i64) (.pair (.int .i64) (.pair (.int .i64) (.pair (.int .i64) .unit)))))), x1711⟩, ⟨(.int .i64), x1712⟩, ⟨(.sl (.int .u8)), x1713⟩, ⟨(.ar 16 (.int .i64)), x1714⟩] = r52_0 N (fun x1710 x1711 x1712 x1713 x1714 => A [⟨(.int .i64), x1710⟩, ⟨(.sl (.pair (.int .i64) (.pair (.int .i64) (.pair (.int .i64) (.pair (.int .i64) (.pair (.int .i64) .unit)))))), x1711⟩, ⟨(.int .i64), x1712⟩, ⟨(.sl (.int .u8)), x1713⟩, ⟨(.ar 16 (.int .i64)), x1714⟩]) x1710 x1711 x1712 x1713 x1714 := by kernel_rfl
theorem l52_0_eq (N : Nat) : ∀ (n : Nat) (x1710 : Int) (x1711 : (List (Int × (Int × (Int × (Int × (Int × Unit))))))) (x1712 : Int) (x1713 : (List Int)) (x1714 : (List Int)), iter (R52_0 N) n [⟨(.int .i64), x1710⟩, ⟨(.sl (.pair (.int .i64) (.pair (.int .i64) (.pair (.int .i64) (.pair (.int .i64) (.pair (.int .i64) .unit)))))), x1711⟩, ⟨(.int .i64), x1712⟩, ⟨(.sl (.int .u8)), x1713⟩, ⟨(.ar 16 (.int .i64)), x1714⟩] = l52_0 N n x1710 x1711 x1712 x1713 x1714
  | 0, _, _, _, _, _ => rfl
  | n + 1, x1710, x1711, x1712, x1713, x1714 => (r52_0_eq N (iter (R52_0 N) n) x1710 x1711 x1712 x1713 x1714).trans (congrArg (fun A => r52_0 N A x1710 x1711 x1712 x1713 x1714) (funext fun x1710 => funext fun x1711 => funext fun x1712 => funext fun x1713 => funext fun x1714 => l52_0_eq N n x1710 x1711 x1712 x1713 x1714))
noncomputable def x52_0 (N : Nat) : List DV → (Rs → Option Rs) → Option Rs := mkL [(.int .i64), (.sl (.pair (.int .i64) (.pair (.int .i64) (.pair (.int .i64) (.pair (.int .i64) (.pair (.int .i64) .unit)))))), (.int .i64), (.sl (.int .u8)), (.ar 16 (.int .i64))] (l52_0 N N) fun r K => on52_0 r (curK [.bool] fun q => K (0, q)) (curK [(.sl (.pair (.int .i64) (.pair (.int .i64) (.pair (.int .i64) (.pair (.int .i64) (.pair (.int .i64) .unit)))))), (.int .i64), (.sl (.int .u8)), (.ar 16 (.int .i64))] fun q => K (1, q))
theorem x52_0_ok (N : Nat) : LEok Go.Proofs.Try.prog h52 (bodOf Go.Proofs.Try.f52) Go.Proofs.Try.f52.ntmps c52.i.bx.length (0, x52_0 N) :=
  mkL_ok on52_0_K (ls := s52_0) (body := bodyAt Go.Proofs.Try.f52 0) (by kernel_rfl) (by kernel_rfl) fun ys q h =>
    loop_ok (l := t52 N) (t := []) ti_ok hmix (t52_ok N) (a52 N) fn52 trivial (by kernel_rfl) (by kernel_rfl) (n := N) ((l52_0_eq N N ys.1 ys.2.1 ys.2.2.1 ys.2.2.2.1 ys.2.2.2.2.1).trans h)
noncomputable def on52_2 {R : Type} (r : Option Rs) (k0 : Cur (Option R) [.bool]) (k3 : Cur (Option R) []) : Option R :=
  match r with
  | some (n, p) => match n with
    | 0 => onG [.bool] p k0
    | 3 => onG [] p k3
    | _ => none
  | none => none
noncomputable def r52_2 (N : Nat) (again : Int → (List (Int × (Int × (Int × (Int × (Int × Unit)))))) → Int → (List Int) → (List Int) → Option Rs) (x1720 : Int) (x1721 : (List (Int × (Int × (Int × (Int × (Int × Unit))))))) (x1722 : Int) (x1723 : (List Int)) (x1724 : (List Int)) : Option Rs :=
  match ((decide (x1720 < ((List.length x1721 : Nat) : Int))) : Bool) with
  | true =>
    match ((idx x1720 (List.length x1721)) : Bool) with
    | true =>
      on25 (e25 N ((List.getD x1721 (Int.toNat x1720) ((0 : Int), ((0 : Int), ((0 : Int), ((0 : Int), ((0 : Int), ())))))).1 : Int)) (fun x1725 =>
        match ((x1725 == (4 : Int)) : Bool) with
        | true =>
          on41 (e41 N (x1724 : (List Int)) ((List.getD x1721 (Int.toNat x1720) ((0 : Int), ((0 : Int), ((0 : Int), ((0 : Int), ((0 : Int), ())))))).2.2.1 : Int)) (fun x1726 =>
            match (x1726 : Bool) with
            | true =>
              some (0, [⟨.bool, (false : Bool)⟩])
            | false =>
              match ((decide (x1725 ≥ (1 : Int))) : Bool) with
              | true =>
                match ((decide (x1725 ≤ (3 : Int))) : Bool) with
                | true =>
                  match ((decide ((List.getD x1721 (Int.toNat x1720) ((0 : Int), ((0 : Int), ((0 : Int), ((0 : Int), ((0 : Int), ())))))).2.1 > (0 : Int))) : Bool) with
                  | true =>
                    match ((idx (List.getD x1721 (Int.toNat x1720) ((0 : Int), ((0 : Int), ((0 : Int), ((0 : Int), ((0 : Int), ())))))).2.1 16) : Bool) with
                    | true =>
                      match (((List.getD x1724 (Int.toNat (List.getD x1721 (Int.toNat x1720) ((0 : Int), ((0 : Int), ((0 : Int), ((0 : Int), ((0 : Int), ())))))).2.1) (0 : Int)) == (1 : Int)) : Bool) with
                      | true =>
                        on45 (e45 N ((List.getD x1721 (Int.toNat x1720) ((0 : Int), ((0 : Int), ((0 : Int), ((0 : Int), ((0 : Int), ())))))).1 : Int) ((List.getD x1721 (Int.toNat x1720) ((0 : Int), ((0 : Int), ((0 : Int), ((0 : Int), ((0 : Int), ())))))).2.1 : Int) ((List.getD x1721 (Int.toNat x1720) ((0 : Int), ((0 : Int), ((0 : Int), ((0 : Int), ((0 : Int), ())))))).2.2.1 : Int) ((List.getD x1721 (Int.toNat x1720) ((0 : Int), ((0 : Int), ((0 : Int), ((0 : Int), ((0 : Int), ())))))).2.2.2.1 : Int) ((List.getD x1721 (Int.toNat x1720) ((0 : Int), ((0 : Int), ((0 : Int), ((0 : Int), ((0 : Int), ())))))).2.2.2.2.1 : Int)) (fun x1727 =>
                          on44 (e44 N (x1724 : (List Int)) (x1727 : (List Int))) (fun x1728 =>
                            match (x1728 : Bool) with
                            | true =>
                              some (0, [⟨.bool, (false : Bool)⟩])
                            | false =>
                              again ((IntKind.i64.wrap (x1720 + (1 : Int))) : Int) (x1721 : (List (Int × (Int × (Int × (Int × (Int × Unit))))))) (x1722 : Int) (x1723 : (List Int)) (x1724 : (List Int))))
                      | false =>
                        again ((IntKind.i64.wrap (x1720 + (1 : Int))) : Int) (x1721 : (List (Int × (Int × (Int × (Int × (Int × Unit))))))) (x1722 : Int) (x1723 : (List Int)) (x1724 : (List Int))
                    | false =>
                      none
                  | false =>
                    again ((IntKind.i64.wrap (x1720 + (1 : Int))) : Int) (x1721 : (List (Int × (Int × (Int × (Int × (Int × Unit))))))) (x1722 : Int) (x1723 : (List Int)) (x1724 : (List Int))
                | false =>
                  again ((IntKind.i64.wrap (x1720 + (1 : Int))) : Int) (x1721 : (List (Int × (Int × (Int × (Int × (Int × Unit))))))) (x1722 : Int) (x1723 : (List Int)) (x1724 : (List Int))
              | false =>
                again ((IntKind.i64.wrap (x1720 + (1 : Int))) : Int) (x1721 : (List (Int × (Int × (Int × (Int × (Int × Unit))))))) (x1722 : Int) (x1723 : (List Int)) (x1724 : (List Int)))
        | false =>
          match ((x1725 == (5 : Int)) : Bool) with
          | true =>
            on41 (e41 N (x1724 : (List Int)) ((List.getD x1721 (Int.toNat x1720) ((0 : Int), ((0 : Int), ((0 : Int), ((0 : Int), ((0 : Int), ())))))).2.2.1 : Int)) (fun x1729 =>
              match (x1729 : Bool) with
              | true =>
                some (0, [⟨.bool, (false : Bool)⟩])
              | false =>
                match ((decide (x1725 ≥ (1 : Int))) : Bool) with
                | true =>
                  match ((decide (x1725 ≤ (3 : Int))) : Bool) with
                  | true =>
                    match ((decide ((List.getD x1721 (Int.toNat x1720) ((0 : Int), ((0 : Int), ((0 : Int), ((0 : Int), ((0 : Int), ())))))).2.1 > (0 : Int))) : Bool) with
                    | true =>
                      match ((idx (List.getD x1721 (Int.toNat x1720) ((0 : Int), ((0 : Int), ((0 : Int), ((0 : Int), ((0 : Int), ())))))).2.1 16) : Bool) with
                      | true =>
                        match (((List.getD x1724 (Int.toNat (List.getD x1721 (Int.toNat x1720) ((0 : Int), ((0 : Int), ((0 : Int), ((0 : Int), ((0 : Int), ())))))).2.1) (0 : Int)) == (1 : Int)) : Bool) with
                        | true =>
                          on45 (e45 N ((List.getD x1721 (Int.toNat x1720) ((0 : Int), ((0 : Int), ((0 : Int), ((0 : Int), ((0 : Int), ())))))).1 : Int) ((List.getD x1721 (Int.toNat x1720) ((0 : Int), ((0 : Int), ((0 : Int), ((0 : Int), ((0 : Int), ())))))).2.1 : Int) ((List.getD x1721 (Int.toNat x1720) ((0 : Int), ((0 : Int), ((0 : Int), ((0 : Int), ((0 : Int), ())))))).2.2.1 : Int) ((List.getD x1721 (Int.toNat x1720) ((0 : Int), ((0 : Int), ((0 : Int), ((0 : Int), ((0 : Int), ())))))).2.2.2.1 : Int) ((List.getD x1721 (Int.toNat x1720) ((0 : Int), ((0 : Int), ((0 : Int), ((0 : Int), ((0 : Int), ())))))).2.2.2.2.1 : Int)) (fun x1730 =>
                            on44 (e44 N (x1724 : (List Int)) (x1730 : (List Int))) (fun x1731 =>
                              match (x1731 : Bool) with
                              | true =>
                                some (0, [⟨.bool, (false : Bool)⟩])
                              | false =>
                                again ((IntKind.i64.wrap (x1720 + (1 : Int))) : Int) (x1721 : (List (Int × (Int × (Int × (Int × (Int × Unit))))))) (x1722 : Int) (x1723 : (List Int)) (x1724 : (List Int))))
                        | false =>
                          again ((IntKind.i64.wrap (x1720 + (1 : Int))) : Int) (x1721 : (List (Int × (Int × (Int × (Int × (Int × Unit))))))) (x1722 : Int) (x1723 : (List Int)) (x1724 : (List Int))
                      | false =>
                        none
                    | false =>
                      again ((IntKind.i64.wrap (x1720 + (1 : Int))) : Int) (x1721 : (List (Int × (Int × (Int × (Int × (Int × Unit))))))) (x1722 : Int) (x1723 : (List Int)) (x1724 : (List Int))
                  | false =>
                    again ((IntKind.i64.wrap (x1720 + (1 : Int))) : Int) (x1721 : (List (Int × (Int × (Int × (Int × (Int × Unit))))))) (x1722 : Int) (x1723 : (List Int)) (x1724 : (List Int))
                | false =>
                  again ((IntKind.i64.wrap (x1720 + (1 : Int))) : Int) (x1721 : (List (Int × (Int × (Int × (Int × (Int × Unit))))))) (x1722 : Int) (x1723 : (List Int)) (x1724 : (List Int)))
          | false =>
            match ((decide (x1725 ≥ (1 : Int))) : Bool) with
            | true =>
              match ((decide (x1725 ≤ (3 : Int))) : Bool) with
              | true =>
                match ((decide ((List.getD x1721 (Int.toNat x1720) ((0 : Int), ((0 : Int), ((0 : Int), ((0 : Int), ((0 : Int), ())))))).2.1 > (0 : Int))) : Bool) with
                | true =>
                  match ((idx (List.getD x1721 (Int.toNat x1720) ((0 : Int), ((0 : Int), ((0 : Int), ((0 : Int), ((0 : Int), ())))))).2.1 16) : Bool) with
                  | true =>
                    match (((List.getD x1724 (Int.toNat (List.getD x1721 (Int.toNat x1720) ((0 : Int), ((0 : Int), ((0 : Int), ((0 : Int), ((0 : Int), ())))))).2.1) (0 : Int)) == (1 : Int)) : Bool) with
                    | true =>
                      on45 (e45 N ((List.getD x1721 (Int.toNat x1720) ((0 : Int), ((0 : Int), ((0 : Int), ((0 : Int), ((0 : Int), ())))))).1 : Int) ((List.getD x1721 (Int.toNat x1720) ((0 : Int), ((0 : Int), ((0 : Int), ((0 : Int), ((0 : Int), ())))))).2.1 : Int) ((List.getD x1721 (Int.toNat x1720) ((0 : Int), ((0 : Int), ((0 : Int), ((0 : Int), ((0 : Int), ())))))).2.2.1 : Int) ((List.getD x1721 (Int.toNat x1720) ((0 : Int), ((0 : Int), ((0 : Int), ((0 : Int), ((0 : Int), ())))))).2.2.2.1 : Int) ((List.getD x1721 (Int.toNat x1720) ((0 : Int), ((0 : Int), ((0 : Int), ((0 : Int), ((0 : Int), ())))))).2.2.2.2.1 : Int)) (fun x1732 =>
                        on44 (e44 N (x1724 : (List Int)) (x1732 : (List Int))) (fun x1733 =>
                          match (x1733 : Bool) with
                          | true =>
                            some (0, [⟨.bool, (false : Bool)⟩])
                          | false =>
                            again ((IntKind.i64.wrap (x1720 + (1 : Int))) : Int) (x1721 : (List (Int × (Int × (Int × (Int × (Int × Unit))))))) (x1722 : Int) (x1723 : (List Int)) (x1724 : (List Int))))
                    | false =>
                      again ((IntKind.i64.wrap (x1720 + (1 : Int))) : Int) (x1721 : (List (Int × (Int × (Int × (Int × (Int × Unit))))))) (x1722 : Int) (x1723 : (List Int)) (x1724 : (List Int))
                  | false =>
                    none
                | false =>
                  again ((IntKind.i64.wrap (x1720 + (1 : Int))) : Int) (x1721 : (List (Int × (Int × (Int × (Int × (Int × Unit))))))) (x1722 : Int) (x1723 : (List Int)) (x1724 : (List Int))
              | false =>
                again ((IntKind.i64.wrap (x1720 + (1 : Int))) : Int) (x1721 : (List (Int × (Int × (Int × (Int × (Int × Unit))))))) (x1722 : Int) (x1723 : (List Int)) (x1724 : (List Int))
            | false =>
              again ((IntKind.i64.wrap (x1720 + (1 : Int))) : Int) (x1721 : (List (Int × (Int × (Int × (Int × (Int × Unit))))))) (x1722 : Int) (x1723 : (List Int)) (x1724 : (List Int)))
    | false =>
      none
  | false =>
    some (3, [])
noncomputable def l52_2 (N : Nat) : Nat → Int → (List (Int × (Int × (Int × (Int × (Int × Unit)))))) → Int → (List Int) → (List Int) → Option Rs
  | 0, _, _, _, _, _ => none
  | n + 1, x1720, x1721, x1722, x1723, x1724 => r52_2 N (l52_2 N n) x1720 x1721 x1722 x1723 x1724
theorem on52_2_K (r : Option Rs) (K : Rs → Option Rs) (x : Rs) (h : on52_2 r (curK [.bool] fun q => K (0, q)) (curK [] fun q => K (3, q)) = some x) : ∃ q, r = some q ∧ K q = some x := by
  unfold on52_2 at h
  split at h
  · split at h
    · exact ⟨_, rfl, onG_K h⟩
    · exact ⟨_, rfl, onG_K h⟩
    · simp at h
  · simp at h
noncomputable def R52_2 (N : Nat) : (List DV → Option Rs) → List DV → Option Rs := round cx0 h52 (ctL (t52 N)) (ltL []) Go.Proofs.Try.f52.ntmps c52.i.bx.length 2 s52_2 (bodyAt Go.Proofs.Try.f52 2)
theorem r52_2_eq (N : Nat) (A : List DV → Option Rs) (x1720 : Int) (x1721 : (List (Int × (Int × (Int × (Int × (Int × Unit))))))) (x1722 : Int) (x1723 : (List Int)) (x1724 : (List Int)) : R52_2 N A [⟨(.int .i64), x1720⟩, ⟨(.sl (.pair (.int .i64) (.pair (.int .i64) (.pair (.int .i64) (.pair (.int .i64) (.pair (.int .i64) .unit)))))), x1721⟩, ⟨(.int .i64), x1722⟩, ⟨(.sl (.int .u8)), x1723⟩, ⟨(.ar 16 (.int .i64)), x1724⟩] = r52_2 N (fun x1720 x1721 x1722 x1723 x1724 => A [⟨(.int .i64), x1720⟩, ⟨(.sl (.pair (.int .i64) (.pair (.int .i64) (.pair (.int .i64) (.pair (.int .i64) (.pair (.int .i64) .unit)))))), x1721⟩, ⟨(.int .i64), x1722⟩, ⟨(.sl (.int .u8)), x1723⟩, ⟨(.ar 16 (.int .i64)), x1724⟩]) x1720 x1721 x1722 x1723 x1724 := by kernel_rfl
theorem l52_2_eq (N : Nat) : ∀ (n : Nat) (x1720 : Int) (x1721 : (List (Int × (Int × (Int × (Int × (Int × Unit))))))) (x1722 : Int) (x1723 : (List Int)) (x1724 : (List Int)), iter (R52_2 N) n [⟨(.int .i64), x1720⟩, ⟨(.sl (.pair (.int .i64) (.pair (.int .i64) (.pair (.int .i64) (.pair (.int .i64) (.pair (.int .i64) .unit)))))), x1721⟩, ⟨(.int .i64), x1722⟩, ⟨(.sl (.int .u8)), x1723⟩, ⟨(.ar 16 (.int .i64)), x1724⟩] = l52_2 N n x1720 x1721 x1722 x1723 x1724
  | 0, _, _, _, _, _ => rfl
  | n + 1, x1720, x1721, x1722, x1723, x1724 => (r52_2_eq N (iter (R52_2 N) n) x1720 x1721 x1722 x1723 x1724).trans (congrArg (fun A => r52_2 N A x1720 x1721 x1722 x1723 x1724) (funext fun x1720 => funext fun x1721 => funext fun x1722 => funext fun x1723 => funext fun x1724 => l52_2_eq N n x1720 x1721 x1722 x1723 x1724))
noncomputable def x52_2 (N : Nat) : List DV → (Rs → Option Rs) → Option Rs := mkL [(.int .i64), (.sl (.pair (.int .i64) (.pair (.int .i64) (.pair (.int .i64) (.pair (.int .i64) (.pair (.int .i64) .unit)))))), (.int .i64), (.sl (.int .u8)), (.ar 16 (.int .i64))] (l52_2 N N) fun r K => on52_2 r (curK [.bool] fun q => K (0, q)) (curK [] fun q => K (3, q))
theorem x52_2_ok (N : Nat) : LEok Go.Proofs.Try.prog h52 (bodOf Go.Proofs.Try.f52) Go.Proofs.Try.f52.ntmps c52.i.bx.length (2, x52_2 N) :=
  mkL_ok on52_2_K (ls := s52_2) (body := bodyAt Go.Proofs.Try.f52 2) (by kernel_rfl) (by kernel_rfl) fun ys q h =>
    loop_ok (l := t52 N) (t := []) ti_ok hmix (t52_ok N) (a52 N) fn52 trivial (by kernel_rfl) (by kernel_rfl) (n := N) ((l52_2_eq N N ys.1 ys.2.1 ys.2.2.1 ys.2.2.2.1 ys.2.2.2.2.1).trans h)
noncomputable def on52 {R : Type} (r : Option Rs) (k : Cur (Option R) [.bool]) : Option R := onR [.bool] r k
noncomputable def e52 (N : Nat) (x1705 : (List (Int × (Int × (Int × (Int × (Int × Unit))))))) (x1706 : Int) (x1707 : (List Int)) (x1708 : (List Int)) : Option Rs :=
  on22 (e22 N (x1705 : (List (Int × (Int × (Int × (Int × (Int × Unit))))))) (x1706 : Int) (x1707 : (List Int))) (fun x1709 =>
    match ((!x1709) : Bool) with
    | true =>
      some (0, [⟨.bool, (false : Bool)⟩])
    | false =>
      match ((idx (0 : Int) 16) : Bool) with
      | true =>
        match (((List.getD x1708 (Int.toNat (0 : Int)) (0 : Int)) != (0 : Int)) : Bool) with
        | true =>
          some (0, [⟨.bool, (false : Bool)⟩])
        | false =>
          on52_0 (l52_0 N N ((1 : Int) : Int) (x1705 : (List (Int × (Int × (Int × (Int × (Int × Unit))))))) (x1706 : Int) (x1707 : (List Int)) (x1708 : (List Int))) (fun x1715 =>
            some (0, [⟨.bool, (x1715 : Bool)⟩])) (fun x1716 x1717 x1718 x1719 =>
            on52_2 (l52_2 N N ((0 : Int) : Int) (x1716 : (List (Int × (Int × (Int × (Int × (Int × Unit))))))) (x1717 : Int) (x1718 : (List Int)) (x1719 : (List Int))) (fun x1734 =>
              some (0, [⟨.bool, (x1734 : Bool)⟩])) (
              some (0, [⟨.bool, (true : Bool)⟩])))
      | false =>
        none)
theorem k52 (N : Nat) (x1705 : (List (Int × (Int × (Int × (Int × (Int × Unit))))))) (x1706 : Int) (x1707 : (List Int)) (x1708 : (List Int)) : den cx0 h52 (ctL (t52 N)) (ltL [(0, x52_0 N), (2, x52_2 N)]) Go.Proofs.Try.f52 (codeOf Go.Proofs.Try.f52) c52.i c52.r c52.ob [⟨(.sl (.pair (.int .i64) (.pair (.int .i64) (.pair (.int .i64) (.pair (.int .i64) (.pair (.int .i64) .unit)))))), x1705⟩, ⟨(.int .i64), x1706⟩, ⟨(.sl (.int .u8)), x1707⟩, ⟨(.ar 16 (.int .i64)), x1708⟩] = e52 N x1705 x1706 x1707 x1708 := by kernel_rfl
theorem c52_ok (N : Nat) (x1705 : (List (Int × (Int × (Int × (Int × (Int × Unit))))))) (x1706 : Int) (x1707 : (List Int)) (x1708 : (List Int)) (n0 : Nat) (q : List DV) (h : e52 N x1705 x1706 x1707 x1708 = some (n0, q)) : CallOK Go.Proofs.Try.prog c52 [⟨(.sl (.pair (.int .i64) (.pair (.int .i64) (.pair (.int .i64) (.pair (.int .i64) (.pair (.int .i64) .unit)))))), x1705⟩, ⟨(.int .i64), x1706⟩, ⟨(.sl (.int .u8)), x1707⟩, ⟨(.ar 16 (.int .i64)), x1708⟩] q :=
  fn_ok (l := t52 N) (t := [(0, x52_0 N), (2, x52_2 N)]) ti_ok hmix (t52_ok N) (a52 N) fn52 (by kernel_rfl) (by kernel_rfl) ⟨x52_0_ok N, x52_2_ok N, trivial⟩ ((k52 N x1705 x1706 x1707 x1708).trans h)
noncomputable def x52 (N : Nat) : List DV → (List DV → Option Rs) → Option Rs := mkX [(.sl (.pair (.int .i64) (.pair (.int .i64) (.pair (.int .i64) (.pair (.int .i64) (.pair (.int .i64) .unit)))))), (.int .i64), (.sl (.int .u8)), (.ar 16 (.int .i64))] [.bool] (e52 N)
theorem x52_ok (N : Nat) : CEok Go.Proofs.Try.prog (c52, x52 N) := mkX_ok fun ys n q h => c52_ok N ys.1 ys.2.1 ys.2.2.1 ys.2.2.2.1 n q h
def c79 : CS := { id := 12, fn := 79, i := { av := [.agg [(.d (.int .i64)), (.d (.int .i64)), (.d (.int .i64)), (.d (.int .i64)), (.d (.int .i64))]], bx := [] }, r := [.one (.d .bool)], one := true, ob := [] }
def h79 : Hi := { cs := [((1, 2), c25)], ls := [], sp := [9, 13] }
noncomputable def t79 (N : Nat) : List CE := [(c25, x25 N)]
theorem t79_ok (N : Nat) : AllP (CEok Go.Proofs.Try.prog) (t79 N) := ⟨x25_ok N, trivial⟩
theorem a79 (N : Nat) : AllP (fun e => lookC (t79 N) e.2.id = some e.2) h79.cs := ⟨rfl, trivial⟩
theorem fn79 : Fn Go.Proofs.Try.prog 79 Go.Proofs.Try.f79 (codeOf Go.Proofs.Try.f79) := ⟨by kernel_rfl, by kernel_rfl, by kernel_rfl, by kernel_rfl⟩
noncomputable def on79 {R : Type} (r : Option Rs) (k : Cur (Option R) [.bool]) : Option R := onR [.bool] r k
noncomputable def e79 (N : Nat) (x1786 : Int) (x1787 : Int) (x1788 : Int) (x1789 : Int) (x1790 : Int) : Option Rs :=
  on25 (e25 N (x1786 : Int)) (fun x1791 =>
    match ((x1791 == (6 : Int)) : Bool) with
    | true =>
      some (0, [⟨.bool, (true : Bool)⟩])
    | false =>
      match ((x1791 == (7 : Int)) : Bool) with
      | true =>
        some (0, [⟨.bool, (true : Bool)⟩])
      | false =>
        some (0, [⟨.bool, ((x1791 == (8 : Int)) : Bool)⟩]))
theorem k79 (N : Nat) (x1786 : Int) (x1787 : Int) (x1788 : Int) (x1789 : Int) (x1790 : Int) : den cx0 h79 (ctL (t79 N)) (ltL []) Go.Proofs.Try.f79 (codeOf Go.Proofs.Try.f79) c79.i c79.r c79.ob [⟨(.int .i64), x1786⟩, ⟨(.int .i64), x1787⟩, ⟨(.int .i64), x1788⟩, ⟨(.int .i64), x1789⟩, ⟨(.int .i64), x1790⟩] = e79 N x1786 x1787 x1788 x1789 x1790 := by kernel_rfl
theorem c79_ok (N : Nat) (x1786 : Int) (x1787 : Int) (x1788 : Int) (x1789 : Int) (x1790 : Int) (n0 : Nat) (q : List DV) (h : e79 N x1786 x1787 x1788 x1789 x1790 = some (n0, q)) : CallOK Go.Proofs.Try.prog c79 [⟨(.int .i64), x1786⟩, ⟨(.int .i64), x1787⟩, ⟨(.int .i64), x1788⟩, ⟨(.int .i64), x1789⟩, ⟨(.int .i64), x1790⟩] q :=
  fn_ok (l := t79 N) (t := []) ti_ok hmix (t79_ok N) (a79 N) fn79 (by kernel_rfl) (by kernel_rfl) trivial ((k79 N x1786 x1787 x1788 x1789 x1790).trans h)
noncomputable def x79 (N : Nat) : List DV → (List DV → Option Rs) → Option Rs := mkX [(.int .i64), (.int .i64), (.int .i64), (.int .i64), (.int .i64)] [.bool] (e79 N)
theorem x79_ok (N : Nat) : CEok Go.Proofs.Try.prog (c79, x79 N) := mkX_ok fun ys n q h => c79_ok N ys.1 ys.2.1 ys.2.2.1 ys.2.2.2.1 ys.2.2.2.2.1 n q h
def c74 : CS := { id := 13, fn := 74, i := { av := [.agg [(.d (.sl (.pair (.int .i64) (.pair (.int .i64) (.pair (.int .i64) (.pair (.int .i64) (.pair (.int .i64) .unit))))))), (.d (.int .i64)), (.d (.sl (.int .u8)))]], bx := [] }, r := [.one (.o (.int .i64))], one := true, ob := [] }
def s74_0 : LS := { h := { av := [.no, .one (.p 0 0 [1, 1, 1]), .no, .one (.o .bool), .one (.d (.int .i64)), .no, .no, .no, .no, .no, .no, .no, .no, .no, .no, .no, .no, .no, .no, .no, .no, .no, .no, .no, .no, .no, .no, .no, .no, .no, .no, .no, .no, .no, .no, .no, .no, .no, .no, .no, .no, .no, .no, .no, .no, .no, .no, .no, .no, .no, .no, .no, .no, .no, .no, .no, .no, .no, .no, .no, .no, .no, .no, .no, .no], bx := [[(.d (.sl (.pair (.int .i64) (.pair (.int .i64) (.pair (.int .i64) (.pair (.int .i64) (.pair (.int .i64) .unit))))))), (.d (.int .i64)), (.d (.sl (.int .u8)))]] }, x := [(1, { av := [.no, .no, .no, .one (.o .bool), .no, .no, .no, .no, .no, .no, .no, .no, .no, .no, .no, .no, .no, .no, .no, .no, .no, .no, .no, .no, .no, .no, .no, .no, .no, .no, .no, .no, .no, .no, .no, .no, .no, .no, .no, .no, .no, .no, .no, .no, .no, .no, .no, .no, .no, .no, .no, .no, .no, .no, .no, .no, .no, .no, .no, .no, .no, .no, .no, .no, .no], bx := [] })] }
def s74_2 : LS := { h := { av := [.no, .no, .no, .one (.o .bool), .no, .no, .one (.o (.int .i64)), .one (.d (.int .i64)), .no, .no, .no, .no, .no, .no, .no, .no, .no, .no, .no, .no, .no, .no, .no, .no, .no, .no, .no, .no, .no, .no, .no, .no, .no, .no, .no, .no, .no, .no, .no, .no, .no, .no, .no, .no, .no, .no, .no, .no, .no, .no, .no, .no, .no, .no, .no, .no, .no, .no, .no, .no, .no, .no, .no, .no, .no], bx := [] }, x := [(3, { av := [.no, .no, .no, .no, .no, .no, .one (.o (.int .i64)), .no, .no, .no, .no, .no, .no, .no, .no, .no, .no, .no, .no, .no, .no, .no, .no, .no, .no, .no, .no, .no, .no, .no, .no, .no, .no, .no, .no, .no, .no, .no, .no, .no, .no, .no, .no, .no, .no, .no, .no, .no, .no, .no, .no, .no, .no, .no, .no, .no, .no, .no, .no, .no, .no, .no, .no, .no, .no], bx := [] })] }
def h74 : Hi := { cs := [((1, 1), c22), ((8, 2), c75), ((11, 5), c79)], ls := [(0, s74_0), (2, s74_2)], sp := [10, 21, 28, 38, 45, 53, 59] }
noncomputable def t74 (N : Nat) : List CE := [(c22, x22 N), (c75, x75 N), (c79, x79 N)]
theorem t74_ok (N : Nat) : AllP (CEok Go.Proofs.Try.prog) (t74 N) := ⟨x22_ok N, x75_ok N, x79_ok N, trivial⟩
theorem a74 (N : Nat) : AllP (fun e => lookC (t74 N) e.2.id = some e.2) h74.cs := ⟨rfl, rfl, rfl, trivial⟩
theorem fn74 : Fn Go.Proofs.Try.prog 74 Go.Proofs.Try.f74 (codeOf Go.Proofs.Try.f74) := ⟨by kernel_rfl, by kernel_rfl, by kernel_rfl, by kernel_rfl⟩
noncomputable def on74_0 {R : Type} (r : Option Rs) (k1 : Cur (Option R) [(.sl .bool)]) : Option R :=
  match r with
  | some (n, p) => match n with
    | 1 => onG [(.sl .bool)] p k1
    | _ => none
  | none => none
noncomputable def r74_0 (N : Nat) (again : (List Bool) → Int → (List (Int × (Int × (Int × (Int × (Int × Unit)))))) → Int → (List Int) → Option Rs) (x1773 : (List Bool)) (x1774 : Int) (x1775 : (List (Int × (Int × (Int × (Int × (Int × Unit))))))) (x1776 : Int) (x1777 : (List Int)) : Option Rs :=
  match ((decide (x1774 < ((List.length x1775 : Nat) : Int))) : Bool) with
  | true =>
    on75 (e75 N (x1775 : (List (Int × (Int × (Int × (Int × (Int × Unit))))))) (x1776 : Int) (x1777 : (List Int)) (x1774 : Int)) (fun x1778 =>
      match ((decide (x1778 ≥ (0 : Int))) : Bool) with
      | true =>
        match ((idx x1778 (List.length x1773)) : Bool) with
        | true =>
          match ((idx x1774 (List.length x1775)) : Bool) with
          | true =>
            on79 (e79 N ((List.getD x1775 (Int.toNat x1774) ((0 : Int), ((0 : Int), ((0 : Int), ((0 : Int), ((0 : Int), ())))))).1 : Int) ((List.getD x1775 (Int.toNat x1774) ((0 : Int), ((0 : Int), ((0 : Int), ((0 : Int), ((0 : Int), ())))))).2.1 : Int) ((List.getD x1775 (Int.toNat x1774) ((0 : Int), ((0 : Int), ((0 : Int), ((0 : Int), ((0 : Int), ())))))).2.2.1 : Int) ((List.getD x1775 (Int.toNat x1774) ((0 : Int), ((0 : Int), ((0 : Int), ((0 : Int), ((0 : Int), ())))))).2.2.2.1 : Int) ((List.getD x1775 (Int.toNat x1774) ((0 : Int), ((0 : Int), ((0 : Int), ((0 : Int), ((0 : Int), ())))))).2.2.2.2.1 : Int)) (fun x1779 =>
              match (x1779 : Bool) with
              | true =>
                match ((decide ((IntKind.i64.wrap (x1774 + (1 : Int))) < ((List.length x1775 : Nat) : Int))) : Bool) with
                | true =>
                  match ((idx (IntKind.i64.wrap (x1774 + (1 : Int))) (List.length (List.set x1773 (Int.toNat x1778) true))) : Bool) with
                  | true =>
                    again ((List.set (List.set x1773 (Int.toNat x1778) true) (Int.toNat (IntKind.i64.wrap (x1774 + (1 : Int)))) true) : (List Bool)) ((IntKind.i64.wrap (x1774 + (1 : Int))) : Int) (x1775 : (List (Int × (Int × (Int × (Int × (Int × Unit))))))) (x1776 : Int) (x1777 : (List Int))
                  | false =>
                    none
                | false =>
                  again ((List.set x1773 (Int.toNat x1778) true) : (List Bool)) ((IntKind.i64.wrap (x1774 + (1 : Int))) : Int) (x1775 : (List (Int × (Int × (Int × (Int × (Int × Unit))))))) (x1776 : Int) (x1777 : (List Int))
              | false =>
                again ((List.set x1773 (Int.toNat x1778) true) : (List Bool)) ((IntKind.i64.wrap (x1774 + (1 : Int))) : Int) (x1775 : (List (Int × (Int × (Int × (Int × (Int × Unit))))))) (x1776 : Int) (x1777 : (List Int)))
          | false =>
            none
        | false =>
          none
      | false =>
        match ((idx x1774 (List.length x1775)) : Bool) with
        | true =>
          on79 (e79 N ((List.getD x1775 (Int.toNat x1774) ((0 : Int), ((0 : Int), ((0 : Int), ((0 : Int), ((0 : Int), ())))))).1 : Int) ((List.getD x1775 (Int.toNat x1774) ((0 : Int), ((0 : Int), ((0 : Int), ((0 : Int), ((0 : Int), ())))))).2.1 : Int) ((List.getD x1775 (Int.toNat x1774) ((0 : Int), ((0 : Int), ((0 : Int), ((0 : Int), ((0 : Int), ())))))).2.2.1 : Int) ((List.getD x1775 (Int.toNat x1774) ((0 : Int), ((0 : Int), ((0 : Int), ((0 : Int), ((0 : Int), ())))))).2.2.2.1 : Int) ((List.getD x1775 (Int.toNat x1774) ((0 : Int), ((0 : Int), ((0 : Int), ((0 : Int), ((0 : Int), ())))))).2.2.2.2.1 : Int)) (fun x1780 =>
            match (x1780 : Bool) with
            | true =>
              match ((decide ((IntKind.i64.wrap (x1774 + (1 : Int))) < ((List.length x1775 : Nat) : Int))) : Bool) with
              | true =>
                match ((idx (IntKind.i64.wrap (x1774 + (1 : Int))) (List.length x1773)) : Bool) with
                | true =>
                  again ((List.set x1773 (Int.toNat (IntKind.i64.wrap (x1774 + (1 : Int)))) true) : (List Bool)) ((IntKind.i64.wrap (x1774 + (1 : Int))) : Int) (x1775 : (List (Int × (Int × (Int × (Int × (Int × Unit))))))) (x1776 : Int) (x1777 : (List Int))
                | false =>
                  none
              | false =>
                again (x1773 : (List Bool)) ((IntKind.i64.wrap (x1774 + (1 : Int))) : Int) (x1775 : (List (Int × (Int × (Int × (Int × (Int × Unit))))))) (x1776 : Int) (x1777 : (List Int))
            | false =>
              again (x1773 : (List Bool)) ((IntKind.i64.wrap (x1774 + (1 : Int))) : Int) (x1775 : (List (Int × (Int × (Int × (Int × (Int × Unit))))))) (x1776 : Int) (x1777 : (List Int)))
        | false =>
          none)
  | false =>
    some (1, [⟨(.sl .bool), (x1773 : (List Bool))⟩])
noncomputable def l74_0 (N : Nat) : Nat → (List Bool) → Int → (List (Int × (Int × (Int × (Int × (Int × Unit)))))) → Int → (List Int) → Option Rs
  | 0, _, _, _, _, _ => none
  | n + 1, x1773, x1774, x1775, x1776, x1777 => r74_0 N (l74_0 N n) x1773 x1774 x1775 x1776 x1777
theorem on74_0_K (r : Option Rs) (K : Rs → Option Rs) (x : Rs) (h : on74_0 r (curK [(.sl .bool)] fun q => K (1, q)) = some x) : ∃ q, r = some q ∧ K q = some x := by
  unfold on74_0 at h
  split at h
  · split at h
    · exact ⟨_, rfl, onG_K h⟩
    · simp at h
  · simp at h
noncomputable def R74_0 (N : Nat) : (List DV → Option Rs) → List DV → Option Rs := round cx0 h74 (ctL (t74 N)) (ltL []) Go.Proofs.Try.f74.ntmps c74.i.bx.length 0 s74_0 (bodyAt Go.Proofs.Try.f74 0)
theorem r74_0_eq (N : Nat) (A : List DV → Option Rs) (x1773 : (List Bool)) (x1774 : Int) (x1775 : (List (Int × (Int × (Int × (Int × (Int × Unit))))))) (x1776 : Int) (x1777 : (List Int)) : R74_0 N A [⟨(.sl .bool), x1773⟩, ⟨(.int .i64), x1774⟩, ⟨(.sl (.pair (.int .i64) (.pair (.int .i64) (.pair (.int .i64) (.pair (.int .i64) (.pair (.int .i64) .unit)))))), x1775⟩, ⟨(.int .i64), x1776⟩, ⟨(.sl (.int .u8)), x1777⟩] = r74_0 N (fun x1773 x1774 x1775 x1776 x1777 => A [⟨(.sl .bool), x1773⟩, ⟨(.int .i64), x1774⟩, ⟨(.sl (.pair (.int .i64) (.pair (.int .i64) (.pair (.int .i64) (.pair (.int .i64) (.pair (.int .i64) .unit)))))), x1775⟩, ⟨(.int .i64), x1776⟩, ⟨(.sl (.int .u8)), x1777⟩]) x1773 x1774 x1775 x1776 x1777 := by kernel_rfl
theorem l74_0_eq (N : Nat) : ∀ (n : Nat) (x1773 : (List Bool)) (x1774 : Int) (x1775 : (List (Int × (Int × (Int × (Int × (Int × Unit))))))) (x1776 : Int) (x1777 : (List Int)), iter (R74_0 N) n [⟨(.sl .bool), x1773⟩, ⟨(.int .i64), x1774⟩, ⟨(.sl (.pair (.int .i64) (.pair (.int .i64) (.pair (.int .i64) (.pair (.int .i64) (.pair (.int .i64) .unit)))))), x1775⟩, ⟨(.int .i64), x1776⟩, ⟨(.sl (.int .u8)), x1777⟩] = l74_0 N n x1773 x1774 x1775 x1776 x1777
  | 0, _, _, _, _, _ => rfl
  | n + 1, x1773, x1774, x1775, x1776, x1777 => (r74_0_eq N (iter (R74_0 N) n) x1773 x1774 x1775 x1776 x1777).trans (congrArg (fun A => r74_0 N A x1773 x1774 x1775 x1776 x1777) (funext fun x1773 => funext fun x1774 => funext fun x1775 => funext fun x1776 => funext fun x1777 => l74_0_eq N n x1773 x1774 x1775 x1776 x1777))
noncomputable def x74_0 (N : Nat) : List DV → (Rs → Option Rs) → Option Rs := mkL [(.sl .bool), (.int .i64), (.sl (.pair (.int .i64) (.pair (.int .i64) (.pair (.int .i64) (.pair (.int .i64) (.pair (.int .i64) .unit)))))), (.int .i64), (.sl (.int .u8))] (l74_0 N N) fun r K => on74_0 r (curK [(.sl .bool)] fun q => K (1, q))
theorem x74_0_ok (N : Nat) : LEok Go.Proofs.Try.prog h74 (bodOf Go.Proofs.Try.f74) Go.Proofs.Try.f74.ntmps c74.i.bx.length (0, x74_0 N) :=
  mkL_ok on74_0_K (ls := s74_0) (body := bodyAt Go.Proofs.Try.f74 0) (by kernel_rfl) (by kernel_rfl) fun ys q h =>
    loop_ok (l := t74 N) (t := []) ti_ok hmix (t74_ok N) (a74 N) fn74 trivial (by kernel_rfl) (by kernel_rfl) (n := N) ((l74_0_eq N N ys.1 ys.2.1 ys.2.2.1 ys.2.2.2.1 ys.2.2.2.2.1).trans h)
noncomputable def on74_2 {R : Type} (r : Option Rs) (k3 : Cur (Option R) [(.sl (.int .i64))]) : Option R :=
  match r with
  | some (n, p) => match n with
    | 3 => onG [(.sl (.int .i64))] p k3
    | _ => none
  | none => none
noncomputable def r74_2 (N : Nat) (again : (List Bool) → (List Int) → Int → Option Rs) (x1782 : (List Bool)) (x1783 : (List Int)) (x1784 : Int) : Option Rs :=
  match ((decide (x1784 < ((List.length x1782 : Nat) : Int))) : Bool) with
  | true =>
    match ((idx x1784 (List.length x1782)) : Bool) with
    | true =>
      match ((List.getD x1782 (Int.toNat x1784) false) : Bool) with
      | true =>
        match ((decide ((List.length (x1783 : List Int) + List.length [x1784]) * 8 ≤ reach)) : Bool) with
        | true =>
          again (x1782 : (List Bool)) ((x1783 ++ [x1784]) : (List Int)) ((IntKind.i64.wrap (x1784 + (1 : Int))) : Int)
        | false =>
          none
      | false =>
        again (x1782 : (List Bool)) (x1783 : (List Int)) ((IntKind.i64.wrap (x1784 + (1 : Int))) : Int)
    | false =>
      none
  | false =>
    some (3, [⟨(.sl (.int .i64)), (x1783 : (List Int))⟩])
noncomputable def l74_2 (N : Nat) : Nat → (List Bool) → (List Int) → Int → Option Rs
  | 0, _, _, _ => none
  | n + 1, x1782, x1783, x1784 => r74_2 N (l74_2 N n) x1782 x1783 x1784
theorem on74_2_K (r : Option Rs) (K : Rs → Option Rs) (x : Rs) (h : on74_2 r (curK [(.sl (.int .i64))] fun q => K (3, q)) = some x) : ∃ q, r = some q ∧ K q = some x := by
  unfold on74_2 at h
  split at h
  · split at h
    · exact ⟨_, rfl, onG_K h⟩
    · simp at h
  · simp at h
noncomputable def R74_2 (N : Nat) : (List DV → Option Rs) → List DV → Option Rs := round cx0 h74 (ctL (t74 N)) (ltL []) Go.Proofs.Try.f74.ntmps c74.i.bx.length 2 s74_2 (bodyAt Go.Proofs.Try.f74 2)
theorem r74_2_eq (N : Nat) (A : List DV → Option Rs) (x1782 : (List Bool)) (x1783 : (List Int)) (x1784 : Int) : R74_2 N A [⟨(.sl .bool), x1782⟩, ⟨(.sl (.int .i64)), x1783⟩, ⟨(.int .i64), x1784⟩] = r74_2 N (fun x1782 x1783 x1784 => A [⟨(.sl .bool), x1782⟩, ⟨(.sl (.int .i64)), x1783⟩, ⟨(.int .i64), x1784⟩]) x1782 x1783 x1784 := by kernel_rfl
theorem l74_2_eq (N : Nat) : ∀ (n : Nat) (x1782 : (List Bool)) (x1783 : (List Int)) (x1784 : Int), iter (R74_2 N) n [⟨(.sl .bool), x1782⟩, ⟨(.sl (.int .i64)), x1783⟩, ⟨(.int .i64), x1784⟩] = l74_2 N n x1782 x1783 x1784
  | 0, _, _, _ => rfl
  | n + 1, x1782, x1783, x1784 => (r74_2_eq N (iter (R74_2 N) n) x1782 x1783 x1784).trans (congrArg (fun A => r74_2 N A x1782 x1783 x1784) (funext fun x1782 => funext fun x1783 => funext fun x1784 => l74_2_eq N n x1782 x1783 x1784))
noncomputable def x74_2 (N : Nat) : List DV → (Rs → Option Rs) → Option Rs := mkL [(.sl .bool), (.sl (.int .i64)), (.int .i64)] (l74_2 N N) fun r K => on74_2 r (curK [(.sl (.int .i64))] fun q => K (3, q))
theorem x74_2_ok (N : Nat) : LEok Go.Proofs.Try.prog h74 (bodOf Go.Proofs.Try.f74) Go.Proofs.Try.f74.ntmps c74.i.bx.length (2, x74_2 N) :=
  mkL_ok on74_2_K (ls := s74_2) (body := bodyAt Go.Proofs.Try.f74 2) (by kernel_rfl) (by kernel_rfl) fun ys q h =>
    loop_ok (l := t74 N) (t := []) ti_ok hmix (t74_ok N) (a74 N) fn74 trivial (by kernel_rfl) (by kernel_rfl) (n := N) ((l74_2_eq N N ys.1 ys.2.1 ys.2.2.1).trans h)
noncomputable def on74 {R : Type} (r : Option Rs) (k : Cur (Option R) [(.sl (.int .i64))]) : Option R := onR [(.sl (.int .i64))] r k
noncomputable def e74 (N : Nat) (x1769 : (List (Int × (Int × (Int × (Int × (Int × Unit))))))) (x1770 : Int) (x1771 : (List Int)) : Option Rs :=
  on22 (e22 N (x1769 : (List (Int × (Int × (Int × (Int × (Int × Unit))))))) (x1770 : Int) (x1771 : (List Int))) (fun x1772 =>
    match ((!x1772) : Bool) with
    | true =>
      some (0, [⟨(.sl (.int .i64)), (([] : List Int) : (List Int))⟩])
    | false =>
      match ((decide (0 ≤ ((List.length x1769 : Nat) : Int) ∧ ((List.length x1769 : Nat) : Int) ≤ ((List.length x1769 : Nat) : Int) ∧ ((List.length x1769 : Nat) : Int) * ((1 : Nat) : Int) ≤ ((reach : Nat) : Int) ∧ ((List.length x1769 : Nat) : Int) ≤ ((reach : Nat) : Int))) : Bool) with
      | true =>
        match ((idx (0 : Int) (List.length (List.replicate (Int.toNat ((List.length x1769 : Nat) : Int)) false))) : Bool) with
        | true =>
          on74_0 (l74_0 N N ((List.set (List.replicate (Int.toNat ((List.length x1769 : Nat) : Int)) false) (Int.toNat (0 : Int)) true) : (List Bool)) ((0 : Int) : Int) (x1769 : (List (Int × (Int × (Int × (Int × (Int × Unit))))))) (x1770 : Int) (x1771 : (List Int))) (fun x1781 =>
            on74_2 (l74_2 N N (x1781 : (List Bool)) (([] : List Int) : (List Int)) ((0 : Int) : Int)) (fun x1785 =>
              some (0, [⟨(.sl (.int .i64)), (x1785 : (List Int))⟩])))
        | false =>
          none
      | false =>
        none)
theorem k74 (N : Nat) (x1769 : (List (Int × (Int × (Int × (Int × (Int × Unit))))))) (x1770 : Int) (x1771 : (List Int)) : den cx0 h74 (ctL (t74 N)) (ltL [(0, x74_0 N), (2, x74_2 N)]) Go.Proofs.Try.f74 (codeOf Go.Proofs.Try.f74) c74.i c74.r c74.ob [⟨(.sl (.pair (.int .i64) (.pair (.int .i64) (.pair (.int .i64) (.pair (.int .i64) (.pair (.int .i64) .unit)))))), x1769⟩, ⟨(.int .i64), x1770⟩, ⟨(.sl (.int .u8)), x1771⟩] = e74 N x1769 x1770 x1771 := by kernel_rfl
theorem c74_ok (N : Nat) (x1769 : (List (Int × (Int × (Int × (Int × (Int × Unit))))))) (x1770 : Int) (x1771 : (List Int)) (n0 : Nat) (q : List DV) (h : e74 N x1769 x1770 x1771 = some (n0, q)) : CallOK Go.Proofs.Try.prog c74 [⟨(.sl (.pair (.int .i64) (.pair (.int .i64) (.pair (.int .i64) (.pair (.int .i64) (.pair (.int .i64) .unit)))))), x1769⟩, ⟨(.int .i64), x1770⟩, ⟨(.sl (.int .u8)), x1771⟩] q :=
  fn_ok (l := t74 N) (t := [(0, x74_0 N), (2, x74_2 N)]) ti_ok hmix (t74_ok N) (a74 N) fn74 (by kernel_rfl) (by kernel_rfl) ⟨x74_0_ok N, x74_2_ok N, trivial⟩ ((k74 N x1769 x1770 x1771).trans h)
noncomputable def x74 (N : Nat) : List DV → (List DV → Option Rs) → Option Rs := mkX [(.sl (.pair (.int .i64) (.pair (.int .i64) (.pair (.int .i64) (.pair (.int .i64) (.pair (.int .i64) .unit)))))), (.int .i64), (.sl (.int .u8))] [(.sl (.int .i64))] (e74 N)
theorem x74_ok (N : Nat) : CEok Go.Proofs.Try.prog (c74, x74 N) := mkX_ok fun ys n q h => c74_ok N ys.1 ys.2.1 ys.2.2.1 n q h
def c61 : CS := { id := 14, fn := 61, i := { av := [.one (.d (.sl (.int .i64))), .one (.d (.int .i64))], bx := [] }, r := [.one (.d (.int .i64))], one := true, ob := [] }
def s61_0 : LS := { h := { av := [.one (.d (.sl (.int .i64))), .one (.d (.int .i64)), .no, .no, .no, .one (.d (.int .i64)), .no, .no, .no, .no, .no, .no, .no, .no, .no, .no, .no, .no, .no], bx := [] }, x := [(0, { av := [.no, .no, .no, .no, .one (.d (.int .i64)), .no, .no, .no, .no, .no, .no, .no, .no, .no, .no, .no, .no, .no, .no], bx := [] }), (1, { av := [.no, .no, .no, .no, .no, .no, .no, .no, .no, .no, .no, .no, .no, .no, .no, .no, .no, .no, .no], bx := [] })] }
def h61 : Hi := { cs := [], ls := [(0, s61_0)], sp := [9, 17] }
noncomputable def t61 (N : Nat) : List CE := []
theorem t61_ok (N : Nat) : AllP (CEok Go.Proofs.Try.prog) (t61 N) := trivial
theorem a61 (N : Nat) : AllP (fun e => lookC (t61 N) e.2.id = some e.2) h61.cs := trivial
theorem fn61 : Fn Go.Proofs.Try.prog 61 Go.Proofs.Try.f61 (codeOf Go.Proofs.Try.f61) := ⟨by kernel_rfl, by kernel_rfl, by kernel_rfl, by kernel_rfl⟩
noncomputable def on61_0 {R : Type} (r : Option Rs) (k0 : Cur (Option R) [(.int .i64)]) (k1 : Cur (Option R) []) : Option R :=
  match r with
  | some (n, p) => match n with
    | 0 => onG [(.int .i64)] p k0
    | 1 => onG [] p k1
    | _ => none
  | none => none
noncomputable def r61_0 (N : Nat) (again : (List Int) → Int → Int → Option Rs) (x1794 : (List Int)) (x1795 : Int) (x1796 : Int) : Option Rs :=
  match ((decide (x1796 < ((List.length x1794 : Nat) : Int))) : Bool) with
  | true =>
    match ((idx x1796 (List.length x1794)) : Bool) with
    | true =>
      match (((List.getD x1794 (Int.toNat x1796) (0 : Int)) == x1795) : Bool) with
      | true =>
        some (0, [⟨(.int .i64), (x1796 : Int)⟩])
      | false =>
        again (x1794 : (List Int)) (x1795 : Int) ((IntKind.i64.wrap (x1796 + (1 : Int))) : Int)
    | false =>
      none
  | false =>
    some (1, [])
noncomputable def l61_0 (N : Nat) : Nat → (List Int) → Int → Int → Option Rs
  | 0, _, _, _ => none
  | n + 1, x1794, x1795, x1796 => r61_0 N (l61_0 N n) x1794 x1795 x1796
theorem on61_0_K (r : Option Rs) (K : Rs → Option Rs) (x : Rs) (h : on61_0 r (curK [(.int .i64)] fun q => K (0, q)) (curK [] fun q => K (1, q)) = some x) : ∃ q, r = some q ∧ K q = some x := by
  unfold on61_0 at h
  split at h
  · split at h
    · exact ⟨_, rfl, onG_K h⟩
    · exact ⟨_, rfl, onG_K h⟩
    · simp at h
  · simp at h
noncomputable def R61_0 (N : Nat) : (List DV → Option Rs) → List DV → Option Rs := round cx0 h61 (ctL (t61 N)) (ltL []) Go.Proofs.Try.f61.ntmps c61.i.bx.length 0 s61_0 (bodyAt Go.Proofs.Try.f61 0)
theorem r61_0_eq (N : Nat) (A : List DV → Option Rs) (x1794 : (List Int)) (x1795 : Int) (x1796 : Int) : R61_0 N A [⟨(.sl (.int .i64)), x1794⟩, ⟨(.int .i64), x1795⟩, ⟨(.int .i64), x1796⟩] = r61_0 N (fun x1794 x1795 x1796 => A [⟨(.sl (.int .i64)), x1794⟩, ⟨(.int .i64), x1795⟩, ⟨(.int .i64), x1796⟩]) x1794 x1795 x1796 := by kernel_rfl
theorem l61_0_eq (N : Nat) : ∀ (n : Nat) (x1794 : (List Int)) (x1795 : Int) (x1796 : Int), iter (R61_0 N) n [⟨(.sl (.int .i64)), x1794⟩, ⟨(.int .i64), x1795⟩, ⟨(.int .i64), x1796⟩] = l61_0 N n x1794 x1795 x1796
  | 0, _, _, _ => rfl
  | n + 1, x1794, x1795, x1796 => (r61_0_eq N (iter (R61_0 N) n) x1794 x1795 x1796).trans (congrArg (fun A => r61_0 N A x1794 x1795 x1796) (funext fun x1794 => funext fun x1795 => funext fun x1796 => l61_0_eq N n x1794 x1795 x1796))
noncomputable def x61_0 (N : Nat) : List DV → (Rs → Option Rs) → Option Rs := mkL [(.sl (.int .i64)), (.int .i64), (.int .i64)] (l61_0 N N) fun r K => on61_0 r (curK [(.int .i64)] fun q => K (0, q)) (curK [] fun q => K (1, q))
theorem x61_0_ok (N : Nat) : LEok Go.Proofs.Try.prog h61 (bodOf Go.Proofs.Try.f61) Go.Proofs.Try.f61.ntmps c61.i.bx.length (0, x61_0 N) :=
  mkL_ok on61_0_K (ls := s61_0) (body := bodyAt Go.Proofs.Try.f61 0) (by kernel_rfl) (by kernel_rfl) fun ys q h =>
    loop_ok (l := t61 N) (t := []) ti_ok hmix (t61_ok N) (a61 N) fn61 trivial (by kernel_rfl) (by kernel_rfl) (n := N) ((l61_0_eq N N ys.1 ys.2.1 ys.2.2.1).trans h)
noncomputable def on61 {R : Type} (r : Option Rs) (k : Cur (Option R) [(.int .i64)]) : Option R := onR [(.int .i64)] r k
noncomputable def e61 (N : Nat) (x1792 : (List Int)) (x1793 : Int) : Option Rs :=
  on61_0 (l61_0 N N (x1792 : (List Int)) (x1793 : Int) ((0 : Int) : Int)) (fun x1797 =>
    some (0, [⟨(.int .i64), (x1797 : Int)⟩])) (
    some (0, [⟨(.int .i64), ((-1 : Int) : Int)⟩]))
theorem k61 (N : Nat) (x1792 : (List Int)) (x1793 : Int) : den cx0 h61 (ctL (t61 N)) (ltL [(0, x61_0 N)]) Go.Proofs.Try.f61 (codeOf Go.Proofs.Try.f61) c61.i c61.r c61.ob [⟨(.sl (.int .i64)), x1792⟩, ⟨(.int .i64), x1793⟩] = e61 N x1792 x1793 := by kernel_rfl
theorem c61_ok (N : Nat) (x1792 : (List Int)) (x1793 : Int) (n0 : Nat) (q : List DV) (h : e61 N x1792 x1793 = some (n0, q)) : CallOK Go.Proofs.Try.prog c61 [⟨(.sl (.int .i64)), x1792⟩, ⟨(.int .i64), x1793⟩] q :=
  fn_ok (l := t61 N) (t := [(0, x61_0 N)]) ti_ok hmix (t61_ok N) (a61 N) fn61 (by kernel_rfl) (by kernel_rfl) ⟨x61_0_ok N, trivial⟩ ((k61 N x1792 x1793).trans h)
noncomputable def x61 (N : Nat) : List DV → (List DV → Option Rs) → Option Rs := mkX [(.sl (.int .i64)), (.int .i64)] [(.int .i64)] (e61 N)
theorem x61_ok (N : Nat) : CEok Go.Proofs.Try.prog (c61, x61 N) := mkX_ok fun ys n q h => c61_ok N ys.1 ys.2.1 n q h
def c53 : CS := { id := 15, fn := 53, i := { av := [.agg [(.d (.sl (.pair (.int .i64) (.pair (.int .i64) (.pair (.int .i64) (.pair (.int .i64) (.pair (.int .i64) .unit))))))), (.d (.int .i64)), (.d (.sl (.int .u8)))]], bx := [] }, r := [.one (.o (.pair (.int .i64) (.pair (.int .i64) (.pair (.int .i64) (.pair (.int .i64) (.pair .nl (.pair .nl .unit)))))))], one := true, ob := [] }
def s53_0 : LS := { h := { av := [.no, .one (.p 0 0 [1, 1, 1]), .no, .one (.o (.int .i64)), .one (.o (.pair (.int .i64) (.pair (.int .i64) (.pair (.int .i64) (.pair (.int .i64) (.pair .nl (.pair .nl .unit))))))), .one (.d (.int .i64)), .no, .no, .no, .no, .no, .no, .no, .no, .no, .no, .no, .no, .no, .no, .no, .no, .no, .no, .no, .no, .no, .no, .no, .no, .no, .no, .no, .no, .no, .no, .no, .no, .no, .no, .no, .no, .no, .no, .no, .no, .no, .no, .no, .no, .no, .no, .no, .no, .no, .no, .no, .no, .no, .no, .no, .no, .no, .no, .no, .no, .no, .no, .no, .no, .no, .no], bx := [[(.d (.sl (.pair (.int .i64) (.pair (.int .i64) (.pair (.int .i64) (.pair (.int .i64) (.pair (.int .i64) .unit))))))), (.d (.int .i64)), (.d (.sl (.int .u8)))]] }, x := [(1, { av := [.no, .no, .no, .no, .one (.o (.pair (.int .i64) (.pair (.int .i64) (.pair (.int .i64) (.pair (.int .i64) (.pair .nl (.pair .nl .unit))))))), .no, .no, .no, .no, .no, .no, .no, .no, .no, .no, .no, .no, .no, .no, .no, .no, .no, .no, .no, .no, .no, .no, .no, .no, .no, .no, .no, .no, .no, .no, .no, .no, .no, .no, .no, .no, .no, .no, .no, .no, .no, .no, .no, .no, .no, .no, .no, .no, .no, .no, .no, .no, .no, .no, .no, .no, .no, .no, .no, .no, .no, .no, .no, .no, .no, .no, .no], bx := [] })] }
def h53 : Hi := { cs := [((1, 1), c74), ((11, 3), c61), ((12, 4), c75), ((14, 2), c61)], ls := [(0, s53_0)], sp := [14, 29, 46, 50, 62] }
noncomputable def t53 (N : Nat) : List CE := [(c74, x74 N), (c61, x61 N), (c75, x75 N)]
theorem t53_ok (N : Nat) : AllP (CEok Go.Proofs.Try.prog) (t53 N) := ⟨x74_ok N, x61_ok N, x75_ok N, trivial⟩
theorem a53 (N : Nat) : AllP (fun e => lookC (t53 N) e.2.id = some e.2) h53.cs := ⟨rfl, rfl, rfl, rfl, trivial⟩
theorem fn53 : Fn Go.Proofs.Try.prog 53 Go.Proofs.Try.f53 (codeOf Go.Proofs.Try.f53) := ⟨by kernel_rfl, by kernel_rfl, by kernel_rfl, by kernel_rfl⟩
noncomputable def on53_0 {R : Type} (r : Option Rs) (k1 : Cur (Option R) [(.sl (.pair (.int .i64) (.pair (.int .i64) (.pair (.int .i64) (.pair (.int .i64) (.pair .nl (.pair .nl .unit)))))))]) : Option R :=
  match r with
  | some (n, p) => match n with
    | 1 => onG [(.sl (.pair (.int .i64) (.pair (.int .i64) (.pair (.int .i64) (.pair (.int .i64) (.pair .nl (.pair .nl .unit)))))))] p k1
    | _ => none
  | none => none
noncomputable def r53_0 (N : Nat) (again : (List Int) → (List (Int × (Int × (Int × (Int × (Unit × (Unit × Unit))))))) → Int → (List (Int × (Int × (Int × (Int × (Int × Unit)))))) → Int → (List Int) → Option Rs) (x1748 : (List Int)) (x1749 : (List (Int × (Int × (Int × (Int × (Unit × (Unit × Unit)))))))) (x1750 : Int) (x1751 : (List (Int × (Int × (Int × (Int × (Int × Unit))))))) (x1752 : Int) (x1753 : (List Int)) : Option Rs :=
  match ((decide (x1750 < ((List.length x1748 : Nat) : Int))) : Bool) with
  | true =>
    match ((idx x1750 (List.length x1748)) : Bool) with
    | true =>
      match ((decide ((IntKind.i64.wrap (x1750 + (1 : Int))) < ((List.length x1748 : Nat) : Int))) : Bool) with
      | true =>
        match ((idx (IntKind.i64.wrap (x1750 + (1 : Int))) (List.length x1748)) : Bool) with
        | true =>
          match ((idx (IntKind.i64.wrap ((List.getD x1748 (Int.toNat (IntKind.i64.wrap (x1750 + (1 : Int)))) (0 : Int)) - (1 : Int))) (List.length x1751)) : Bool) with
          | true =>
            match (((List.getD x1751 (Int.toNat (IntKind.i64.wrap ((List.getD x1748 (Int.toNat (IntKind.i64.wrap (x1750 + (1 : Int)))) (0 : Int)) - (1 : Int)))) ((0 : Int), ((0 : Int), ((0 : Int), ((0 : Int), ((0 : Int), ())))))).1 != (40 : Int)) : Bool) with
            | true =>
              match (((List.getD x1751 (Int.toNat (IntKind.i64.wrap ((List.getD x1748 (Int.toNat (IntKind.i64.wrap (x1750 + (1 : Int)))) (0 : Int)) - (1 : Int)))) ((0 : Int), ((0 : Int), ((0 : Int), ((0 : Int), ((0 : Int), ())))))).1 != (41 : Int)) : Bool) with
              | true =>
                on61 (e61 N (x1748 : (List Int)) ((List.getD x1748 (Int.toNat (IntKind.i64.wrap (x1750 + (1 : Int)))) (0 : Int)) : Int)) (fun x1754 =>
                  on75 (e75 N (x1751 : (List (Int × (Int × (Int × (Int × (Int × Unit))))))) (x1752 : Int) (x1753 : (List Int)) ((IntKind.i64.wrap ((List.getD x1748 (Int.toNat (IntKind.i64.wrap (x1750 + (1 : Int)))) (0 : Int)) - (1 : Int))) : Int)) (fun x1755 =>
                    match ((decide (x1755 ≥ (0 : Int))) : Bool) with
                    | true =>
                      on61 (e61 N (x1748 : (List Int)) (x1755 : Int)) (fun x1756 =>
                        match ((decide ((List.length (x1749 : List (Int × (Int × (Int × (Int × (Unit × (Unit × Unit))))))) + List.length [((List.getD x1748 (Int.toNat x1750) (0 : Int)), ((List.getD x1748 (Int.toNat (IntKind.i64.wrap (x1750 + (1 : Int)))) (0 : Int)), (x1754, (x1756, ((), ((), ()))))))]) * 80 ≤ reach)) : Bool) with
                        | true =>
                          again (x1748 : (List Int)) ((x1749 ++ [((List.getD x1748 (Int.toNat x1750) (0 : Int)), ((List.getD x1748 (Int.toNat (IntKind.i64.wrap (x1750 + (1 : Int)))) (0 : Int)), (x1754, (x1756, ((), ((), ()))))))]) : (List (Int × (Int × (Int × (Int × (Unit × (Unit × Unit)))))))) ((IntKind.i64.wrap (x1750 + (1 : Int))) : Int) (x1751 : (List (Int × (Int × (Int × (Int × (Int × Unit))))))) (x1752 : Int) (x1753 : (List Int))
                        | false =>
                          none)
                    | false =>
                      match ((decide ((List.length (x1749 : List (Int × (Int × (Int × (Int × (Unit × (Unit × Unit))))))) + List.length [((List.getD x1748 (Int.toNat x1750) (0 : Int)), ((List.getD x1748 (Int.toNat (IntKind.i64.wrap (x1750 + (1 : Int)))) (0 : Int)), (x1754, ((-1 : Int), ((), ((), ()))))))]) * 80 ≤ reach)) : Bool) with
                      | true =>
                        again (x1748 : (List Int)) ((x1749 ++ [((List.getD x1748 (Int.toNat x1750) (0 : Int)), ((List.getD x1748 (Int.toNat (IntKind.i64.wrap (x1750 + (1 : Int)))) (0 : Int)), (x1754, ((-1 : Int), ((), ((), ()))))))]) : (List (Int × (Int × (Int × (Int × (Unit × (Unit × Unit)))))))) ((IntKind.i64.wrap (x1750 + (1 : Int))) : Int) (x1751 : (List (Int × (Int × (Int × (Int × (Int × Unit))))))) (x1752 : Int) (x1753 : (List Int))
                      | false =>
                        none))
              | false =>
                on75 (e75 N (x1751 : (List (Int × (Int × (Int × (Int × (Int × Unit))))))) (x1752 : Int) (x1753 : (List Int)) ((IntKind.i64.wrap ((List.getD x1748 (Int.toNat (IntKind.i64.wrap (x1750 + (1 : Int)))) (0 : Int)) - (1 : Int))) : Int)) (fun x1757 =>
                  match ((decide (x1757 ≥ (0 : Int))) : Bool) with
                  | true =>
                    on61 (e61 N (x1748 : (List Int)) (x1757 : Int)) (fun x1758 =>
                      match ((decide ((List.length (x1749 : List (Int × (Int × (Int × (Int × (Unit × (Unit × Unit))))))) + List.length [((List.getD x1748 (Int.toNat x1750) (0 : Int)), ((List.getD x1748 (Int.toNat (IntKind.i64.wrap (x1750 + (1 : Int)))) (0 : Int)), ((-1 : Int), (x1758, ((), ((), ()))))))]) * 80 ≤ reach)) : Bool) with
                      | true =>
                        again (x1748 : (List Int)) ((x1749 ++ [((List.getD x1748 (Int.toNat x1750) (0 : Int)), ((List.getD x1748 (Int.toNat (IntKind.i64.wrap (x1750 + (1 : Int)))) (0 : Int)), ((-1 : Int), (x1758, ((), ((), ()))))))]) : (List (Int × (Int × (Int × (Int × (Unit × (Unit × Unit)))))))) ((IntKind.i64.wrap (x1750 + (1 : Int))) : Int) (x1751 : (List (Int × (Int × (Int × (Int × (Int × Unit))))))) (x1752 : Int) (x1753 : (List Int))
                      | false =>
                        none)
                  | false =>
                    match ((decide ((List.length (x1749 : List (Int × (Int × (Int × (Int × (Unit × (Unit × Unit))))))) + List.length [((List.getD x1748 (Int.toNat x1750) (0 : Int)), ((List.getD x1748 (Int.toNat (IntKind.i64.wrap (x1750 + (1 : Int)))) (0 : Int)), ((-1 : Int), ((-1 : Int), ((), ((), ()))))))]) * 80 ≤ reach)) : Bool) with
                    | true =>
                      again (x1748 : (List Int)) ((x1749 ++ [((List.getD x1748 (Int.toNat x1750) (0 : Int)), ((List.getD x1748 (Int.toNat (IntKind.i64.wrap (x1750 + (1 : Int)))) (0 : Int)), ((-1 : Int), ((-1 : Int), ((), ((), ()))))))]) : (List (Int × (Int × (Int × (Int × (Unit × (Unit × Unit)))))))) ((IntKind.i64.wrap (x1750 + (1 : Int))) : Int) (x1751 : (List (Int × (Int × (Int × (Int × (Int × Unit))))))) (x1752 : Int) (x1753 : (List Int))
                    | false =>
                      none)
            | false =>
              on75 (e75 N (x1751 : (List (Int × (Int × (Int × (Int × (Int × Unit))))))) (x1752 : Int) (x1753 : (List Int)) ((IntKind.i64.wrap ((List.getD x1748 (Int.toNat (IntKind.i64.wrap (x1750 + (1 : Int)))) (0 : Int)) - (1 : Int))) : Int)) (fun x1759 =>
                match ((decide (x1759 ≥ (0 : Int))) : Bool) with
                | true =>
                  on61 (e61 N (x1748 : (List Int)) (x1759 : Int)) (fun x1760 =>
                    match ((decide ((List.length (x1749 : List (Int × (Int × (Int × (Int × (Unit × (Unit × Unit))))))) + List.length [((List.getD x1748 (Int.toNat x1750) (0 : Int)), ((List.getD x1748 (Int.toNat (IntKind.i64.wrap (x1750 + (1 : Int)))) (0 : Int)), ((-1 : Int), (x1760, ((), ((), ()))))))]) * 80 ≤ reach)) : Bool) with
                    | true =>
                      again (x1748 : (List Int)) ((x1749 ++ [((List.getD x1748 (Int.toNat x1750) (0 : Int)), ((List.getD x1748 (Int.toNat (IntKind.i64.wrap (x1750 + (1 : Int)))) (0 : Int)), ((-1 : Int), (x1760, ((), ((), ()))))))]) : (List (Int × (Int × (Int × (Int × (Unit × (Unit × Unit)))))))) ((IntKind.i64.wrap (x1750 + (1 : Int))) : Int) (x1751 : (List (Int × (Int × (Int × (Int × (Int × Unit))))))) (x1752 : Int) (x1753 : (List Int))
                    | false =>
                      none)
                | false =>
                  match ((decide ((List.length (x1749 : List (Int × (Int × (Int × (Int × (Unit × (Unit × Unit))))))) + List.length [((List.getD x1748 (Int.toNat x1750) (0 : Int)), ((List.getD x1748 (Int.toNat (IntKind.i64.wrap (x1750 + (1 : Int)))) (0 : Int)), ((-1 : Int), ((-1 : Int), ((), ((), ()))))))]) * 80 ≤ reach)) : Bool) with
                  | true =>
                    again (x1748 : (List Int)) ((x1749 ++ [((List.getD x1748 (Int.toNat x1750) (0 : Int)), ((List.getD x1748 (Int.toNat (IntKind.i64.wrap (x1750 + (1 : Int)))) (0 : Int)), ((-1 : Int), ((-1 : Int), ((), ((), ()))))))]) : (List (Int × (Int × (Int × (Int × (Unit × (Unit × Unit)))))))) ((IntKind.i64.wrap (x1750 + (1 : Int))) : Int) (x1751 : (List (Int × (Int × (Int × (Int × (Int × Unit))))))) (x1752 : Int) (x1753 : (List Int))
                  | false =>
                    none)
          | false =>
            none
        | false =>
          none
      | false =>
        match ((idx (IntKind.i64.wrap (((List.length x1751 : Nat) : Int) - (1 : Int))) (List.length x1751)) : Bool) with
        | true =>
          match (((List.getD x1751 (Int.toNat (IntKind.i64.wrap (((List.length x1751 : Nat) : Int) - (1 : Int)))) ((0 : Int), ((0 : Int), ((0 : Int), ((0 : Int), ((0 : Int), ())))))).1 != (40 : Int)) : Bool) with
          | true =>
            match (((List.getD x1751 (Int.toNat (IntKind.i64.wrap (((List.length x1751 : Nat) : Int) - (1 : Int)))) ((0 : Int), ((0 : Int), ((0 : Int), ((0 : Int), ((0 : Int), ())))))).1 != (41 : Int)) : Bool) with
            | true =>
              on61 (e61 N (x1748 : (List Int)) (((List.length x1751 : Nat) : Int) : Int)) (fun x1761 =>
                on75 (e75 N (x1751 : (List (Int × (Int × (Int × (Int × (Int × Unit))))))) (x1752 : Int) (x1753 : (List Int)) ((IntKind.i64.wrap (((List.length x1751 : Nat) : Int) - (1 : Int))) : Int)) (fun x1762 =>
                  match ((decide (x1762 ≥ (0 : Int))) : Bool) with
                  | true =>
                    on61 (e61 N (x1748 : (List Int)) (x1762 : Int)) (fun x1763 =>
                      match ((decide ((List.length (x1749 : List (Int × (Int × (Int × (Int × (Unit × (Unit × Unit))))))) + List.length [((List.getD x1748 (Int.toNat x1750) (0 : Int)), (((List.length x1751 : Nat) : Int), (x1761, (x1763, ((), ((), ()))))))]) * 80 ≤ reach)) : Bool) with
                      | true =>
                        again (x1748 : (List Int)) ((x1749 ++ [((List.getD x1748 (Int.toNat x1750) (0 : Int)), (((List.length x1751 : Nat) : Int), (x1761, (x1763, ((), ((), ()))))))]) : (List (Int × (Int × (Int × (Int × (Unit × (Unit × Unit)))))))) ((IntKind.i64.wrap (x1750 + (1 : Int))) : Int) (x1751 : (List (Int × (Int × (Int × (Int × (Int × Unit))))))) (x1752 : Int) (x1753 : (List Int))
                      | false =>
                        none)
                  | false =>
                    match ((decide ((List.length (x1749 : List (Int × (Int × (Int × (Int × (Unit × (Unit × Unit))))))) + List.length [((List.getD x1748 (Int.toNat x1750) (0 : Int)), (((List.length x1751 : Nat) : Int), (x1761, ((-1 : Int), ((), ((), ()))))))]) * 80 ≤ reach)) : Bool) with
                    | true =>
                      again (x1748 : (List Int)) ((x1749 ++ [((List.getD x1748 (Int.toNat x1750) (0 : Int)), (((List.length x1751 : Nat) : Int), (x1761, ((-1 : Int), ((), ((), ()))))))]) : (List (Int × (Int × (Int × (Int × (Unit × (Unit × Unit)))))))) ((IntKind.i64.wrap (x1750 + (1 : Int))) : Int) (x1751 : (List (Int × (Int × (Int × (Int × (Int × Unit))))))) (x1752 : Int) (x1753 : (List Int))
                    | false =>
                      none))
            | false =>
              on75 (e75 N (x1751 : (List (Int × (Int × (Int × (Int × (Int × Unit))))))) (x1752 : Int) (x1753 : (List Int)) ((IntKind.i64.wrap (((List.length x1751 : Nat) : Int) - (1 : Int))) : Int)) (fun x1764 =>
                match ((decide (x1764 ≥ (0 : Int))) : Bool) with
                | true =>
                  on61 (e61 N (x1748 : (List Int)) (x1764 : Int)) (fun x1765 =>
                    match ((decide ((List.length (x1749 : List (Int × (Int × (Int × (Int × (Unit × (Unit × Unit))))))) + List.length [((List.getD x1748 (Int.toNat x1750) (0 : Int)), (((List.length x1751 : Nat) : Int), ((-1 : Int), (x1765, ((), ((), ()))))))]) * 80 ≤ reach)) : Bool) with
                    | true =>
                      again (x1748 : (List Int)) ((x1749 ++ [((List.getD x1748 (Int.toNat x1750) (0 : Int)), (((List.length x1751 : Nat) : Int), ((-1 : Int), (x1765, ((), ((), ()))))))]) : (List (Int × (Int × (Int × (Int × (Unit × (Unit × Unit)))))))) ((IntKind.i64.wrap (x1750 + (1 : Int))) : Int) (x1751 : (List (Int × (Int × (Int × (Int × (Int × Unit))))))) (x1752 : Int) (x1753 : (List Int))
                    | false =>
                      none)
                | false =>
                  match ((decide ((List.length (x1749 : List (Int × (Int × (Int × (Int × (Unit × (Unit × Unit))))))) + List.length [((List.getD x1748 (Int.toNat x1750) (0 : Int)), (((List.length x1751 : Nat) : Int), ((-1 : Int), ((-1 : Int), ((), ((), ()))))))]) * 80 ≤ reach)) : Bool) with
                  | true =>
                    again (x1748 : (List Int)) ((x1749 ++ [((List.getD x1748 (Int.toNat x1750) (0 : Int)), (((List.length x1751 : Nat) : Int), ((-1 : Int), ((-1 : Int), ((), ((), ()))))))]) : (List (Int × (Int × (Int × (Int × (Unit × (Unit × Unit)))))))) ((IntKind.i64.wrap (x1750 + (1 : Int))) : Int) (x1751 : (List (Int × (Int × (Int × (Int × (Int × Unit))))))) (x1752 : Int) (x1753 : (List Int))
                  | false =>
                    none)
          | false =>
            on75 (e75 N (x1751 : (List (Int × (Int × (Int × (Int × (Int × Unit))))))) (x1752 : Int) (x1753 : (List Int)) ((IntKind.i64.wrap (((List.length x1751 : Nat) : Int) - (1 : Int))) : Int)) (fun x1766 =>
              match ((decide (x1766 ≥ (0 : Int))) : Bool) with
              | true =>
                on61 (e61 N (x1748 : (List Int)) (x1766 : Int)) (fun x1767 =>
                  match ((decide ((List.length (x1749 : List (Int × (Int × (Int × (Int × (Unit × (Unit × Unit))))))) + List.length [((List.getD x1748 (Int.toNat x1750) (0 : Int)), (((List.length x1751 : Nat) : Int), ((-1 : Int), (x1767, ((), ((), ()))))))]) * 80 ≤ reach)) : Bool) with
                  | true =>
                    again (x1748 : (List Int)) ((x1749 ++ [((List.getD x1748 (Int.toNat x1750) (0 : Int)), (((List.length x1751 : Nat) : Int), ((-1 : Int), (x1767, ((), ((), ()))))))]) : (List (Int × (Int × (Int × (Int × (Unit × (Unit × Unit)))))))) ((IntKind.i64.wrap (x1750 + (1 : Int))) : Int) (x1751 : (List (Int × (Int × (Int × (Int × (Int × Unit))))))) (x1752 : Int) (x1753 : (List Int))
                  | false =>
                    none)
              | false =>
                match ((decide ((List.length (x1749 : List (Int × (Int × (Int × (Int × (Unit × (Unit × Unit))))))) + List.length [((List.getD x1748 (Int.toNat x1750) (0 : Int)), (((List.length x1751 : Nat) : Int), ((-1 : Int), ((-1 : Int), ((), ((), ()))))))]) * 80 ≤ reach)) : Bool) with
                | true =>
                  again (x1748 : (List Int)) ((x1749 ++ [((List.getD x1748 (Int.toNat x1750) (0 : Int)), (((List.length x1751 : Nat) : Int), ((-1 : Int), ((-1 : Int), ((), ((), ()))))))]) : (List (Int × (Int × (Int × (Int × (Unit × (Unit × Unit)))))))) ((IntKind.i64.wrap (x1750 + (1 : Int))) : Int) (x1751 : (List (Int × (Int × (Int × (Int × (Int × Unit))))))) (x1752 : Int) (x1753 : (List Int))
                | false =>
                  none)
        | false =>
          none
    | false =>
      none
  | false =>
    some (1, [⟨(.sl (.pair (.int .i64) (.pair (.int .i64) (.pair (.int .i64) (.pair (.int .i64) (.pair .nl (.pair .nl .unit))))))), (x1749 : (List (Int × (Int × (Int × (Int × (Unit × (Unit × Unit))))))))⟩])
noncomputable def l53_0 (N : Nat) : Nat → (List Int) → (List (Int × (Int × (Int × (Int × (Unit × (Unit × Unit))))))) → Int → (List (Int × (Int × (Int × (Int × (Int × Unit)))))) → Int → (List Int) → Option Rs
  | 0, _, _, _, _, _, _ => none
  | n + 1, x1748, x1749, x1750, x1751, x1752, x1753 => r53_0 N (l53_0 N n) x1748 x1749 x1750 x1751 x1752 x1753
theorem on53_0_K (r : Option Rs) (K : Rs → Option Rs) (x : Rs) (h : on53_0 r (curK [(.sl (.pair (.int .i64) (.pair (.int .i64) (.pair (.int .i64) (.pair (.int .i64) (.pair .nl (.pair .nl .unit)))))))] fun q => K (1, q)) = some x) : ∃ q, r = some q ∧ K q = some x := by
  unfold on53_0 at h
  split at h
  · split at h
    · exact ⟨_, rfl, onG_K h⟩
    · simp at h
  · simp at h
noncomputable def R53_0 (N : Nat) : (List DV → Option Rs) → List DV → Option Rs := round cx1 h53 (ctL (t53 N)) (ltL []) Go.Proofs.Try.f53.ntmps c53.i.bx.length 0 s53_0 (bodyAt Go.Proofs.Try.f53 0)
theorem r53_0_eq (N : Nat) (A : List DV → Option Rs) (x1748 : (List Int)) (x1749 : (List (Int × (Int × (Int × (Int × (Unit × (Unit × Unit)))))))) (x1750 : Int) (x1751 : (List (Int × (Int × (Int × (Int × (Int × Unit))))))) (x1752 : Int) (x1753 : (List Int)) : R53_0 N A [⟨(.sl (.int .i64)), x1748⟩, ⟨(.sl (.pair (.int .i64) (.pair (.int .i64) (.pair (.int .i64) (.pair (.int .i64) (.pair .nl (.pair .nl .unit))))))), x1749⟩, ⟨(.int .i64), x1750⟩, ⟨(.sl (.pair (.int .i64) (.pair (.int .i64) (.pair (.int .i64) (.pair (.int .i64) (.pair (.int .i64) .unit)))))), x1751⟩, ⟨(.int .i64), x1752⟩, ⟨(.sl (.int .u8)), x1753⟩] = r53_0 N (fun x1748 x1749 x1750 x1751 x1752 x1753 => A [⟨(.sl (.int .i64)), x1748⟩, ⟨(.sl (.pair (.int .i64) (.pair (.int .i64) (.pair (.int .i64) (.pair (.int .i64) (.pair .nl (.pair .nl .unit))))))), x1749⟩, ⟨(.int .i64), x1750⟩, ⟨(.sl (.pair (.int .i64) (.pair (.int .i64) (.pair (.int .i64) (.pair (.int .i64) (.pair (.int .i64) .unit)))))), x1751⟩, ⟨(.int .i64), x1752⟩, ⟨(.sl (.int .u8)), x1753⟩]) x1748 x1749 x1750 x1751 x1752 x1753 := by kernel_rfl
theorem l53_0_eq (N : Nat) : ∀ (n : Nat) (x1748 : (List Int)) (x1749 : (List (Int × (Int × (Int × (Int × (Unit × (Unit × Unit)))))))) (x1750 : Int) (x1751 : (List (Int × (Int × (Int × (Int × (Int × Unit))))))) (x1752 : Int) (x1753 : (List Int)), iter (R53_0 N) n [⟨(.sl (.int .i64)), x1748⟩, ⟨(.sl (.pair (.int .i64) (.pair (.int .i64) (.pair (.int .i64) (.pair (.int .i64) (.pair .nl (.pair .nl .unit))))))), x1749⟩, ⟨(.int .i64), x1750⟩, ⟨(.sl (.pair (.int .i64) (.pair (.int .i64) (.pair (.int .i64) (.pair (.int .i64) (.pair (.int .i64) .unit)))))), x1751⟩, ⟨(.int .i64), x1752⟩, ⟨(.sl (.int .u8)), x1753⟩] = l53_0 N n x1748 x1749 x1750 x1751 x1752 x1753
  | 0, _, _, _, _, _, _ => rfl
  | n + 1, x1748, x1749, x1750, x1751, x1752, x1753 => (r53_0_eq N (iter (R53_0 N) n) x1748 x1749 x1750 x1751 x1752 x1753).trans (congrArg (fun A => r53_0 N A x1748 x1749 x1750 x1751 x1752 x1753) (funext fun x1748 => funext fun x1749 => funext fun x1750 => funext fun x1751 => funext fun x1752 => funext fun x1753 => l53_0_eq N n x1748 x1749 x1750 x1751 x1752 x1753))
noncomputable def x53_0 (N : Nat) : List DV → (Rs → Option Rs) → Option Rs := mkL [(.sl (.int .i64)), (.sl (.pair (.int .i64) (.pair (.int .i64) (.pair (.int .i64) (.pair (.int .i64) (.pair .nl (.pair .nl .unit))))))), (.int .i64), (.sl (.pair (.int .i64) (.pair (.int .i64) (.pair (.int .i64) (.pair (.int .i64) (.pair (.int .i64) .unit)))))), (.int .i64), (.sl (.int .u8))] (l53_0 N N) fun r K => on53_0 r (curK [(.sl (.pair (.int .i64) (.pair (.int .i64) (.pair (.int .i64) (.pair (.int .i64) (.pair .nl (.pair .nl .unit)))))))] fun q => K (1, q))
theorem x53_0_ok (N : Nat) : LEok Go.Proofs.Try.prog h53 (bodOf Go.Proofs.Try.f53) Go.Proofs.Try.f53.ntmps c53.i.bx.length (0, x53_0 N) :=
  mkL_ok on53_0_K (ls := s53_0) (body := bodyAt Go.Proofs.Try.f53 0) (by kernel_rfl) (by kernel_rfl) fun ys q h =>
    loop_ok (l := t53 N) (t := []) ti_ok1 hmix (t53_ok N) (a53 N) fn53 trivial (by kernel_rfl) (by kernel_rfl) (n := N) ((l53_0_eq N N ys.1 ys.2.1 ys.2.2.1 ys.2.2.2.1 ys.2.2.2.2.1 ys.2.2.2.2.2.1).trans h)
noncomputable def on53 {R : Type} (r : Option Rs) (k : Cur (Option R) [(.sl (.pair (.int .i64) (.pair (.int .i64) (.pair (.int .i64) (.pair (.int .i64) (.pair .nl (.pair .nl .unit)))))))]) : Option R := onR [(.sl (.pair (.int .i64) (.pair (.int .i64) (.pair (.int .i64) (.pair (.int .i64) (.pair .nl (.pair .nl .unit)))))))] r k
noncomputable def e53 (N : Nat) (x1744 : (List (Int × (Int × (Int × (Int × (Int × Unit))))))) (x1745 : Int) (x1746 : (List Int)) : Option Rs :=
  on74 (e74 N (x1744 : (List (Int × (Int × (Int × (Int × (Int × Unit))))))) (x1745 : Int) (x1746 : (List Int))) (fun x1747 =>
    on53_0 (l53_0 N N (x1747 : (List Int)) (([] : List (Int × (Int × (Int × (Int × (Unit × (Unit × Unit))))))) : (List (Int × (Int × (Int × (Int × (Unit × (Unit × Unit)))))))) ((0 : Int) : Int) (x1744 : (List (Int × (Int × (Int × (Int × (Int × Unit))))))) (x1745 : Int) (x1746 : (List Int))) (fun x1768 =>
      some (0, [⟨(.sl (.pair (.int .i64) (.pair (.int .i64) (.pair (.int .i64) (.pair (.int .i64) (.pair .nl (.pair .nl .unit))))))), (x1768 : (List (Int × (Int × (Int × (Int × (Unit × (Unit × Unit))))))))⟩])))
theorem k53 (N : Nat) (x1744 : (List (Int × (Int × (Int × (Int × (Int × Unit))))))) (x1745 : Int) (x1746 : (List Int)) : den cx1 h53 (ctL (t53 N)) (ltL [(0, x53_0 N)]) Go.Proofs.Try.f53 (codeOf Go.Proofs.Try.f53) c53.i c53.r c53.ob [⟨(.sl (.pair (.int .i64) (.pair (.int .i64) (.pair (.int .i64) (.pair (.int .i64) (.pair (.int .i64) .unit)))))), x1744⟩, ⟨(.int .i64), x1745⟩, ⟨(.sl (.int .u8)), x1746⟩] = e53 N x1744 x1745 x1746 := by kernel_rfl
theorem c53_ok (N : Nat) (x1744 : (List (Int × (Int × (Int × (Int × (Int × Unit))))))) (x1745 : Int) (x1746 : (List Int)) (n0 : Nat) (q : List DV) (h : e53 N x1744 x1745 x1746 = some (n0, q)) : CallOK Go.Proofs.Try.prog c53 [⟨(.sl (.pair (.int .i64) (.pair (.int .i64) (.pair (.int .i64) (.pair (.int .i64) (.pair (.int .i64) .unit)))))), x1744⟩, ⟨(.int .i64), x1745⟩, ⟨(.sl (.int .u8)), x1746⟩] q :=
  fn_ok (l := t53 N) (t := [(0, x53_0 N)]) ti_ok1 hmix (t53_ok N) (a53 N) fn53 (by kernel_rfl) (by kernel_rfl) ⟨x53_0_ok N, trivial⟩ ((k53 N x1744 x1745 x1746).trans h)
noncomputable def x53 (N : Nat) : List DV → (List DV → Option Rs) → Option Rs := mkX [(.sl (.pair (.int .i64) (.pair (.int .i64) (.pair (.int .i64) (.pair (.int .i64) (.pair (.int .i64) .unit)))))), (.int .i64), (.sl (.int .u8))] [(.sl (.pair (.int .i64) (.pair (.int .i64) (.pair (.int .i64) (.pair (.int .i64) (.pair .nl (.pair .nl .unit)))))))] (e53 N)
theorem x53_ok (N : Nat) : CEok Go.Proofs.Try.prog (c53, x53 N) := mkX_ok fun ys n q h => c53_ok N ys.1 ys.2.1 ys.2.2.1 n q h
def c42 : CS := { id := 16, fn := 42, i := { av := [.agg [(.d (.ar 16 (.int .i64)))], .one (.d (.int .i64))], bx := [] }, r := [.one (.d (.int .i64))], one := true, ob := [] }
def h42 : Hi := { cs := [], ls := [], sp := [7, 10] }
noncomputable def t42 (N : Nat) : List CE := []
theorem t42_ok (N : Nat) : AllP (CEok Go.Proofs.Try.prog) (t42 N) := trivial
theorem a42 (N : Nat) : AllP (fun e => lookC (t42 N) e.2.id = some e.2) h42.cs := trivial
theorem fn42 : Fn Go.Proofs.Try.prog 42 Go.Proofs.Try.f42 (codeOf Go.Proofs.Try.f42) := ⟨by kernel_rfl, by kernel_rfl, by kernel_rfl, by kernel_rfl⟩
noncomputable def on42 {R : Type} (r : Option Rs) (k : Cur (Option R) [(.int .i64)]) : Option R := onR [(.int .i64)] r k
noncomputable def e42 (N : Nat) (x1926 : (List Int)) (x1927 : Int) : Option Rs :=
  match ((decide (x1927 < (1 : Int))) : Bool) with
  | true =>
    some (0, [⟨(.int .i64), ((0 : Int) : Int)⟩])
  | false =>
    match ((decide (x1927 > (15 : Int))) : Bool) with
    | true =>
      some (0, [⟨(.int .i64), ((0 : Int) : Int)⟩])
    | false =>
      match ((idx x1927 16) : Bool) with
      | true =>
        some (0, [⟨(.int .i64), ((List.getD x1926 (Int.toNat x1927) (0 : Int)) : Int)⟩])
      | false =>
        none
theorem k42 (N : Nat) (x1926 : (List Int)) (x1927 : Int) : den cx0 h42 (ctL (t42 N)) (ltL []) Go.Proofs.Try.f42 (codeOf Go.Proofs.Try.f42) c42.i c42.r c42.ob [⟨(.ar 16 (.int .i64)), x1926⟩, ⟨(.int .i64), x1927⟩] = e42 N x1926 x1927 := by kernel_rfl
theorem c42_ok (N : Nat) (x1926 : (List Int)) (x1927 : Int) (n0 : Nat) (q : List DV) (h : e42 N x1926 x1927 = some (n0, q)) : CallOK Go.Proofs.Try.prog c42 [⟨(.ar 16 (.int .i64)), x1926⟩, ⟨(.int .i64), x1927⟩] q :=
  fn_ok (l := t42 N) (t := []) ti_ok hmix (t42_ok N) (a42 N) fn42 (by kernel_rfl) (by kernel_rfl) trivial ((k42 N x1926 x1927).trans h)
noncomputable def x42 (N : Nat) : List DV → (List DV → Option Rs) → Option Rs := mkX [(.ar 16 (.int .i64)), (.int .i64)] [(.int .i64)] (e42 N)
theorem x42_ok (N : Nat) : CEok Go.Proofs.Try.prog (c42, x42 N) := mkX_ok fun ys n q h => c42_ok N ys.1 ys.2.1 n q h
def c37 : CS := { id := 17, fn := 37, i := { av := [.agg [(.d (.int .i64)), (.d (.int .i64)), (.d (.int .i64)), (.d (.int .i64)), (.d (.int .i64))], .agg [(.d (.ar 16 (.int .i64)))]], bx := [] }, r := [.one (.d (.int .i64))], one := true, ob := [] }
def h37 : Hi := { cs := [((1, 2), c25), ((4, 1), c45), ((5, 3), c42), ((5, 12), c44)], ls := [], sp := [12, 15, 23, 27, 33] }
noncomputable def t37 (N : Nat) : List CE := [(c25, x25 N), (c45, x45 N), (c42, x42 N), (c44, x44 N)]
theorem t37_ok (N : Nat) : AllP (CEok Go.Proofs.Try.prog) (t37 N) := ⟨x25_ok N, x45_ok N, x42_ok N, x44_ok N, trivial⟩
theorem a37 (N : Nat) : AllP (fun e => lookC (t37 N) e.2.id = some e.2) h37.cs := ⟨rfl, rfl, rfl, rfl, trivial⟩
theorem fn37 : Fn Go.Proofs.Try.prog 37 Go.Proofs.Try.f37 (codeOf Go.Proofs.Try.f37) := ⟨by kernel_rfl, by kernel_rfl, by kernel_rfl, by kernel_rfl⟩
noncomputable def on37 {R : Type} (r : Option Rs) (k : Cur (Option R) [(.int .i64)]) : Option R := onR [(.int .i64)] r k
noncomputable def e37 (N : Nat) (x1916 : Int) (x1917 : Int) (x1918 : Int) (x1919 : Int) (x1920 : Int) (x1921 : (List Int)) : Option Rs :=
  on25 (e25 N (x1916 : Int)) (fun x1922 =>
    match ((decide (x1922 < (1 : Int))) : Bool) with
    | true =>
      some (0, [⟨(.int .i64), ((0 : Int) : Int)⟩])
    | false =>
      match ((decide (x1922 > (3 : Int))) : Bool) with
      | true =>
        some (0, [⟨(.int .i64), ((0 : Int) : Int)⟩])
      | false =>
        on45 (e45 N (x1916 : Int) (x1917 : Int) (x1918 : Int) (x1919 : Int) (x1920 : Int)) (fun x1923 =>
          on42 (e42 N (x1921 : (List Int)) (x1917 : Int)) (fun x1924 =>
            match ((x1924 == (1 : Int)) : Bool) with
            | true =>
              some (0, [⟨(.int .i64), ((1 : Int) : Int)⟩])
            | false =>
              match ((x1917 == (0 : Int)) : Bool) with
              | true =>
                on44 (e44 N (x1921 : (List Int)) (x1923 : (List Int))) (fun x1925 =>
                  match ((!x1925) : Bool) with
                  | true =>
                    some (0, [⟨(.int .i64), ((1 : Int) : Int)⟩])
                  | false =>
                    some (0, [⟨(.int .i64), ((2 : Int) : Int)⟩]))
              | false =>
                some (0, [⟨(.int .i64), ((2 : Int) : Int)⟩]))))
theorem k37 (N : Nat) (x1916 : Int) (x1917 : Int) (x1918 : Int) (x1919 : Int) (x1920 : Int) (x1921 : (List Int)) : den cx0 h37 (ctL (t37 N)) (ltL []) Go.Proofs.Try.f37 (codeOf Go.Proofs.Try.f37) c37.i c37.r c37.ob [⟨(.int .i64), x1916⟩, ⟨(.int .i64), x1917⟩, ⟨(.int .i64), x1918⟩, ⟨(.int .i64), x1919⟩, ⟨(.int .i64), x1920⟩, ⟨(.ar 16 (.int .i64)), x1921⟩] = e37 N x1916 x1917 x1918 x1919 x1920 x1921 := by kernel_rfl
theorem c37_ok (N : Nat) (x1916 : Int) (x1917 : Int) (x1918 : Int) (x1919 : Int) (x1920 : Int) (x1921 : (List Int)) (n0 : Nat) (q : List DV) (h : e37 N x1916 x1917 x1918 x1919 x1920 x1921 = some (n0, q)) : CallOK Go.Proofs.Try.prog c37 [⟨(.int .i64), x1916⟩, ⟨(.int .i64), x1917⟩, ⟨(.int .i64), x1918⟩, ⟨(.int .i64), x1919⟩, ⟨(.int .i64), x1920⟩, ⟨(.ar 16 (.int .i64)), x1921⟩] q :=
  fn_ok (l := t37 N) (t := []) ti_ok hmix (t37_ok N) (a37 N) fn37 (by kernel_rfl) (by kernel_rfl) trivial ((k37 N x1916 x1917 x1918 x1919 x1920 x1921).trans h)
noncomputable def x37 (N : Nat) : List DV → (List DV → Option Rs) → Option Rs := mkX [(.int .i64), (.int .i64), (.int .i64), (.int .i64), (.int .i64), (.ar 16 (.int .i64))] [(.int .i64)] (e37 N)
theorem x37_ok (N : Nat) : CEok Go.Proofs.Try.prog (c37, x37 N) := mkX_ok fun ys n q h => c37_ok N ys.1 ys.2.1 ys.2.2.1 ys.2.2.2.1 ys.2.2.2.2.1 ys.2.2.2.2.2.1 n q h
def c38 : CS := { id := 18, fn := 38, i := { av := [.one (.p 0 0 [1, 1, 1]), .one (.d (.int .i64)), .agg [(.d (.int .i64)), (.d (.int .i64)), (.d (.int .i64)), (.d (.int .i64)), (.d (.int .i64))]], bx := [[(.d (.int .i64)), (.d (.int .i64)), (.o (.pair (.int .i64) (.pair (.pair (.int .i64) (.pair (.int .i64) (.pair (.int .i64) (.pair (.int .i64) (.pair (.int .i64) .unit))))) (.pair (.int .i64) (.pair (.int .i64) (.pair (.int .i64) .unit))))))]] }, r := [], one := false, ob := [[(.d (.int .i64)), (.d (.int .i64)), (.o (.pair (.int .i64) (.pair (.pair (.int .i64) (.pair (.int .i64) (.pair (.int .i64) (.pair (.int .i64) (.pair (.int .i64) .unit))))) (.pair (.int .i64) (.pair (.int .i64) (.pair (.int .i64) .unit))))))]] }
def h38 : Hi := { cs := [], ls := [], sp := [] }
noncomputable def t38 (N : Nat) : List CE := []
theorem t38_ok (N : Nat) : AllP (CEok Go.Proofs.Try.prog) (t38 N) := trivial
theorem a38 (N : Nat) : AllP (fun e => lookC (t38 N) e.2.id = some e.2) h38.cs := trivial
theorem fn38 : Fn Go.Proofs.Try.prog 38 Go.Proofs.Try.f38 (codeOf Go.Proofs.Try.f38) := ⟨by kernel_rfl, by kernel_rfl, by kernel_rfl, by kernel_rfl⟩
noncomputable def on38 {R : Type} (r : Option Rs) (k : Cur (Option R) [(.int .i64), (.int .i64), (.sl (.pair (.int .i64) (.pair (.pair (.int .i64) (.pair (.int .i64) (.pair (.int .i64) (.pair (.int .i64) (.pair (.int .i64) .unit))))) (.pair (.int .i64) (.pair (.int .i64) (.pair (.int .i64) .unit))))))]) : Option R := onR [(.int .i64), (.int .i64), (.sl (.pair (.int .i64) (.pair (.pair (.int .i64) (.pair (.int .i64) (.pair (.int .i64) (.pair (.int .i64) (.pair (.int .i64) .unit))))) (.pair (.int .i64) (.pair (.int .i64) (.pair (.int .i64) .unit))))))] r k
noncomputable def e38 (N : Nat) (x1928 : Int) (x1929 : Int) (x1930 : Int) (x1931 : Int) (x1932 : Int) (x1933 : Int) (x1934 : Int) (x1935 : Int) (x1936 : (List (Int × ((Int × (Int × (Int × (Int × (Int × Unit))))) × (Int × (Int × (Int × Unit))))))) : Option Rs :=
  match ((decide ((List.length (x1936 : List (Int × ((Int × (Int × (Int × (Int × (Int × Unit))))) × (Int × (Int × (Int × Unit)))))) + List.length [(x1928, ((x1929, (x1930, (x1931, (x1932, (x1933, ()))))), ((0 : Int), (x1934, (x1935, ())))))]) * 72 ≤ reach)) : Bool) with
  | true =>
    some (0, [⟨(.int .i64), (x1934 : Int)⟩, ⟨(.int .i64), (x1935 : Int)⟩, ⟨(.sl (.pair (.int .i64) (.pair (.pair (.int .i64) (.pair (.int .i64) (.pair (.int .i64) (.pair (.int .i64) (.pair (.int .i64) .unit))))) (.pair (.int .i64) (.pair (.int .i64) (.pair (.int .i64) .unit)))))), ((x1936 ++ [(x1928, ((x1929, (x1930, (x1931, (x1932, (x1933, ()))))), ((0 : Int), (x1934, (x1935, ())))))]) : (List (Int × ((Int × (Int × (Int × (Int × (Int × Unit))))) × (Int × (Int × (Int × Unit)))))))⟩])
  | false =>
    none
theorem k38 (N : Nat) (x1928 : Int) (x1929 : Int) (x1930 : Int) (x1931 : Int) (x1932 : Int) (x1933 : Int) (x1934 : Int) (x1935 : Int) (x1936 : (List (Int × ((Int × (Int × (Int × (Int × (Int × Unit))))) × (Int × (Int × (Int × Unit))))))) : den cx0 h38 (ctL (t38 N)) (ltL []) Go.Proofs.Try.f38 (codeOf Go.Proofs.Try.f38) c38.i c38.r c38.ob [⟨(.int .i64), x1928⟩, ⟨(.int .i64), x1929⟩, ⟨(.int .i64), x1930⟩, ⟨(.int .i64), x1931⟩, ⟨(.int .i64), x1932⟩, ⟨(.int .i64), x1933⟩, ⟨(.int .i64), x1934⟩, ⟨(.int .i64), x1935⟩, ⟨(.sl (.pair (.int .i64) (.pair (.pair (.int .i64) (.pair (.int .i64) (.pair (.int .i64) (.pair (.int .i64) (.pair (.int .i64) .unit))))) (.pair (.int .i64) (.pair (.int .i64) (.pair (.int .i64) .unit)))))), x1936⟩] = e38 N x1928 x1929 x1930 x1931 x1932 x1933 x1934 x1935 x1936 := by kernel_rfl
theorem c38_ok (N : Nat) (x1928 : Int) (x1929 : Int) (x1930 : Int) (x1931 : Int) (x1932 : Int) (x1933 : Int) (x1934 : Int) (x1935 : Int) (x1936 : (List (Int × ((Int × (Int × (Int × (Int × (Int × Unit))))) × (Int × (Int × (Int × Unit))))))) (n0 : Nat) (q : List DV) (h : e38 N x1928 x1929 x1930 x1931 x1932 x1933 x1934 x1935 x1936 = some (n0, q)) : CallOK Go.Proofs.Try.prog c38 [⟨(.int .i64), x1928⟩, ⟨(.int .i64), x1929⟩, ⟨(.int .i64), x1930⟩, ⟨(.int .i64), x1931⟩, ⟨(.int .i64), x1932⟩, ⟨(.int .i64), x1933⟩, ⟨(.int .i64), x1934⟩, ⟨(.int .i64), x1935⟩, ⟨(.sl (.pair (.int .i64) (.pair (.pair (.int .i64) (.pair (.int .i64) (.pair (.int .i64) (.pair (.int .i64) (.pair (.int .i64) .unit))))) (.pair (.int .i64) (.pair (.int .i64) (.pair (.int .i64) .unit)))))), x1936⟩] q :=
  fn_ok (l := t38 N) (t := []) ti_ok hmix (t38_ok N) (a38 N) fn38 (by kernel_rfl) (by kernel_rfl) trivial ((k38 N x1928 x1929 x1930 x1931 x1932 x1933 x1934 x1935 x1936).trans h)
noncomputable def x38 (N : Nat) : List DV → (List DV → Option Rs) → Option Rs := mkX [(.int .i64), (.int .i64), (.int .i64), (.int .i64), (.int .i64), (.int .i64), (.int .i64), (.int .i64), (.sl (.pair (.int .i64) (.pair (.pair (.int .i64) (.pair (.int .i64) (.pair (.int .i64) (.pair (.int .i64) (.pair (.int .i64) .unit))))) (.pair (.int .i64) (.pair (.int .i64) (.pair (.int .i64) .unit))))))] [(.int .i64), (.int .i64), (.sl (.pair (.int .i64) (.pair (.pair (.int .i64) (.pair (.int .i64) (.pair (.int .i64) (.pair (.int .i64) (.pair (.int .i64) .unit))))) (.pair (.int .i64) (.pair (.int .i64) (.pair (.int .i64) .unit))))))] (e38 N)
theorem x38_ok (N : Nat) : CEok Go.Proofs.Try.prog (c38, x38 N) := mkX_ok fun ys n q h => c38_ok N ys.1 ys.2.1 ys.2.2.1 ys.2.2.2.1 ys.2.2.2.2.1 ys.2.2.2.2.2.1 ys.2.2.2.2.2.2.1 ys.2.2.2.2.2.2.2.1 ys.2.2.2.2.2.2.2.2.1 n q h
def c40 : CS := { id := 19, fn := 40, i := { av := [.agg [(.d (.int .i64)), (.d (.int .i64)), (.d (.int .i64)), (.d (.int .i64)), (.d (.int .i64))], .agg [(.d (.ar 16 (.int .i64)))]], bx := [] }, r := [.one (.o (.int .i64))], one := true, ob := [] }
def s40_0 : LS := { h := { av := [.no, .no, .no, .one (.p 0 0 [16]), .no, .one (.o (.int .i64)), .one (.o (.int .i64)), .one (.d (.int .i64)), .no, .no, .no, .no, .no, .no, .no, .no, .no, .no, .no, .no, .no, .no, .no, .no, .no, .no, .no, .no, .no, .no, .no, .no, .no, .no, .no, .no, .no, .no, .no, .no], bx := [[(.d (.ar 16 (.int .i64)))]] }, x := [(1, { av := [.no, .no, .no, .no, .no, .no, .one (.o (.int .i64)), .no, .no, .no, .no, .no, .no, .no, .no, .no, .no, .no, .no, .no, .no, .no, .no, .no, .no, .no, .no, .no, .no, .no, .no, .no, .no, .no, .no, .no, .no, .no, .no, .no], bx := [] })] }
def h40 : Hi := { cs := [((1, 1), c45), ((6, 5), c42), ((6, 13), c61)], ls := [(0, s40_0)], sp := [13, 23, 31] }
noncomputable def t40 (N : Nat) : List CE := [(c45, x45 N), (c42, x42 N), (c61, x61 N)]
theorem t40_ok (N : Nat) : AllP (CEok Go.Proofs.Try.prog) (t40 N) := ⟨x45_ok N, x42_ok N, x61_ok N, trivial⟩
theorem a40 (N : Nat) : AllP (fun e => lookC (t40 N) e.2.id = some e.2) h40.cs := ⟨rfl, rfl, rfl, trivial⟩
theorem fn40 : Fn Go.Proofs.Try.prog 40 Go.Proofs.Try.f40 (codeOf Go.Proofs.Try.f40) := ⟨by kernel_rfl, by kernel_rfl, by kernel_rfl, by kernel_rfl⟩
noncomputable def on40_0 {R : Type} (r : Option Rs) (k1 : Cur (Option R) [(.sl (.int .i64))]) : Option R :=
  match r with
  | some (n, p) => match n with
    | 1 => onG [(.sl (.int .i64))] p k1
    | _ => none
  | none => none
noncomputable def r40_0 (N : Nat) (again : (List Int) → (List Int) → Int → (List Int) → Option Rs) (x1944 : (List Int)) (x1945 : (List Int)) (x1946 : Int) (x1947 : (List Int)) : Option Rs :=
  match ((decide (x1946 < ((List.length x1944 : Nat) : Int))) : Bool) with
  | true =>
    match ((idx x1946 (List.length x1944)) : Bool) with
    | true =>
      on42 (e42 N (x1947 : (List Int)) ((List.getD x1944 (Int.toNat x1946) (0 : Int)) : Int)) (fun x1948 =>
        match ((x1948 == (1 : Int)) : Bool) with
        | true =>
          match ((idx x1946 (List.length x1944)) : Bool) with
          | true =>
            on61 (e61 N (x1945 : (List Int)) ((List.getD x1944 (Int.toNat x1946) (0 : Int)) : Int)) (fun x1949 =>
              match ((decide (x1949 < (0 : Int))) : Bool) with
              | true =>
                match ((idx x1946 (List.length x1944)) : Bool) with
                | true =>
                  match ((decide ((List.length (x1945 : List Int) + List.length [(List.getD x1944 (Int.toNat x1946) (0 : Int))]) * 8 ≤ reach)) : Bool) with
                  | true =>
                    again (x1944 : (List Int)) ((x1945 ++ [(List.getD x1944 (Int.toNat x1946) (0 : Int))]) : (List Int)) ((IntKind.i64.wrap (x1946 + (1 : Int))) : Int) (x1947 : (List Int))
                  | false =>
                    none
                | false =>
                  none
              | false =>
                again (x1944 : (List Int)) (x1945 : (List Int)) ((IntKind.i64.wrap (x1946 + (1 : Int))) : Int) (x1947 : (List Int)))
          | false =>
            none
        | false =>
          again (x1944 : (List Int)) (x1945 : (List Int)) ((IntKind.i64.wrap (x1946 + (1 : Int))) : Int) (x1947 : (List Int)))
    | false =>
      none
  | false =>
    some (1, [⟨(.sl (.int .i64)), (x1945 : (List Int))⟩])
noncomputable def l40_0 (N : Nat) : Nat → (List Int) → (List Int) → Int → (List Int) → Option Rs
  | 0, _, _, _, _ => none
  | n + 1, x1944, x1945, x1946, x1947 => r40_0 N (l40_0 N n) x1944 x1945 x1946 x1947
theorem on40_0_K (r : Option Rs) (K : Rs → Option Rs) (x : Rs) (h : on40_0 r (curK [(.sl (.int .i64))] fun q => K (1, q)) = some x) : ∃ q, r = some q ∧ K q = some x := by
  unfold on40_0 at h
  split at h
  · split at h
    · exact ⟨_, rfl, onG_K h⟩
    · simp at h
  · simp at h
noncomputable def R40_0 (N : Nat) : (List DV → Option Rs) → List DV → Option Rs := round cx0 h40 (ctL (t40 N)) (ltL []) Go.Proofs.Try.f40.ntmps c40.i.bx.length 0 s40_0 (bodyAt Go.Proofs.Try.f40 0)
theorem r40_0_eq (N : Nat) (A : List DV → Option Rs) (x1944 : (List Int)) (x1945 : (List Int)) (x1946 : Int) (x1947 : (List Int)) : R40_0 N A [⟨(.sl (.int .i64)), x1944⟩, ⟨(.sl (.int .i64)), x1945⟩, ⟨(.int .i64), x1946⟩, ⟨(.ar 16 (.int .i64)), x1947⟩] = r40_0 N (fun x1944 x1945 x1946 x1947 => A [⟨(.sl (.int .i64)), x1944⟩, ⟨(.sl (.int .i64)), x1945⟩, ⟨(.int .i64), x1946⟩, ⟨(.ar 16 (.int .i64)), x1947⟩]) x1944 x1945 x1946 x1947 := by kernel_rfl
theorem l40_0_eq (N : Nat) : ∀ (n : Nat) (x1944 : (List Int)) (x1945 : (List Int)) (x1946 : Int) (x1947 : (List Int)), iter (R40_0 N) n [⟨(.sl (.int .i64)), x1944⟩, ⟨(.sl (.int .i64)), x1945⟩, ⟨(.int .i64), x1946⟩, ⟨(.ar 16 (.int .i64)), x1947⟩] = l40_0 N n x1944 x1945 x1946 x1947
  | 0, _, _, _, _ => rfl
  | n + 1, x1944, x1945, x1946, x1947 => (r40_0_eq N (iter (R40_0 N) n) x1944 x1945 x1946 x1947).trans (congrArg (fun A => r40_0 N A x1944 x1945 x1946 x1947) (funext fun x1944 => funext fun x1945 => funext fun x1946 => funext fun x1947 => l40_0_eq N n x1944 x1945 x1946 x1947))
noncomputable def x40_0 (N : Nat) : List DV → (Rs → Option Rs) → Option Rs := mkL [(.sl (.int .i64)), (.sl (.int .i64)), (.int .i64), (.ar 16 (.int .i64))] (l40_0 N N) fun r K => on40_0 r (curK [(.sl (.int .i64))] fun q => K (1, q))
theorem x40_0_ok (N : Nat) : LEok Go.Proofs.Try.prog h40 (bodOf Go.Proofs.Try.f40) Go.Proofs.Try.f40.ntmps c40.i.bx.length (0, x40_0 N) :=
  mkL_ok on40_0_K (ls := s40_0) (body := bodyAt Go.Proofs.Try.f40 0) (by kernel_rfl) (by kernel_rfl) fun ys q h =>
    loop_ok (l := t40 N) (t := []) ti_ok hmix (t40_ok N) (a40 N) fn40 trivial (by kernel_rfl) (by kernel_rfl) (n := N) ((l40_0_eq N N ys.1 ys.2.1 ys.2.2.1 ys.2.2.2.1).trans h)
noncomputable def on40 {R : Type} (r : Option Rs) (k : Cur (Option R) [(.sl (.int .i64))]) : Option R := onR [(.sl (.int .i64))] r k
noncomputable def e40 (N : Nat) (x1937 : Int) (x1938 : Int) (x1939 : Int) (x1940 : Int) (x1941 : Int) (x1942 : (List Int)) : Option Rs :=
  on45 (e45 N (x1937 : Int) (x1938 : Int) (x1939 : Int) (x1940 : Int) (x1941 : Int)) (fun x1943 =>
    on40_0 (l40_0 N N (x1943 : (List Int)) (([] : List Int) : (List Int)) ((0 : Int) : Int) (x1942 : (List Int))) (fun x1950 =>
      some (0, [⟨(.sl (.int .i64)), (x1950 : (List Int))⟩])))
theorem k40 (N : Nat) (x1937 : Int) (x1938 : Int) (x1939 : Int) (x1940 : Int) (x1941 : Int) (x1942 : (List Int)) : den cx0 h40 (ctL (t40 N)) (ltL [(0, x40_0 N)]) Go.Proofs.Try.f40 (codeOf Go.Proofs.Try.f40) c40.i c40.r c40.ob [⟨(.int .i64), x1937⟩, ⟨(.int .i64), x1938⟩, ⟨(.int .i64), x1939⟩, ⟨(.int .i64), x1940⟩, ⟨(.int .i64), x1941⟩, ⟨(.ar 16 (.int .i64)), x1942⟩] = e40 N x1937 x1938 x1939 x1940 x1941 x1942 := by kernel_rfl
theorem c40_ok (N : Nat) (x1937 : Int) (x1938 : Int) (x1939 : Int) (x1940 : Int) (x1941 : Int) (x1942 : (List Int)) (n0 : Nat) (q : List DV) (h : e40 N x1937 x1938 x1939 x1940 x1941 x1942 = some (n0, q)) : CallOK Go.Proofs.Try.prog c40 [⟨(.int .i64), x1937⟩, ⟨(.int .i64), x1938⟩, ⟨(.int .i64), x1939⟩, ⟨(.int .i64), x1940⟩, ⟨(.int .i64), x1941⟩, ⟨(.ar 16 (.int .i64)), x1942⟩] q :=
  fn_ok (l := t40 N) (t := [(0, x40_0 N)]) ti_ok hmix (t40_ok N) (a40 N) fn40 (by kernel_rfl) (by kernel_rfl) ⟨x40_0_ok N, trivial⟩ ((k40 N x1937 x1938 x1939 x1940 x1941 x1942).trans h)
noncomputable def x40 (N : Nat) : List DV → (List DV → Option Rs) → Option Rs := mkX [(.int .i64), (.int .i64), (.int .i64), (.int .i64), (.int .i64), (.ar 16 (.int .i64))] [(.sl (.int .i64))] (e40 N)
theorem x40_ok (N : Nat) : CEok Go.Proofs.Try.prog (c40, x40 N) := mkX_ok fun ys n q h => c40_ok N ys.1 ys.2.1 ys.2.2.1 ys.2.2.2.1 ys.2.2.2.2.1 ys.2.2.2.2.2.1 n q h
def c43 : CS := { id := 20, fn := 43, i := { av := [.one (.p 0 0 [1, 1, 1]), .one (.d (.int .i64)), .one (.d (.int .i64))], bx := [[(.d (.int .i64)), (.d (.int .i64)), (.o (.pair (.int .i64) (.pair (.pair (.int .i64) (.pair (.int .i64) (.pair (.int .i64) (.pair (.int .i64) (.pair (.int .i64) .unit))))) (.pair (.int .i64) (.pair (.int .i64) (.pair (.int .i64) .unit))))))]] }, r := [], one := false, ob := [[(.d (.int .i64)), (.d (.int .i64)), (.o (.pair (.int .i64) (.pair (.pair (.int .i64) (.pair (.int .i64) (.pair (.int .i64) (.pair (.int .i64) (.pair (.int .i64) .unit))))) (.pair (.int .i64) (.pair (.int .i64) (.pair (.int .i64) .unit))))))]] }
def h43 : Hi := { cs := [], ls := [], sp := [] }
noncomputable def t43 (N : Nat) : List CE := []
theorem t43_ok (N : Nat) : AllP (CEok Go.Proofs.Try.prog) (t43 N) := trivial
theorem a43 (N : Nat) : AllP (fun e => lookC (t43 N) e.2.id = some e.2) h43.cs := trivial
theorem fn43 : Fn Go.Proofs.Try.prog 43 Go.Proofs.Try.f43 (codeOf Go.Proofs.Try.f43) := ⟨by kernel_rfl, by kernel_rfl, by kernel_rfl, by kernel_rfl⟩
noncomputable def on43 {R : Type} (r : Option Rs) (k : Cur (Option R) [(.int .i64), (.int .i64), (.sl (.pair (.int .i64) (.pair (.pair (.int .i64) (.pair (.int .i64) (.pair (.int .i64) (.pair (.int .i64) (.pair (.int .i64) .unit))))) (.pair (.int .i64) (.pair (.int .i64) (.pair (.int .i64) .unit))))))]) : Option R := onR [(.int .i64), (.int .i64), (.sl (.pair (.int .i64) (.pair (.pair (.int .i64) (.pair (.int .i64) (.pair (.int .i64) (.pair (.int .i64) (.pair (.int .i64) .unit))))) (.pair (.int .i64) (.pair (.int .i64) (.pair (.int .i64) .unit))))))] r k
noncomputable def e43 (N : Nat) (x1968 : Int) (x1969 : Int) (x1970 : Int) (x1971 : Int) (x1972 : (List (Int × ((Int × (Int × (Int × (Int × (Int × Unit))))) × (Int × (Int × (Int × Unit))))))) : Option Rs :=
  match ((decide ((List.length (x1972 : List (Int × ((Int × (Int × (Int × (Int × (Int × Unit))))) × (Int × (Int × (Int × Unit)))))) + List.length [(x1968, (((0 : Int), ((0 : Int), ((0 : Int), ((0 : Int), ((0 : Int), ()))))), (x1969, (x1970, (x1971, ())))))]) * 72 ≤ reach)) : Bool) with
  | true =>
    some (0, [⟨(.int .i64), (x1970 : Int)⟩, ⟨(.int .i64), (x1971 : Int)⟩, ⟨(.sl (.pair (.int .i64) (.pair (.pair (.int .i64) (.pair (.int .i64) (.pair (.int .i64) (.pair (.int .i64) (.pair (.int .i64) .unit))))) (.pair (.int .i64) (.pair (.int .i64) (.pair (.int .i64) .unit)))))), ((x1972 ++ [(x1968, (((0 : Int), ((0 : Int), ((0 : Int), ((0 : Int), ((0 : Int), ()))))), (x1969, (x1970, (x1971, ())))))]) : (List (Int × ((Int × (Int × (Int × (Int × (Int × Unit))))) × (Int × (Int × (Int × Unit)))))))⟩])
  | false =>
    none
theorem k43 (N : Nat) (x1968 : Int) (x1969 : Int) (x1970 : Int) (x1971 : Int) (x1972 : (List (Int × ((Int × (Int × (Int × (Int × (Int × Unit))))) × (Int × (Int × (Int × Unit))))))) : den cx0 h43 (ctL (t43 N)) (ltL []) Go.Proofs.Try.f43 (codeOf Go.Proofs.Try.f43) c43.i c43.r c43.ob [⟨(.int .i64), x1968⟩, ⟨(.int .i64), x1969⟩, ⟨(.int .i64), x1970⟩, ⟨(.int .i64), x1971⟩, ⟨(.sl (.pair (.int .i64) (.pair (.pair (.int .i64) (.pair (.int .i64) (.pair (.int .i64) (.pair (.int .i64) (.pair (.int .i64) .unit))))) (.pair (.int .i64) (.pair (.int .i64) (.pair (.int .i64) .unit)))))), x1972⟩] = e43 N x1968 x1969 x1970 x1971 x1972 := by kernel_rfl
theorem c43_ok (N : Nat) (x1968 : Int) (x1969 : Int) (x1970 : Int) (x1971 : Int) (x1972 : (List (Int × ((Int × (Int × (Int × (Int × (Int × Unit))))) × (Int × (Int × (Int × Unit))))))) (n0 : Nat) (q : List DV) (h : e43 N x1968 x1969 x1970 x1971 x1972 = some (n0, q)) : CallOK Go.Proofs.Try.prog c43 [⟨(.int .i64), x1968⟩, ⟨(.int .i64), x1969⟩, ⟨(.int .i64), x1970⟩, ⟨(.int .i64), x1971⟩, ⟨(.sl (.pair (.int .i64) (.pair (.pair (.int .i64) (.pair (.int .i64) (.pair (.int .i64) (.pair (.int .i64) (.pair (.int .i64) .unit))))) (.pair (.int .i64) (.pair (.int .i64) (.pair (.int .i64) .unit)))))), x1972⟩] q :=
  fn_ok (l := t43 N) (t := []) ti_ok hmix (t43_ok N) (a43 N) fn43 (by kernel_rfl) (by kernel_rfl) trivial ((k43 N x1968 x1969 x1970 x1971 x1972).trans h)
noncomputable def x43 (N : Nat) : List DV → (List DV → Option Rs) → Option Rs := mkX [(.int .i64), (.int .i64), (.int .i64), (.int .i64), (.sl (.pair (.int .i64) (.pair (.pair (.int .i64) (.pair (.int .i64) (.pair (.int .i64) (.pair (.int .i64) (.pair (.int .i64) .unit))))) (.pair (.int .i64) (.pair (.int .i64) (.pair (.int .i64) .unit))))))] [(.int .i64), (.int .i64), (.sl (.pair (.int .i64) (.pair (.pair (.int .i64) (.pair (.int .i64) (.pair (.int .i64) (.pair (.int .i64) (.pair (.int .i64) .unit))))) (.pair (.int .i64) (.pair (.int .i64) (.pair (.int .i64) .unit))))))] (e43 N)
theorem x43_ok (N : Nat) : CEok Go.Proofs.Try.prog (c43, x43 N) := mkX_ok fun ys n q h => c43_ok N ys.1 ys.2.1 ys.2.2.1 ys.2.2.2.1 ys.2.2.2.2.1 n q h
def c39 : CS := { id := 21, fn := 39, i := { av := [.one (.p 0 0 [1, 1, 1]), .one (.d (.int .i64)), .one (.d (.sl (.int .i64)))], bx := [[(.d (.int .i64)), (.d (.int .i64)), (.o (.pair (.int .i64) (.pair (.pair (.int .i64) (.pair (.int .i64) (.pair (.int .i64) (.pair (.int .i64) (.pair (.int .i64) .unit))))) (.pair (.int .i64) (.pair (.int .i64) (.pair (.int .i64) .unit))))))]] }, r := [], one := false, ob := [[(.d (.int .i64)), (.d (.int .i64)), (.o (.pair (.int .i64) (.pair (.pair (.int .i64) (.pair (.int .i64) (.pair (.int .i64) (.pair (.int .i64) (.pair (.int .i64) .unit))))) (.pair (.int .i64) (.pair (.int .i64) (.pair (.int .i64) .unit))))))]] }
def s39_0 : LS := { h := { av := [.one (.p 0 0 [1, 1, 1]), .one (.d (.int .i64)), .one (.d (.sl (.int .i64))), .no, .no, .no, .one (.d (.int .i64)), .no, .no, .no, .no, .no, .no, .no, .no, .no, .no, .no, .no, .no], bx := [[(.d (.int .i64)), (.d (.int .i64)), (.o (.pair (.int .i64) (.pair (.pair (.int .i64) (.pair (.int .i64) (.pair (.int .i64) (.pair (.int .i64) (.pair (.int .i64) .unit))))) (.pair (.int .i64) (.pair (.int .i64) (.pair (.int .i64) .unit))))))]] }, x := [(1, { av := [.no, .no, .no, .no, .no, .no, .no, .no, .no, .no, .no, .no, .no, .no, .no, .no, .no, .no, .no, .no], bx := [[(.d (.int .i64)), (.d (.int .i64)), (.o (.pair (.int .i64) (.pair (.pair (.int .i64) (.pair (.int .i64) (.pair (.int .i64) (.pair (.int .i64) (.pair (.int .i64) .unit))))) (.pair (.int .i64) (.pair (.int .i64) (.pair (.int .i64) .unit))))))]] })] }
def h39 : Hi := { cs := [((3, 6), c43)], ls := [(0, s39_0)], sp := [10] }
noncomputable def t39 (N : Nat) : List CE := [(c43, x43 N)]
theorem t39_ok (N : Nat) : AllP (CEok Go.Proofs.Try.prog) (t39 N) := ⟨x43_ok N, trivial⟩
theorem a39 (N : Nat) : AllP (fun e => lookC (t39 N) e.2.id = some e.2) h39.cs := ⟨rfl, trivial⟩
theorem fn39 : Fn Go.Proofs.Try.prog 39 Go.Proofs.Try.f39 (codeOf Go.Proofs.Try.f39) := ⟨by kernel_rfl, by kernel_rfl, by kernel_rfl, by kernel_rfl⟩
noncomputable def on39_0 {R : Type} (r : Option Rs) (k1 : Cur (Option R) [(.int .i64), (.int .i64), (.sl (.pair (.int .i64) (.pair (.pair (.int .i64) (.pair (.int .i64) (.pair (.int .i64) (.pair (.int .i64) (.pair (.int .i64) .unit))))) (.pair (.int .i64) (.pair (.int .i64) (.pair (.int .i64) .unit))))))]) : Option R :=
  match r with
  | some (n, p) => match n with
    | 1 => onG [(.int .i64), (.int .i64), (.sl (.pair (.int .i64) (.pair (.pair (.int .i64) (.pair (.int .i64) (.pair (.int .i64) (.pair (.int .i64) (.pair (.int .i64) .unit))))) (.pair (.int .i64) (.pair (.int .i64) (.pair (.int .i64) .unit))))))] p k1
    | _ => none
  | none => none
noncomputable def r39_0 (N : Nat) (again : Int → (List Int) → Int → Int → Int → (List (Int × ((Int × (Int × (Int × (Int × (Int × Unit))))) × (Int × (Int × (Int × Unit)))))) → Option Rs) (x1956 : Int) (x1957 : (List Int)) (x1958 : Int) (x1959 : Int) (x1960 : Int) (x1961 : (List (Int × ((Int × (Int × (Int × (Int × (Int × Unit))))) × (Int × (Int × (Int × Unit))))))) : Option Rs :=
  match ((decide (x1958 < ((List.length x1957 : Nat) : Int))) : Bool) with
  | true =>
    match ((idx x1958 (List.length x1957)) : Bool) with
    | true =>
      on43 (e43 N (x1956 : Int) ((List.getD x1957 (Int.toNat x1958) (0 : Int)) : Int) (x1959 : Int) (x1960 : Int) (x1961 : (List (Int × ((Int × (Int × (Int × (Int × (Int × Unit))))) × (Int × (Int × (Int × Unit)))))))) (fun x1962 x1963 x1964 =>
        again (x1956 : Int) (x1957 : (List Int)) ((IntKind.i64.wrap (x1958 + (1 : Int))) : Int) (x1962 : Int) (x1963 : Int) (x1964 : (List (Int × ((Int × (Int × (Int × (Int × (Int × Unit))))) × (Int × (Int × (Int × Unit))))))))
    | false =>
      none
  | false =>
    some (1, [⟨(.int .i64), (x1959 : Int)⟩, ⟨(.int .i64), (x1960 : Int)⟩, ⟨(.sl (.pair (.int .i64) (.pair (.pair (.int .i64) (.pair (.int .i64) (.pair (.int .i64) (.pair (.int .i64) (.pair (.int .i64) .unit))))) (.pair (.int .i64) (.pair (.int .i64) (.pair (.int .i64) .unit)))))), (x1961 : (List (Int × ((Int × (Int × (Int × (Int × (Int × Unit))))) × (Int × (Int × (Int × Unit)))))))⟩])
noncomputable def l39_0 (N : Nat) : Nat → Int → (List Int) → Int → Int → Int → (List (Int × ((Int × (Int × (Int × (Int × (Int × Unit))))) × (Int × (Int × (Int × Unit)))))) → Option Rs
  | 0, _, _, _, _, _, _ => none
  | n + 1, x1956, x1957, x1958, x1959, x1960, x1961 => r39_0 N (l39_0 N n) x1956 x1957 x1958 x1959 x1960 x1961
theorem on39_0_K (r : Option Rs) (K : Rs → Option Rs) (x : Rs) (h : on39_0 r (curK [(.int .i64), (.int .i64), (.sl (.pair (.int .i64) (.pair (.pair (.int .i64) (.pair (.int .i64) (.pair (.int .i64) (.pair (.int .i64) (.pair (.int .i64) .unit))))) (.pair (.int .i64) (.pair (.int .i64) (.pair (.int .i64) .unit))))))] fun q => K (1, q)) = some x) : ∃ q, r = some q ∧ K q = some x := by
  unfold on39_0 at h
  split at h
  · split at h
    · exact ⟨_, rfl, onG_K h⟩
    · simp at h
  · simp at h
noncomputable def R39_0 (N : Nat) : (List DV → Option Rs) → List DV → Option Rs := round cx0 h39 (ctL (t39 N)) (ltL []) Go.Proofs.Try.f39.ntmps c39.i.bx.length 0 s39_0 (bodyAt Go.Proofs.Try.f39 0)
theorem r39_0_eq (N : Nat) (A : List DV → Option Rs) (x1956 : Int) (x1957 : (List Int)) (x1958 : Int) (x1959 : Int) (x1960 : Int) (x1961 : (List (Int × ((Int × (Int × (Int × (Int × (Int × Unit))))) × (Int × (Int × (Int × Unit))))))) : R39_0 N A [⟨(.int .i64), x1956⟩, ⟨(.sl (.int .i64)), x1957⟩, ⟨(.int .i64), x1958⟩, ⟨(.int .i64), x1959⟩, ⟨(.int .i64), x1960⟩, ⟨(.sl (.pair (.int .i64) (.pair (.pair (.int .i64) (.pair (.int .i64) (.pair (.int .i64) (.pair (.int .i64) (.pair (.int .i64) .unit))))) (.pair (.int .i64) (.pair (.int .i64) (.pair (.int .i64) .unit)))))), x1961⟩] = r39_0 N (fun x1956 x1957 x1958 x1959 x1960 x1961 => A [⟨(.int .i64), x1956⟩, ⟨(.sl (.int .i64)), x1957⟩, ⟨(.int .i64), x1958⟩, ⟨(.int .i64), x1959⟩, ⟨(.int .i64), x1960⟩, ⟨(.sl (.pair (.int .i64) (.pair (.pair (.int .i64) (.pair (.int .i64) (.pair (.int .i64) (.pair (.int .i64) (.pair (.int .i64) .unit))))) (.pair (.int .i64) (.pair (.int .i64) (.pair (.int .i64) .unit)))))), x1961⟩]) x1956 x1957 x1958 x1959 x1960 x1961 := by kernel_rfl
theorem l39_0_eq (N : Nat) : ∀ (n : Nat) (x1956 : Int) (x1957 : (List Int)) (x1958 : Int) (x1959 : Int) (x1960 : Int) (x1961 : (List (Int × ((Int × (Int × (Int × (Int × (Int × Unit))))) × (Int × (Int × (Int × Unit))))))), iter (R39_0 N) n [⟨(.int .i64), x1956⟩, ⟨(.sl (.int .i64)), x1957⟩, ⟨(.int .i64), x1958⟩, ⟨(.int .i64), x1959⟩, ⟨(.int .i64), x1960⟩, ⟨(.sl (.pair (.int .i64) (.pair (.pair (.int .i64) (.pair (.int .i64) (.pair (.int .i64) (.pair (.int .i64) (.pair (.int .i64) .unit))))) (.pair (.int .i64) (.pair (.int .i64) (.pair (.int .i64) .unit)))))), x1961⟩] = l39_0 N n x1956 x1957 x1958 x1959 x1960 x1961
  | 0, _, _, _, _, _, _ => rfl
  | n + 1, x1956, x1957, x1958, x1959, x1960, x1961 => (r39_0_eq N (iter (R39_0 N) n) x1956 x1957 x1958 x1959 x1960 x1961).trans (congrArg (fun A => r39_0 N A x1956 x1957 x1958 x1959 x1960 x1961) (funext fun x1956 => funext fun x1957 => funext fun x1958 => funext fun x1959 => funext fun x1960 => funext fun x1961 => l39_0_eq N n x1956 x1957 x1958 x1959 x1960 x1961))
noncomputable def x39_0 (N : Nat) : List DV → (Rs → Option Rs) → Option Rs := mkL [(.int .i64), (.sl (.int .i64)), (.int .i64), (.int .i64), (.int .i64), (.sl (.pair (.int .i64) (.pair (.pair (.int .i64) (.pair (.int .i64) (.pair (.int .i64) (.pair (.int .i64) (.pair (.int .i64) .unit))))) (.pair (.int .i64) (.pair (.int .i64) (.pair (.int .i64) .unit))))))] (l39_0 N N) fun r K => on39_0 r (curK [(.int .i64), (.int .i64), (.sl (.pair (.int .i64) (.pair (.pair (.int .i64) (.pair (.int .i64) (.pair (.int .i64) (.pair (.int .i64) (.pair (.int .i64) .unit))))) (.pair (.int .i64) (.pair (.int .i64) (.pair (.int .i64) .unit))))))] fun q => K (1, q))
theorem x39_0_ok (N : Nat) : LEok Go.Proofs.Try.prog h39 (bodOf Go.Proofs.Try.f39) Go.Proofs.Try.f39.ntmps c39.i.bx.length (0, x39_0 N) :=
  mkL_ok on39_0_K (ls := s39_0) (body := bodyAt Go.Proofs.Try.f39 0) (by kernel_rfl) (by kernel_rfl) fun ys q h =>
    loop_ok (l := t39 N) (t := []) ti_ok hmix (t39_ok N) (a39 N) fn39 trivial (by kernel_rfl) (by kernel_rfl) (n := N) ((l39_0_eq N N ys.1 ys.2.1 ys.2.2.1 ys.2.2.2.1 ys.2.2.2.2.1 ys.2.2.2.2.2.1).trans h)
noncomputable def on39 {R : Type} (r : Option Rs) (k : Cur (Option R) [(.int .i64), (.int .i64), (.sl (.pair (.int .i64) (.pair (.pair (.int .i64) (.pair (.int .i64) (.pair (.int .i64) (.pair (.int .i64) (.pair (.int .i64) .unit))))) (.pair (.int .i64) (.pair (.int .i64) (.pair (.int .i64) .unit))))))]) : Option R := onR [(.int .i64), (.int .i64), (.sl (.pair (.int .i64) (.pair (.pair (.int .i64) (.pair (.int .i64) (.pair (.int .i64) (.pair (.int .i64) (.pair (.int .i64) .unit))))) (.pair (.int .i64) (.pair (.int .i64) (.pair (.int .i64) .unit))))))] r k
noncomputable def e39 (N : Nat) (x1951 : Int) (x1952 : (List Int)) (x1953 : Int) (x1954 : Int) (x1955 : (List (Int × ((Int × (Int × (Int × (Int × (Int × Unit))))) × (Int × (Int × (Int × Unit))))))) : Option Rs :=
  on39_0 (l39_0 N N (x1951 : Int) (x1952 : (List Int)) ((0 : Int) : Int) (x1953 : Int) (x1954 : Int) (x1955 : (List (Int × ((Int × (Int × (Int × (Int × (Int × Unit))))) × (Int × (Int × (Int × Unit)))))))) (fun x1965 x1966 x1967 =>
    some (0, [⟨(.int .i64), (x1965 : Int)⟩, ⟨(.int .i64), (x1966 : Int)⟩, ⟨(.sl (.pair (.int .i64) (.pair (.pair (.int .i64) (.pair (.int .i64) (.pair (.int .i64) (.pair (.int .i64) (.pair (.int .i64) .unit))))) (.pair (.int .i64) (.pair (.int .i64) (.pair (.int .i64) .unit)))))), (x1967 : (List (Int × ((Int × (Int × (Int × (Int × (Int × Unit))))) × (Int × (Int × (Int × Unit)))))))⟩]))
theorem k39 (N : Nat) (x1951 : Int) (x1952 : (List Int)) (x1953 : Int) (x1954 : Int) (x1955 : (List (Int × ((Int × (Int × (Int × (Int × (Int × Unit))))) × (Int × (Int × (Int × Unit))))))) : den cx0 h39 (ctL (t39 N)) (ltL [(0, x39_0 N)]) Go.Proofs.Try.f39 (codeOf Go.Proofs.Try.f39) c39.i c39.r c39.ob [⟨(.int .i64), x1951⟩, ⟨(.sl (.int .i64)), x1952⟩, ⟨(.int .i64), x1953⟩, ⟨(.int .i64), x1954⟩, ⟨(.sl (.pair (.int .i64) (.pair (.pair (.int .i64) (.pair (.int .i64) (.pair (.int .i64) (.pair (.int .i64) (.pair (.int .i64) .unit))))) (.pair (.int .i64) (.pair (.int .i64) (.pair (.int .i64) .unit)))))), x1955⟩] = e39 N x1951 x1952 x1953 x1954 x1955 := by kernel_rfl
theorem c39_ok (N : Nat) (x1951 : Int) (x1952 : (List Int)) (x1953 : Int) (x1954 : Int) (x1955 : (List (Int × ((Int × (Int × (Int × (Int × (Int × Unit))))) × (Int × (Int × (Int × Unit))))))) (n0 : Nat) (q : List DV) (h : e39 N x1951 x1952 x1953 x1954 x1955 = some (n0, q)) : CallOK Go.Proofs.Try.prog c39 [⟨(.int .i64), x1951⟩, ⟨(.sl (.int .i64)), x1952⟩, ⟨(.int .i64), x1953⟩, ⟨(.int .i64), x1954⟩, ⟨(.sl (.pair (.int .i64) (.pair (.pair (.int .i64) (.pair (.int .i64) (.pair (.int .i64) (.pair (.int .i64) (.pair (.int .i64) .unit))))) (.pair (.int .i64) (.pair (.int .i64) (.pair (.int .i64) .unit)))))), x1955⟩] q :=
  fn_ok (l := t39 N) (t := [(0, x39_0 N)]) ti_ok hmix (t39_ok N) (a39 N) fn39 (by kernel_rfl) (by kernel_rfl) ⟨x39_0_ok N, trivial⟩ ((k39 N x1951 x1952 x1953 x1954 x1955).trans h)
noncomputable def x39 (N : Nat) : List DV → (List DV → Option Rs) → Option Rs := mkX [(.int .i64), (.sl (.int .i64)), (.int .i64), (.int .i64), (.sl (.pair (.int .i64) (.pair (.pair (.int .i64) (.pair (.int .i64) (.pair (.int .i64) (.pair (.int .i64) (.pair (.int .i64) .unit))))) (.pair (.int .i64) (.pair (.int .i64) (.pair (.int .i64) .unit))))))] [(.int .i64), (.int .i64), (.sl (.pair (.int .i64) (.pair (.pair (.int .i64) (.pair (.int .i64) (.pair (.int .i64) (.pair (.int .i64) (.pair (.int .i64) .unit))))) (.pair (.int .i64) (.pair (.int .i64) (.pair (.int .i64) .unit))))))] (e39 N)
theorem x39_ok (N : Nat) : CEok Go.Proofs.Try.prog (c39, x39 N) := mkX_ok fun ys n q h => c39_ok N ys.1 ys.2.1 ys.2.2.1 ys.2.2.2.1 ys.2.2.2.2.1 n q h
def c46 : CS := { id := 22, fn := 46, i := { av := [.one (.p 0 0 [1, 1, 1]), .one (.d (.int .i64))], bx := [[(.d (.int .i64)), (.d (.int .i64)), (.o (.pair (.int .i64) (.pair (.pair (.int .i64) (.pair (.int .i64) (.pair (.int .i64) (.pair (.int .i64) (.pair (.int .i64) .unit))))) (.pair (.int .i64) (.pair (.int .i64) (.pair (.int .i64) .unit))))))]] }, r := [], one := false, ob := [[(.d (.int .i64)), (.d (.int .i64)), (.o (.pair (.int .i64) (.pair (.pair (.int .i64) (.pair (.int .i64) (.pair (.int .i64) (.pair (.int .i64) (.pair (.int .i64) .unit))))) (.pair (.int .i64) (.pair (.int .i64) (.pair (.int .i64) .unit))))))]] }
def h46 : Hi := { cs := [], ls := [], sp := [] }
noncomputable def t46 (N : Nat) : List CE := []
theorem t46_ok (N : Nat) : AllP (CEok Go.Proofs.Try.prog) (t46 N) := trivial
theorem a46 (N : Nat) : AllP (fun e => lookC (t46 N) e.2.id = some e.2) h46.cs := trivial
theorem fn46 : Fn Go.Proofs.Try.prog 46 Go.Proofs.Try.f46 (codeOf Go.Proofs.Try.f46) := ⟨by kernel_rfl, by kernel_rfl, by kernel_rfl, by kernel_rfl⟩
noncomputable def on46 {R : Type} (r : Option Rs) (k : Cur (Option R) [(.int .i64), (.int .i64), (.sl (.pair (.int .i64) (.pair (.pair (.int .i64) (.pair (.int .i64) (.pair (.int .i64) (.pair (.int .i64) (.pair (.int .i64) .unit))))) (.pair (.int .i64) (.pair (.int .i64) (.pair (.int .i64) .unit))))))]) : Option R := onR [(.int .i64), (.int .i64), (.sl (.pair (.int .i64) (.pair (.pair (.int .i64) (.pair (.int .i64) (.pair (.int .i64) (.pair (.int .i64) (.pair (.int .i64) .unit))))) (.pair (.int .i64) (.pair (.int .i64) (.pair (.int .i64) .unit))))))] r k
noncomputable def e46 (N : Nat) (x1973 : Int) (x1974 : Int) (x1975 : Int) (x1976 : (List (Int × ((Int × (Int × (Int × (Int × (Int × Unit))))) × (Int × (Int × (Int × Unit))))))) : Option Rs :=
  match ((decide ((List.length (x1976 : List (Int × ((Int × (Int × (Int × (Int × (Int × Unit))))) × (Int × (Int × (Int × Unit)))))) + List.length [(x1973, (((0 : Int), ((0 : Int), ((0 : Int), ((0 : Int), ((0 : Int), ()))))), ((0 : Int), (x1974, (x1975, ())))))]) * 72 ≤ reach)) : Bool) with
  | true =>
    some (0, [⟨(.int .i64), (x1974 : Int)⟩, ⟨(.int .i64), (x1975 : Int)⟩, ⟨(.sl (.pair (.int .i64) (.pair (.pair (.int .i64) (.pair (.int .i64) (.pair (.int .i64) (.pair (.int .i64) (.pair (.int .i64) .unit))))) (.pair (.int .i64) (.pair (.int .i64) (.pair (.int .i64) .unit)))))), ((x1976 ++ [(x1973, (((0 : Int), ((0 : Int), ((0 : Int), ((0 : Int), ((0 : Int), ()))))), ((0 : Int), (x1974, (x1975, ())))))]) : (List (Int × ((Int × (Int × (Int × (Int × (Int × Unit))))) × (Int × (Int × (Int × Unit)))))))⟩])
  | false =>
    none
theorem k46 (N : Nat) (x1973 : Int) (x1974 : Int) (x1975 : Int) (x1976 : (List (Int × ((Int × (Int × (Int × (Int × (Int × Unit))))) × (Int × (Int × (Int × Unit))))))) : den cx0 h46 (ctL (t46 N)) (ltL []) Go.Proofs.Try.f46 (codeOf Go.Proofs.Try.f46) c46.i c46.r c46.ob [⟨(.int .i64), x1973⟩, ⟨(.int .i64), x1974⟩, ⟨(.int .i64), x1975⟩, ⟨(.sl (.pair (.int .i64) (.pair (.pair (.int .i64) (.pair (.int .i64) (.pair (.int .i64) (.pair (.int .i64) (.pair (.int .i64) .unit))))) (.pair (.int .i64) (.pair (.int .i64) (.pair (.int .i64) .unit)))))), x1976⟩] = e46 N x1973 x1974 x1975 x1976 := by kernel_rfl
theorem c46_ok (N : Nat) (x1973 : Int) (x1974 : Int) (x1975 : Int) (x1976 : (List (Int × ((Int × (Int × (Int × (Int × (Int × Unit))))) × (Int × (Int × (Int × Unit))))))) (n0 : Nat) (q : List DV) (h : e46 N x1973 x1974 x1975 x1976 = some (n0, q)) : CallOK Go.Proofs.Try.prog c46 [⟨(.int .i64), x1973⟩, ⟨(.int .i64), x1974⟩, ⟨(.int .i64), x1975⟩, ⟨(.sl (.pair (.int .i64) (.pair (.pair (.int .i64) (.pair (.int .i64) (.pair (.int .i64) (.pair (.int .i64) (.pair (.int .i64) .unit))))) (.pair (.int .i64) (.pair (.int .i64) (.pair (.int .i64) .unit)))))), x1976⟩] q :=
  fn_ok (l := t46 N) (t := []) ti_ok hmix (t46_ok N) (a46 N) fn46 (by kernel_rfl) (by kernel_rfl) trivial ((k46 N x1973 x1974 x1975 x1976).trans h)
noncomputable def x46 (N : Nat) : List DV → (List DV → Option Rs) → Option Rs := mkX [(.int .i64), (.int .i64), (.int .i64), (.sl (.pair (.int .i64) (.pair (.pair (.int .i64) (.pair (.int .i64) (.pair (.int .i64) (.pair (.int .i64) (.pair (.int .i64) .unit))))) (.pair (.int .i64) (.pair (.int .i64) (.pair (.int .i64) .unit))))))] [(.int .i64), (.int .i64), (.sl (.pair (.int .i64) (.pair (.pair (.int .i64) (.pair (.int .i64) (.pair (.int .i64) (.pair (.int .i64) (.pair (.int .i64) .unit))))) (.pair (.int .i64) (.pair (.int .i64) (.pair (.int .i64) .unit))))))] (e46 N)
theorem x46_ok (N : Nat) : CEok Go.Proofs.Try.prog (c46, x46 N) := mkX_ok fun ys n q h => c46_ok N ys.1 ys.2.1 ys.2.2.1 ys.2.2.2.1 n q h
end Go.Proofs.Zz
