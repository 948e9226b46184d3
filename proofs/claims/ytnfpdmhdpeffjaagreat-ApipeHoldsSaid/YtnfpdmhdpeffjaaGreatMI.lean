import Derived.Test.YtnfpdmhdpeffjaaGreatMG
import Derived.Test.YtnfpdmhdpeffjaaGreatK6
set_option linter.unusedSimpArgs false
set_option linter.unusedVariables false
/- Programs of a load or a store, and a halt: how they are split. -/
set_option linter.unusedVariables false
set_option linter.unusedSimpArgs false
set_option maxRecDepth 100000
namespace Go.Proofs.Zz
open Go
/-- A load or a store, into register d; a halt; a load that hangs on register 1, if it is asked for. -/
abbrev insL (op d imm : Int) : api_Ins := (op, (d, (0, (0, (imm, ())))))
abbrev extL (ext : Bool) : List api_Ins := bif ext then [(29, (2, (1, (0, (0, ())))))] else []
abbrev cdL (op d imm : Int) (ext : Bool) : List api_Ins := insL op d imm :: (41, (0, api_Write.z)) :: extL ext
abbrev prL (op d imm : Int) (ext : Bool) (size : Int) (data : List Int) : api_Program := api_Program.mk (cdL op d imm ext) size data
def ShL (op d : Int) (ext : Bool) : Prop := (op = 26 ∧ d = 0 ∧ ext = false) ∨ (op = 27 ∧ d = 0 ∧ ext = false) ∨ (op = 28 ∧ d = 0 ∧ ext = false) ∨ (op = 29 ∧ d = 0 ∧ ext = false) ∨ (op = 30 ∧ d = 0 ∧ ext = false) ∨ (op = 31 ∧ d = 0 ∧ ext = false) ∨ (op = 32 ∧ d = 0 ∧ ext = false) ∨ (op = 33 ∧ d = 0 ∧ ext = false) ∨ (op = 26 ∧ d = 1 ∧ ext = false) ∨ (op = 26 ∧ d = 1 ∧ ext = true) ∨ (op = 27 ∧ d = 1 ∧ ext = false) ∨ (op = 27 ∧ d = 1 ∧ ext = true) ∨ (op = 28 ∧ d = 1 ∧ ext = false) ∨ (op = 28 ∧ d = 1 ∧ ext = true) ∨ (op = 29 ∧ d = 1 ∧ ext = false) ∨ (op = 29 ∧ d = 1 ∧ ext = true) ∨ (op = 30 ∧ d = 1 ∧ ext = false) ∨ (op = 30 ∧ d = 1 ∧ ext = true)
theorem shT {op : Int} (h : 26 ≤ op ∧ op ≤ 33) : ShL op 0 false := by
  unfold ShL
  have : op = 26 ∨ op = 27 ∨ op = 28 ∨ op = 29 ∨ op = 30 ∨ op = 31 ∨ op = 32 ∨ op = 33 := by omega
  rcases this with rfl | rfl | rfl | rfl | rfl | rfl | rfl | rfl <;> simp
theorem shH {op : Int} (ext : Bool) (h : 26 ≤ op ∧ op ≤ 30) : ShL op 1 ext := by
  unfold ShL
  have : op = 26 ∨ op = 27 ∨ op = 28 ∨ op = 29 ∨ op = 30 := by omega
  rcases this with rfl | rfl | rfl | rfl | rfl <;> cases ext <;> simp
section
variable {op d imm size : Int} {ext : Bool} {data : List Int}
theorem riL (h : ShL op d ext) (hi : -8192 ≤ imm ∧ imm ≤ 8191) : rightIns (insL op d imm) = true := by
  have e : rightIns (insL op d imm) = decide (-8192 ≤ imm ∧ imm ≤ 8191) := by
    rcases h with ⟨rfl, rfl, rfl⟩ | ⟨rfl, rfl, rfl⟩ | ⟨rfl, rfl, rfl⟩ | ⟨rfl, rfl, rfl⟩ | ⟨rfl, rfl, rfl⟩ | ⟨rfl, rfl, rfl⟩ | ⟨rfl, rfl, rfl⟩ | ⟨rfl, rfl, rfl⟩ | ⟨rfl, rfl, rfl⟩ | ⟨rfl, rfl, rfl⟩ | ⟨rfl, rfl, rfl⟩ | ⟨rfl, rfl, rfl⟩ | ⟨rfl, rfl, rfl⟩ | ⟨rfl, rfl, rfl⟩ | ⟨rfl, rfl, rfl⟩ | ⟨rfl, rfl, rfl⟩ | ⟨rfl, rfl, rfl⟩ | ⟨rfl, rfl, rfl⟩ <;> kernel_rfl
  rw [e, decide_eq_true hi]
theorem rpL (h : ShL op d ext) (hi : -8192 ≤ imm ∧ imm ≤ 8191) (hs : 0 ≤ size ∧ size ≤ 65536) (hd : len data ≤ size) : r1_RightProgram 20000 (prL op d imm ext size data) = some (0, gB.dv true []) := by
  have e1 : r1_RightProgram_l0 20000 20000 0 (prL op d imm ext size data) = on1 (r1_RightIns 20000 (insL op d imm)) (gg [pB] fun x2 => bi (!x2) (some (0, gB.dv false [])) (r1_RightProgram_l0 20000 19999 (w.i64 (0 + 1)) (prL op d imm ext size data))) := by
    rcases h with ⟨rfl, rfl, rfl⟩ | ⟨rfl, rfl, rfl⟩ | ⟨rfl, rfl, rfl⟩ | ⟨rfl, rfl, rfl⟩ | ⟨rfl, rfl, rfl⟩ | ⟨rfl, rfl, rfl⟩ | ⟨rfl, rfl, rfl⟩ | ⟨rfl, rfl, rfl⟩ | ⟨rfl, rfl, rfl⟩ | ⟨rfl, rfl, rfl⟩ | ⟨rfl, rfl, rfl⟩ | ⟨rfl, rfl, rfl⟩ | ⟨rfl, rfl, rfl⟩ | ⟨rfl, rfl, rfl⟩ | ⟨rfl, rfl, rfl⟩ | ⟨rfl, rfl, rfl⟩ | ⟨rfl, rfl, rfl⟩ | ⟨rfl, rfl, rfl⟩ <;> kernel_rfl
  have e2 : r1_RightProgram_l0 20000 19999 (w.i64 (0 + 1)) (prL op d imm ext size data) = some (1, g_api_Program.dv (prL op d imm ext size data) []) := by
    rcases h with ⟨rfl, rfl, rfl⟩ | ⟨rfl, rfl, rfl⟩ | ⟨rfl, rfl, rfl⟩ | ⟨rfl, rfl, rfl⟩ | ⟨rfl, rfl, rfl⟩ | ⟨rfl, rfl, rfl⟩ | ⟨rfl, rfl, rfl⟩ | ⟨rfl, rfl, rfl⟩ | ⟨rfl, rfl, rfl⟩ | ⟨rfl, rfl, rfl⟩ | ⟨rfl, rfl, rfl⟩ | ⟨rfl, rfl, rfl⟩ | ⟨rfl, rfl, rfl⟩ | ⟨rfl, rfl, rfl⟩ | ⟨rfl, rfl, rfl⟩ | ⟨rfl, rfl, rfl⟩ | ⟨rfl, rfl, rfl⟩ | ⟨rfl, rfl, rfl⟩ <;> kernel_rfl
  have e3 : r1_Targets 20000 (prL op d imm ext size data) = some (0, gI.dv 0 []) := by
    rcases h with ⟨rfl, rfl, rfl⟩ | ⟨rfl, rfl, rfl⟩ | ⟨rfl, rfl, rfl⟩ | ⟨rfl, rfl, rfl⟩ | ⟨rfl, rfl, rfl⟩ | ⟨rfl, rfl, rfl⟩ | ⟨rfl, rfl, rfl⟩ | ⟨rfl, rfl, rfl⟩ | ⟨rfl, rfl, rfl⟩ | ⟨rfl, rfl, rfl⟩ | ⟨rfl, rfl, rfl⟩ | ⟨rfl, rfl, rfl⟩ | ⟨rfl, rfl, rfl⟩ | ⟨rfl, rfl, rfl⟩ | ⟨rfl, rfl, rfl⟩ | ⟨rfl, rfl, rfl⟩ | ⟨rfl, rfl, rfl⟩ | ⟨rfl, rfl, rfl⟩ <;> kernel_rfl
  have e4 : len (cdL op d imm ext) = 2 ∨ len (cdL op d imm ext) = 3 := by
    cases ext
    · exact .inl rfl
    · exact .inr rfl
  rw [r1_RightIns_is, riL h hi, on1_some, gg_dv, gg_nil, Bool.not_true, bi_false, e2] at e1
  unfold r1_RightProgram
  rw [df (show ¬ (len (cdL op d imm ext) < 1) by omega), bi_false, df (show ¬ (len (cdL op d imm ext) > 2000) by omega), bi_false, df (show ¬ (size < 0) by omega), bi_false, df (show ¬ (size > 65536) by omega), bi_false, df (show ¬ (len data > size) by omega), bi_false, e1, onB_snd _ _ (by decide), gg_dv, gg_nil, e3, on1_some, gg_dv, gg_nil]
  rfl
abbrev ownL (ext : Bool) : List Int := [0, bif ext then 1 else 2, 2, 2, 2, 2, 2, 2, 2, 2, 2, 2, 2, 2, 2, 2]
abbrev cutL (ext : Bool) : List (Int × (Int × (Int × (Int × (Unit × (Unit × Unit)))))) := (0, (2, (-1, (-1, ((), ((), ())))))) :: bif ext then [(2, (3, (-1, (-1, ((), ((), ()))))))] else []
theorem ownerL (h : ShL op d ext) (hi : -8192 ≤ imm ∧ imm ≤ 8191) (hs : 0 ≤ size ∧ size ≤ 65536) (hd : len data ≤ size) : r10_Owner 20000 (prL op d imm ext size data) = some (0, (gD (.ar 16 tI)).dv (ownL ext) []) := by
  unfold r10_Owner
  rw [rpL h hi hs hd, on1_some, gg_dv, gg_nil]
  rcases h with ⟨rfl, rfl, rfl⟩ | ⟨rfl, rfl, rfl⟩ | ⟨rfl, rfl, rfl⟩ | ⟨rfl, rfl, rfl⟩ | ⟨rfl, rfl, rfl⟩ | ⟨rfl, rfl, rfl⟩ | ⟨rfl, rfl, rfl⟩ | ⟨rfl, rfl, rfl⟩ | ⟨rfl, rfl, rfl⟩ | ⟨rfl, rfl, rfl⟩ | ⟨rfl, rfl, rfl⟩ | ⟨rfl, rfl, rfl⟩ | ⟨rfl, rfl, rfl⟩ | ⟨rfl, rfl, rfl⟩ | ⟨rfl, rfl, rfl⟩ | ⟨rfl, rfl, rfl⟩ | ⟨rfl, rfl, rfl⟩ | ⟨rfl, rfl, rfl⟩ <;> kernel_rfl
theorem closedL (h : ShL op d ext) (hi : -8192 ≤ imm ∧ imm ≤ 8191) (hs : 0 ≤ size ∧ size ≤ 65536) (hd : len data ≤ size) : r10_Closed 20000 (prL op d imm ext size data) (ownL ext) = some (0, gB.dv true []) := by
  unfold r10_Closed
  rw [rpL h hi hs hd, on1_some, gg_dv, gg_nil]
  rcases h with ⟨rfl, rfl, rfl⟩ | ⟨rfl, rfl, rfl⟩ | ⟨rfl, rfl, rfl⟩ | ⟨rfl, rfl, rfl⟩ | ⟨rfl, rfl, rfl⟩ | ⟨rfl, rfl, rfl⟩ | ⟨rfl, rfl, rfl⟩ | ⟨rfl, rfl, rfl⟩ | ⟨rfl, rfl, rfl⟩ | ⟨rfl, rfl, rfl⟩ | ⟨rfl, rfl, rfl⟩ | ⟨rfl, rfl, rfl⟩ | ⟨rfl, rfl, rfl⟩ | ⟨rfl, rfl, rfl⟩ | ⟨rfl, rfl, rfl⟩ | ⟨rfl, rfl, rfl⟩ | ⟨rfl, rfl, rfl⟩ | ⟨rfl, rfl, rfl⟩ <;> kernel_rfl
theorem leadersL (h : ShL op d ext) (hi : -8192 ≤ imm ∧ imm ≤ 8191) (hs : 0 ≤ size ∧ size ≤ 65536) (hd : len data ≤ size) : r10_Leaders 20000 (prL op d imm ext size data) = some (0, (gD (.sl tI)).dv (0 :: bif ext then [2] else []) []) := by
  unfold r10_Leaders
  rw [rpL h hi hs hd, on1_some, gg_dv, gg_nil]
  rcases h with ⟨rfl, rfl, rfl⟩ | ⟨rfl, rfl, rfl⟩ | ⟨rfl, rfl, rfl⟩ | ⟨rfl, rfl, rfl⟩ | ⟨rfl, rfl, rfl⟩ | ⟨rfl, rfl, rfl⟩ | ⟨rfl, rfl, rfl⟩ | ⟨rfl, rfl, rfl⟩ | ⟨rfl, rfl, rfl⟩ | ⟨rfl, rfl, rfl⟩ | ⟨rfl, rfl, rfl⟩ | ⟨rfl, rfl, rfl⟩ | ⟨rfl, rfl, rfl⟩ | ⟨rfl, rfl, rfl⟩ | ⟨rfl, rfl, rfl⟩ | ⟨rfl, rfl, rfl⟩ | ⟨rfl, rfl, rfl⟩ | ⟨rfl, rfl, rfl⟩ <;> kernel_rfl
theorem cutsL (h : ShL op d ext) (hi : -8192 ≤ imm ∧ imm ≤ 8191) (hs : 0 ≤ size ∧ size ≤ 65536) (hd : len data ≤ size) : r10_Cut 20000 (prL op d imm ext size data) = some (0, (gD (.sl (.pair tI (.pair tI (.pair tI (.pair tI (.pair .nl (.pair .nl .unit)))))))).dv (cutL ext) []) := by
  unfold r10_Cut
  rw [leadersL h hi hs hd, on1_some, gg_dv, gg_nil]
  rcases h with ⟨rfl, rfl, rfl⟩ | ⟨rfl, rfl, rfl⟩ | ⟨rfl, rfl, rfl⟩ | ⟨rfl, rfl, rfl⟩ | ⟨rfl, rfl, rfl⟩ | ⟨rfl, rfl, rfl⟩ | ⟨rfl, rfl, rfl⟩ | ⟨rfl, rfl, rfl⟩ | ⟨rfl, rfl, rfl⟩ | ⟨rfl, rfl, rfl⟩ | ⟨rfl, rfl, rfl⟩ | ⟨rfl, rfl, rfl⟩ | ⟨rfl, rfl, rfl⟩ | ⟨rfl, rfl, rfl⟩ | ⟨rfl, rfl, rfl⟩ | ⟨rfl, rfl, rfl⟩ | ⟨rfl, rfl, rfl⟩ | ⟨rfl, rfl, rfl⟩ <;> kernel_rfl
/-- The cells of the first instruction. -/
def kndA (op d : Int) (ext : Bool) : Int := if op ≥ 31 then 4 else if d = 1 ∧ ext = false then 3 else 2
def celA (op d imm : Int) (ext : Bool) : api_Cell := (kndA op d ext, (insL op d imm, (0, (0, (0, ())))))
def celE (op d imm : Int) (ext : Bool) : List api_Cell := if op ≥ 31 then [(8, (api_Ins.z, (0, (0, (0, ())))))] else if d = 1 ∧ ext = false then [(7, (insL op d imm, (0, (0, (0, ())))))] else []
theorem emit0L (h : ShL op d ext) (hi : -8192 ≤ imm ∧ imm ≤ 8191) : r10_Emit 20000 (insL op d imm) (ownL ext) 0 0 = some (0, (gD (.sl t_api_Cell)).dv [celA op d imm ext] ((gD (.sl t_api_Cell)).dv (celE op d imm ext) [])) := by
  unfold r10_Emit
  rw [r1_RightIns_is, riL h hi, on1_some, gg_dv, gg_nil]
  rcases h with ⟨rfl, rfl, rfl⟩ | ⟨rfl, rfl, rfl⟩ | ⟨rfl, rfl, rfl⟩ | ⟨rfl, rfl, rfl⟩ | ⟨rfl, rfl, rfl⟩ | ⟨rfl, rfl, rfl⟩ | ⟨rfl, rfl, rfl⟩ | ⟨rfl, rfl, rfl⟩ | ⟨rfl, rfl, rfl⟩ | ⟨rfl, rfl, rfl⟩ | ⟨rfl, rfl, rfl⟩ | ⟨rfl, rfl, rfl⟩ | ⟨rfl, rfl, rfl⟩ | ⟨rfl, rfl, rfl⟩ | ⟨rfl, rfl, rfl⟩ | ⟨rfl, rfl, rfl⟩ | ⟨rfl, rfl, rfl⟩ | ⟨rfl, rfl, rfl⟩ <;> kernel_rfl
abbrev hltL : api_Cell := (12, (api_Ins.z, (0, (1, (1, ())))))
theorem emit1L (ext : Bool) : r10_Emit 20000 (41, (0, api_Write.z)) (ownL ext) 1 1 = some (0, (gD (.sl t_api_Cell)).dv [hltL] ((gD (.sl t_api_Cell)).dv [hltL] [])) := by cases ext <;> kernel_rfl
abbrev lastA : api_Cell := (3, ((29, (2, (1, (0, (0, ()))))), (0, (2, (0, ())))))
abbrev lastE : api_Cell := (7, ((29, (2, (1, (0, (0, ()))))), (0, (2, (0, ())))))
theorem emit2L : r10_Emit 20000 (29, (2, (1, (0, (0, ()))))) (ownL true) 2 0 = some (0, (gD (.sl t_api_Cell)).dv [lastA] ((gD (.sl t_api_Cell)).dv [lastE] [])) := by kernel_rfl
abbrev blkL (op d imm : Int) (ext : Bool) : api_Block := (0, (2, (-1, (-1, ([celA op d imm ext, hltL], (celE op d imm ext ++ [hltL], ()))))))
abbrev splL (op d imm : Int) (ext : Bool) : api_Split := api_Split.mk (blkL op d imm ext :: bif ext then [(2, (3, (-1, (-1, ([lastA], ([lastE], ()))))))] else []) (ownL ext)
theorem w2_0L (h : ShL op d ext) (hi : -8192 ≤ imm ∧ imm ≤ 8191) (ii nn i2 : Int) (rb : List api_Block) (ro so : List Int) :
    r10_With_l2 20000 20000 ii 0 (cdL op d imm ext) size data (ownL ext) rb ro nn i2 so 0 2 (-1) (-1) [] [] = some (3, dvG UW (ii, cdL op d imm ext, size, data, ownL ext, rb, ro, nn, i2, so, 0, 2, -1, -1, [celA op d imm ext, hltL], celE op d imm ext ++ [hltL], ())) := by
  have e1 : r10_With_l2 20000 20000 ii 0 (cdL op d imm ext) size data (ownL ext) rb ro nn i2 so 0 2 (-1) (-1) [] [] = on1 (r10_Emit 20000 (insL op d imm) (ownL ext) 0 0) (gg [pD (.sl t_api_Cell), pD (.sl t_api_Cell)] fun x17 x18 => gd (rm ([] : List api_Cell) x17 72) (gd (rm ([] : List api_Cell) x18 72) (r10_With_l2 20000 19999 ii (w.i64 (0 + 1)) (cdL op d imm ext) size data (ownL ext) rb ro nn i2 so 0 2 (-1) (-1) ([] ++ x17) ([] ++ x18)))) := by
    clear h
    cases ext <;> kernel_rfl
  rw [e1, emit0L h hi, on1_some, gg_dv, gg_dv, gg_nil]
  have e2 : r10_With_l2 20000 19999 ii (w.i64 (0 + 1)) (cdL op d imm ext) size data (ownL ext) rb ro nn i2 so 0 2 (-1) (-1) ([] ++ [celA op d imm ext]) ([] ++ celE op d imm ext) = on1 (r10_Emit 20000 (41, (0, api_Write.z)) (ownL ext) 1 1) (gg [pD (.sl t_api_Cell), pD (.sl t_api_Cell)] fun x17 x18 => gd (rm [celA op d imm ext] x17 72) (gd (rm (celE op d imm ext) x18 72) (r10_With_l2 20000 19998 ii (w.i64 (1 + 1)) (cdL op d imm ext) size data (ownL ext) rb ro nn i2 so 0 2 (-1) (-1) ([celA op d imm ext] ++ x17) (celE op d imm ext ++ x18)))) := by
    clear h e1
    cases ext <;> kernel_rfl
  have hl : (celE op d imm ext).length ≤ 1 := by
    unfold celE
    split
    · simp
    · split <;> simp
  rw [rmT (by simp), gd_true, rmT (by simp only [List.length_nil]; omega), gd_true, e2, emit1L, on1_some, gg_dv, gg_dv, gg_nil, rmT (by simp), gd_true, rmT (by simp only [List.length_cons, List.length_nil]; omega), gd_true]
  show _ = _
  clear h e1 e2
  cases ext <;> kernel_rfl
theorem w2_1L (ii nn i2 : Int) (rb : List api_Block) (ro so : List Int) :
    r10_With_l2 20000 20000 ii 2 (cdL op d imm true) size data (ownL true) rb ro nn i2 so 2 3 (-1) (-1) [] [] = some (3, dvG UW (ii, cdL op d imm true, size, data, ownL true, rb, ro, nn, i2, so, 2, 3, -1, -1, [lastA], [lastE], ())) := by
  have e1 : r10_With_l2 20000 20000 ii 2 (cdL op d imm true) size data (ownL true) rb ro nn i2 so 2 3 (-1) (-1) [] [] = on1 (r10_Emit 20000 (29, (2, (1, (0, (0, ()))))) (ownL true) 2 0) (gg [pD (.sl t_api_Cell), pD (.sl t_api_Cell)] fun x17 x18 => gd (rm ([] : List api_Cell) x17 72) (gd (rm ([] : List api_Cell) x18 72) (r10_With_l2 20000 19999 ii (w.i64 (2 + 1)) (cdL op d imm true) size data (ownL true) rb ro nn i2 so 2 3 (-1) (-1) ([] ++ x17) ([] ++ x18)))) := by
    kernel_rfl
  rw [e1, emit2L, on1_some, gg_dv, gg_dv, gg_nil, rmT (by simp), gd_true, rmT (by simp), gd_true]
  show _ = _
  kernel_rfl
theorem st_exact {n i : Int} (h0 : 0 ≤ i) (h1 : i < n) (h2 : n ≤ 2000) (C : List api_Ins) (size : Int) (data o : List Int) (rb : List api_Block) (ro so : List Int) (v : D0) {A E : List api_Cell}
    (h3 : r10_With_l2 20000 20000 i v.1 C size data o rb ro n i so v.1 v.2.1 v.2.2.1 v.2.2.2.1 [] [] = some (3, dvG UW (i, C, size, data, o, rb, ro, n, i, so, v.1, v.2.1, v.2.2.1, v.2.2.2.1, A, E, ()))) :
    st_W 20000 n i (dvG XW (C, size, data, o, rb, ro, ())) (dvG SW (so, ())) v = some (dvG XW (C, size, data, o, rb, ro, ()), dvG SW (so, ()), (v.1, (v.2.1, (v.2.2.1, (v.2.2.2.1, (A, (E, ()))))))) := by
  unfold st_W
  refine (gg_dvG XW _ (C, size, data, o, rb, ro, ())).trans ?_
  refine (gg_dvG SW _ (so, ())).trans ?_
  show onA 3 (r10_With_l2 20000 20000 i v.1 C size data o rb ro n i so v.1 v.2.1 v.2.2.1 v.2.2.2.1 [] []) _ = _
  rw [h3, onA_some]
  refine (gg_dvG UW _ (i, C, size, data, o, rb, ro, n, i, so, v.1, v.2.1, v.2.2.1, v.2.2.2.1, A, E, ())).trans ?_
  show stW n i i n i _ = _
  unfold stW
  rw [if_pos ⟨h0, h1, rfl, rfl, rfl, wS' h0 (by omega)⟩]
theorem walk_one (n i : Int) (v : D0) (rest : List D0) {X S X' S' X2 S2 : List DV} {v' : Den (B4 (.sl t_api_Cell))} {ys : List (Den (B4 (.sl t_api_Cell)))} (h : (ol_W 20000).step n i X S v = some (X', S', v')) (h2 : (ol_W 20000).walk n rest (i + 1) X' S' = some (X2, S2, ys)) :
    (ol_W 20000).walk n (v :: rest) i X S = some (X2, S2, v' :: ys) := by
  refine (OL.walk_cons (ol_W 20000) n v rest i _ _).trans ?_
  rw [h]
  simp only []
  rw [h2]
  rfl
theorem withL (h : ShL op d ext) (hi : -8192 ≤ imm ∧ imm ≤ 8191) (hs : 0 ≤ size ∧ size ≤ 65536) (hd : len data ≤ size) : r10_With 20000 (prL op d imm ext size data) (ownL ext) = some (0, g_api_Split.dv (splL op d imm ext) (gI.dv 0 [])) := by
  unfold r10_With
  rw [closedL h hi hs hd, on1_some, gg_dv, gg_nil, Bool.not_true, bi_false, cutsL h hi hs hd, on1_some, gg_dv, gg_nil]
  have e : r10_With_l0 20000 20000 0 (cdL op d imm ext) size data (ownL ext) ([] : List api_Block) (List.replicate 16 (0 :Int)) (cutL ext) (ownL ext) = some (1, dvG LX (cdL op d imm ext, size, data, ownL ext, [], List.replicate 16 0, (splL op d imm ext).Blocks, ownL ext, ())) := by
    unfold r10_With_l0
    rw [if_pos rfl]
    cases ext with
    | false =>
      have w := st_exact (n := 1) (i := 0) (by omega) (by omega) (by omega) (cdL op d imm false) size data (ownL false) [] (List.replicate 16 0) (ownL false) (0, (2, (-1, (-1, ((), ((), ())))))) (w2_0L h hi 0 1 0 [] (List.replicate 16 0) (ownL false))
      have w' : (ol_W 20000).walk ((cutL false).length : Int) (cutL false) 0 (dvG XW (cdL op d imm false, size, data, ownL false, [], List.replicate 16 0, ())) (dvG SW (ownL false, ())) = some (dvG XW (cdL op d imm false, size, data, ownL false, [], List.replicate 16 0, ()), dvG SW (ownL false, ()), [blkL op d imm false]) := by
        exact walk_one 1 0 _ [] w rfl
      rw [w']
      rfl
    | true =>
      have w := st_exact (n := 2) (i := 0) (by omega) (by omega) (by omega) (cdL op d imm true) size data (ownL true) [] (List.replicate 16 0) (ownL true) (0, (2, (-1, (-1, ((), ((), ())))))) (w2_0L h hi 0 2 0 [] (List.replicate 16 0) (ownL true))
      have w1 := st_exact (n := 2) (i := 1) (by omega) (by omega) (by omega) (cdL op d imm true) size data (ownL true) [] (List.replicate 16 0) (ownL true) (2, (3, (-1, (-1, ((), ((), ())))))) (w2_1L 1 2 1 [] (List.replicate 16 0) (ownL true))
      have w' : (ol_W 20000).walk ((cutL true).length : Int) (cutL true) 0 (dvG XW (cdL op d imm true, size, data, ownL true, [], List.replicate 16 0, ())) (dvG SW (ownL true, ())) = some (dvG XW (cdL op d imm true, size, data, ownL true, [], List.replicate 16 0, ()), dvG SW (ownL true, ()), (splL op d imm true).Blocks) := by
        exact walk_one 2 0 _ [_] w (walk_one 2 (0 + 1) _ [] w1 rfl)
      rw [w']
      rfl
  rw [show r10_With_l0 20000 20000 0 (prL op d imm ext size data).Code (prL op d imm ext size data).Size (prL op d imm ext size data).Data (ownL ext) ([] : List api_Block) (List.replicate 16 (0 :Int)) (cutL ext) (ownL ext) = _ from e, onA_some]
  refine (gg_dvG LX _ (cdL op d imm ext, size, data, ownL ext, [], List.replicate 16 0, (splL op d imm ext).Blocks, ownL ext, ())).trans ?_
  rfl
theorem splitL (h : ShL op d ext) (hi : -8192 ≤ imm ∧ imm ≤ 8191) (hs : 0 ≤ size ∧ size ≤ 65536) (hd : len data ≤ size) : r10_Split 20000 (prL op d imm ext size data) = some (0, g_api_Split.dv (splL op d imm ext) (gI.dv 0 [])) := by
  unfold r10_Split
  rw [ownerL h hi hs hd, on1_some, gg_dv, gg_nil, withL h hi hs hd, on1_some, gg_dv, gg_dv, gg_nil]
end
end Go.Proofs.Zz
/- A load or store of a wrong address is a trap: the reference law's answer. -/
set_option linter.unusedVariables false
set_option linter.unusedSimpArgs false
set_option maxRecDepth 100000
namespace Go.Proofs.Zz
open Go
/-- A state at a program's beginning. -/
abbrev stL (mem : List Int) : api_State := api_State.mk 0 api_Side.z api_Side.z ([] : List api_Slot) ([] : List Int) ([] : List Int) ([] : List Bool) ([] : List Bool) ([] : List api_Entry) ([] : List api_Request) mem ([] : List api_Write) api_Trap.z 0 0 0
section
variable {op d imm size : Int} {ext : Bool} {data : List Int}
abbrev memL (size : Int) (data : List Int) : List Int := laid (List.replicate size.toNat (0 :Int)) 0 (List.take (List.length (List.replicate size.toNat (0 :Int))) data)
theorem memL_len (hs : 0 ≤ size ∧ size ≤ 65536) : len (memL size data) = size := by
  simp only [memL, len, laid, List.length_append, List.length_take, List.length_drop, List.length_replicate]
  omega
theorem firstL (h : ShL op d ext) (hi : -8192 ≤ imm ∧ imm ≤ 8191) (hs : 0 ≤ size ∧ size ≤ 65536) (hd : len data ≤ size) : r15_First 20000 (prL op d imm ext size data) = some (0, g_api_State.dv (stL (memL size data)) []) := by
  unfold r15_First
  rw [rpL h hi hs hd, on1_some, gg_dv, gg_nil, Bool.not_true, bi_false]
  unfold r1_First
  rw [show decide (0 ≤ (prL op d imm ext size data).Size ∧ (prL op d imm ext size data).Size ≤ (prL op d imm ext size data).Size ∧ (prL op d imm ext size data).Size * ((1 : Nat) : Int) ≤ ((reach : Nat) : Int) ∧ (prL op d imm ext size data).Size ≤ ((reach : Nat) : Int)) = true from decide_eq_true (by show 0 ≤ size ∧ size ≤ size ∧ size * ((1 : Nat) : Int) ≤ ((reach : Nat) : Int) ∧ size ≤ ((reach : Nat) : Int); simp only [reach]; omega), gd_true, on1_some, gg_dv, gg_nil]
theorem nextOkL : NextOk (splL op d imm ext) := by
  intro b hb
  left
  have h := hasM_iff.1 hb
  cases ext with
  | false =>
    have : b = 0 := by simp only [splL, List.length_cons, List.length_nil, cond_false] at h; omega
    subst this
    show (-1 : Int) < 0
    decide
  | true =>
    have : b = 0 ∨ b = 1 := by simp only [splL, List.length_cons, List.length_nil, cond_true] at h; omega
    rcases this with rfl | rfl
    · show (-1 : Int) < 0
      decide
    · show (-1 : Int) < 0
      decide
theorem zero_U32 : ∀ r ∈ (List.replicate 16 0 : List Int), U32 r := by
  intro r hr
  rw [List.eq_of_mem_replicate hr]
  exact ⟨by simp, by simp⟩
theorem wfL {mem : List Int} (h : len mem ≤ 65536) : Wf (stL mem) :=
  { rA := rfl, rE := rfl, mem := by simp only [len] at h; show mem.length ≤ 100000; omega, saq := by simp, tab := by simp, ldq := by simp, sdq := by simp, aeq := by simp, abq := by simp, ebq := by simp, wri := by simp, gA := zero_U32, gE := zero_U32 }
theorem wfaL {mem : List Int} (h : len mem ≤ 65536) : WfA (stL mem) :=
  { mem := by simp only [len] at h; show mem.length ≤ 100000; omega, ldq := by simp, tab := by simp, saq := by simp, aeq := by simp, abq := by simp, gA := zero_U32 }
abbrev cfgT : api_Config := api_Config.mk 1 1 1 1 1 1 1 1 9 1 1 1
theorem rightT (h : ShL op d ext) {mem : List Int} (hm : len mem ≤ 65536) : rightM cfgT (splL op d imm ext) (stL mem) = true := by
  have e : rightM cfgT (splL op d imm ext) (stL mem) = (decide (len mem ≤ 65536) && true) := by
    clear hm
    rcases h with ⟨rfl, rfl, rfl⟩ | ⟨rfl, rfl, rfl⟩ | ⟨rfl, rfl, rfl⟩ | ⟨rfl, rfl, rfl⟩ | ⟨rfl, rfl, rfl⟩ | ⟨rfl, rfl, rfl⟩ | ⟨rfl, rfl, rfl⟩ | ⟨rfl, rfl, rfl⟩ | ⟨rfl, rfl, rfl⟩ | ⟨rfl, rfl, rfl⟩ | ⟨rfl, rfl, rfl⟩ | ⟨rfl, rfl, rfl⟩ | ⟨rfl, rfl, rfl⟩ | ⟨rfl, rfl, rfl⟩ | ⟨rfl, rfl, rfl⟩ | ⟨rfl, rfl, rfl⟩ | ⟨rfl, rfl, rfl⟩ | ⟨rfl, rfl, rfl⟩ <;> kernel_rfl
  rw [e, decide_eq_true hm]
  rfl
theorem atL (h : ShL op d ext) (mem : List Int) : atA (splL op d imm ext) (stL mem) = (celA op d imm ext, 0, true, stL mem) := by
  rcases h with ⟨rfl, rfl, rfl⟩ | ⟨rfl, rfl, rfl⟩ | ⟨rfl, rfl, rfl⟩ | ⟨rfl, rfl, rfl⟩ | ⟨rfl, rfl, rfl⟩ | ⟨rfl, rfl, rfl⟩ | ⟨rfl, rfl, rfl⟩ | ⟨rfl, rfl, rfl⟩ | ⟨rfl, rfl, rfl⟩ | ⟨rfl, rfl, rfl⟩ | ⟨rfl, rfl, rfl⟩ | ⟨rfl, rfl, rfl⟩ | ⟨rfl, rfl, rfl⟩ | ⟨rfl, rfl, rfl⟩ | ⟨rfl, rfl, rfl⟩ | ⟨rfl, rfl, rfl⟩ | ⟨rfl, rfl, rfl⟩ | ⟨rfl, rfl, rfl⟩ <;> kernel_rfl
theorem aheadT (h : ShL op d ext) (mem : List Int) : aheadM cfgT (splL op d imm ext) (stL mem) = false := by
  rcases h with ⟨rfl, rfl, rfl⟩ | ⟨rfl, rfl, rfl⟩ | ⟨rfl, rfl, rfl⟩ | ⟨rfl, rfl, rfl⟩ | ⟨rfl, rfl, rfl⟩ | ⟨rfl, rfl, rfl⟩ | ⟨rfl, rfl, rfl⟩ | ⟨rfl, rfl, rfl⟩ | ⟨rfl, rfl, rfl⟩ | ⟨rfl, rfl, rfl⟩ | ⟨rfl, rfl, rfl⟩ | ⟨rfl, rfl, rfl⟩ | ⟨rfl, rfl, rfl⟩ | ⟨rfl, rfl, rfl⟩ | ⟨rfl, rfl, rfl⟩ | ⟨rfl, rfl, rfl⟩ | ⟨rfl, rfl, rfl⟩ | ⟨rfl, rfl, rfl⟩ <;> kernel_rfl
theorem freeL (k : api_Cell) : freeM api_Side.z k 0 = true := by
  unfold freeM
  rw [List.all_eq_true]
  intro r _
  have : (api_Side.z.Ready).getD r.toNat 0 = 0 := by
    rw [List.getD_eq_getElem?_getD]
    show ((List.replicate 16 (0 : Int))[r.toNat]?).getD 0 = 0
    rw [List.getElem?_replicate]
    split <;> rfl
  rw [this]
  rfl
theorem turnT (h : ShL op d ext) (mem : List Int) : turnA cfgT (splL op d imm ext) (stL mem) = actA cfgT (splL op d imm ext) (celA op d imm ext) 0 (stL mem) := by
  unfold turnA
  rw [atL h mem]
  simp only []
  rw [aheadT h mem, show freeM (stL mem).A (celA op d imm ext) (stL mem).Cycle = true from freeL _, if_neg (by simp)]
theorem addrL (mem : List Int) : addrM (celA op d imm ext) (stL mem) = w.u32 imm := by
  show w.u32 (getM api_Side.z 0 + w.u32 imm) = w.u32 imm
  rw [show getM api_Side.z 0 = 0 from rfl]
  simp only [w.u32, IntKind.wrap_u32]
  omega
theorem sizeL (h : 26 ≤ op ∧ op ≤ 33) : sizeM op = 1 ∨ sizeM op = 2 ∨ sizeM op = 4 := by
  have : op = 26 ∨ op = 27 ∨ op = 28 ∨ op = 29 ∨ op = 30 ∨ op = 31 ∨ op = 32 ∨ op = 33 := by omega
  rcases this with rfl | rfl | rfl | rfl | rfl | rfl | rfl | rfl <;> decide
theorem chkL (h : 26 ≤ op ∧ op ≤ 33) (mem : List Int) : chkM (celA op d imm ext) (stL mem) = checkM (sizeM op) (w.u32 imm) (len mem) := by
  unfold chkM
  rw [addrL]
  show checkX (sizeM op) (w.u32 imm) (len mem) = _
  unfold checkX
  rw [if_neg (by have := sizeL h; omega)]
end
theorem actT {op imm : Int} (h : 26 ≤ op ∧ op ≤ 33) {mem : List Int} {y : api_State} (hy : y = actA cfgT (splL op 0 imm false) (celA op 0 imm false) 0 (stL mem)) :
    (checkM (sizeM op) (w.u32 imm) (len mem) ≠ 0 → y.Trap = ⟨checkM (sizeM op) (w.u32 imm) (len mem), 0, 0⟩ ∧ y.Table = [] ∧ y.Saq = [] ∧ y.A.Done = 0) ∧
    (checkM (sizeM op) (w.u32 imm) (len mem) = 0 → y.Trap = ⟨0, 0, 0⟩ ∧ y.A.Done = 1 ∧ len y.Table + len y.Saq = 1) := by
  subst hy
  rw [← chkL (d := 0) (ext := false) h mem]
  unfold actA
  by_cases hs : op ≥ 31
  · have hk : (celA op 0 imm false).1 = 4 := by unfold celA kndA; rw [if_pos hs]
    rw [if_neg (by omega), if_neg (by omega), if_pos hk]
    unfold storeM
    refine ⟨fun hc => ?_, fun hc => ?_⟩
    · rw [if_pos hc]
      unfold noteM
      rw [if_pos (.inl rfl)]
      exact ⟨rfl, rfl, rfl, rfl⟩
    · rw [if_neg (fun h => h hc), if_pos (by show len ([] : List api_Entry) < 1; simp [len])]
      exact ⟨rfl, rfl, rfl⟩
  · have hk : (celA op 0 imm false).1 = 2 := by unfold celA kndA; rw [if_neg hs, if_neg (by simp)]
    rw [if_neg (by omega), if_pos (.inl hk)]
    unfold loadM
    refine ⟨fun hc => ?_, fun hc => ?_⟩
    · rw [if_pos hc]
      unfold noteM
      rw [if_pos (.inl rfl)]
      exact ⟨rfl, rfl, rfl, rfl⟩
    · rw [if_neg (fun h => h hc), if_neg (by simp [searchM]), if_pos (by show len ([] : List api_Request) < 1; simp [len])]
      unfold askM
      rw [if_neg (by omega), if_neg (by show ¬ ((0 : Int) < 0 ∧ (0 : Int) < 16); omega)]
      exact ⟨rfl, rfl, rfl⟩
theorem form45 {op : Int} (h : formM op = 4 ∨ formM op = 5) : 26 ≤ op ∧ op ≤ 33 := by
  unfold formM at h
  repeat' split at h
  all_goals omega
theorem Traps_core {size op imm : Int} (h : 26 ≤ op ∧ op ≤ 33) (hi : -8192 ≤ imm ∧ imm ≤ 8191) (hs : 0 ≤ size ∧ size ≤ 300) :
    (on1 (r10_Split 20000 (api_Program.mk [(op, (0, (0, (0, (imm, ()))))), (41, (0, api_Write.z))] size ([] : List Int))) <| gg [p_api_Split, pI] <| fun (x11 : api_Split) (x12 : Int) =>
    on1 (r15_First 20000 (api_Program.mk [(op, (0, (0, (0, (imm, ()))))), (41, (0, api_Write.z))] size ([] : List Int))) <| gg [p_api_State] <| fun (x13 : api_State) =>
    on1 (apipe_Issue 20000 (api_Config.mk 1 1 1 1 1 1 1 1 9 1 1 1) x11 x13) <| gg [p_api_State] <| fun (x14 : api_State) =>
    on1 (r1_Size 20000 op) <| gg [pI] <| fun (x15 : Int) =>
    on1 (r1_Check 20000 x15 (w.u32 imm) size) <| gg [pI] <| fun (x16 : Int) =>
    bi (x12 != 0) (
     some (0, gB.dv false [])) <|
    bi (x16 != 0) (
     bi ((x14.Trap.Kind == x16) && ((x14.Trap.Step == 0) && (x14.Trap.Pc == 0))) (
      bi ((len x14.Table) == 0) (
       bi ((len x14.Saq) == 0) (
        some (0, gB.dv (x14.A.Done == 0) [])) <|
       some (0, gB.dv false [])) <|
      some (0, gB.dv false [])) <|
     some (0, gB.dv false [])) <|
    bi ((x14.Trap.Kind == 0) && ((x14.Trap.Step == 0) && (x14.Trap.Pc == 0))) (
     bi (x14.A.Done == 1) (
      some (0, gB.dv ((w.i64 ((len x14.Table) + (len x14.Saq))) == 1) [])) <|
     some (0, gB.dv false [])) <|
    some (0, gB.dv false [])) = (some (0, gB.dv true []) : Option Rs) := by
  have h1 := splitL (data := []) (shT h) hi (size := size) (by omega) (by simp [len]; omega)
  have h2 := firstL (data := []) (shT h) hi (size := size) (by omega) (by simp [len]; omega)
  have hl : len (memL size []) = size := memL_len (by omega)
  have hm : len (memL size []) ≤ 65536 := by omega
  have h3 := Issue_A_is (N := 20000) cfgT (splL op 0 imm false) (stL (memL size [])) (wfL hm) (wfaL hm) (by simp) (by simp) (by omega) nextOkL
  rw [show issueA cfgT (splL op 0 imm false) (stL (memL size [])) = turnA cfgT (splL op 0 imm false) (stL (memL size [])) from if_pos (rightT (shT h) hm), turnT (shT h)] at h3
  have h4 : r1_Check 20000 (sizeM op) (w.u32 imm) size = some (0, gI.dv (checkM (sizeM op) (w.u32 imm) size) []) := Check_is (N := 20000) (sizeL h) (w_U32 imm) (by omega)
  have h5 := actT (imm := imm) h (mem := memL size []) rfl
  rw [hl] at h5
  rw [show r10_Split 20000 (api_Program.mk [(op, (0, (0, (0, (imm, ()))))), (41, (0, api_Write.z))] size ([] : List Int)) = _ from h1, on1_some, gg_dv, gg_dv, gg_nil, show r15_First 20000 (api_Program.mk [(op, (0, (0, (0, (imm, ()))))), (41, (0, api_Write.z))] size ([] : List Int)) = _ from h2, on1_some, gg_dv, gg_nil, h3, on1_some, gg_dv, gg_nil, r1_Size_is, on1_some, gg_dv, gg_nil, h4, on1_some, gg_dv, gg_nil]
  generalize actA cfgT (splL op 0 imm false) (celA op 0 imm false) 0 (stL (memL size [])) = y at *
  generalize checkM (sizeM op) (w.u32 imm) size = K at *
  rw [show ((0 : Int) != 0) = false from rfl, bi_false]
  by_cases hK : K = 0
  · obtain ⟨t1, t2, t3⟩ := h5.2 hK
    subst hK
    rw [show ((0 : Int) != 0) = false from rfl, bi_false, t1, t2]
    simp only [t3]
    rfl
  · obtain ⟨t1, t2, t3, t4⟩ := h5.1 hK
    rw [show (K != 0) = true by simp [hK], bi_true, t1, t2, t3, t4]
    simp
    rfl
theorem ApipeTraps_true (size op imm : Int) : l22_ApipeTraps 20000 size op imm = some (0, gB.dv true []) := by
  unfold l22_ApipeTraps
  simp only [alive22_is, r1_Form_is, on1_some, gg_dv, gg_nil, Bool.not_true, bi_false]
  by_cases h0 : size < 0
  · rw [dt h0]; rfl
  rw [df h0, bi_false]
  by_cases h1 : size > 300
  · rw [dt h1]; rfl
  rw [df h1, bi_false]
  by_cases h4 : formM op = 4
  · rw [show (formM op != 4) = false by simp [h4], bi_false]
    by_cases h2 : imm < (-8192 : Int)
    · rw [dt h2]; rfl
    rw [df h2, bi_false]
    by_cases h3 : imm > 8191
    · rw [dt h3]; rfl
    rw [df h3, bi_false]
    exact Traps_core (form45 (.inl h4)) (by omega) (by omega)
  · rw [show (formM op != 4) = true by simp [h4], bi_true]
    by_cases h5 : formM op = 5
    · rw [show (formM op != 5) = false by simp [h5], bi_false]
      by_cases h2 : imm < (-8192 : Int)
      · rw [dt h2]; rfl
      rw [df h2, bi_false]
      by_cases h3 : imm > 8191
      · rw [dt h3]; rfl
      rw [df h3, bi_false]
      exact Traps_core (form45 (.inr h5)) (by omega) (by omega)
    · rw [show (formM op != 5) = true by simp [h5]]; rfl
end Go.Proofs.Zz
/- Loads behind stores: the reference's search and its bypass. -/
set_option linter.unusedVariables false
set_option linter.unusedSimpArgs false
set_option maxRecDepth 100000
namespace Go.Proofs.Zz
open Go
variable {N : Nat}
theorem before_range {a n b : Int} (ha : 0 ≤ a ∧ a ≤ 100000) (hn : 0 ≤ n ∧ n ≤ 100) (hb : 0 ≤ b ∧ b ≤ 100000) : beforeM a n b = decide (a ≤ b ∧ b - a < n) := by
  unfold beforeM
  rw [Bool.eq_iff_iff]
  simp only [Bool.and_eq_true, decide_eq_true_eq, w.u64, IntKind.wrap_u64]
  omega
theorem overR_is {e n a m : Int} (he : 0 ≤ e ∧ e ≤ 100000) (hn : 1 ≤ n ∧ n ≤ 4) (ha : 0 ≤ a ∧ a ≤ 100000) (hm : 1 ≤ m ∧ m ≤ 4) : r1_Overlap N e n a m = some (0, gB.dv (overM e n a m) []) := by
  unfold r1_Overlap overM
  rw [before_range he (by omega) ha, before_range ha (by omega) he, df (show ¬ (n < 1) by omega), bi_false, df (show ¬ (m < 1) by omega), bi_false, wI (x := e + n) (by omega) (by omega), wI (x := a + m) (by omega) (by omega), decide_eq_true (show n ≥ 1 by omega), decide_eq_true (show m ≥ 1 by omega), Bool.true_and, Bool.true_and]
  by_cases h1 : e ≤ a
  · rw [dt h1, bi_true]
    by_cases h2 : a < e + n
    · rw [dt h2, bi_true, decide_eq_true (show e ≤ a ∧ a - e < n by omega), Bool.true_or]
    · rw [df h2, bi_false, decide_eq_false (show ¬ (e + n < e) by omega), decide_eq_false (show ¬ (e ≤ a ∧ a - e < n) by omega), decide_eq_false (show ¬ (a ≤ e ∧ e - a < m) by omega)]
      rfl
  · rw [df h1, bi_false]
    by_cases h2 : e < a + m
    · rw [dt h2, bi_true, decide_eq_true (show a ≤ e ∧ e - a < m by omega), Bool.or_true]
    · rw [df h2, bi_false, decide_eq_false (show ¬ (a + m < a) by omega), decide_eq_false (show ¬ (e ≤ a ∧ a - e < n) by omega), decide_eq_false (show ¬ (a ≤ e ∧ e - a < m) by omega)]
      rfl
def Lies (l : List api_Entry) : Prop := ∀ e ∈ l, (0 ≤ e.1 ∧ e.1 ≤ 100000) ∧ (1 ≤ e.2.1 ∧ e.2.1 ≤ 4)
theorem ents_lies {m : Int} (hm : m ≤ 65536) : ∀ (l : List api_Entry) (b : Bool), entsM m b l = true → Lies l
  | [], b, _ => by intro e he; simp at he
  | e :: r, b, h => by
    unfold entsM at h
    simp only [Bool.and_eq_true] at h
    have h1 := of_decide_eq_true h.1
    intro x hx
    rcases List.mem_cons.1 hx with rfl | hx
    · omega
    · exact ents_lies hm r false h.2.2.2 x hx
theorem searchR_loop (l : List api_Entry) (hl : l.length ≤ 1000) (hL : Lies l) {a m : Int} (ha : 0 ≤ a ∧ a ≤ 100000) (hm : 1 ≤ m ∧ m ≤ 4) : ∀ (n i : Nat), i ≤ l.length → i < n →
    onB 0 1 (r15_Search_l0 N n l a m ((i : Int) - 1) (api_Entry.z)) (gg [pB, p_api_Entry] fun (x3 : Bool) (x4 : api_Entry) => some (0, g_api_Entry.dv x4 (gB.dv x3 []))) (gg [p_api_Entry] fun (x5 : api_Entry) => some (0, g_api_Entry.dv (api_Entry.z) (gB.dv false []))) = some (0, g_api_Entry.dv (searchM l a m i).1 (gB.dv (searchM l a m i).2 [])) := by
  intro n
  induction n with
  | zero => intro i h0 h1; omega
  | succ n ih =>
    intro i h0 h1
    show onB 0 1 (r15_Search_r0 N (r15_Search_l0 N n) l a m ((i : Int) - 1) (api_Entry.z)) _ _ = _
    unfold r15_Search_r0
    cases i with
    | zero =>
      rw [df (show ¬ ((0 : Nat) : Int) - 1 ≥ 0 by omega), bi_false, onB_snd _ _ (by decide), gg_dv, gg_nil]
      rfl
    | succ i =>
      have hi : i < l.length := by omega
      have h := hL _ (getD_mem api_Entry.z hi)
      rw [show ((i + 1 : Nat) : Int) - 1 = (i : Int) by omega, dt (show (i : Int) ≥ 0 by omega), bi_true]
      simp only [idx_n (show i < l.length by omega), gd_true, Int.toNat_natCast, overR_is h.1 h.2 ha hm, on1_some, gg_dv, gg_nil]
      rw [searchM]
      cases overM (l.getD i api_Entry.z).1 (l.getD i api_Entry.z).2.1 a m with
      | true =>
        rw [bi_true, onB_fst, gg_dv, gg_dv, gg_nil, if_pos rfl]
      | false =>
        rw [bi_false, if_neg (by simp), wI (x := (i : Int) - 1) (by omega) (by omega)]
        exact ih i (by omega) (by omega)
theorem SearchR_is (l : List api_Entry) (hl : l.length ≤ 1000) (hL : Lies l) {a m : Int} (ha : 0 ≤ a ∧ a ≤ 100000) (hm : 1 ≤ m ∧ m ≤ 4) (hN : 1001 < N) : r15_Search N l a m = some (0, g_api_Entry.dv (searchM l a m l.length).1 (gB.dv (searchM l a m l.length).2 [])) := by
  unfold r15_Search
  have h := searchR_loop (N := N) l hl hL ha hm N l.length (by omega) (by omega)
  rw [wI (x := len l - 1) (by simp only [len]; omega) (by simp only [len]; omega)]
  exact h
theorem ExtendR_is (op v : Int) : r1_Extend N op v = some (0, gW.dv (signM op v) []) := by
  unfold r1_Extend signM
  have e : ∀ k : Int, U32 (shl .u32 v k) := fun k => w_U32 _
  have e1 : decide ((16 : Int) < (0 : Int)) = false := rfl
  have e2 : decide ((24 : Int) < (0 : Int)) = false := rfl
  simp only [e1, e2, gf_false, r1_Int_is (e 16), r1_Int_is (e 24), on1_some, gg_dv, gg_nil, bi_if, beq_iff_eq]
  have w16 : ∀ v : Int, w.i16 v = (v + 32768) % 65536 - 32768 := by
    intro v
    simp only [w.i16, IntKind.wrap, IntKind.bits, IntKind.signed]
    simp
    omega
  have w8 : ∀ v : Int, w.i8 v = (v + 128) % 256 - 128 := by
    intro v
    simp only [w.i8, IntKind.wrap, IntKind.bits, IntKind.signed]
    simp
    omega
  have s1 : shl .u32 v 16 = (v * 65536) % 4294967296 := by
    unfold shl
    rw [show (2 : Int) ^ (min (Int.toNat 16) IntKind.u32.bits) = 65536 from rfl, IntKind.wrap_u32]
  have s2 : shl .u32 v 24 = (v * 16777216) % 4294967296 := by
    unfold shl
    rw [show (2 : Int) ^ (min (Int.toNat 24) IntKind.u32.bits) = 16777216 from rfl, IntKind.wrap_u32]
  have k1 : w.u32 (shr .i64 (sg (shl .u32 v 16)) 16) = w.u32 (w.i32 (w.i16 v)) := by
    rw [sg_is (e 16), s1, w16]
    unfold shr
    rw [show (2 : Int) ^ (min (Int.toNat 16) IntKind.i64.bits) = 65536 from rfl, Int.fdiv_eq_ediv_of_nonneg _ (by omega)]
    simp only [w.u32, w.i32, IntKind.wrap_u32, IntKind.wrap_i32]
    split <;> omega
  have k2 : w.u32 (shr .i64 (sg (shl .u32 v 24)) 24) = w.u32 (w.i32 (w.i8 v)) := by
    rw [sg_is (e 24), s2, w8]
    unfold shr
    rw [show (2 : Int) ^ (min (Int.toNat 24) IntKind.i64.bits) = 16777216 from rfl, Int.fdiv_eq_ediv_of_nonneg _ (by omega)]
    simp only [w.u32, w.i32, IntKind.wrap_u32, IntKind.wrap_i32]
    split <;> omega
  rw [k1, k2]
  by_cases h1 : op = 27
  · rw [if_pos h1, if_pos h1]
  · rw [if_neg h1, if_neg h1]
    by_cases h2 : op = 29
    · rw [if_pos h2, if_pos h2]
    · rw [if_neg h2, if_neg h2]
theorem BypassR_is {op : Int} (h : 26 ≤ op ∧ op ≤ 30) (e : api_Entry) (a : Int) : r15_Bypass N e op a = some (0, gW.dv (bypM e op a).1 (gB.dv (bypM e op a).2 [])) := by
  unfold r15_Bypass bypM
  have hf : formM op = 4 := by unfold formM; repeat' split <;> omega
  simp only [r1_Form_is, r1_Size_is, ExtendR_is, on1_some, gg_dv, gg_nil, hf]
  rw [show ((4 : Int) != 4) = false from rfl, bi_false]
  cases hk : e.2.2.2.1 with
  | false => rw [if_pos (.inr (.inr (.inl rfl)))]; rfl
  | true =>
    rw [Bool.not_true, bi_false]
    by_cases h1 : e.1 = a
    · rw [show (e.1 != a) = false by simp [h1], bi_false]
      by_cases h2 : e.2.1 = sizeM op
      · rw [show (e.2.1 != sizeM op) = false by simp [h2], bi_false, if_neg (by simp [h1, h2]; omega)]
      · rw [show (e.2.1 != sizeM op) = true by simp [h2], if_pos (.inr (.inr (.inr (.inr h2))))]; rfl
    · rw [show (e.1 != a) = true by simp [h1], if_pos (.inr (.inr (.inr (.inl h1))))]; rfl
end Go.Proofs.Zz
/- A load behind stores: what A's cycle does with it. -/
set_option linter.unusedVariables false
set_option linter.unusedSimpArgs false
set_option maxRecDepth 100000
namespace Go.Proofs.Zz
open Go
abbrev cfgH : api_Config := api_Config.mk 2 2 2 2 2 20 2 30 9 1 1 1
/-- A state at a program's beginning, with stores and requests. -/
abbrev stH (mem : List Int) (l : List api_Entry) (t : List api_Request) : api_State := api_State.mk 0 api_Side.z api_Side.z ([] : List api_Slot) ([] : List Int) ([] : List Int) ([] : List Bool) ([] : List Bool) l t mem ([] : List api_Write) api_Trap.z 0 0 0
section
variable {op d imm size : Int} {ext : Bool} {mem : List Int} {l : List api_Entry} {t : List api_Request}
theorem wfH (h : len mem ≤ 65536) (hl : l.length ≤ 20) (ht : t.length ≤ 1) : Wf (stH mem l t) :=
  { rA := rfl, rE := rfl, mem := by simp only [len] at h; show mem.length ≤ 100000; omega, saq := by show l.length ≤ 1000; omega, tab := by show t.length ≤ 1000; omega, ldq := by simp, sdq := by simp, aeq := by simp, abq := by simp, ebq := by simp, wri := by simp, gA := zero_U32, gE := zero_U32 }
theorem wfaH (h : len mem ≤ 65536) (hl : l.length ≤ 20) (ht : t.length ≤ 1) : WfA (stH mem l t) :=
  { mem := by simp only [len] at h; show mem.length ≤ 100000; omega, ldq := by simp, tab := by show t.length ≤ 900; omega, saq := by show l.length ≤ 1000; omega, aeq := by simp, abq := by simp, gA := zero_U32 }
theorem atH (h : ShL op d ext) (mem : List Int) (l : List api_Entry) (t : List api_Request) : atA (splL op d imm ext) (stH mem l t) = (celA op d imm ext, 0, true, stH mem l t) := by
  rcases h with ⟨rfl, rfl, rfl⟩ | ⟨rfl, rfl, rfl⟩ | ⟨rfl, rfl, rfl⟩ | ⟨rfl, rfl, rfl⟩ | ⟨rfl, rfl, rfl⟩ | ⟨rfl, rfl, rfl⟩ | ⟨rfl, rfl, rfl⟩ | ⟨rfl, rfl, rfl⟩ | ⟨rfl, rfl, rfl⟩ | ⟨rfl, rfl, rfl⟩ | ⟨rfl, rfl, rfl⟩ | ⟨rfl, rfl, rfl⟩ | ⟨rfl, rfl, rfl⟩ | ⟨rfl, rfl, rfl⟩ | ⟨rfl, rfl, rfl⟩ | ⟨rfl, rfl, rfl⟩ | ⟨rfl, rfl, rfl⟩ | ⟨rfl, rfl, rfl⟩ <;> kernel_rfl
theorem aheadH (h : ShL op d ext) (mem : List Int) (l : List api_Entry) (t : List api_Request) : aheadM cfgH (splL op d imm ext) (stH mem l t) = false := by
  rcases h with ⟨rfl, rfl, rfl⟩ | ⟨rfl, rfl, rfl⟩ | ⟨rfl, rfl, rfl⟩ | ⟨rfl, rfl, rfl⟩ | ⟨rfl, rfl, rfl⟩ | ⟨rfl, rfl, rfl⟩ | ⟨rfl, rfl, rfl⟩ | ⟨rfl, rfl, rfl⟩ | ⟨rfl, rfl, rfl⟩ | ⟨rfl, rfl, rfl⟩ | ⟨rfl, rfl, rfl⟩ | ⟨rfl, rfl, rfl⟩ | ⟨rfl, rfl, rfl⟩ | ⟨rfl, rfl, rfl⟩ | ⟨rfl, rfl, rfl⟩ | ⟨rfl, rfl, rfl⟩ | ⟨rfl, rfl, rfl⟩ | ⟨rfl, rfl, rfl⟩ <;> kernel_rfl
theorem turnH (h : ShL op d ext) (mem : List Int) (l : List api_Entry) (t : List api_Request) : turnA cfgH (splL op d imm ext) (stH mem l t) = actA cfgH (splL op d imm ext) (celA op d imm ext) 0 (stH mem l t) := by
  unfold turnA
  rw [atH h mem l t]
  simp only []
  rw [aheadH h mem l t, show freeM (stH mem l t).A (celA op d imm ext) (stH mem l t).Cycle = true from freeL _, if_neg (by simp)]
theorem addrH {imm : Int} (hi : 0 ≤ imm ∧ imm ≤ 8191) : addrM (celA op d imm ext) (stH mem l t) = imm := by
  show w.u32 (getM api_Side.z 0 + w.u32 imm) = imm
  rw [show getM api_Side.z 0 = 0 from rfl]
  simp only [w.u32, IntKind.wrap_u32]
  omega
theorem chkH (h : 26 ≤ op ∧ op ≤ 33) {imm : Int} (hi : 0 ≤ imm ∧ imm ≤ 8191) (hm : imm % sizeM op = 0) (hn : imm + sizeM op ≤ len mem) : chkM (celA op d imm ext) (stH mem l t) = 0 := by
  unfold chkM
  rw [addrH hi]
  show checkX (sizeM op) imm (len mem) = _
  have := sizeL h
  unfold checkX checkM
  rw [if_neg (by omega), if_neg (by omega), if_neg (by omega)]
end
/-- What A's cycle does with a load, by what is ahead of it. -/
theorem actH {op imm : Int} {ext : Bool} (h : 26 ≤ op ∧ op ≤ 30) (hi : 0 ≤ imm ∧ imm ≤ 8191) {mem : List Int} {l : List api_Entry} {t : List api_Request} (ht : t.length ≤ 1) (hm : imm % sizeM op = 0) (hn : imm + sizeM op ≤ len mem) {y : api_State} {b : api_Entry} {there ok : Bool} {v : Int}
    (hs : searchM l imm (sizeM op) l.length = (b, there)) (hb : bypM b op imm = (v, ok)) (hy : y = actA cfgH (splL op 1 imm ext) (celA op 1 imm ext) 0 (stH mem l t)) :
    (there = true → ok = false → y = stH mem l t) ∧
    (there = true → ok = true → ext = false → y.Ldq = [(0, (true, (v, ())))] ∧ y.Table = t) ∧
    (there = true → ok = true → ext = true → y.A.Regs = [0, v, 0, 0, 0, 0, 0, 0, 0, 0, 0, 0, 0, 0, 0, 0] ∧ y.A.Ready = [0, 1, 0, 0, 0, 0, 0, 0, 0, 0, 0, 0, 0, 0, 0, 0] ∧ y.Table = t) ∧
    (there = false → ext = false → y.Ldq = [(0, (false, (0, ())))] ∧ y.Table.length = t.length + 1) ∧
    (there = false → ext = true → y.A.Ready = [0, -1, 0, 0, 0, 0, 0, 0, 0, 0, 0, 0, 0, 0, 0, 0] ∧ y.Table.length = t.length + 1) := by
  subst hy
  have hk : (celA op 1 imm ext).1 = if ext = false then 3 else 2 := by
    unfold celA kndA
    rw [if_neg (by omega)]
    cases ext <;> rfl
  have hk2 : (celA op 1 imm ext).1 = 2 ∨ (celA op 1 imm ext).1 = 3 := by rw [hk]; split <;> simp
  have e0 : actA cfgH (splL op 1 imm ext) (celA op 1 imm ext) 0 (stH mem l t) = loadM cfgH (celA op 1 imm ext) 0 (stH mem l t) := by
    unfold actA
    rw [if_neg (by omega), if_pos hk2]
  have hop : (celA op 1 imm ext).2.1.1 = op := rfl
  have hd : (celA op 1 imm ext).2.1.2.1 = 1 := rfl
  have hsq : (stH mem l t).Saq = l := rfl
  rw [e0]
  unfold loadM
  rw [if_neg (by rw [chkH (by omega) hi hm hn]; simp)]
  simp only [addrH hi, hop, hsq, hs, hb]
  cases there with
  | true =>
    rw [if_pos rfl]
    cases ok with
    | false =>
      rw [if_neg (by simp)]
      exact ⟨fun _ _ => rfl, fun _ h => Bool.noConfusion h, fun _ h => Bool.noConfusion h, fun h => Bool.noConfusion h, fun h => Bool.noConfusion h⟩
    | true =>
      rw [if_pos rfl]
      refine ⟨fun _ h => Bool.noConfusion h, fun _ _ he => ?_, fun _ _ he => ?_, fun h => Bool.noConfusion h, fun h => Bool.noConfusion h⟩
      · subst he
        unfold takeM
        rw [if_neg (by rw [hk]; simp), if_pos (by show (len ([] : List api_Slot)) < 2; simp [len])]
        exact ⟨rfl, rfl⟩
      · subst he
        unfold takeM
        rw [if_pos (by rw [hk]; simp)]
        exact ⟨rfl, rfl, rfl⟩
  | false =>
    rw [if_neg (by simp), if_pos (by show len t < 30; simp only [len]; omega)]
    refine ⟨fun h => Bool.noConfusion h, fun h => Bool.noConfusion h, fun h => Bool.noConfusion h, fun _ he => ?_, fun _ he => ?_⟩
    · subst he
      unfold askM
      rw [if_pos (by rw [hk]; simp), if_pos (by show (len ([] : List api_Slot)) < 2; simp [len])]
      exact ⟨rfl, by simp⟩
    · subst he
      unfold askM
      rw [if_neg (by rw [hk]; simp), if_pos (by rw [hd]; omega)]
      exact ⟨rfl, by simp⟩
end Go.Proofs.Zz
/- A load behind stores waits, or has the store's word: the reference law's answer. -/
set_option linter.unusedVariables false
set_option linter.unusedSimpArgs false
set_option maxRecDepth 100000
namespace Go.Proofs.Zz
open Go
theorem Holds_j13 {N : Nat} (l : List api_Entry) (op : Int) (fetch : Bool) (sz addr e : Int) (s : api_Split) (c : api_Config) (x : api_State) : ∃ b : Bool,
    l22_ApipeHolds_j100013 N l op fetch sz addr e s c x = some (100014, (gD (.sl t_api_Entry)).dv l (gI.dv op (gB.dv fetch (gI.dv sz (gI.dv addr (gI.dv e (gB.dv b (g_api_Split.dv s (g_api_Config.dv c (g_api_State.dv x [])))))))))) ∧ (b = true → l ≠ []) := by
  unfold l22_ApipeHolds_j100013
  cases l with
  | nil => exact ⟨false, rfl, fun h => Bool.noConfusion h⟩
  | cons e r =>
    rw [dt (show len (e :: r) > 0 by simp only [len, List.length_cons]; omega), bi_true, idx_t (i := 0) (n := (e :: r).length) (by omega) (by simp only [List.length_cons]; omega), gd_true]
    cases ((e :: r).getD 0 api_Entry.z).2.2.2.1 with
    | true => exact ⟨true, rfl, fun _ => by simp⟩
    | false => exact ⟨false, rfl, fun h => Bool.noConfusion h⟩
section
variable {op imm : Int} {fetch : Bool} {mem : List Int} {l : List api_Entry} {t : List api_Request}
theorem Holds_j17 (h : 26 ≤ op ∧ op ≤ 30) (hi : 0 ≤ imm ∧ imm ≤ 8191) (hl : l.length ≤ 20) (ht : t.length ≤ 1) (hm : imm % sizeM op = 0) (hn : imm + sizeM op ≤ len mem) (hmem : len mem ≤ 65536) (hr : rightM cfgH (splL op 1 imm (!fetch)) (stH mem l t) = true) :
    l22_ApipeHolds_j200017 20000 l op fetch (sizeM op) imm (splL op 1 imm (!fetch)) cfgH (stH mem l t) = some (0, gB.dv true []) := by
  have hw := wfH (mem := mem) hmem hl ht
  have hz := sizeL (op := op) (by omega)
  have hL : Lies l := by
    have : entsM (len mem) true l = true := by
      unfold rightM at hr
      simp only [Bool.and_eq_true] at hr
      exact hr.2.2.2.2.2.1.1
    exact ents_lies hmem l true this
  have h3 := Issue_A_is (N := 20000) cfgH (splL op 1 imm (!fetch)) (stH mem l t) hw (wfaH hmem hl ht) (by cases fetch <;> simp) (by cases fetch <;> simp) (by omega) nextOkL
  rw [show issueA cfgH (splL op 1 imm (!fetch)) (stH mem l t) = turnA cfgH (splL op 1 imm (!fetch)) (stH mem l t) from if_pos hr, turnH (shH (!fetch) h)] at h3
  have hS := SearchR_is (N := 20000) l (by omega) hL (a := imm) (m := sizeM op) (by omega) (by omega) (by omega)
  unfold l22_ApipeHolds_j200017
  rw [Copy_is _ hw, on1_some, gg_dv, gg_nil, h3, on1_some, gg_dv, gg_nil, hS, on1_some, gg_dv, gg_dv, gg_nil, BypassR_is h, on1_some, gg_dv, gg_dv, gg_nil]
  generalize hsq : searchM l imm (sizeM op) l.length = S
  obtain ⟨b, there⟩ := S
  generalize hbq : bypM b op imm = B
  obtain ⟨v, ok⟩ := B
  have hA := actH (ext := !fetch) h hi ht hm hn hsq hbq rfl
  generalize hyq : actA cfgH (splL op 1 imm (!fetch)) (celA op 1 imm (!fetch)) 0 (stH mem l t) = y at *
  obtain ⟨a1, a2, a3, a4, a5⟩ := hA
  have ht1 : w.i64 (len t + 1) = len t + 1 := wI (by simp only [len]; omega) (by simp only [len]; omega)
  cases there with
  | true =>
    rw [bi_true]
    cases ok with
    | false =>
      rw [Bool.not_false, bi_true, a1 rfl rfl, SameState_same _ hw (by omega)]
      rfl
    | true =>
      rw [Bool.not_true, bi_false, bi_true]
      cases fetch with
      | true =>
        obtain ⟨b1, b2⟩ := a2 rfl rfl rfl
        rw [bi_true, b1, b2]
        simp
        rfl
      | false =>
        obtain ⟨b1, b2, b3⟩ := a3 rfl rfl rfl
        rw [bi_false, bi_true, b1, b2, b3]
        simp
        rfl
  | false =>
    rw [bi_false, bi_false]
    cases fetch with
    | true =>
      obtain ⟨b1, b2⟩ := a4 rfl rfl
      rw [bi_false, bi_true, show (len y.Table == w.i64 (len t + 1)) = true from bt (by rw [ht1]; simp only [len, b2]; omega), bi_true, b1]
      rfl
    | false =>
      obtain ⟨b1, b2⟩ := a5 rfl rfl
      rw [bi_false, bi_false, show (len y.Table == w.i64 (len t + 1)) = true from bt (by rw [ht1]; simp only [len, b2]; omega), bi_true, b1]
      rfl
theorem Holds_tail (h : 26 ≤ op ∧ op ≤ 30) (hi : 0 ≤ imm ∧ imm ≤ 8191) (hl : l.length ≤ 20) (ht : t.length ≤ 1) (hm : imm % sizeM op = 0) (hn : imm + sizeM op ≤ len mem) (hmem : len mem ≤ 65536) :
    (onB 0 200016 (l22_ApipeHolds_j200015 20000 l op fetch (sizeM op) imm 0 (splL op 1 imm (!fetch)) cfgH (stH mem l t)) (gg [pB] <| fun (x30 : Bool) => some (0, gB.dv x30 [])) <| gg [pD (.sl t_api_Entry), pI, pB, pI, pI, p_api_Split, p_api_Config, p_api_State] <| fun (x31 : List api_Entry) (x32 : Int) (x33 : Bool) (x34 : Int) (x35 : Int) (x36 : api_Split) (x37 : api_Config) (x38 : api_State) =>
      onA 0 (l22_ApipeHolds_j200017 20000 x31 x32 x33 x34 x35 x36 x37 x38) <| gg [pB] <| fun (x39 : Bool) => some (0, gB.dv x39 [])) = (some (0, gB.dv true []) : Option Rs) := by
  have hw := wfH (mem := mem) hmem hl ht
  unfold l22_ApipeHolds_j200015
  rw [show ((0 : Int) != 0) = false from rfl, bi_false, RightState_is _ _ _ hw.toStOk (by omega), on1_some, gg_dv, gg_nil]
  cases hr : rightM cfgH (splL op 1 imm (!fetch)) (stH mem l t) with
  | false => rw [Bool.not_false, bi_true, onB_fst, gg_dv, gg_nil]
  | true =>
    rw [Bool.not_true, bi_false, onB_snd _ _ (by decide)]
    simp only [gg_dv, gg_nil]
    rw [Holds_j17 h hi hl ht hm hn hmem hr, onA_some, gg_dv, gg_nil]
end
theorem Holds_j9 {op imm size : Int} {fetch : Bool} {l : List api_Entry} {data : List Int} (h : 26 ≤ op ∧ op ≤ 30) (hi : 0 ≤ imm ∧ imm ≤ 8191) (hl : l.length ≤ 20) (hm : imm % sizeM op = 0) (hn : imm + sizeM op ≤ size) (hs : 0 ≤ size ∧ size ≤ 65536) (hd : len data ≤ size) :
    l22_ApipeHolds_j200009 20000 l op fetch (sizeM op) imm (prL op 1 imm (!fetch) size data) = some (0, gB.dv true []) := by
  have hlen : len (memL size data) = size := memL_len hs
  obtain ⟨b, hb, hne⟩ := Holds_j13 (N := 20000) l op fetch (sizeM op) imm 0 (splL op 1 imm (!fetch)) cfgH (stH (memL size data) l [])
  unfold l22_ApipeHolds_j200009
  rw [splitL (shH (!fetch) h) (by omega) hs hd, on1_some, gg_dv, gg_dv, gg_nil, firstL (shH (!fetch) h) (by omega) hs hd, on1_some, gg_dv, gg_nil, rmT (by simp only [List.length_nil]; omega), gd_true,
    show l22_ApipeHolds_j100013 20000 l op fetch (sizeM op) imm 0 (splL op 1 imm (!fetch)) (api_Config.mk 2 2 2 2 2 20 2 30 9 1 1 1) ({ (stL (memL size data)) with Saq := (([] : List api_Entry) ++ l) } : api_State) = _ from hb, onA_some]
  simp only [gg_dv, gg_nil]
  cases b with
  | false =>
    rw [bi_false]
    exact Holds_tail h hi hl (by simp) hm (by rw [hlen]; exact hn) (by rw [hlen]; exact hs.2)
  | true =>
    have h0 : 0 < l.length := List.length_pos_iff.2 (hne rfl)
    obtain ⟨st, hst⟩ : ∃ st : Int, l22_store 20000 (l.getD 0 api_Entry.z).2.1 = some (0, gI.dv st []) := by
      unfold l22_store
      simp only [bi_if]
      repeat' split
      all_goals exact ⟨_, rfl⟩
    rw [bi_true, idx_t (i := 0) (n := l.length) (by omega) (by omega), gd_true, hst, on1_some, gg_dv, gg_nil, gd_true, gd_true, gd_true]
    exact Holds_tail (t := [(true, (st, ((l.getD 0 api_Entry.z).1, ((l.getD 0 api_Entry.z).2.1, ((l.getD 0 api_Entry.z).2.2.2.2.1, (1, (0, (0, ()))))))))]) h hi hl (by simp) hm (by rw [hlen]; exact hn) (by rw [hlen]; exact hs.2)
theorem form4 {op : Int} (h : formM op = 4) : 26 ≤ op ∧ op ≤ 30 := by
  unfold formM at h
  repeat' split at h
  all_goals omega
theorem ApipeHolds_true (m : List Int) (l : List api_Entry) (op at_ : Int) (fetch : Bool) : l22_ApipeHolds 20000 m l op at_ fetch = some (0, gB.dv true []) := by
  unfold l22_ApipeHolds
  simp only [alive22_is, r1_Form_is, r1_Size_is, on1_some, gg_dv, gg_nil, Bool.not_true, bi_false]
  by_cases h4 : formM op = 4
  · rw [show (formM op != 4) = false by simp [h4], bi_false]
    by_cases h1 : at_ < 0
    · rw [dt h1]; rfl
    rw [df h1, bi_false]
    by_cases h2 : at_ > 4000
    · rw [dt h2]; rfl
    rw [df h2, bi_false]
    by_cases h3 : len m > 200
    · rw [dt h3]; rfl
    rw [df h3, bi_false]
    by_cases h5 : len m < sizeM op
    · rw [dt h5]; rfl
    rw [df h5, bi_false]
    by_cases h6 : len l > 20
    · rw [dt h6]; rfl
    rw [df h6, bi_false]
    have h := form4 h4
    have hz := sizeL (op := op) (by omega)
    have hq0 : Int.tdiv (len m) (sizeM op) = len m / sizeM op := Int.tdiv_eq_ediv_of_nonneg (by simp only [len]; omega)
    have hq1 : 1 ≤ len m / sizeM op ∧ len m / sizeM op ≤ 200 ∧ len m / sizeM op * sizeM op ≤ len m := by
      rcases hz with hz | hz | hz <;> rw [hz] at h5 ⊢ <;> omega
    have hl : l.length ≤ 20 := by simp only [len] at h6; omega
    generalize hQ : len m / sizeM op = q at *
    have hw : w.i64 (Int.tdiv (len m) (sizeM op)) = q := by rw [hq0]; exact wI (by omega) (by omega)
    have ha0 : Int.tmod at_ q = at_ % q := tmod_nn (by omega)
    have ha1 : 0 ≤ at_ % q ∧ at_ % q < q := ⟨Int.emod_nonneg _ (by omega), Int.emod_lt_of_pos _ (by omega)⟩
    generalize hR : at_ % q = r at *
    have ha2 : 0 ≤ r * sizeM op ∧ r * sizeM op + sizeM op ≤ len m ∧ (r * sizeM op) % sizeM op = 0 := by
      rcases hz with hz | hz | hz <;> rw [hz] at hq1 ⊢ <;> omega
    have hwr : w.i64 (r * sizeM op) = r * sizeM op := wI (by omega) (by omega)
    rw [df (show ¬ (sizeM op = 0) by omega), gf_false]
    simp only [hw, ha0, hwr]
    rw [df (show ¬ (q = 0) by omega), gf_false, rmT (by simp only [len] at h3; simp only [List.length_nil]; omega), gd_true]
    cases fetch with
    | true =>
      rw [Bool.not_true, bi_false, show l22_ApipeHolds_j200009 20000 l op true (sizeM op) (r * sizeM op) (api_Program.mk [(op, (1, (0, (0, (r * sizeM op, ()))))), (41, (0, api_Write.z))] (len m) (([] : List Int) ++ m)) = _ from
        Holds_j9 (fetch := true) (data := m) h (by omega) hl ha2.2.2 ha2.2.1 (by omega) (by omega), onA_some, gg_dv, gg_nil]
    | false =>
      rw [Bool.not_false, bi_true, rmT (by simp), gd_true, show l22_ApipeHolds_j200009 20000 l op false (sizeM op) (r * sizeM op) (api_Program.mk ([(op, (1, (0, (0, (r * sizeM op, ()))))), (41, (0, api_Write.z))] ++ [(29, (2, (1, (0, (0, ())))))]) (len m) (([] : List Int) ++ m)) = _ from
        Holds_j9 (fetch := false) (data := m) h (by omega) hl ha2.2.2 ha2.2.1 (by omega) (by omega), onA_some, gg_dv, gg_nil]
  · rw [show (formM op != 4) = true by simp [h4]]; rfl
end Go.Proofs.Zz
