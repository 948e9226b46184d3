import Derived.Test.YtnfpdmhdpeffjaaGreatM11
set_option linter.unusedSimpArgs false
set_option linter.unusedVariables false
/- With a trap noted no cell of its step, or a later one, is done: the model's law, and the reference law's answer. -/
set_option linter.unusedVariables false
set_option linter.unusedSimpArgs false
namespace Go.Proofs.Zz
open Go
variable {N : Nat}
/-! A settled place is settled -/
theorem settleN_settled {s : api_Split} (h : NextOk s) (e : Bool) : ∀ (n : Nat) (p : api_Pos), hasM s p.Block = true → s.Blocks.length - p.Block.toNat ≤ n →
    hasM s (settleN s e n p).1.Block = true ∧ (((settleN s e n p).2 = false ∧ (settleN s e n p).1.Index < len (cellsM s e (settleN s e n p).1.Block)) ∨ ((settleN s e n p).2 = true ∧ ¬ (settleN s e n p).1.Index < len (cellsM s e (settleN s e n p).1.Block) ∧ (blockM s (settleN s e n p).1.Block).2.2.1 < 0))
  | 0, p, hp, hn => by
    have := hasM_iff.1 hp
    omega
  | n + 1, p, hp, hn => by
    unfold settleN
    rw [if_neg (by rw [hp]; simp)]
    split
    · rename_i h2; exact ⟨hp, .inl ⟨rfl, h2⟩⟩
    · split
      · rename_i h2 h3; exact ⟨hp, .inr ⟨rfl, h2, h3⟩⟩
      · rename_i h3
        have h4 := (h _ hp).resolve_left h3
        have h5 := hasM_iff.1 hp
        exact settleN_settled h e n _ h4.2 (by simp only; omega)
theorem settleM_idem {s : api_Split} (h : NextOk s) (e : Bool) (p : api_Pos) (hp : hasM s p.Block = true) : settleM s e (settleM s e p).1 = settleM s e p := by
  have h1 := settleN_settled h e s.Blocks.length p hp (by omega)
  have h0 := hasM_iff.1 hp
  obtain ⟨k, hk⟩ : ∃ k, s.Blocks.length = k + 1 := ⟨s.Blocks.length - 1, by omega⟩
  unfold settleM
  rw [hk] at h1 ⊢
  generalize settleN s e (k + 1) p = q at *
  obtain ⟨q, f⟩ := q
  obtain ⟨h2, h3⟩ := h1
  simp only at h2 h3 ⊢
  unfold settleN
  rw [if_neg (by rw [h2]; simp)]
  rcases h3 with ⟨rfl, h4⟩ | ⟨rfl, h4, h5⟩
  · rw [if_pos h4]
  · rw [if_neg h4, if_pos h5]
theorem nextM_settled {s : api_Split} (h : NextOk s) (e : Bool) (p : api_Pos) (hp : hasM s p.Block = true) : nextM s e (settleM s e p).1 = nextM s e p := by
  unfold nextM
  rw [settleM_idem h e p hp]
theorem next_fell {s : api_Split} {e : Bool} {p : api_Pos} (h : (settleM s e p).2 = true) : (nextM s e p).2.2 = false := by
  unfold nextM
  rw [if_pos (.inl h)]
/-! Where E comes to -/
theorem at_wait {s : api_Split} {x : api_State} (h : x.E.Halted = true ∨ x.E.Wait > x.Cycle) : atE s x = (api_Cell.z, 0, false, x) := if_pos h
theorem at_fell {s : api_Split} {x : api_State} (hn : NextOk s) (hb : hasM s x.E.Pos.Block = true) (h : ¬ (x.E.Halted = true ∨ x.E.Wait > x.Cycle)) (hf : (settleM s true x.E.Pos).2 = true) :
    (atE s x).2.2.1 = false ∧ (atE s x).2.2.2 = noteM { x with E := { x.E with Pos := (settleM s true x.E.Pos).1 } } 4 (nextM s true x.E.Pos).2.1 (blockM s (settleM s true x.E.Pos).1.Block).2.1 := by
  unfold atE
  rw [if_neg h]
  simp only [nextM_settled hn true _ hb, next_fell hf, hf, if_true, Bool.false_and, and_self]
theorem at_cell {s : api_Split} {x : api_State} (hn : NextOk s) (hb : hasM s x.E.Pos.Block = true) (h : ¬ (x.E.Halted = true ∨ x.E.Wait > x.Cycle)) (hf : (settleM s true x.E.Pos).2 = false) :
    atE s x = ((nextM s true x.E.Pos).1, (nextM s true x.E.Pos).2.1, (nextM s true x.E.Pos).2.2 && !stoppedM x (nextM s true x.E.Pos).2.1, { x with E := { x.E with Pos := (settleM s true x.E.Pos).1 } }) := by
  unfold atE
  rw [if_neg h]
  simp only [nextM_settled hn true _ hb, hf]
  rfl
theorem act_Trap (c : api_Config) (s : api_Split) (k : api_Cell) (st : Int) (x : api_State) : (actE c s k st x).Trap = x.Trap ∨ (actE c s k st x).Trap = (noteM x 3 st k.2.2.2.1).Trap := by
  unfold actE
  split
  · split
    · exact .inl rfl
    · exact .inr rfl
  split
  · split <;> exact .inl rfl
  split
  · split <;> exact .inl rfl
  split
  · split <;> exact .inl rfl
  split
  · split <;> exact .inl rfl
  split
  · split <;> exact .inl rfl
  split
  · exact .inl rfl
  split <;> exact .inl rfl
theorem note_kept {x : api_State} {k st pc : Int} (h0 : x.Trap.Kind ≠ 0) (h : ¬ st < x.Trap.Step) : noteM x k st pc = x := by
  unfold noteM
  rw [if_neg]
  rintro (h2 | h2)
  · exact h0 h2
  · exact h h2
theorem note_step (x : api_State) (k st pc : Int) : (noteM x k st pc).Trap = x.Trap ∨ (noteM x k st pc).Trap.Step = st := by
  unfold noteM
  split
  · exact .inr rfl
  · exact .inl rfl
/-- E's cycle with a trap noted. -/
theorem turn_Stops {c : api_Config} {s : api_Split} {x : api_State} (hn : NextOk s) (hb : hasM s x.E.Pos.Block = true) (h0 : x.Trap.Kind ≠ 0) :
    ((nextM s true x.E.Pos).2.2 = false → (turnE c s x).E.Done = x.E.Done ∧ ((turnE c s x).Trap = x.Trap ∨ (nextM s true x.E.Pos).2.1 < x.Trap.Step)) ∧
    ((nextM s true x.E.Pos).2.2 = true → (nextM s true x.E.Pos).2.1 ≥ x.Trap.Step → (turnE c s x).E.Done = x.E.Done ∧ (turnE c s x).Trap = x.Trap) ∧
    ((nextM s true x.E.Pos).2.2 = true → (nextM s true x.E.Pos).2.1 < x.Trap.Step → (turnE c s x).Trap = x.Trap ∨ (turnE c s x).Trap.Step < x.Trap.Step) := by
  by_cases hw : x.E.Halted = true ∨ x.E.Wait > x.Cycle
  · have e : turnE c s x = x := by
      unfold turnE
      rw [at_wait hw, if_pos (.inl rfl)]
    rw [e]
    exact ⟨fun _ => ⟨rfl, .inl rfl⟩, fun _ _ => ⟨rfl, rfl⟩, fun _ _ => .inl rfl⟩
  cases hf : (settleM s true x.E.Pos).2 with
  | true =>
    have hi := next_fell hf
    obtain ⟨h1, h2⟩ := at_fell hn hb hw hf
    have e : turnE c s x = (atE s x).2.2.2 := by
      unfold turnE
      rw [if_pos (.inl h1)]
    rw [e, h2, hi]
    refine ⟨fun _ => ?_, fun h => (Bool.noConfusion h), fun h => (Bool.noConfusion h)⟩
    by_cases hs : (nextM s true x.E.Pos).2.1 < x.Trap.Step
    · refine ⟨?_, .inr hs⟩
      unfold noteM
      split <;> rfl
    · rw [note_kept (x := { x with E := { x.E with Pos := (settleM s true x.E.Pos).1 } }) h0 hs]
      exact ⟨rfl, .inl rfl⟩
  | false =>
    have ha := at_cell hn hb hw hf
    cases hi : (nextM s true x.E.Pos).2.2 with
    | false =>
      have e : turnE c s x = { x with E := { x.E with Pos := (settleM s true x.E.Pos).1 } } := by
        unfold turnE
        rw [ha, if_pos (.inl (by simp only [hi, Bool.false_and]))]
      rw [e]
      exact ⟨fun _ => ⟨rfl, .inl rfl⟩, fun h => (Bool.noConfusion h), fun h => (Bool.noConfusion h)⟩
    | true =>
      refine ⟨fun h => (Bool.noConfusion h), fun _ hs => ?_, fun _ hs => ?_⟩
      · have e : turnE c s x = { x with E := { x.E with Pos := (settleM s true x.E.Pos).1 } } := by
          unfold turnE
          rw [ha, if_pos (.inl (show ((nextM s true x.E.Pos).2.2 && !stoppedM x (nextM s true x.E.Pos).2.1) = false by simp only [hi, stoppedM, dt (show x.Trap.Kind ≠ 0 ∧ (nextM s true x.E.Pos).2.1 ≥ x.Trap.Step from ⟨h0, hs⟩), Bool.true_and, Bool.not_true]))]
        rw [e]
        exact ⟨rfl, rfl⟩
      · unfold turnE
        rw [ha]
        split
        · exact .inl rfl
        · rcases act_Trap c s (nextM s true x.E.Pos).1 (nextM s true x.E.Pos).2.1 { x with E := { x.E with Pos := (settleM s true x.E.Pos).1 } } with h1 | h1
          · exact .inl h1
          · rw [h1]
            rcases note_step { x with E := { x.E with Pos := (settleM s true x.E.Pos).1 } } 3 (nextM s true x.E.Pos).2.1 (nextM s true x.E.Pos).1.2.2.2.1 with h2 | h2
            · exact .inl h2
            · exact .inr (by rw [h2]; exact hs)
theorem rightM_base {c : api_Config} {s : api_Split} {x : api_State} (h : rightM c s x = true) : I64 x.E.Pos.Base := by
  have := rightM_E h
  unfold sideM at this
  simp only [Bool.and_eq_true, allB, List.all_cons, List.all_nil, decide_eq_true_eq, most] at this
  have h2 := of_decide_eq_true this.2.2.1.1
  unfold I64; omega
theorem trap_same {a b : api_Trap} (h : a = b) : ((a.Kind == b.Kind) && ((a.Step == b.Step) && (a.Pc == b.Pc))) = true := by
  subst h; simp
theorem EpipeStops_true (c : api_Config) (p : api_Program) (pick : Int) (x : api_State) (h : Typed x) : l21_EpipeStops 20000 c p pick x = some (0, gB.dv true []) := by
  unfold l21_EpipeStops
  obtain ⟨s, ok, hs, hlen, hok⟩ := Splits_is (N := 20000) p pick (by omega)
  obtain ⟨b, hb, hfew⟩ := FewS_is (N := 20000) x
  simp only [alive_is, hs, Few_is, hb, on1_some, gg_dv, gg_nil, Bool.not_true, bi_false]
  generalize decide (p.Code.length ≤ 200 ∧ p.Data.length ≤ 500) = fp
  cases fp with
  | false => rfl
  | true =>
    cases b with
    | false => rfl
    | true =>
      cases ok with
      | false => rfl
      | true =>
        have hw := Wf.of h (hfew rfl)
        have hn := NextOk.of (hok rfl)
        simp only [Bool.not_true, bi_false, RightState_is c s x hw.toStOk (show 1001 < 20000 by omega), on1_some, gg_dv, gg_nil]
        cases hr : rightM c s x with
        | false => rfl
        | true =>
          by_cases h0 : x.Trap.Kind = 0
          · simp only [Bool.not_true, bi_false]
            rw [bt h0, bi_true]
          simp only [Bool.not_true, bi_false, bf h0]
          have ht := turn_Stops (c := c) (s := s) (x := x) hn (sideM_has (rightM_E hr)) h0
          simp only [r15_Next_is s true x.E.Pos (rightM_base hr) (show s.Blocks.length ≤ 100000 by omega) (show s.Blocks.length < 20000 by omega), Copy_is x hw, on1_some, gg_dv, gg_nil, Issue_E_is c s x hw (show s.Blocks.length ≤ 100000 by omega) (show s.Blocks.length < 20000 by omega) (show 1001 < 20000 by omega) hn]
          rw [show issueE c s x = turnE c s x from if_pos hr]
          generalize turnE c s x = y at *
          generalize nextM s true x.E.Pos = q at *
          obtain ⟨cell, step, is⟩ := q
          obtain ⟨t1, t2, t3⟩ := ht
          simp only at t1 t2 t3 ⊢
          cases is with
          | false =>
            obtain ⟨u1, u2⟩ := t1 rfl
            rw [Bool.not_false, bi_true, bt u1, bi_true]
            rcases u2 with u2 | u2
            · rw [trap_same u2, bi_true]
            · rw [bi_true, dt u2]
              cases ((y.Trap.Kind == x.Trap.Kind) && ((y.Trap.Step == x.Trap.Step) && (y.Trap.Pc == x.Trap.Pc))) <;> rfl
          | true =>
            rw [Bool.not_true, bi_false]
            by_cases hs : step ≥ x.Trap.Step
            · obtain ⟨u1, u2⟩ := t2 rfl hs
              rw [dt hs, bi_true, bt u1, bi_true, trap_same u2, bi_true]
            · rw [df hs, bi_false]
              rcases t3 rfl (by omega) with u2 | u2
              · rw [trap_same u2, bi_true]
              · rw [dt u2]
                cases ((y.Trap.Kind == x.Trap.Kind) && ((y.Trap.Step == x.Trap.Step) && (y.Trap.Pc == x.Trap.Pc))) <;> rfl
end Go.Proofs.Zz
/- The reference's operations. -/
set_option linter.unusedVariables false
set_option linter.unusedSimpArgs false
namespace Go.Proofs.Zz
open Go
variable {N : Nat}
theorem and31 (b : Int) : (bitAnd .u32 b 31).toNat ≤ 31 := by
  unfold bitAnd
  have h : ((BitVec.ofInt IntKind.u32.bits b &&& BitVec.ofInt IntKind.u32.bits 31).toNat) ≤ 31 := by
    rw [BitVec.toNat_and]
    exact Nat.and_le_right
  rw [show IntKind.u32.wrap (((BitVec.ofInt IntKind.u32.bits b &&& BitVec.ofInt IntKind.u32.bits 31).toNat : Nat) : Int) = (((BitVec.ofInt IntKind.u32.bits b &&& BitVec.ofInt IntKind.u32.bits 31).toNat : Nat) : Int) from IntWalk.u32_in _ (by omega)]
  omega
theorem shr_64 (x b : Int) : shr .i64 x (bitAnd .u32 b 31) = shr .i32 x (bitAnd .u32 b 31) := by
  have := and31 b
  unfold shr
  rw [show min (bitAnd .u32 b 31).toNat IntKind.i64.bits = (bitAnd .u32 b 31).toNat from Nat.min_eq_left (show _ ≤ 64 by omega), show min (bitAnd .u32 b 31).toNat IntKind.i32.bits = (bitAnd .u32 b 31).toNat from Nat.min_eq_left (show _ ≤ 32 by omega)]
theorem u32_i64 (x : Int) : w.u32 (w.i64 x) = w.u32 x := by simp only [w.u32, w.i64, IntKind.wrap_u32, IntKind.wrap_i64]; omega
theorem u32_is (x : Int) : w.u32 x = x % 4294967296 := by simp only [w.u32, IntKind.wrap_u32]
theorem sg_mod {a : Int} (h : U32 a) : sg a % 4294967296 = a % 4294967296 := by
  rw [sg_is h]; split <;> omega
theorem sg_mul {a b : Int} (ha : U32 a) (hb : U32 b) : w.u32 (sg a * sg b) = w.u32 (a * b) := by
  rw [u32_is, u32_is, Int.mul_emod, sg_mod ha, sg_mod hb, ← Int.mul_emod]
theorem div_is {a b : Int} (h : b ≠ 0) : r1_div N a b = some (0, gI.dv (w.i64 (Int.tdiv a b)) (gI.dv (Int.tmod a b) [])) := by
  unfold r1_div
  rw [df h]; rfl
theorem ref_op {op a b im : Int} (ha : U32 a) (hb : U32 b) (h1 : 1 ≤ op) (h2 : op ≤ 16) : ( 
 bi (op == 1) (
  some (0, gW.dv (w.u32 (a + b)) (gB.dv true []))) <|
 bi (op == 2) (
  some (0, gW.dv (w.u32 (a - b)) (gB.dv true []))) <|
 bi (op == 3) (
  some (0, gW.dv (bitAnd .u32 a b) (gB.dv true []))) <|
 bi (op == 4) (
  some (0, gW.dv (bitOr .u32 a b) (gB.dv true []))) <|
 bi (op == 5) (
  some (0, gW.dv (bitXor .u32 a b) (gB.dv true []))) <|
 bi (op == 6) (
  gf (decide ((bitAnd .u32 b 31) < 0)) <|
  some (0, gW.dv (shl .u32 a (bitAnd .u32 b 31)) (gB.dv true []))) <|
 bi (op == 7) (
  gf (decide ((bitAnd .u32 b 31) < 0)) <|
  some (0, gW.dv (shr .u32 a (bitAnd .u32 b 31)) (gB.dv true []))) <|
 bi (op == 8) (
  gf (decide ((bitAnd .u32 b 31) < 0)) <|
  some (0, gW.dv (w.u32 (shr .i64 (sg a) (bitAnd .u32 b 31))) (gB.dv true []))) <|
 bi (op == 9) (
  on1 (r1_one N (decide ((sg a) < (sg b)))) <| gg [pW] <| fun (x13 : Int) => 
  some (0, gW.dv x13 (gB.dv true []))) <|
 bi (op == 10) (
  on1 (r1_one N (decide (a < b))) <| gg [pW] <| fun (x14 : Int) => 
  some (0, gW.dv x14 (gB.dv true []))) <|
 bi (op == 11) (
  some (0, gW.dv (w.u32 (w.i64 ((sg a) * (sg b)))) (gB.dv true []))) <|
 bi (op == 12) (
  gf (decide ((32 : Int) < (0 : Int))) <|
  some (0, gW.dv (w.u32 (shr .i64 (w.i64 ((sg a) * (sg b))) 32)) (gB.dv true []))) <|
 bi (op == 25) (
  gf (decide ((18 : Int) < (0 : Int))) <|
  some (0, gW.dv (shl .u32 (w.u32 im) 18) (gB.dv true []))) <|
 bi (b == 0) (
  some (0, gW.dv 0 (gB.dv false []))) <|
 on1 (r1_div N (sg a) (sg b)) <| gg [pI, pI] <| fun (x15 : Int) (x16 : Int) => 
 bi (op == 13) (
  some (0, gW.dv (w.u32 x15) (gB.dv true []))) <|
 bi (op == 15) (
  some (0, gW.dv (w.u32 x16) (gB.dv true []))) <|
 bi (op == 14) (
  gf (decide (b = 0)) <|
  some (0, gW.dv (w.u32 (Int.tdiv a b)) (gB.dv true []))) <|
 gf (decide (b = 0)) <|
 some (0, gW.dv (Int.tmod a b) (gB.dv true [])) : Option Rs) = some (0, gW.dv (opM op a b).1 (gB.dv (opM op a b).2 [])) := by
  have hm : w.i64 (sg a * sg b) = sg a * sg b := by
    have := mul_le (sg_range ha) (sg_range hb)
    exact wI (by omega) (by omega)
  simp only [bitAnd_nn, gf_false, lit_32, r1_one_is, on1_some, gg_dv, gg_nil, shr_64, u32_i64, sg_mul ha hb]
  by_cases hz : b = 0
  · rw [bt hz, bi_true]
    have hop : op = 1 ∨ op = 2 ∨ op = 3 ∨ op = 4 ∨ op = 5 ∨ op = 6 ∨ op = 7 ∨ op = 8 ∨ op = 9 ∨ op = 10 ∨ op = 11 ∨ op = 12 ∨ 12 < op := by omega
    rcases hop with rfl | rfl | rfl | rfl | rfl | rfl | rfl | rfl | rfl | rfl | rfl | rfl | hop
    all_goals first
      | rfl
      | (rw [hm]; rfl)
      | (rw [bf (show op ≠ 1 by omega), bf (show op ≠ 2 by omega), bf (show op ≠ 3 by omega), bf (show op ≠ 4 by omega), bf (show op ≠ 5 by omega), bf (show op ≠ 6 by omega), bf (show op ≠ 7 by omega), bf (show op ≠ 8 by omega), bf (show op ≠ 9 by omega), bf (show op ≠ 10 by omega), bf (show op ≠ 11 by omega), bf (show op ≠ 12 by omega), bf (show op ≠ 25 by omega)]
         simp only [bi_false]
         unfold opM
         rw [if_neg (show op ≠ 1 by omega), if_neg (show op ≠ 2 by omega), if_neg (show op ≠ 3 by omega), if_neg (show op ≠ 4 by omega), if_neg (show op ≠ 5 by omega), if_neg (show op ≠ 6 by omega), if_neg (show op ≠ 7 by omega), if_neg (show op ≠ 8 by omega), if_neg (show op ≠ 9 by omega), if_neg (show op ≠ 10 by omega), if_neg (show op ≠ 11 by omega), if_neg (show op ≠ 12 by omega), if_pos hz])
  · have hs := sg_zero hb hz
    rw [bf hz, bi_false, df hz, div_is hs]
    simp only [on1_some, gg_dv, gg_nil, gf_false, u32_i64]
    have hop : op = 1 ∨ op = 2 ∨ op = 3 ∨ op = 4 ∨ op = 5 ∨ op = 6 ∨ op = 7 ∨ op = 8 ∨ op = 9 ∨ op = 10 ∨ op = 11 ∨ op = 12 ∨ op = 13 ∨ op = 14 ∨ op = 15 ∨ op = 16 := by omega
    have e1 : w.u32 (Int.tdiv a b) = Int.tdiv a b := by
      have := tdiv_range ha hb
      simp only [U32] at this
      exact IntWalk.u32_in _ (by omega)
    have ho : ∀ k : Int, 13 ≤ k → k ≤ 16 → opM k a b = (if k = 13 then (w.u32 (Int.tdiv (sg a) (sg b)), true) else if k = 15 then (w.u32 (Int.tmod (sg a) (sg b)), true) else if k = 14 then (Int.tdiv a b, true) else (Int.tmod a b, true)) := by
      intro op h1 h2
      unfold opM
      rw [if_neg (show op ≠ 1 by omega), if_neg (show op ≠ 2 by omega), if_neg (show op ≠ 3 by omega), if_neg (show op ≠ 4 by omega), if_neg (show op ≠ 5 by omega), if_neg (show op ≠ 6 by omega), if_neg (show op ≠ 7 by omega), if_neg (show op ≠ 8 by omega), if_neg (show op ≠ 9 by omega), if_neg (show op ≠ 10 by omega), if_neg (show op ≠ 11 by omega), if_neg (show op ≠ 12 by omega), if_neg hz]
    rcases hop with rfl | rfl | rfl | rfl | rfl | rfl | rfl | rfl | rfl | rfl | rfl | rfl | rfl | rfl | rfl | rfl
    all_goals first
      | (rw [hm]; rfl)
      | (rw [ho 13 (by decide) (by decide)]; rfl)
      | (rw [ho 14 (by decide) (by decide), e1]; rfl)
      | (rw [ho 15 (by decide) (by decide)]; rfl)
      | (rw [ho 16 (by decide) (by decide)]; rfl)
      | rfl
theorem plain_range {op : Int} (h1 : 17 ≤ op) (h2 : op ≤ 24) : 1 ≤ plainM op ∧ plainM op ≤ 16 := by
  have h : op = 17 ∨ op = 18 ∨ op = 19 ∨ op = 20 ∨ op = 21 ∨ op = 22 ∨ op = 23 ∨ op = 24 := by omega
  rcases h with rfl | rfl | rfl | rfl | rfl | rfl | rfl | rfl <;> exact ⟨by decide, by decide⟩
theorem plain_list {op : Int} (h1 : 17 ≤ op) (h2 : op ≤ 24) : List.getD [(1 : Int), 3, 4, 5, 9, 6, 7, 8] (Int.toNat (w.i64 (op - 17))) 0 = plainM op ∧ idx (w.i64 (op - 17)) (List.length [(1 : Int), 3, 4, 5, 9, 6, 7, 8]) = true := by
  have h : op = 17 ∨ op = 18 ∨ op = 19 ∨ op = 20 ∨ op = 21 ∨ op = 22 ∨ op = 23 ∨ op = 24 := by omega
  rcases h with rfl | rfl | rfl | rfl | rfl | rfl | rfl | rfl <;> exact ⟨rfl, rfl⟩
theorem form_range (op : Int) : (formM op = 1 → 1 ≤ op ∧ op ≤ 16) ∧ (formM op = 2 → 17 ≤ op ∧ op ≤ 24) ∧ (formM op = 3 → op = 25) ∧ 0 ≤ formM op := by
  unfold formM
  repeat' split
  all_goals omega
theorem lui_is (im : Int) : shl .u32 (w.u32 im) 18 = w.u32 (shl .i64 im 18) := by
  show IntKind.u32.wrap (IntKind.u32.wrap im * 2 ^ 18) = IntKind.u32.wrap (IntKind.i64.wrap (im * 2 ^ 18))
  simp only [IntKind.wrap_u32, IntKind.wrap_i64]
  omega
theorem r1_Do_is (i : api_Ins) {a b : Int} (ha : U32 a) (hb : U32 b) : r1_Do N i a b = some (0, gW.dv (doM i a b).1 (gB.dv (doM i a b).2 [])) := by
  unfold r1_Do
  simp only [r1_Form_is, r1_RightIns_is, on1_some, gg_dv, gg_nil, r1_Int_is ha, r1_Int_is hb, r1_Int_is (w_U32 _)]
  obtain ⟨f1, f2, f3, f4⟩ := form_range i.1
  cases hr : rightIns i with
  | false =>
    have e : doM i a b = (0, true) := if_pos (.inl hr)
    rw [e]; rfl
  | true =>
    rw [Bool.not_true, bi_false]
    have hf : formM i.1 ≠ 0 := by
      intro h
      unfold rightIns at hr
      rw [h] at hr
      simp at hr
    rw [df (show ¬ formM i.1 < 1 by omega), bi_false]
    by_cases h3 : formM i.1 > 3
    · have e : doM i a b = (0, true) := if_pos (.inr h3)
      rw [e, dt h3, bi_true]
    rw [df h3, bi_false]
    have e0 : doM i a b = (if formM i.1 = 3 then (w.u32 (shl .i64 i.2.2.2.2.1 18), true) else opM (plainM i.1) a (if formM i.1 = 2 then w.u32 i.2.2.2.2.1 else b)) := if_neg (by rw [hr]; simp; omega)
    rw [e0]
    by_cases h2 : formM i.1 = 2
    · obtain ⟨g1, g2⟩ := f2 h2
      rw [bt h2, bi_true, (plain_list g1 g2).2, gd_true, (plain_list g1 g2).1, if_neg (show ¬ formM i.1 = 3 by omega), if_pos h2]
      obtain ⟨g3, g4⟩ := plain_range g1 g2
      exact ref_op (N := N) (im := i.2.2.2.2.1) ha (w_U32 i.2.2.2.2.1) g3 g4
    · rw [bf h2, bi_false]
      by_cases h1 : formM i.1 = 1
      · obtain ⟨g1, g2⟩ := f1 h1
        have e1 : plainM i.1 = i.1 := by
          unfold plainM
          rw [if_neg (show i.1 ≠ 17 by omega), if_neg (show i.1 ≠ 18 by omega), if_neg (show i.1 ≠ 19 by omega), if_neg (show i.1 ≠ 20 by omega), if_neg (show i.1 ≠ 21 by omega), if_neg (show i.1 ≠ 22 by omega), if_neg (show i.1 ≠ 23 by omega), if_neg (show i.1 ≠ 24 by omega)]
        rw [if_neg (show ¬ formM i.1 = 3 by omega), if_neg h2, e1]
        exact ref_op (N := N) (im := i.2.2.2.2.1) ha hb g1 g2
      · have h3 : formM i.1 = 3 := by omega
        rw [if_pos h3, f3 h3, ← lui_is]
        rfl
end Go.Proofs.Zz
/- What E does in a cycle: the reference answers as the model says. -/
set_option linter.unusedVariables false
set_option linter.unusedSimpArgs false
namespace Go.Proofs.Zz
open Go
variable {N : Nat}
theorem r21_end_is (s : api_Split) (b : Int) (h : hasM s b = true) : r21_end N s b = some (0, gI.dv (blockM s b).2.1 []) := by
  have h2 := hasM_iff.1 h
  unfold r21_end
  rw [df (show ¬ b < 0 by omega), bi_false, df (show ¬ b ≥ len s.Blocks by simp only [len]; omega), bi_false, has_idx h, gd_true]
  rfl
theorem end_I64 (s : api_Split) (p : api_Pos) (h : I64 p.Base) : I64 (endM s p) := by
  unfold endM
  split
  · exact w_I64 _
  · exact h
theorem settleN_keeps {s : api_Split} (e : Bool) : ∀ (n : Nat) (p : api_Pos), I64 p.Base → 0 ≤ p.Index → I64 (settleN s e n p).1.Base ∧ 0 ≤ (settleN s e n p).1.Index
  | 0, p, h, hi => ⟨h, hi⟩
  | n + 1, p, h, hi => by
    unfold settleN
    split
    · exact ⟨h, hi⟩
    · split
      · exact ⟨h, hi⟩
      · split
        · exact ⟨h, hi⟩
        · exact settleN_keeps e n _ (end_I64 s p h) (by simp)
theorem rightM_index {c : api_Config} {s : api_Split} {x : api_State} (h : rightM c s x = true) : 0 ≤ x.E.Pos.Index := by
  have := rightM_E h
  unfold sideM at this
  simp only [Bool.and_eq_true, allB, List.all_cons, List.all_nil, decide_eq_true_eq] at this
  exact this.2.1.1.1
theorem Wf.pos {x : api_State} (h : Wf x) (p : api_Pos) : Wf { x with E := { x.E with Pos := p } } :=
  { rA := h.rA, rE := h.rE, mem := h.mem, saq := h.saq, tab := h.tab, ldq := h.ldq, sdq := h.sdq, aeq := h.aeq, abq := h.abq, ebq := h.ebq, wri := h.wri, gA := h.gA, gE := h.gE }
theorem next_here {s : api_Split} {e : Bool} {p : api_Pos} (h : (settleM s e p).2 = false) (h2 : 0 ≤ (settleM s e p).1.Index) : (nextM s e p).2.2 = true := by
  unfold nextM
  rw [if_neg (by rw [h]; simp; omega)]
theorem turn_wait {c : api_Config} {s : api_Split} {x : api_State} (h : x.E.Halted = true ∨ x.E.Wait > x.Cycle) : turnE c s x = x := by
  unfold turnE
  rw [at_wait h, if_pos (.inl rfl)]
theorem IssueE_is (c : api_Config) (s : api_Split) (x : api_State) (h : Wf x) (hl : s.Blocks.length ≤ 100000) (hN : s.Blocks.length < N) (hN2 : 1001 < N) (hn : NextOk s) :
    r21_IssueE N c s x = some (0, g_api_State.dv (issueE c s x) []) := by
  unfold r21_IssueE
  simp only [Copy_is x h, RightState_is c s x h.toStOk hN2, on1_some, gg_dv, gg_nil]
  cases hr : rightM c s x with
  | false => rw [show issueE c s x = x from if_neg (by rw [hr]; simp)]; rfl
  | true =>
    rw [show issueE c s x = turnE c s x from if_pos hr, Bool.not_true, bi_false]
    have hb := sideM_has (rightM_E hr)
    have hk := settleN_keeps (s := s) true s.Blocks.length x.E.Pos (rightM_base hr) (rightM_index hr)
    rw [show settleN s true s.Blocks.length x.E.Pos = settleM s true x.E.Pos from rfl] at hk
    have bif0 : ∀ {X : Type} {b : Bool} (A B : X), b = false → bi b A B = B := by rintro X b A B rfl; rfl
    have bit0 : ∀ {X : Type} {b : Bool} (A B : X), b = true → bi b A B = A := by rintro X b A B rfl; rfl
    rcases Bool.eq_false_or_eq_true x.E.Halted with hh | hh
    · rw [turn_wait (.inl hh), bit0 _ _ hh]
    · rw [bif0 _ _ hh]
      by_cases hw2 : x.E.Wait > x.Cycle
      · rw [turn_wait (.inr hw2), dt hw2, bi_true]
      rw [df hw2, bi_false]
      have hw : ¬ (x.E.Halted = true ∨ x.E.Wait > x.Cycle) := by rw [hh]; simp [hw2]
      simp only [r15_Settle_is s true x.E.Pos (rightM_base hr) hl hN, on1_some, gg_dv, gg_nil, r15_Next_is s true _ hk.1 hl hN, nextM_settled hn true _ hb]
      cases hf : (settleM s true x.E.Pos).2 with
      | true =>
        obtain ⟨h1, h2⟩ := at_fell hn hb hw hf
        have hs := settleN_has hn true s.Blocks.length x.E.Pos hb
        rw [show settleN s true s.Blocks.length x.E.Pos = settleM s true x.E.Pos from rfl] at hs
        have e : turnE c s x = (atE s x).2.2.2 := by
          unfold turnE
          rw [if_pos (.inl h1)]
        rw [e, h2, bi_true, r21_end_is s _ hs]
        simp only [on1_some, gg_dv, gg_nil, r_Note_is _ (h.pos _)]
      | false =>
        have hi := next_here hf hk.2
        have ha := at_cell hn hb hw hf
        have hx := h.pos (settleM s true x.E.Pos).1
        unfold turnE
        rw [ha, bi_false]
        have hk1 := hk.1
        generalize (settleM s true x.E.Pos).1 = q at *
        generalize nextM s true x.E.Pos = nx at *
        obtain ⟨k, st, is⟩ := nx
        simp only at hi
        subst hi
        simp only [r_stopped_is, r21_Free_is _ _ _ hN2, on1_some, gg_dv, gg_nil]
        rw [show stoppedM { x with E := { x.E with Pos := q } } st = stoppedM x st from rfl]
        cases stoppedM x st with
        | true => rw [bi_true, if_pos (.inl rfl)]
        | false =>
          rw [bi_false]
          cases hfr : freeM { x.E with Pos := q } k x.Cycle with
          | false => rw [if_pos (.inr rfl)]; rfl
          | true =>
            rw [if_neg (by simp), Bool.not_true, bi_false]
            have hg : ∀ r, U32 (getM { x.E with Pos := q } r) := fun r => getM_U32 h.gE r
            simp only [r21_value_is, on1_some, gg_dv, gg_nil, r1_Do_is k.2.1 (hg _) (hg _), r_Note_is _ hx, r1_Latency_is, r21_set_E_is, r21_on_E_is, r_Pop_is x.Ldq h.ldq, r1_Taken_is _ (hg _) (hg _)]
            have ht : ∀ (t : Bool) (cy : Int) (y : api_State), y.E.Pos = q → r21_turn_E N s t cy y = some (0, g_api_State.dv { y with E := goD s cy y.E t } []) := fun t cy y e => r21_turn_E_is s t cy y (by rw [e]; exact hk1)
            by_cases h1 : k.1 = 1
            · unfold actE
              rw [bt h1, bi_true, if_pos h1]
              cases (doM k.2.1 (getM { x.E with Pos := q } k.2.1.2.2.1) (getM { x.E with Pos := q } k.2.1.2.2.2.1)).2 <;> rfl
            rw [bf h1, bi_false]
            by_cases h6 : k.1 = 6
            · unfold actE
              rw [bt h6, bi_true, if_neg h1, if_pos h6]
              by_cases hq : x.Aeq.length = 0
              · rw [df (show ¬ len x.Aeq > 0 by simp only [len]; omega), if_pos hq]; rfl
              · rw [dt (show len x.Aeq > 0 by simp only [len]; omega), if_neg hq, bi_true, idx_t (i := 0) (by omega) (by omega), gd_true, sb_1 hq, gd_true]
            rw [bf h6, bi_false]
            by_cases h7 : k.1 = 7
            · unfold actE
              rw [bt h7, bi_true, if_neg h1, if_neg h6, if_pos h7]
              cases (popM x.Ldq).2.2 <;> rfl
            rw [bf h7, bi_false]
            by_cases h8 : k.1 = 8
            · unfold actE
              rw [bt h8, bi_true, if_neg h1, if_neg h6, if_neg h7, if_pos h8]
              by_cases hq : len x.Sdq < c.Sdq
              · rw [dt hq, if_pos hq, bi_true, rmT (show (x.Sdq.length + [getM { x.E with Pos := q } k.2.2.1].length) * 4 ≤ 35184372088832 by have := h.sdq; simp; omega), gd_true]
              · rw [df hq, if_neg hq]; rfl
            rw [bf h8, bi_false]
            by_cases h9 : k.1 = 9
            · unfold actE
              rw [bt h9, bi_true, if_neg h1, if_neg h6, if_neg h7, if_neg h8, if_pos h9]
              by_cases hq : len x.Ebq < c.Ebq
              · rw [dt hq, if_neg (show ¬ len x.Ebq ≥ c.Ebq by omega), bi_true, rmT (show (x.Ebq.length + [takenM k.2.1.1 (getM { x.E with Pos := q } k.2.1.2.2.1) (getM { x.E with Pos := q } k.2.1.2.2.2.1)].length) * 1 ≤ 35184372088832 by have := h.ebq; simp; omega), gd_true, ht _ _ _ rfl] <;> rfl
              · rw [df hq, if_pos (show len x.Ebq ≥ c.Ebq by omega)]; rfl
            rw [bf h9, bi_false]
            by_cases h10 : k.1 = 10
            · unfold actE
              rw [bt h10, bi_true, if_neg h1, if_neg h6, if_neg h7, if_neg h8, if_neg h9, if_pos h10]
              by_cases hq : x.Abq.length = 0
              · rw [df (show ¬ len x.Abq > 0 by simp only [len]; omega), if_pos hq]; rfl
              · rw [dt (show len x.Abq > 0 by simp only [len]; omega), if_neg hq, bi_true, idx_t (i := 0) (by omega) (by omega), gd_true, sb_1 hq, gd_true, ht _ _ _ rfl] <;> rfl
            rw [bf h10, bi_false]
            by_cases h11 : k.1 = 11
            · unfold actE
              rw [bt h11, bi_true, if_neg h1, if_neg h6, if_neg h7, if_neg h8, if_neg h9, if_neg h10, if_pos h11, ht _ _ _ rfl] <;> rfl
            rw [bf h11, bi_false]
            by_cases h12 : k.1 = 12
            · unfold actE
              rw [bt h12, bi_true, if_neg h1, if_neg h6, if_neg h7, if_neg h8, if_neg h9, if_neg h10, if_neg h11, if_pos h12]
              rfl
            · unfold actE
              rw [bf h12, bi_false, if_neg h1, if_neg h6, if_neg h7, if_neg h8, if_neg h9, if_neg h10, if_neg h11, if_neg h12]
end Go.Proofs.Zz
/- What E names, whether it is free, what is noted, what a cycle of E does: the reference law's answer. -/
set_option linter.unusedVariables false
set_option linter.unusedSimpArgs false
namespace Go.Proofs.Zz
open Go
variable {N : Nat}
/-- Lengths that a loop's fuel is enough for. -/
structure Sml (x : api_State) : Prop where
  ldq : x.Ldq.length ≤ 1000
  sdq : x.Sdq.length ≤ 1000
  aeq : x.Aeq.length ≤ 1000
  abq : x.Abq.length ≤ 1000
  ebq : x.Ebq.length ≤ 1000
  saq : x.Saq.length ≤ 1000
  tab : x.Table.length ≤ 1000
  wri : x.Writes.length ≤ 1000
theorem SameState_sml (x : api_State) (h : Sml x) (hN : 1001 < N) : r15_SameState N x x = some (0, gB.dv true []) := by
  unfold r15_SameState
  have h0 := same_l0 (N := N) x h.ldq N 0 (by omega) (by have := h.ldq; omega)
  have h2 := same_l2 (N := N) x h.saq N 0 (by omega) (by have := h.saq; omega)
  have h4 := same_l4 (N := N) x h.tab N 0 (by omega) (by have := h.tab; omega)
  have h6 := same_l6 (N := N) x h.wri N 0 (by omega) (by have := h.wri; omega)
  simp only [Int.natCast_zero] at h0 h2 h4 h6
  simp only [beq_self_eq_true, bne_self_eq_false, Bool.and_self, Bool.not_true, bi_false]
  rw [h0, onB_snd _ _ (by decide), gg_dv, gg_dv, gg_nil, h2, onB_snd _ _ (by decide), gg_dv, gg_dv, gg_nil, h4, onB_snd _ _ (by decide), gg_dv, gg_dv, gg_nil, h6, onB_snd _ _ (by decide), gg_dv, gg_dv, gg_nil]
  simp only [words_same _ h.sdq hN, words_same _ h.aeq hN, bools_same _ h.abq hN, bools_same _ h.ebq hN, on1_some, gg_dv, gg_nil, bi_true]
theorem sml_note {x : api_State} (h : FewS x) (k st pc : Int) : Sml (noteM x k st pc) := by
  obtain ⟨f1, f2, f3, f4, f5, f6, f7, f8, f9⟩ := h
  unfold noteM
  split
  · exact ⟨by simp only; omega, by simp only; omega, by simp only; omega, by simp only; omega, by simp only; omega, by simp only; omega, by simp only; omega, by simp only; omega⟩
  · exact ⟨by omega, by omega, by omega, by omega, by omega, by omega, by omega, by omega⟩
theorem sml_one {x y : api_State} (h : FewS x) (o : One x y) : Sml y := by
  obtain ⟨f1, f2, f3, f4, f5, f6, f7, f8, f9⟩ := h
  obtain ⟨fr, on⟩ := o
  have e1 : y.Saq = x.Saq := by rw [fr]
  have e2 : y.Table = x.Table := by rw [fr]
  have e3 : y.Writes = x.Writes := by rw [fr]
  exact ⟨by omega, by omega, by omega, by omega, by omega, by rw [e1]; omega, by rw [e2]; omega, by rw [e3]; omega⟩
theorem issue_One (c : api_Config) (s : api_Split) (x : api_State) : One x (issueE c s x) := by
  unfold issueE
  split
  · exact turn_One c s x
  · exact One.refl x
theorem tells_loop (k st pc : Int) (l : List Int) (hl : l.length ≤ 1000) (c : api_Config) (x : api_State) (s : api_Split) : ∀ (n i : Nat), i ≤ l.length → l.length - i < n →
    l21_EpipeTells_l0 N n k st pc l l (i : Int) c x s = some (1, gI.dv k (gI.dv st (gI.dv pc (g_api_Config.dv c (g_api_State.dv x (g_api_Split.dv s [])))))) := by
  intro n
  induction n with
  | zero => intro i h0 h1; omega
  | succ n ih =>
    intro i h0 h1
    show l21_EpipeTells_r0 N (l21_EpipeTells_l0 N n) k st pc l l (i : Int) c x s = _
    unfold l21_EpipeTells_r0
    by_cases hi : i < l.length
    · rw [lt_len hi]
      simp only [bi_true, idx_n hi, gd_true, Int.toNat_natCast, bne_self_eq_false, bi_false, wS (show i ≤ 100000000 by omega)]
      exact ih (i + 1) (by omega) (by omega)
    · rw [ge_len (by omega)]; rfl
theorem EpipeTells_true (c : api_Config) (p : api_Program) (pick : Int) (x : api_State) (k : api_Cell) (kd st pc : Int) (h : Typed x) : l21_EpipeTells 20000 c p pick x k kd st pc = some (0, gB.dv true []) := by
  unfold l21_EpipeTells
  obtain ⟨s, ok, hs, hlen, hok⟩ := Splits_is (N := 20000) p pick (by omega)
  obtain ⟨b, hb, hfew⟩ := FewS_is (N := 20000) x
  simp only [alive_is, hs, Few_is, hb, on1_some, gg_dv, gg_nil, Bool.not_true, bi_false]
  generalize decide (p.Code.length ≤ 200 ∧ p.Data.length ≤ 500) = fp
  cases fp with
  | false => rfl
  | true =>
    cases b with
    | false => rfl
    | true =>
      cases ok with
      | false => rfl
      | true =>
        have hf := hfew rfl
        have hw := Wf.of h hf
        have hn := NextOk.of (hok rfl)
        have h3 := namedM_len k
        have hL := tells_loop (N := 20000) kd st pc (namedM k) (by omega) c x s 20000 0 (by omega) (by omega)
        simp only [Int.natCast_zero] at hL
        simp only [Bool.not_true, bi_false, epipe_Named_is k (show 1001 < 20000 by omega), r21_Named_is k (show 1001 < 20000 by omega), epipe_Free_is _ _ _ (show 1001 < 20000 by omega), r21_Free_is _ _ _ (show 1001 < 20000 by omega), on1_some, gg_dv, gg_nil, bne_self_eq_false, beq_self_eq_true]
        rw [hL, onB_snd _ _ (by decide)]
        simp only [gg_dv, gg_nil, Copy_is x hw, on1_some, Note_is x hw, r_Note_is x hw, SameState_sml _ (sml_note hf _ _ _) (show 1001 < 20000 by omega), bi_true, Issue_E_is c s x hw (show s.Blocks.length ≤ 100000 by omega) (show s.Blocks.length < 20000 by omega) (show 1001 < 20000 by omega) hn, IssueE_is c s x hw (show s.Blocks.length ≤ 100000 by omega) (show s.Blocks.length < 20000 by omega) (show 1001 < 20000 by omega) hn, SameState_sml _ (sml_one hf (issue_One c s x)) (show 1001 < 20000 by omega)]
end Go.Proofs.Zz
