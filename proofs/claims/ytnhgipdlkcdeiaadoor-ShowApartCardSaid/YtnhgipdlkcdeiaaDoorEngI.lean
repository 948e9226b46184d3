import Derived.Test.YtnhgipdlkcdeiaaDoorEngG
import Derived.ChangeKeysEq
import Derived.WalkSpells
import Derived.Laws.Pointers
import Derived.Lib.SliceRun
import Derived.Stop.IfaceNil
set_option linter.unusedSimpArgs false
set_option linter.unusedVariables false
/- Operations that leave memory as it was: numbers, truth values, strings, comparisons. -/
set_option linter.unusedVariables false
set_option linter.unusedSimpArgs false
namespace Go.Proofs.Zs
open Go

section
variable {E : Env} {F : Nat → Prop} {w : World}
theorem rep_int (k : IntKind) (n : Int) : RepV E F w (int k n) (.int k n) := ⟨trivial, by rw [RepL, RepD]⟩
theorem rep_boo (b : Bool) : RepV E F w (boo b) (.bool b) := ⟨trivial, by rw [RepL, RepD]⟩
theorem rep_str (b : ByteArray) : RepV E F w (strV b) (.string b) := ⟨trivial, by rw [RepL, RepD]⟩
theorem of_int {k : IntKind} {n : Int} {v : Value} (h : RepV E F w (.one (.dat (.int k) n)) v) : v = .int k n := by
  have := h.2; rw [RepL, RepD] at this; simpa using this
theorem of_boo {b : Bool} {v : Value} (h : RepV E F w (.one (.dat .bool b)) v) : v = .bool b := by
  have := h.2; rw [RepL, RepD] at this; simpa using this
theorem of_str {b : ByteArray} {v : Value} (h : RepV E F w (.one (.dat .str b)) v) : v = .string b := by
  have := h.2; rw [RepL, RepD] at this; simpa using this
end

section
variable {P : Program} {ok : Nat → List DV → List DV → Prop} {α : Type} {s : St} {r : α} {t : TypeId} {k : V → Rd α}
theorem binI_ok {op : BinOp} {i j : IntKind} {x y : Int} (h : Ev ok (binI op i j x y k) s r) :
    ∃ v X, (∀ w, (binOp op t (.int i x) (.int j y)).run P w = .ok v w) ∧ (∀ E F w, RepV E F w X v) ∧ Ev ok (k X) s r := by
  unfold binI at h
  split at h
  · rcases h.ite with ⟨hb, h⟩ | ⟨hb, h⟩
    · exact h.fail.elim
    · have hb' : ¬ y < 0 := by simpa using hb
      exact ⟨.int i (shl i x y), _, fun w => by simp [binOp, Op.shift, hb', shl], fun _ _ _ => rep_int _ _, h⟩
  · rcases h.ite with ⟨hb, h⟩ | ⟨hb, h⟩
    · exact h.fail.elim
    · have hb' : ¬ y < 0 := by simpa using hb
      exact ⟨.int i (shr i x y), _, fun w => by simp [binOp, Op.shift, hb', shr], fun _ _ _ => rep_int _ _, h⟩
  · split at h
    · rename_i hij
      subst hij
      cases op with
      | add => exact ⟨_, _, fun w => by simp [binOp, Op.intArith], fun _ _ _ => rep_int _ _, h⟩
      | sub => exact ⟨_, _, fun w => by simp [binOp, Op.intArith], fun _ _ _ => rep_int _ _, h⟩
      | mul => exact ⟨_, _, fun w => by simp [binOp, Op.intArith], fun _ _ _ => rep_int _ _, h⟩
      | quo =>
        rcases h.ite with ⟨hb, h⟩ | ⟨hb, h⟩
        · exact h.fail.elim
        · have hb' : ¬ y = 0 := by simpa using hb
          exact ⟨_, _, fun w => by simp [binOp, Op.intDiv, hb'], fun _ _ _ => rep_int _ _, h⟩
      | rem =>
        rcases h.ite with ⟨hb, h⟩ | ⟨hb, h⟩
        · exact h.fail.elim
        · have hb' : ¬ y = 0 := by simpa using hb
          exact ⟨_, _, fun w => by simp [binOp, Op.intDiv, hb'], fun _ _ _ => rep_int _ _, h⟩
      | and => exact ⟨.int i (bitAnd i x y), _, fun w => by simp only [binOp, Op.intBits, ne_eq, not_true_eq_false, if_false]; rfl, fun _ _ _ => rep_int _ _, h⟩
      | or => exact ⟨.int i (bitOr i x y), _, fun w => by simp only [binOp, Op.intBits, ne_eq, not_true_eq_false, if_false]; rfl, fun _ _ _ => rep_int _ _, h⟩
      | xor => exact ⟨.int i (bitXor i x y), _, fun w => by simp only [binOp, Op.intBits, ne_eq, not_true_eq_false, if_false]; rfl, fun _ _ _ => rep_int _ _, h⟩
      | andNot => exact ⟨.int i (bitNot i x y), _, fun w => by simp only [binOp, Op.intBits, ne_eq, not_true_eq_false, if_false]; rfl, fun _ _ _ => rep_int _ _, h⟩
      | eql => exact ⟨_, _, fun w => by simp [binOp, Op.intCmp], fun _ _ _ => rep_boo _, h⟩
      | neq => exact ⟨_, _, fun w => by simp [binOp, Op.intCmp], fun _ _ _ => rep_boo _, h⟩
      | lss => exact ⟨_, _, fun w => by simp [binOp, Op.intCmp], fun _ _ _ => rep_boo _, h⟩
      | leq => exact ⟨_, _, fun w => by simp [binOp, Op.intCmp], fun _ _ _ => rep_boo _, h⟩
      | gtr => exact ⟨_, _, fun w => by simp [binOp, Op.intCmp], fun _ _ _ => rep_boo _, h⟩
      | geq => exact ⟨_, _, fun w => by simp [binOp, Op.intCmp], fun _ _ _ => rep_boo _, h⟩
      | shl => exact h.fail.elim
      | shr => exact h.fail.elim
    · exact h.fail.elim
theorem binS_ok {op : BinOp} {x y : ByteArray} (h : Ev ok (binS op x y k) s r) :
    ∃ v X, (∀ w, (binOp op t (.string x) (.string y)).run P w = .ok v w) ∧ (∀ E F w, RepV E F w X v) ∧ Ev ok (k X) s r := by
  unfold binS at h
  split at h
  · rcases h.ite with ⟨hb, h⟩ | ⟨hb, h⟩
    · have hb' : x.size + y.size ≤ reach := by simpa using hb
      have h2 : ¬ (((x.size + y.size : Nat) : Int) > IntKind.i64.max) := by
        have : IntKind.i64.max = 9223372036854775807 := by decide
        rw [this]; unfold reach at hb'; omega
      refine ⟨_, _, fun w => ?_, fun _ _ _ => rep_str _, h⟩
      simp only [binOp, Op.stringOp]
      rw [if_neg h2]; rfl
    · exact h.fail.elim
  · exact ⟨_, _, fun w => by simp [binOp, Op.stringOp], fun _ _ _ => rep_boo _, h⟩
  · exact ⟨_, _, fun w => by simp [binOp, Op.stringOp], fun _ _ _ => rep_boo _, h⟩
  · exact ⟨_, _, fun w => by simp [binOp, Op.stringOp], fun _ _ _ => rep_boo _, h⟩
  · exact h.fail.elim

theorem All_int {F : Nat → Prop} {w : World} {i : IntKind} : ∀ {xs : List Int} {cs : List Value}, All (fun (x : Int) c => RepD F w (.int i) x c) xs cs → cs = xs.map fun x => Value.int i x
  | [], _, h => h
  | x :: r, _, ⟨c, d, e, h1, h2⟩ => by have h1 : c = [Value.int i x] := h1; rw [e, h1, All_int h2]; rfl
theorem All_bool {F : Nat → Prop} {w : World} : ∀ {xs : List Bool} {cs : List Value}, All (fun (x : Bool) c => RepD F w .bool x c) xs cs → cs = xs.map fun x => Value.bool x
  | [], _, h => h
  | x :: r, _, ⟨c, d, e, h1, h2⟩ => by have h1 : c = [Value.bool x] := h1; rw [e, h1, All_bool h2]; rfl

/-! Values held against each other -/
theorem run_part_one {e : TypeId} {d : TypeDesc} (hd : P.underlying e = some d) (ha : isAggD d = false) {xs : Array Value} {off : Nat} {v : Value} (hx : xs[off]? = some v) (w : World) :
    (part e xs off).run P w = .ok v w := by
  have : (isAgg e).run P w = .ok false w := by
    unfold isAgg
    simp only [Sem.run_bind, run_underlying hd, Result.andThen_ok]
    cases d <;> simp_all [isAggD]
  simp [part, this, hx]
theorem run_part_agg {e : TypeId} {d : TypeDesc} {f : TypeInfo} (hd : P.underlying e = some d) (ha : isAggD d = true) (hf : P.info? e = some f) {xs : Array Value} {off : Nat} (w : World) :
    (part e xs off).run P w = .ok (.agg (xs.extract off (off + f.size))) w := by
  have : (isAgg e).run P w = .ok true w := by
    unfold isAgg
    simp only [Sem.run_bind, run_underlying hd, Result.andThen_ok]
    cases d <;> simp_all [isAggD]
  simp [part, this, sizeOf, typeInfo, hf]

theorem tysEq_one {ls : List L} {u : Ty} (h : tysEq ls [u] = true) : ∃ v : Den u, ls = [L.dat u v] := by
  cases ls with
  | nil => simp [tysEq] at h
  | cons l r =>
    cases l <;> simp [tysEq] at h
    rename_i t v
    obtain ⟨rfl, h⟩ := h
    cases r with
    | nil => exact ⟨v, rfl⟩
    | cons l r => cases l <;> simp [tysEq] at h
theorem tysEq_append {a : List Ty} : ∀ {ls : List L} {b : List Ty}, tysEq ls (a ++ b) = true → ∃ l1 l2, ls = l1 ++ l2 ∧ tysEq l1 a = true ∧ tysEq l2 b = true := by
  induction a with
  | nil => intro ls b h; exact ⟨[], ls, rfl, rfl, h⟩
  | cons u q ih =>
    intro ls b h
    cases ls with
    | nil => simp [tysEq] at h
    | cons l r =>
      cases l <;> simp [tysEq] at h
      rename_i t v
      obtain ⟨l1, l2, rfl, h1, h2⟩ := ih h.2
      exact ⟨.dat t v :: l1, l2, rfl, by simp [tysEq, h.1, h1], h2⟩
theorem eqLs_cons {a b : L} {r q : List L} {x y : Bool} (h1 : eqL a b = some x) (h2 : eqLs r q = some y) : eqLs (a :: r) (b :: q) = some (x && y) := by
  cases r with
  | nil =>
    cases q with
    | nil => simp only [eqLs, Option.some.injEq] at h2 ⊢; subst h2; rw [h1]; simp
    | cons d q => simp [eqLs] at h2
  | cons c r =>
    cases q with
    | nil => simp [eqLs] at h2
    | cons d q => rw [eqLs]; · rw [h1, h2]
                  · intro h; cases h
theorem eqLs_append {r q : List L} {y : Bool} (h2 : eqLs r q = some y) : ∀ {a b : List L} {x : Bool}, eqLs a b = some x → eqLs (a ++ r) (b ++ q) = some (x && y)
  | [], [], x, h => by simp only [eqLs, Option.some.injEq] at h; subst h; simpa using h2
  | [], _ :: _, x, h => by simp [eqLs] at h
  | _ :: _, [], x, h => by simp [eqLs] at h
  | a :: a', b :: b', x, h => by
    have : ∃ u v, eqL a b = some u ∧ eqLs a' b' = some v ∧ x = (u && v) := by
      cases a' with
      | nil =>
        cases b' with
        | nil => rw [eqLs] at h; exact ⟨x, true, h, rfl, by simp⟩
        | cons d b' => rw [eqLs] at h; · split at h <;> simp_all [eqLs]
                       · intro _ h; cases h
      | cons c a' =>
        rw [eqLs] at h
        · split at h
          · rename_i u v hu hv; simp at h; exact ⟨u, v, hu, hv, h.symm⟩
          · simp at h
        · intro h; cases h
    obtain ⟨u, v, hu, hv, rfl⟩ := this
    rw [List.cons_append, List.cons_append, eqLs_cons hu (eqLs_append h2 hv), Bool.and_assoc]
theorem run_eqItems_int {e : TypeId} {i : IntKind} (hu : P.underlying e = some (.int i)) {d : Nat} {w : World} {xs ys : List Int} (hl : xs.length = ys.length) : ∀ (n m : Nat), n + m = xs.length →
    (Op.eqItems (d + 1) e 1 (xs.map fun x => Value.int i x).toArray (ys.map fun x => Value.int i x).toArray (List.range' n m)).run P w = .ok (xs.drop n == ys.drop n) w := by
  intro n m
  induction m generalizing n with
  | zero => intro h; simp [Op.eqItems, List.drop_of_length_le (show xs.length ≤ n by omega), List.drop_of_length_le (show ys.length ≤ n by omega)]
  | succ m ih =>
    intro h
    have hx : n < xs.length := by omega
    have hy : n < ys.length := by omega
    have h1 : (part e (xs.map fun x => Value.int i x).toArray (n * 1)).run P w = .ok (.int i xs[n]) w := run_part_one hu rfl (by simp [hx]) w
    have h2 : (part e (ys.map fun x => Value.int i x).toArray (n * 1)).run P w = .ok (.int i ys[n]) w := run_part_one hu rfl (by simp [hy]) w
    rw [List.range'_succ]
    simp only [Op.eqItems, Sem.run_bind, h1, h2, Result.andThen_ok, run_equalIn_int w d e i i _ _ hu]
    rw [List.drop_eq_getElem_cons hx, List.drop_eq_getElem_cons hy, List.cons_beq_cons]
    cases hb : (xs[n] == ys[n])
    · simp
    · simp only [Bool.not_true, Bool.false_eq_true, if_false, Bool.true_and]; exact ih (n + 1) (by omega)
theorem run_eqItems_bool {e : TypeId} (hu : P.underlying e = some .bool) {d : Nat} {w : World} {xs ys : List Bool} (hl : xs.length = ys.length) : ∀ (n m : Nat), n + m = xs.length →
    (Op.eqItems (d + 1) e 1 (xs.map fun x => Value.bool x).toArray (ys.map fun x => Value.bool x).toArray (List.range' n m)).run P w = .ok (xs.drop n == ys.drop n) w := by
  intro n m
  induction m generalizing n with
  | zero => intro h; simp [Op.eqItems, List.drop_of_length_le (show xs.length ≤ n by omega), List.drop_of_length_le (show ys.length ≤ n by omega)]
  | succ m ih =>
    intro h
    have hx : n < xs.length := by omega
    have hy : n < ys.length := by omega
    have h1 : (part e (xs.map fun x => Value.bool x).toArray (n * 1)).run P w = .ok (.bool xs[n]) w := run_part_one hu rfl (by simp [hx]) w
    have h2 : (part e (ys.map fun x => Value.bool x).toArray (n * 1)).run P w = .ok (.bool ys[n]) w := run_part_one hu rfl (by simp [hy]) w
    rw [List.range'_succ]
    simp only [Op.eqItems, Sem.run_bind, h1, h2, Result.andThen_ok, run_equalIn_bool' w d e _ _ hu]
    rw [List.drop_eq_getElem_cons hx, List.drop_eq_getElem_cons hy, List.cons_beq_cons]
    cases hb : (xs[n] == ys[n])
    · simp
    · simp only [Bool.not_true, Bool.false_eq_true, if_false, Bool.true_and]; exact ih (n + 1) (by omega)

/-- Cells of a value among others: a part. -/
def Seg (xs : Array Value) (off : Nat) (c : List Value) : Prop := ∃ p q, xs.toList = p ++ (c ++ q) ∧ p.length = off
theorem Seg.one {xs : Array Value} {off : Nat} {v : Value} (h : Seg xs off [v]) : xs[off]? = some v := by
  obtain ⟨p, q, h1, rfl⟩ := h
  rw [← Array.getElem?_toList, h1]; simp
theorem Seg.extract {xs : Array Value} {off n : Nat} {c : List Value} (h : Seg xs off c) (hn : n = c.length) : (xs.extract off (off + n)).toList = c := by
  obtain ⟨p, q, h1, rfl⟩ := h
  subst hn
  simp [h1]
theorem Seg.split {xs : Array Value} {off : Nat} {c d : List Value} (h : Seg xs off (c ++ d)) : Seg xs off c ∧ Seg xs (off + c.length) d := by
  obtain ⟨p, q, h1, rfl⟩ := h
  exact ⟨⟨p, d ++ q, by simp [h1], rfl⟩, ⟨p ++ c, q, by simp [h1], by simp⟩⟩
theorem tysz_len {E : Env} {F : Nat → Prop} {w : World} : ∀ {ls : List L} {ts : List Ty} {c : List Value}, tysEq ls ts = true → RepLs E F w ls c → c.length = tysz ts
  | [], [], c, _, h => by rw [show c = [] from h]; rfl
  | [], _ :: _, _, h, _ => by simp [tysEq] at h
  | l :: r, [], _, h, _ => by cases l <;> simp [tysEq] at h
  | l :: r, u :: q, _, h, ⟨c, d, e, h1, h2⟩ => by
    cases l <;> simp [tysEq] at h
    rename_i t v
    rw [e, List.length_append, RepL_len h1, tysz_len h.2 h2]
    simp [tysz, L.size, h.1]

theorem eqT_ok {E : Env} {F : Nat → Prop} {w : World} : ∀ (n : Nat) (t : TypeId) (ts : List Ty), eqT P n t = some ts → ∀ (d : Nat) (xs ys : Array Value) (off : Nat) (ls ms : List L) (c e : List Value),
    tysEq ls ts = true → tysEq ms ts = true → RepLs E F w ls c → RepLs E F w ms e → Seg xs off c → Seg ys off e →
    ∃ a b r, (part t xs off).run P w = .ok a w ∧ (part t ys off).run P w = .ok b w ∧ eqLs ls ms = some r ∧ (Op.equalIn (d + n + 1) t a b).run P w = .ok r w := by
  intro n
  induction n with
  | zero => intro t ts h; simp [eqT] at h
  | succ n ih =>
    intro t ts h d xs ys off ls ms c e hls hms hc he sx sy
    unfold eqT at h
    split at h
    · -- whole numbers
      rename_i k hu
      simp only [Option.some.injEq] at h; subst h
      obtain ⟨x, rfl⟩ := tysEq_one hls
      obtain ⟨y, rfl⟩ := tysEq_one hms
      have hc := All.one.1 hc; have he := All.one.1 he
      rw [RepL, RepD] at hc he
      subst hc; subst he
      exact ⟨_, _, (x : Int) == (y : Int), run_part_one hu rfl sx.one w, run_part_one hu rfl sy.one w, by simp [eqLs, eqL], run_equalIn_int w _ _ _ _ _ _ hu⟩
    · rename_i hu
      simp only [Option.some.injEq] at h; subst h
      obtain ⟨x, rfl⟩ := tysEq_one hls
      obtain ⟨y, rfl⟩ := tysEq_one hms
      have hc := All.one.1 hc; have he := All.one.1 he
      rw [RepL, RepD] at hc he
      subst hc; subst he
      exact ⟨_, _, (x : Bool) == (y : Bool), run_part_one hu rfl sx.one w, run_part_one hu rfl sy.one w, by simp [eqLs, eqL], run_equalIn_bool' w _ _ _ _ hu⟩
    · rename_i hu
      simp only [Option.some.injEq] at h; subst h
      obtain ⟨x, rfl⟩ := tysEq_one hls
      obtain ⟨y, rfl⟩ := tysEq_one hms
      have hc := All.one.1 hc; have he := All.one.1 he
      rw [RepL, RepD] at hc he
      subst hc; subst he
      exact ⟨_, _, (x : ByteArray) == (y : ByteArray), run_part_one hu rfl sx.one w, run_part_one hu rfl sy.one w, by simp [eqLs, eqL], by
        rw [run_equalIn_string w _ _ _ _ hu, ← beq_toListBytes]⟩
    · -- arrays
      rename_i m el hu
      have hag : ∀ (f : TypeInfo), P.info? t = some f → P.cellsOf t = f.size := fun f hf => by simp [Program.cellsOf, hf]
      have hinfo : ∃ f, P.info? t = some f := by
        unfold Program.underlying at hu
        split at hu
        · exact ⟨_, ‹_›⟩
        · exact ⟨_, ‹_›⟩
        · simp at hu
      obtain ⟨f, hf⟩ := hinfo
      split at h
      · rename_i i k hi hue
        split at h
        · rename_i hsz
          simp only [Option.some.injEq] at h; subst h
          obtain ⟨x, rfl⟩ := tysEq_one hls
          obtain ⟨y, rfl⟩ := tysEq_one hms
          have hc := All.one.1 hc; have he := All.one.1 he
          rw [RepL, RepD] at hc he
          have ec := All_int hc.2; have ee := All_int he.2
          have hlx : List.length (α := Int) x = m := hc.1
          have hly : List.length (α := Int) y = m := he.1
          have hlc : c.length = m := by rw [ec]; simpa using hlx
          have hle : e.length = m := by rw [ee]; simpa using hly
          have hfs : f.size = m := by rw [← hag f hf]; exact hsz.2
          refine ⟨_, _, (x : List Int) == (y : List Int), run_part_agg hu rfl hf w, run_part_agg hu rfl hf w, by simp [eqLs, eqL], ?_⟩
          have e1 : xs.extract off (off + f.size) = ((x : List Int).map fun x => Value.int k x).toArray := by
            apply Array.ext'; rw [sx.extract (by omega), ec]
          have e2 : ys.extract off (off + f.size) = ((y : List Int).map fun x => Value.int k x).toArray := by
            apply Array.ext'; rw [sy.extract (by omega), ee]
          have hce : P.cellsOf el = 1 := by simp [Program.cellsOf, hi, hsz.1]
          rw [e1, e2, run_equalIn_array w _ _ _ hu hi, List.range_eq_range', hce, show d + (n + 1) = d + n + 1 from rfl]
          have := run_eqItems_int (P := P) (w := w) (d := d + n) hue (xs := x) (ys := y) (hlx.trans hly.symm) 0 m (by rw [hlx]; simp)
          simpa using this
        · simp at h
      · rename_i i hi hue
        split at h
        · rename_i hsz
          simp only [Option.some.injEq] at h; subst h
          obtain ⟨x, rfl⟩ := tysEq_one hls
          obtain ⟨y, rfl⟩ := tysEq_one hms
          have hc := All.one.1 hc; have he := All.one.1 he
          rw [RepL, RepD] at hc he
          have ec := All_bool hc.2; have ee := All_bool he.2
          have hlx : List.length (α := Bool) x = m := hc.1
          have hly : List.length (α := Bool) y = m := he.1
          have hlc : c.length = m := by rw [ec]; simpa using hlx
          have hle : e.length = m := by rw [ee]; simpa using hly
          have hfs : f.size = m := by rw [← hag f hf]; exact hsz.2
          refine ⟨_, _, (x : List Bool) == (y : List Bool), run_part_agg hu rfl hf w, run_part_agg hu rfl hf w, by simp [eqLs, eqL], ?_⟩
          have e1 : xs.extract off (off + f.size) = ((x : List Bool).map fun x => Value.bool x).toArray := by
            apply Array.ext'; rw [sx.extract (by omega), ec]
          have e2 : ys.extract off (off + f.size) = ((y : List Bool).map fun x => Value.bool x).toArray := by
            apply Array.ext'; rw [sy.extract (by omega), ee]
          have hce : P.cellsOf el = 1 := by simp [Program.cellsOf, hi, hsz.1]
          rw [e1, e2, run_equalIn_array w _ _ _ hu hi, List.range_eq_range', hce, show d + (n + 1) = d + n + 1 from rfl]
          have := run_eqItems_bool (P := P) (w := w) (d := d + n) hue (xs := x) (ys := y) (hlx.trans hly.symm) 0 m (by rw [hlx]; simp)
          simpa using this
        · simp at h
      · simp at h
    · -- structs
      rename_i fs hu
      have hinfo : ∃ f, P.info? t = some f := by
        unfold Program.underlying at hu
        split at hu
        · exact ⟨_, ‹_›⟩
        · exact ⟨_, ‹_›⟩
        · simp at hu
      obtain ⟨f, hf⟩ := hinfo
      have hag : P.cellsOf t = f.size := by simp [Program.cellsOf, hf]
      split at h
      · simp at h
      · rename_i hst
        split at h
        · simp at h
        · rename_i us hus
          split at h
          · rename_i hsz
            simp only [Option.some.injEq] at h; subst h
            have lc := tysz_len hls hc
            have le := tysz_len hms he
            have hfo : P.fieldsOf t = fs := by simp [Program.fieldsOf, hu]
            have key : ∀ (gs : List Field) (o : Nat) (vs : List Ty) (ls ms : List L) (c e : List Value) (xs ys : Array Value), eqFs (eqT P n) gs o = some vs → tysEq ls vs = true → tysEq ms vs = true → RepLs E F w ls c → RepLs E F w ms e → Seg xs o c → Seg ys o e →
                ∃ r, eqLs ls ms = some r ∧ (Op.eqFields (d + n + 1) xs ys gs).run P w = .ok r w := by
              intro gs
              induction gs with
              | nil =>
                intro o vs ls ms c e xs ys hv hl hm _ _ _ _
                simp only [eqFs, Option.some.injEq] at hv; subst hv
                cases ls with
                | cons l r => cases l <;> simp [tysEq] at hl
                | nil =>
                  cases ms with
                  | cons l r => cases l <;> simp [tysEq] at hm
                  | nil => exact ⟨true, rfl, by simp [Op.eqFields]⟩
              | cons g gs ihg =>
                intro o vs ls ms c e xs ys hv hl hm hcc hee sx sy
                simp only [eqFs] at hv
                split at hv
                · simp at hv
                · rename_i hne
                  split at hv
                  · simp at hv
                  · rename_i u1 hu1
                    split at hv
                    · simp at hv
                    · rename_i u2 hu2
                      simp only [Option.some.injEq] at hv; subst hv
                      obtain ⟨l1, l2, rfl, hl1, hl2⟩ := tysEq_append hl
                      obtain ⟨m1, m2, rfl, hm1, hm2⟩ := tysEq_append hm
                      obtain ⟨c1, c2, rfl, hc1, hc2⟩ := hcc.split
                      obtain ⟨e1, e2, rfl, he1, he2⟩ := hee.split
                      have z1 := tysz_len hl1 hc1
                      have z2 := tysz_len hm1 he1
                      have hgo : g.offset = o := by
                        by_cases h : g.offset = o
                        · exact h
                        · exact absurd (.inr h) hne
                      obtain ⟨va, vb, r1, k1, k2, k3, k4⟩ := ih g.type u1 hu1 d xs ys o l1 m1 c1 e1 hl1 hm1 hc1 he1 sx.split.1 sy.split.1
                      obtain ⟨r2, k5, k6⟩ := ihg _ u2 l2 m2 c2 e2 xs ys hu2 hl2 hm2 hc2 he2 (by rw [← z1]; exact sx.split.2) (by rw [← z2]; exact sy.split.2)
                      refine ⟨r1 && r2, eqLs_append k5 k3, ?_⟩
                      have hnm : g.name ≠ "_" := fun h => hne (.inl h)
                      simp only [Op.eqFields, if_pos hnm, Sem.run_bind, hgo, k1, k2, k4, Result.andThen_ok]
                      cases r1
                      · simp
                      · simpa using k6
            have e1 : (xs.extract off (off + f.size)).toList = c := sx.extract (by omega)
            have e2 : (ys.extract off (off + f.size)).toList = e := sy.extract (by omega)
            obtain ⟨r, h1, h2⟩ := key fs.toList 0 us ls ms c e (xs.extract off (off + f.size)) (ys.extract off (off + f.size)) hus hls hms hc he ⟨[], [], by rw [e1]; simp, rfl⟩ ⟨[], [], by rw [e2]; simp, rfl⟩
            refine ⟨_, _, r, run_part_agg hu rfl hf w, run_part_agg hu rfl hf w, h1, ?_⟩
            rw [run_equalIn_struct w _ _ _ _ (by rw [hfo]; exact hu) (by simpa using hst), hfo]
            exact h2
          · simp at h
    · simp at h
end
end Go.Proofs.Zs
/- Operations that leave memory as it was, one by one. -/
set_option linter.unusedVariables false
set_option linter.unusedSimpArgs false
namespace Go.Proofs.Zs
open Go

section
variable {P : Program} {ok : Nat → List DV → List DV → Prop} {α : Type} {s : St} {r : α} {t : TypeId} {E : Env} {F : Nat → Prop} {w : World}
theorem of_agg {ls : List L} {v : Value} (h : RepV E F w (.agg ls) v) : ∃ cs, v = .agg cs ∧ RepLs E F w ls cs.toList := h
theorem of_one {l : L} {v : Value} (hl : ∀ n, l ≠ .any n) (h : RepV E F w (.one l) v) : cellOk v ∧ RepL E F w l [v] := by
  cases l <;> first | exact h | exact absurd rfl (hl _)
theorem one_of {l : L} {v : Value} (h : cellOk v) (h' : RepL E F w l [v]) : RepV E F w (.one l) v := by
  cases l <;> first | exact ⟨h, h'⟩ | trivial
theorem TOk.slice {i : TI} (h : TOk P t i) (hd : i.td = .slice) : ∃ e, P.underlying t = some (.slice e) ∧ ElOk P e i.ety i.eby := by
  obtain ⟨d, h1, h2, h3⟩ := h.und
  cases d <;> simp [tdOk, hd] at h3
  exact ⟨_, h1, elOk_spec h3⟩
theorem TOk.bool {i : TI} (h : TOk P t i) (hd : i.td = .bool) : P.underlying t = some .bool := by
  obtain ⟨d, h1, h2, h3⟩ := h.und
  cases d <;> simp [tdOk, hd] at h3
  exact h1
theorem TOk.iface {i : TI} (h : TOk P t i) (hd : i.td = .iface) : ∃ ms, P.underlying t = some (.interface ms) := by
  obtain ⟨d, h1, h2, h3⟩ := h.und
  cases d <;> simp [tdOk, hd] at h3
  exact ⟨_, h1⟩
theorem TOk.str {i : TI} (h : TOk P t i) (hd : i.td = .str) : P.underlying t = some .string := by
  obtain ⟨d, h1, h2, h3⟩ := h.und
  cases d <;> simp [tdOk, hd] at h3
  exact h1
theorem TOk.int {i : TI} {k : IntKind} (h : TOk P t i) (hd : i.td = .int k) : P.underlying t = some (.int k) := by
  obtain ⟨d, h1, h2, h3⟩ := h.und
  cases d <;> simp [tdOk, hd] at h3
  subst h3
  exact h1
theorem TOk.ptr {i : TI} (h : TOk P t i) (hd : i.td = .ptr) : ∃ e, P.underlying t = some (.pointer e) := by
  obtain ⟨d, h1, h2, h3⟩ := h.und
  cases d <;> simp [tdOk, hd] at h3
  exact ⟨_, h1⟩
theorem TOk.array {i : TI} (h : TOk P t i) (hd : i.td = .array) : ∃ e, P.underlying t = some (.array i.n e) ∧ ElOk P e i.ety i.eby ∧ scalar i.ety = true ∧ i.zk = [.d (.ar i.n i.ety)] := by
  obtain ⟨d, h1, h2, h3⟩ := h.und
  cases d <;> simp [tdOk, hd] at h3
  obtain ⟨⟨⟨k1, k2⟩, k3⟩, k4⟩ := h3
  subst k1
  refine ⟨_, h1, elOk_spec k2, k3, ?_⟩
  split at k4
  · rename_i hz; rw [hz]; simp at k4; rw [k4]
  · simp at k4
theorem TOk.struct {i : TI} (h : TOk P t i) (hd : i.td = .struct) : ∃ fs, P.underlying t = some (.struct fs) ∧ fsOk P fs.toList i.fl i.lay = true := by
  obtain ⟨d, h1, h2, h3⟩ := h.und
  cases d <;> simp [tdOk, hd] at h3
  exact ⟨_, h1, h3⟩

theorem eqT_size {n : Nat} {ts : List Ty} {d : TypeDesc} (h : eqT P (n + 1) t = some ts) (hu : P.underlying t = some d) (ha : isAggD d = true) : P.cellsOf t = tysz ts := by
  unfold eqT at h
  rw [hu] at h
  cases d <;> simp [isAggD] at ha
  · simp only at h
    split at h
    · split at h
      · rename_i hsz; simp only [Option.some.injEq] at h; subst h; rw [hsz.2]; simp [tysz, Ty.sz]
      · simp at h
    · split at h
      · rename_i hsz; simp only [Option.some.injEq] at h; subst h; rw [hsz.2]; simp [tysz, Ty.sz]
      · simp at h
    · simp at h
  · simp only at h
    split at h
    · simp at h
    · split at h
      · simp at h
      · split at h
        · rename_i hsz; simp only [Option.some.injEq] at h; subst h; exact hsz
        · simp at h

theorem binO_ok {i : TI} (hi : i = {} ∨ TOk P t i) {op : BinOp} {x y : V} {k : V → Rd α} (h : Ev ok (binO i op x y k) s r) {ox oy : Operand} {vx vy : Value} (hx : RepV E F w x vx) (hy : RepV E F w y vy) :
    ∃ v X, (do eqGuard op t ox oy vx vy; binOp op t vx vy : Sem Value).run P w = .ok v w ∧ RepV E F w X v ∧ Ev ok (k X) s r := by
  unfold binO at h
  split at h
  · rename_i i' a j b
    have := of_int hx; subst this
    have := of_int hy; subst this
    obtain ⟨v, X, h1, h2, h3⟩ := binI_ok (P := P) (t := t) h
    refine ⟨v, X, ?_, h2 _ _ _, h3⟩
    have : (eqGuard op t ox oy (.int i' a) (.int j b)).run P w = .ok () w := by cases op <;> simp [eqGuard]
    simp [this, h1]
  · rename_i a b
    have := of_str hx; subst this
    have := of_str hy; subst this
    obtain ⟨v, X, h1, h2, h3⟩ := binS_ok (P := P) (t := t) h
    refine ⟨v, X, ?_, h2 _ _ _, h3⟩
    have : (eqGuard op t ox oy (.string a) (.string b)).run P w = .ok () w := by cases op <;> simp [eqGuard]
    simp [this, h1]
  · rename_i a b
    have := of_boo hx; subst this
    have := of_boo hy; subst this
    have hg : (eqGuard op t ox oy (.bool a) (.bool b)).run P w = .ok () w := by cases op <;> simp [eqGuard]
    split at h
    · rename_i htd
      have hu := (hi.resolve_left (by rintro rfl; simp at htd)).bool htd
      exact ⟨_, _, by rw [Sem.run_bind, hg, Result.andThen_ok, run_eql_bool w t a b hu], rep_boo _, h⟩
    · rename_i htd
      have hu := (hi.resolve_left (by rintro rfl; simp at htd)).bool htd
      exact ⟨_, _, by rw [Sem.run_bind, hg, Result.andThen_ok, run_neq_bool w t a b hu], rep_boo _, h⟩
    · exact h.fail.elim
  · rename_i a b
    split at h
    · exact h.fail.elim
    · exact h.fail.elim
    · rename_i ts hts hagg
      split at h
      · exact h.fail.elim
      · rename_i hty
        simp only [Bool.and_eq_true] at hty
        obtain ⟨ca, rfl, ha⟩ := of_agg hx
        obtain ⟨cb, rfl, hb⟩ := of_agg hy
        have hT := hi.resolve_left (by rintro rfl; simp at hts)
        obtain ⟨he, hgt⟩ := hT.eq ts hts
        obtain ⟨va, vb, c, k1, k2, k3, k4⟩ := eqT_ok (P := P) (w := w) 40 t ts he 9959 ca cb 0 a b _ _ hty.1 hty.2 ha hb ⟨[], [], by simp, rfl⟩ ⟨[], [], by simp, rfl⟩
        obtain ⟨d, hu, hd, _⟩ := hT.und
        rw [hagg] at hd
        obtain ⟨f, z, g1, g2, g3, g4, g5⟩ := hT.inf
        have hsz : f.size = tysz ts := by
          have := eqT_size he hu hd
          rw [← this]; simp [Program.cellsOf, g1]
        have l1 : ca.size = f.size := by have := tysz_len hty.1 ha; rw [hsz, ← this]; simp
        have l2 : cb.size = f.size := by have := tysz_len hty.2 hb; rw [hsz, ← this]; simp
        have e1 := run_part_agg (P := P) hu hd g1 (xs := ca) (off := 0) w
        have e2 := run_part_agg (P := P) hu hd g1 (xs := cb) (off := 0) w
        rw [k1] at e1; rw [k2] at e2
        simp only [Result.ok.injEq, and_true] at e1 e2
        have f1 : ca.extract 0 (0 + f.size) = ca := by rw [Nat.zero_add, ← l1]; simp
        have f2 : cb.extract 0 (0 + f.size) = cb := by rw [Nat.zero_add, ← l2]; simp
        rw [f1] at e1; rw [f2] at e2
        subst e1; subst e2
        have hg := run_eqGuard_agg (P := P) w op t ox oy ca cb hgt
        have k4 : (Op.equalIn 10000 t (.agg ca) (.agg cb)).run P w = .ok c w := k4
        split at h
        · rename_i c' hc'
          rw [k3] at hc'; simp only [Option.some.injEq] at hc'; subst hc'
          exact ⟨_, _, by rw [Sem.run_bind, hg, Result.andThen_ok, run_eql_struct, k4]; rfl, rep_boo _, h⟩
        · rename_i c' hc'
          rw [k3] at hc'; simp only [Option.some.injEq] at hc'; subst hc'
          exact ⟨_, _, by rw [Sem.run_bind, hg, Result.andThen_ok, run_neq_struct, k4]; rfl, rep_boo _, h⟩
        · exact h.fail.elim
  · rename_i a
    have hz : vy = .slice none 0 0 := by have := hy.2; rw [RepL] at this; simpa using this
    subst hz
    have key : ∀ c, isNilS a = some c → ∃ b n m, vx = .slice b n m ∧ b.isNone = c := by
      intro c hc
      cases a <;> simp [isNilS] at hc
      · subst hc
        obtain ⟨_, _, b, n, m, h2⟩ := hx
        exact ⟨some b, n, m, by simpa using h2, rfl⟩
      · subst hc
        have := hx.2; rw [RepL] at this
        exact ⟨none, 0, 0, by simpa using this, rfl⟩
      · subst hc
        obtain ⟨_, c, h2⟩ := hx
        exact ⟨none, 0, c, by simpa using h2, rfl⟩
    split at h
    · rename_i htd hc
      obtain ⟨e, hu, _⟩ := (hi.resolve_left (by rintro rfl; simp at htd)).slice htd
      obtain ⟨b, n, m, rfl, rfl⟩ := key _ hc
      have hg : (eqGuard .eql t ox oy (.slice b n m) (.slice none 0 0)).run P w = .ok () w := by simp [eqGuard]
      exact ⟨_, _, by rw [Sem.run_bind, hg, Result.andThen_ok, Lib.run_eql_slice_nil w t e b n m 0 0 hu], rep_boo _, h⟩
    · rename_i htd hc
      obtain ⟨e, hu, _⟩ := (hi.resolve_left (by rintro rfl; simp at htd)).slice htd
      obtain ⟨b, n, m, rfl, rfl⟩ := key _ hc
      have hg : (eqGuard .neq t ox oy (.slice b n m) (.slice none 0 0)).run P w = .ok () w := by simp [eqGuard]
      exact ⟨_, _, by rw [Sem.run_bind, hg, Result.andThen_ok, run_neq_slice_nil_any w t e b n m 0 0 hu], rep_boo _, h⟩
    · exact h.fail.elim
  · rename_i a
    have hz : vy = .pointer none := by have := hy.2; rw [RepL] at this; simpa using this
    subst hz
    have key : ∀ c, isNilP a = some c → ∃ b, vx = .pointer b ∧ b.isNone = c := by
      intro c hc
      cases a <;> simp [isNilP] at hc <;> subst hc
      · have := hx.2; rw [RepL] at this; exact ⟨_, by simpa using this.2.1, rfl⟩
      · have := hx.2; rw [RepL] at this; exact ⟨_, by simpa using this.2.2, rfl⟩
      · have := hx.2; rw [RepL] at this; exact ⟨_, by simpa using this.2.2.1, rfl⟩
      · obtain ⟨_, b, o, ds, h2, _⟩ := hx; exact ⟨_, by simpa using h2, rfl⟩
      · have := hx.2; rw [RepL] at this; exact ⟨_, by simpa using this, rfl⟩
    split at h
    · rename_i htd hc
      obtain ⟨e, hu⟩ := (hi.resolve_left (by rintro rfl; simp at htd)).ptr htd
      obtain ⟨b, rfl, rfl⟩ := key _ hc
      have hg : (eqGuard .eql t ox oy (.pointer b) (.pointer none)).run P w = .ok () w := by simp [eqGuard]
      have hp : P.underlying t = some (.pointer (P.pointee t)) := by rw [hu]; simp [Program.pointee, hu]
      exact ⟨_, _, by rw [Sem.run_bind, hg, Result.andThen_ok, run_eql_pointer_nil w t b hp], rep_boo _, h⟩
    · rename_i htd hc
      obtain ⟨e, hu⟩ := (hi.resolve_left (by rintro rfl; simp at htd)).ptr htd
      obtain ⟨b, rfl, rfl⟩ := key _ hc
      have hg : (eqGuard .neq t ox oy (.pointer b) (.pointer none)).run P w = .ok () w := by simp [eqGuard]
      have hp : P.underlying t = some (.pointer (P.pointee t)) := by rw [hu]; simp [Program.pointee, hu]
      exact ⟨_, _, by rw [Sem.run_bind, hg, Result.andThen_ok, run_neq_pointer_nil w t b hp], rep_boo _, h⟩
    · exact h.fail.elim
  · exact h.fail.elim
end
end Go.Proofs.Zs
/- Operations, one by one: those that leave memory as it was. -/
set_option linter.unusedVariables false
set_option linter.unusedSimpArgs false
namespace Go.Proofs.Zs
open Go

/-- What is shown of an operation, its guard aside. -/
def OpP (P : Program) (ok : Nat → List DV → List DV → Prop) (cx : Cx) (hi : Hi) (o : Oper) : Prop :=
  ∀ (C : Frm), FrmOk P C → ∀ (rg ix key : Nat) (A : Nat → Prop) (s : St) (a : Act) (w : World) (wr : Wr) (K : Act → World → Prop) (Q : Exit → Act → World → Prop),
    Ev ok (opSem cx hi rg ix key o) s wr → Rel C A s a w → (∀ k, key ≤ k → k < key + stride → ¬ A k) →
    (∀ a' w', Rel C (fun k => A k ∨ (key ≤ k ∧ k < key + stride)) (apply wr s) a' w' → K a' w') → o.wp P a w K Q

section
variable {P : Program} {ok : Nat → List DV → List DV → Prop} {cx : Cx} {hi : Hi} {o : Oper}
/-- Where the value is known. -/
theorem pure_rel {C : Frm} {A : Nat → Prop} {E : Env} {F : Nat → Prop} {s : St} {a : Act} {w : World} {wr : Wr} {K : Act → World → Prop} {Q : Exit → Act → World → Prop} {x : V} {v : Value} {key : Nat}
    (hrun : (execOp a.eval o).run P w = .ok (.value v) w) (h : Ev ok (fin hi o.dst [] x) s wr) (hm : Mem C A E F s.ob w) (ht : Tms E F s.tm a w) (hx : RepV E F w x v)
    (hK : ∀ a' w', Rel C (fun k => A k ∨ (key ≤ k ∧ k < key + stride)) (apply wr s) a' w' → K a' w') : o.wp P a w K Q :=
  pure_ok hrun h hm ht hx fun a' w' hr => hK a' w' (hr.mono fun _ h => .inl h)

theorem op_move {x : Operand} (ho : o.op = .move x) : OpP P ok cx hi o := by
  intro C hC rg ix key A s a w wr K Q h hr hA hK
  simp only [opSem, ho] at h
  obtain ⟨E, F, hm, ht⟩ := hr
  obtain ⟨X, h1, h2⟩ := ev_ok h ht
  exact pure_rel (by simp [execOp, ho]) h2 hm ht h1 hK
theorem op_assign {x : Operand} (ho : o.op = .assign x) : OpP P ok cx hi o := by
  intro C hC rg ix key A s a w wr K Q h hr hA hK
  simp only [opSem, ho] at h
  obtain ⟨E, F, hm, ht⟩ := hr
  obtain ⟨X, h1, h2⟩ := ev_ok h ht
  exact pure_rel (by simp [execOp, ho]) h2 hm ht h1 hK
theorem op_pick {c x y : Operand} (ho : o.op = .pick c x y) : OpP P ok cx hi o := by
  intro C hC rg ix key A s a w wr K Q h hr hA hK
  simp only [opSem, ho] at h
  obtain ⟨E, F, hm, ht⟩ := hr
  obtain ⟨X, h1, h2⟩ := ev_ok h ht
  split at h2
  · rename_i b
    have hb := of_boo h1
    obtain ⟨Y, h3, h4⟩ := ev_ok h2 ht
    obtain ⟨Z, h5, h6⟩ := ev_ok h4 ht
    rcases h6.ite with ⟨rfl, h7⟩ | ⟨rfl, h7⟩
    · exact pure_rel (by simp [execOp, ho, hb, asBool]) h7 hm ht h3 hK
    · exact pure_rel (by simp [execOp, ho, hb, asBool]) h7 hm ht h5 hK
  · exact h2.fail.elim
theorem op_nilCheck {x : Operand} (ho : o.op = .nilCheck x) : OpP P ok cx hi o := by
  intro C hC rg ix key A s a w wr K Q h hr hA hK
  simp only [opSem, ho] at h
  obtain ⟨E, F, hm, ht⟩ := hr
  obtain ⟨X, h1, h2⟩ := ev_ok h ht
  have key : ∀ p, a.eval x = .pointer (some p) → (execOp a.eval o).run P w = .ok (.value (a.eval x)) w := fun p hp => by simp [execOp, ho, hp]
  split at h2
  · have := h1.2; rw [RepL] at this; have := this.2.1; simp only [List.cons.injEq, and_true] at this
    exact pure_rel (key _ this) h2 hm ht h1 hK
  · have := h1.2; rw [RepL] at this; have := this.2.2; simp only [List.cons.injEq, and_true] at this
    exact pure_rel (key _ this) h2 hm ht h1 hK
  · have := h1.2; rw [RepL] at this; have := this.2.2.1; simp only [List.cons.injEq, and_true] at this
    exact pure_rel (key _ this) h2 hm ht h1 hK
  · have h1' := h1
    obtain ⟨_, b, oo, ds, h3, _⟩ := h1
    simp only [List.cons.injEq, and_true] at h3
    exact pure_rel (key _ h3) h2 hm ht h1' hK
  · exact h2.fail.elim
theorem ife_eql {t : TypeId} {ms} (hu : P.underlying t = some (.interface ms)) {b : Bool} {c : Value} (hb : match b with | true => c = .nilIface | false => ∃ t u, c = .iface t u) {ox : Operand} {w : World} :
    ((eqGuard .eql t ox (.const .nilIface) c .nilIface).run P w).andThen (fun _ w' => (binOp .eql t c .nilIface).run P w') = .ok (.bool b) w := by
  have hI : P.isIface t = true := by simp [Program.isIface, hu]
  cases b with
  | true => subst hb; simp [eqGuard, run_eql_nil_nil_at w t hI]
  | false => obtain ⟨t', u', rfl⟩ := hb; simp [eqGuard, run_eql_iface_nil w t hI]
theorem ife_neq {t : TypeId} {ms} (hu : P.underlying t = some (.interface ms)) {b : Bool} {c : Value} (hb : match b with | true => c = .nilIface | false => ∃ t u, c = .iface t u) {ox : Operand} {w : World} :
    ((eqGuard .neq t ox (.const .nilIface) c .nilIface).run P w).andThen (fun _ w' => (binOp .neq t c .nilIface).run P w') = .ok (.bool (!b)) w := by
  have hI : P.isIface t = true := by simp [Program.isIface, hu]
  cases b with
  | true => subst hb; simp [eqGuard, run_neq_nil_nil_at w t hI]
  | false => obtain ⟨t', u', rfl⟩ := hb; simp [eqGuard, run_neq_iface_nil w t hI]
theorem op_binOp (hti : TIok P cx) {op : BinOp} {t u : TypeId} {x y : Operand} (ho : o.op = .binOp op t x y u) : OpP P ok cx hi o := by
  intro C hC rg ix key A s a w wr K Q h hr hA hK
  simp only [opSem, ho] at h
  obtain ⟨E, F, hm, ht⟩ := hr
  obtain ⟨X, h1, h2⟩ := ev_ok h ht
  obtain ⟨Y, h3, h4⟩ := ev_ok h2 ht
  have fin : ∀ i, (i = {} ∨ TOk P t i) → Ev ok (binO i op X Y fun x => fin hi o.dst [] x) s wr → o.wp P a w K Q := by
    intro i hi h5
    obtain ⟨v, Z, k1, k2, k3⟩ := binO_ok (P := P) hi h5 (ox := x) (oy := y) h1 h3
    refine pure_rel ?_ k3 hm ht k2 hK
    simp only [execOp, ho, Sem.run_bind, k1]
    rfl
  split at h4
  · exact fin _ (.inl rfl) h4
  · exact fin _ (.inl rfl) h4
  · rename_i b
    split at h4
    · obtain ⟨i, hi', h5⟩ := Cx.t_ev h4
      obtain ⟨_, c, hc, hb⟩ := h1
      have hc : a.eval x = c := by simpa using hc
      unfold ifeO at h5
      split at h5
      · rename_i htd
        obtain ⟨ms, hu⟩ := (hti t i hi').iface htd
        refine pure_rel (v := .bool b) ?_ h5 hm ht (rep_boo _) hK
        simp only [execOp, ho, Sem.run_bind, hc]
        exact (congrArg (fun z => Result.andThen z _) (ife_eql hu hb)).trans rfl
      · rename_i htd
        obtain ⟨ms, hu⟩ := (hti t i hi').iface htd
        refine pure_rel (v := .bool (!b)) ?_ h5 hm ht (rep_boo _) hK
        simp only [execOp, ho, Sem.run_bind, hc]
        exact (congrArg (fun z => Result.andThen z _) (ife_neq hu hb)).trans rfl
      · exact h5.fail.elim
    · exact h4.fail.elim
  · obtain ⟨i, hi, h5⟩ := Cx.t_ev h4
    exact fin i (.inr (hti t i hi)) h5
theorem op_unOp {op : UnOp} {t : TypeId} {x : Operand} (ho : o.op = .unOp op t x) : OpP P ok cx hi o := by
  intro C hC rg ix key A s a w wr K Q h hr hA hK
  simp only [opSem, ho] at h
  obtain ⟨E, F, hm, ht⟩ := hr
  obtain ⟨X, h1, h2⟩ := ev_ok h ht
  unfold unO at h2
  split at h2
  · have := of_boo h1
    exact pure_rel (by simp [execOp, ho, this, Op.unary]) h2 hm ht (rep_boo _) hK
  · have := of_int h1
    exact pure_rel (v := .int _ _) (by simp only [execOp, ho, this, Op.unary, Op.intArith]; rfl) h2 hm ht (rep_int _ _) hK
  · have := of_int h1
    exact pure_rel (v := .int _ _) (by simp only [execOp, ho, this, Op.unary, Op.intBits]; rfl) h2 hm ht (rep_int _ _) hK
  · exact h2.fail.elim
theorem op_extract {x : Operand} {i : Nat} (ho : o.op = .extract x i) : OpP P ok cx hi o := by
  intro C hC rg ix key A s a w wr K Q h hr hA hK
  simp only [opSem, ho] at h
  obtain ⟨E, F, hm, ht⟩ := hr
  obtain ⟨X, h1, h2⟩ := ev_ok h ht
  split at h2
  · rename_i vs
    obtain ⟨xs, hx, hall⟩ := h1
    have get : ∀ (vs : List V) (ys : List Value) (i : Nat) (v : V), All2 (RepW E F w) vs ys → nthO vs i = some v → ∃ y, ys[i]? = some y ∧ RepW E F w v y := by
      intro vs
      induction vs with
      | nil => intro ys i v _ h; simp [nthO] at h
      | cons u r ih =>
        intro ys i v h hn
        cases ys with
        | nil => exact h.elim
        | cons y q =>
          cases i with
          | zero => simp only [nthO, Option.some.injEq] at hn; subst hn; exact ⟨y, rfl, h.1⟩
          | succ i => obtain ⟨z, h1, h2⟩ := ih q i v h.2 hn; exact ⟨z, by simpa using h1, h2⟩
    split at h2
    · exact h2.fail.elim
    · rename_i v hv hn
      obtain ⟨y, hy, hr⟩ := get vs xs.toList i v hall hn
      have hrv : RepV E F w v y := by
        cases v with
        | one l => exact hr
        | agg ls => exact hr
        | tup vs => exact hr.elim
      have hy' : xs[i]? = some y := by simpa using hy
      exact pure_rel (by simp [execOp, ho, hx, Instr.extract, hy']) h2 hm ht hrv hK
    · exact h2.fail.elim
  · exact h2.fail.elim
theorem caps_ok {E : Env} {F : Nat → Prop} {w : World} : ∀ {vs : List V} {q : List Cp} {ys : List Value}, caps vs = some q → All2 (RepV E F w) vs ys →
    (∀ c ∈ q, E.al c.k ∧ Steps (E.e c.k).loff c.l c.y) ∧ ys = q.map fun c => Value.pointer (some ⟨(E.e c.k).blk, (E.e c.k).loff c.l, none⟩)
  | [], q, [], h, _ => by simp only [caps, Option.some.injEq] at h; subst h; simp
  | [], q, _ :: _, _, h => h.elim
  | _ :: _, _, [], _, h => h.elim
  | v :: vs, q, y :: ys, h, hr => by
    unfold caps at h
    split at h <;> try (first | (rename_i e; cases e; done) | (simp at h; done))
    rename_i n l y' r e
    simp only [List.cons.injEq] at e
    obtain ⟨rfl, rfl⟩ := e
    split at h
    · rename_i q' hq
      simp only [Option.some.injEq] at h; subst h
      obtain ⟨h1, h2⟩ := caps_ok hq hr.2
      have h3 := hr.1.2; rw [RepL] at h3
      refine ⟨fun c hc => ?_, ?_⟩
      · rcases List.mem_cons.1 hc with rfl | hc
        · exact ⟨h3.1, h3.2.2⟩
        · exact h1 c hc
      · rw [h2]; simpa using h3.2.1
    · simp at h
theorem op_makeFunc {f : Nat} {fs cs : Array Operand} (ho : o.op = .makeFunc (.func f) fs cs) : OpP P ok cx hi o := by
  intro C hC rg ix key A s a w wr K Q h hr hA hK
  simp only [opSem, ho] at h
  obtain ⟨E, F, hm, ht⟩ := hr
  split at h
  · rename_i hfs
    obtain ⟨vs, h1, h2⟩ := evs_ok h ht
    split at h2
    · rename_i q hq
      obtain ⟨h3, h4⟩ := caps_ok hq h1
      have hfs' : fs = #[] := Array.ext' (by simpa using hfs)
      subst hfs'
      refine pure_rel (v := .func (.func f) #[] (cs.map a.eval)) (by simp [execOp, ho, Instr.makeFunc]) h2 hm ht ⟨trivial, h3, ?_⟩ hK
      have : cs.map a.eval = (q.map fun c => Value.pointer (some ⟨(E.e c.k).blk, (E.e c.k).loff c.l, none⟩)).toArray := Array.ext' (by simpa using h4)
      rw [this]
    · exact h2.fail.elim
  · exact h.fail.elim
end
end Go.Proofs.Zs
