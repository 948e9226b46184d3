import Derived.Test.YtnhgipdlkcdeiaaDoorEngL
import Derived.Laws.CopyRow
import Derived.Laws.MakeOwn
set_option linter.unusedSimpArgs false
set_option linter.unusedVariables false
/- New blocks: variables, boxed values, values built. -/
set_option linter.unusedVariables false
set_option linter.unusedSimpArgs false
namespace Go.Proofs.Zs
open Go

/-! Cells put over cells -/
def splice {α : Type} (cs : List α) (o : Nat) (d : List α) : List α := cs.take o ++ (d ++ cs.drop (o + d.length))
theorem splice_nil {α : Type} (cs : List α) (o : Nat) : splice cs o [] = cs := by simp [splice]
theorem foldl_splice : ∀ (vs : List Value) (k off : Nat) (cs : Array Value), off + k + vs.length ≤ cs.size →
    ((vs.zipIdx k).foldl (fun (c : Array Value) (p : Value × Nat) => c.setIfInBounds (off + p.2) p.1) cs).toList = splice cs.toList (off + k) vs
  | [], k, off, cs, _ => by simp [splice]
  | v :: r, k, off, cs, h => by
    simp only [List.zipIdx_cons, List.foldl_cons]
    simp only [List.length_cons] at h
    rw [foldl_splice r (k + 1) off _ (by simp; omega)]
    have := list_seg_step cs.toList (off + k) v r (by simp; omega)
    simp only [splice, Array.toList_setIfInBounds, List.length_cons]
    rw [show off + (k + 1) = off + k + 1 by omega]
    simpa [List.append_assoc] using this
theorem fill_step {place : Nat → Option (Nat × Nat)} {cells : Array Value} {i off size : Nat} {v : Value} {rest : List (Nat × Value)} (hp : place i = some (off, size)) (hs : v.cells.size = size) (hb : off + size ≤ cells.size) :
    Instr.fill place cells ((i, v) :: rest) = Instr.fill place (splice cells.toList off v.cells.toList).toArray rest := by
  subst hs
  rw [Instr.fill]
  simp only [hp]
  have e : ¬ (off + v.cells.size > cells.size) := by omega
  simp only [e, decide_false, ne_eq, not_true_eq_false, Bool.or_self, Bool.false_eq_true, if_false]
  congr 1
  have := foldl_splice v.cells.toList 0 off cells (by simp; omega)
  rw [Nat.add_zero] at this
  rw [← this, ← Array.toList_zipIdx, Array.foldl_toList]
theorem over_eq : ∀ (ls : List L) (l : Nat) (q : List L), l + q.length ≤ ls.length → over ls l q = splice ls l q
  | ls, 0, [], _ => by cases ls <;> simp [over, splice]
  | [], 0, _ :: _, h => by simp at h
  | x :: r, 0, y :: q, h => by
    simp only [over, List.length_cons] at h ⊢
    rw [over_eq r 0 q (by omega)]
    simp [splice]
  | [], l + 1, q, h => by simp at h
  | x :: r, l + 1, q, h => by
    simp only [over, List.length_cons] at h ⊢
    rw [over_eq r l q (by omega)]
    simp [splice, Nat.add_right_comm]

section
variable {E : Env} {F : Nat → Prop} {w : World}
theorem sizes_splice {ls q : List L} {l : Nat} (h : l + q.length ≤ ls.length) (hz : sizes q = sizes ((ls.drop l).take q.length)) : sizes (splice ls l q) = sizes ls := by
  have e : ls = ls.take l ++ ((ls.drop l).take q.length ++ ls.drop (l + q.length)) := by
    rw [← List.drop_drop, List.take_append_drop, List.take_append_drop]
  conv => rhs; rw [e]
  simp [splice, sizes_append, hz]
theorem RepLs_splice {ls q : List L} {cs d : List Value} {l : Nat} (h : RepLs E F w ls cs) (hq : RepLs E F w q d) (hl : l + q.length ≤ ls.length) (hz : sizes q = sizes ((ls.drop l).take q.length)) :
    RepLs E F w (splice ls l q) (splice cs (((sizes ls).take l).sum) d) ∧ (((sizes ls).take l).sum) + d.length ≤ cs.length := by
  have e : ls = ls.take l ++ ((ls.drop l).take q.length ++ ls.drop (l + q.length)) := by
    rw [← List.drop_drop, List.take_append_drop, List.take_append_drop]
  have hh := h
  rw [e] at hh
  obtain ⟨c1, c', rfl, h1, h2⟩ := hh.split
  obtain ⟨c2, c3, rfl, h3, h4⟩ := h2.split
  have l1 : c1.length = ((sizes ls).take l).sum := by rw [sizes_sum h1, sizes_take]
  have l2 : c2.length = d.length := by rw [sizes_sum h3, sizes_sum hq, hz]
  refine ⟨?_, by simp; omega⟩
  unfold splice
  rw [← l1, List.take_left', ← l2, ← List.length_append, ← List.append_assoc c1 c2 c3, List.drop_left']
  · exact h1.append (hq.append h4)
  · rfl
  · rfl
/-- Values of which something is known: their cells. -/
theorem cls_ok {x : V} {v : Value} {ls : List L} (h : RepV E F w x v) (hc : x.cls = some ls) : RepLs E F w ls v.cells.toList := by
  cases x with
  | one l =>
    have : ls = [l] ∧ RepW E F w (.one l) v ∧ ∀ n, l ≠ .any n := by
      cases l <;> simp only [V.cls, Option.some.injEq, reduceCtorEq] at hc <;> exact ⟨hc.symm, h, by simp⟩
    obtain ⟨rfl, h, hn⟩ := this
    have h := of_one hn h
    have hv : v.cells = #[v] := by
      have := h.1
      cases v <;> simp [cellOk] at this <;> rfl
    rw [hv]
    exact All.one.2 h.2
  | agg q =>
    simp only [V.cls, Option.some.injEq] at hc; subst hc
    obtain ⟨cs, rfl, h⟩ := h
    exact h
  | tup vs => simp [V.cls] at hc
end

/-! A new block -/
def boxEI (b : Nat) (ls : List L) : EI := { blk := b, base := 0, len := 0, cap := 0, esz := 0, nil := false, loff := fun i => ((sizes ls).take i).sum, eoff := fun _ => 0 }
def arrEI (b n c : Nat) (t : Ty) : EI := { blk := b, base := 0, len := n, cap := c, esz := t.sz, nil := false, loff := fun _ => 0, eoff := lOff t }
/-- Nothing but one block more. -/
structure NewW (w w' : World) (o : Go.Obj) : Prop where
  os : w'.os = w.os
  tape : w'.tape = w.tape
  output : w'.output = w.output
  heap : w'.heap = w.heap.push o
theorem NewW.alloc (w : World) (o : Go.Obj) : NewW w (w.alloc o) o := ⟨rfl, rfl, rfl, rfl⟩
theorem NewW.drew (w : World) (o : Go.Obj) : NewW w (w.drew.alloc o) o := ⟨rfl, rfl, rfl, rfl⟩
theorem NewW.last {w w' : World} {o : Go.Obj} (h : NewW w w' o) : w'.heap[w.heap.size]? = some o := by rw [h.heap]; simp
theorem NewW.old {w w' : World} {o : Go.Obj} (h : NewW w w' o) {b : Nat} (hb : b < w.heap.size) : w'.heap[b]? = w.heap[b]? := by
  rw [h.heap, Array.getElem?_push_lt hb, Array.getElem?_eq_getElem hb]
theorem NewW.size {w w' : World} {o : Go.Obj} (h : NewW w w' o) : w'.heap.size = w.heap.size + 1 := by rw [h.heap]; simp
theorem NewW.at_ {w w' : World} {cs : Array Value} {t : TypeId} {fr : Nat × Nat} (h : NewW w w' (.cells cs t fr)) {c d : List Value} (e : cs.toList = c ++ d) : At w' w.heap.size 0 c := by
  intro j u hj
  have hlt := (List.getElem?_eq_some_iff.1 hj).1
  rw [Nat.zero_add]
  simp only [World.cell?, h.last]
  simp only [Option.isSome_none, Bool.false_eq_true, if_false]
  rw [← Array.getElem?_toList, e, List.getElem?_append_left hlt]
  exact hj

section
variable {P : Program} {ok : Nat → List DV → List DV → Prop} {cx : Cx} {hi : Hi} {o : Oper} {C : Frm} {A : Nat → Prop} {E : Env} {F : Nat → Prop} {s : St} {a : Act} {w w' : World} {wr : Wr} {K : Act → World → Prop} {Q : Exit → Act → World → Prop}
theorem apply_ob (k : Nat) (o : Obj) (s : St) : apply [(.ob k, .o o)] s = { s with ob := putO s.ob k o } := rfl
theorem new_rel {key : Nat} {obj : Obj} {e : EI} {x : V} {v : Value} {ho : Go.Obj} (hrun : (execOp a.eval o).run P w = .ok (.value v) w') (hw : NewW w w' ho)
    (h : Ev ok (fin hi o.dst [(.ob key, .o obj)] x) s wr) (hm : Mem C A E F s.ob w) (ht : Tms E F s.tm a w) (hA : ∀ k, key ≤ k → k < key + stride → ¬ A k)
    (hblk : e.blk = w.heap.size) (hrp : ∀ hx : Ext E F w (E.set key e) F w', RepO (E.set key e) F w' e obj) (hv : ∀ hx : Ext E F w (E.set key e) F w', RepV (E.set key e) F w' x v)
    (hK : ∀ a' w', Rel C (fun k => A k ∨ (key ≤ k ∧ k < key + stride)) (apply wr s) a' w' → K a' w') : o.wp P a w K Q := by
  unfold Oper.wp
  rw [hrun]
  have hk : ¬ E.al key := fun h => hA key (Nat.le_refl _) (by simp [stride]) (hm.al _ h)
  obtain ⟨m, hx⟩ := hm.new (w' := w') hk (e := e) (o := obj) hw.os hw.tape hw.output hw.size (fun b hb => hw.old hb) (fun _ => hblk) hrp
  refine hK _ _ (rel_fin h (E' := E.set key e) (F' := F) ?_ ?_ (hv hx))
  · rw [apply_ob]
    exact m.mono fun k hk => hk.imp id fun e => by subst e; exact ⟨Nat.le_refl _, by simp [stride]⟩
  · rw [apply_ob]; exact ht.ext hx
theorem steps_box (b : Nat) (ls : List L) : Steps (boxEI b ls).loff 0 (sizes ls) := by
  intro d hd
  simp [boxEI]
/-- A variable made: its cells. -/
theorem box_rel {key : Nat} {ls : List L} {cs : Array Value} {ty : TypeId} {lay : List Nat} (hl : lay = sizes ls) (hrun : (execOp a.eval o).run P w = .ok (.value (.pointer (some ⟨w.heap.size, 0, none⟩))) (w.alloc (.cells cs ty)))
    (h : Ev ok (fin hi o.dst [(.ob key, .o (.box ls))] (.one (.ptr key 0 lay))) s wr) (hm : Mem C A E F s.ob w) (ht : Tms E F s.tm a w) (hA : ∀ k, key ≤ k → k < key + stride → ¬ A k)
    (hr : RepLs E F w ls cs.toList)
    (hK : ∀ a' w', Rel C (fun k => A k ∨ (key ≤ k ∧ k < key + stride)) (apply wr s) a' w' → K a' w') : o.wp P a w K Q := by
  subst hl
  have hw := NewW.alloc w (.cells cs ty)
  refine new_rel (e := boxEI w.heap.size ls) hrun hw h hm ht hA rfl (fun hx => ?_) (fun hx => ?_) hK
  · refine ⟨cs.toList, ty, ⟨cs, (0, 0), hw.last, by simp [boxEI], fun o ho => by unfold World.frozen?; have := hw.last; simp only [boxEI]; rw [this]; simp⟩, hr.ext hx, fun hf => ?_, fun i _ => by simp [boxEI]⟩
    have := hm.fb _ hf
    simp [boxEI] at this
  · refine ⟨trivial, .inr rfl, ?_, ?_⟩
    · rw [Env.set_self]; simp [boxEI]
    · rw [Env.set_self]; exact steps_box _ _
theorem op_alloc (hti : TIok P cx) {t : TypeId} (ho : o.op = .alloc t) : OpP P ok cx hi o := by
  intro C hC rg ix key A s a w wr K Q h hr hA hK
  simp only [opSem, ho] at h
  obtain ⟨E, F, hm, ht⟩ := hr
  obtain ⟨i, hi', h⟩ := Cx.t_ev h
  have hT := hti t i hi'
  obtain ⟨f, z, f1, f2, f3, f4, f5⟩ := hT.inf
  refine box_rel hT.lay ?_ h hm ht hA (zkD_rep _ _ f4) hK (cs := z.cells) (ty := t)
  simp [execOp, ho, Instr.alloc, zeroValue, typeInfo, f1, f3, newVar, newRow]
theorem op_box (hti : TIok P cx) {t : TypeId} {x : Operand} (ho : o.op = .box t x) : OpP P ok cx hi o := by
  intro C hC rg ix key A s a w wr K Q h hr hA hK
  simp only [opSem, ho] at h
  obtain ⟨E, F, hm, ht⟩ := hr
  obtain ⟨i, hi', h⟩ := Cx.t_ev h
  obtain ⟨X, h1, h2⟩ := ev_ok h ht
  split at h2
  · rename_i vl hvl
    split at h2
    · rename_i hz
      have hz := natsEq_spec hz
      refine box_rel hz.symm ?_ h2 hm ht hA (cls_ok h1 hvl) hK (cs := (a.eval x).cells) (ty := t)
      simp [execOp, ho, Instr.box, newVar, newRow]
    · exact h2.fail.elim
  · exact h2.fail.elim

/-! Data out of leaves -/
section
variable {α : Type} {r : α}
/-- The blocks of these keys may be kept too. -/
def hasBlk (e : EI) : Obj → Prop
  | .dead => False
  | .box _ => True
  | .arr _ _ _ => e.nil = false
  | .raw _ => True
def plus (ob : List (Nat × Obj)) (E : Env) (F : Nat → Prop) (ks : List Nat) (b : Nat) : Prop := F b ∨ ∃ k ∈ ks, hasBlk (E.e k) (lookO ob k) ∧ (E.e k).blk = b
theorem plus_mono {ob : List (Nat × Obj)} {ks ks' : List Nat} (h : ∀ k ∈ ks, k ∈ ks') : ∀ b, plus ob E F ks b → plus ob E F ks' b := fun b hb => hb.imp id fun ⟨k, h1, h2⟩ => ⟨k, h k h1, h2⟩
theorem RepD.mono {F' : Nat → Prop} (h : ∀ b, F b → F' b) {t : Ty} {v : Den t} {cs : List Value} (hr : RepD F w t v cs) : RepD F' w t v cs := RepD.ext h (fun _ _ _ _ h => h) hr
/-- A slice's elements: where they lie. -/
def RepS (F G : Nat → Prop) (w : World) (t : Ty) (xs : List (Den t)) (cs : List Value) : Prop := ∃ ad cap, cs = [.slice ad xs.length cap] ∧ xs.length ≤ cap ∧
  (xs = [] ∨ ∃ b o ds, ad = some ⟨b, o, none⟩ ∧ G b ∧ All (fun x c => RepD F w t x c) xs ds ∧ At w b o ds)
theorem RepS.data {G : Nat → Prop} {t : Ty} {xs : List (Den t)} {cs : List Value} (h : RepS F G w t xs cs) (hF : ∀ b, F b → G b) : RepD G w (.sl t) xs cs := by
  obtain ⟨ad, cap, h1, h2, h3⟩ := h
  rw [RepD]
  exact ⟨ad, cap, h1, h2, h3.imp id fun ⟨b, o, ds, k1, k2, k3, k4⟩ => ⟨b, o, ds, k1, k2, k3.imp fun x c hc => hc.mono hF, k4⟩⟩
theorem RepS.of {G : Nat → Prop} {t : Ty} {xs : List (Den t)} {cs : List Value} (h : RepD F w (.sl t) xs cs) (hF : ∀ b, F b → G b) : RepS F G w t xs cs := by
  rw [RepD] at h
  obtain ⟨ad, cap, h1, h2, h3⟩ := h
  exact ⟨ad, cap, h1, h2, h3.imp id fun ⟨b, o, ds, k1, k2, k3, k4⟩ => ⟨b, o, ds, k1, hF b k2, k3, k4⟩⟩
/-- A cut of a slice's places, as a datum. -/
theorem win_data {e : EI} {off n : Nat} {t : Ty} {xs : List (Den t)} {ds : List Value} {cs : List Value} {F' : Nat → Prop} (hb : e.nil = false → F' e.blk) (hw : Win e off n cs) (hlen : xs.length = e.len) (hcap : e.len ≤ e.cap) (hsz : e.esz = t.sz)
    (h : All (fun x c => RepD F w t x c) xs ds) (ha : At w e.blk e.base ds) : RepS F F' w t ((xs.drop off).take n) cs := by
  obtain ⟨h1, a, rfl, h3⟩ := hw
  have hl : List.length ((xs.drop off).take n) = n := by simp; omega
  refine ⟨a, e.cap - off, by rw [hl], by rw [hl]; omega, ?_⟩
  by_cases hz : n = 0
  · left; subst hz; simp
  · right
    obtain ⟨g1, g2⟩ := h3 (by omega)
    obtain ⟨c, d, e', rfl, k1, k2⟩ := All_sub (m := n) (fun x c => RepD_len) h (show off ≤ xs.length by omega)
    refine ⟨_, _, d, g2, hb g1, k2, ?_⟩
    have := (ha.append.2).append.1
    rw [k1, ← hsz] at this
    exact this
theorem arr_data {k : Nat} {t : Ty} {xs : List (Den t)} {ro : Bool} {off n : Nat} {cs : List Value} {ks : List Nat} (hm : Mem C A E F s.ob w) (hobj : lookO s.ob k = .arr t xs ro) (hk : k ∈ ks) (hw : Win (E.e k) off n cs) :
    RepS F (plus s.ob E F ks) w t ((xs.drop off).take n) cs := by
  obtain ⟨q1, q2, q3, q4, ds, q5, q6⟩ := arr_at hm hobj
  exact win_data (fun hn => .inr ⟨k, hk, by rw [hobj]; exact hn, rfl⟩) hw q1 q2 q3 q5 q6
theorem slD_ok {t : Ty} {l : L} {bw : List Nat} {k : List (Den t) → List Nat → Rd α} (h : Ev ok (slD t l bw k) s r) {cs : List Value} (hm : Mem C A E F s.ob w) (hr : RepL E F w l cs) :
    ∃ xs nb, RepS F (plus s.ob E F nb) w t xs cs ∧ Ev ok (k xs (nb ++ bw)) s r := by
  unfold slD at h
  split at h
  · have e := castL_eq h; subst e; have h := castL_same h
    exact ⟨_, [], RepS.of hr (fun _ h => .inl h), h⟩
  · have e := castL_eq h; subst e; have h := castL_same h
    exact ⟨_, [], RepS.of hr.1 (fun _ h => .inl h), h⟩
  · refine ⟨_, [], ?_, h⟩
    rw [RepL] at hr; subst hr
    exact ⟨none, 0, rfl, by simp, .inl rfl⟩
  · rename_i n
    have h := h.get
    simp only [look] at h
    split at h
    · rename_i a' xs ro hobj
      simp only [Cn.o.injEq] at hobj
      have e := castL_eq h; subst e; have h := castL_same h
      refine ⟨_, [n], ?_, h⟩
      have := arr_data (ks := [n]) hm hobj (by simp) hr.2
      rw [← (arr_at hm hobj).1] at this
      simpa using this
    · exact h.fail.elim
  · rename_i n off
    have h := h.get
    simp only [look] at h
    split at h
    · rename_i a' xs ro hobj
      simp only [Cn.o.injEq] at hobj
      have e := castL_eq h; subst e; have h := castL_same h
      refine ⟨_, [n], ?_, h⟩
      have := arr_data (ks := [n]) hm hobj (by simp) hr.2.2
      rw [← (arr_at hm hobj).1, List.take_of_length_le (by simp)] at this
      exact this
    · exact h.fail.elim
  · rename_i n off len
    have h := h.get
    simp only [look] at h
    split at h
    · rename_i a' xs ro hobj
      simp only [Cn.o.injEq] at hobj
      have e := castL_eq h; subst e; have h := castL_same h
      exact ⟨_, [n], arr_data (ks := [n]) hm hobj (by simp) hr.2, h⟩
    · exact h.fail.elim
  · rename_i n l m off len
    have h := h.get
    split at h
    · rename_i m' a' v hobj
      obtain ⟨bl, hb, hx⟩ := lf_ok hobj
      split at h
      · rename_i hmb
        simp only [Bool.and_eq_true, Nat.beq_eq] at hmb
        obtain ⟨rfl, hsc⟩ := hmb
        have e := castL_eq h; subst e; have h := castL_same h
        refine ⟨_, [n], ?_, h⟩
        obtain ⟨c, k1, k2⟩ := leaf_at hm hb hx
        rw [RepL, RepD] at k1
        obtain ⟨g1, g2⟩ := k1
        obtain ⟨p1, p2, ad, cap, rfl, p4, p5⟩ := hr
        have hl : List.length ((List.drop off v).take len) = len := by simp; omega
        refine ⟨ad, cap, by rw [hl], by rw [hl]; exact p4, ?_⟩
        by_cases hz : len = 0
        · left; subst hz; simp
        · right
          obtain ⟨c', d, e', rfl, q1, q2⟩ := All_sub (m := len) (fun x c => RepD_len) g2 (show off ≤ List.length v by omega)
          refine ⟨_, _, d, p5 (by omega), .inr ⟨n, by simp, by rw [hb]; trivial, rfl⟩, q2, ?_⟩
          have := (k2.append.2).append.1
          rw [q1, scalar_sz hsc, Nat.mul_one] at this
          exact this
      · exact h.fail.elim
    · exact h.fail.elim
  · exact h.fail.elim
end
end
end Go.Proofs.Zs
/- Data out of leaves; conversions; values built; slices made. -/
set_option linter.unusedVariables false
set_option linter.unusedSimpArgs false
namespace Go.Proofs.Zs
open Go

section
variable {P : Program} {ok : Nat → List DV → List DV → Prop} {cx : Cx} {hi : Hi} {o : Oper} {C : Frm} {A : Nat → Prop} {E : Env} {F : Nat → Prop} {s : St} {w : World} {α : Type} {r : α}
theorem pk_ok (hm : Mem C A E F s.ob w) : ∀ {t : Ty} {ls : List L} {bw : List Nat} {k : Den t → List L → List Nat → Rd α}, Ev ok (pk t ls bw k) s r → ∀ {cs : List Value}, RepLs E F w ls cs →
    ∃ v q nb c d, cs = c ++ d ∧ RepD (plus s.ob E F nb) w t v c ∧ RepLs E F w q d ∧ Ev ok (k v q (nb ++ bw)) s r ∧ sizes ls = sizes (unpk t (zeroD t)) ++ sizes q := by
  intro t
  induction t with
  | unit => intro ls bw k h cs hr; rw [pk] at h; exact ⟨(), ls, [], [], cs, rfl, by rw [RepD], hr, h, rfl⟩
  | pair a b iha ihb =>
    intro ls bw k h cs hr
    rw [pk] at h
    obtain ⟨x, q, nb, c, d, rfl, h1, h2, h3, hz1⟩ := iha h hr
    obtain ⟨y, q', nb', c', d', rfl, h4, h5, h6, hz2⟩ := ihb h3 h2
    refine ⟨(x, y), q', nb' ++ nb, c ++ c', d', by simp, ?_, h5, by rw [List.append_assoc]; exact h6, by simp only [unpk, zeroD, sizes_append, hz1, hz2, List.append_assoc]⟩
    rw [RepD]
    exact ⟨c, c', rfl, h1.mono (plus_mono (by simp +contextual)), h4.mono (plus_mono (by simp +contextual))⟩
  | sl a =>
    intro ls bw k h cs hr
    cases ls with
    | nil => exact Ev.fail h |>.elim
    | cons l q =>
    have h : Ev ok (slD a l bw fun xs bw => k xs q bw) s r := h
    obtain ⟨c, d, rfl, h1, h2⟩ := hr
    obtain ⟨xs, nb, h3, h4⟩ := slD_ok h hm h1
    refine ⟨xs, q, nb, c, d, rfl, h3.data (fun _ h => .inl h), h2, h4, ?_⟩
    obtain ⟨ad, cap, rfl, _⟩ := h3
    have := RepL_len h1
    simp only [List.length_singleton] at this
    show l.size :: sizes q = 1 :: sizes q
    rw [← this]
  | int i =>
    intro ls bw k h cs hr
    unfold pk at h
    split at h <;> try (first | contradiction | exact h.fail.elim)
    rename_i e; cases e
    have e := cast_eq' h; subst e; have h := cast_same h
    obtain ⟨c, d, rfl, h1, h2⟩ := hr
    exact ⟨_, _, [], c, d, rfl, RepD.mono (fun _ h => .inl h) h1, h2, h, rfl⟩
  | nl =>
    intro ls bw k h cs hr
    unfold pk at h
    split at h <;> try (first | contradiction | exact h.fail.elim)
    · have e := cast_eq' h; subst e; have h := cast_same h
      obtain ⟨c, d, rfl, h1, h2⟩ := hr
      exact ⟨_, _, [], c, d, rfl, RepD.mono (fun _ h => .inl h) h1, h2, h, rfl⟩
    · obtain ⟨c, d, rfl, h1, h2⟩ := hr
      exact ⟨_, _, [], c, d, rfl, by rw [RepL] at h1; rw [RepD]; exact h1, h2, h, rfl⟩
  | bool =>
    intro ls bw k h cs hr
    unfold pk at h
    split at h <;> try (first | contradiction | exact h.fail.elim)
    have e := cast_eq' h; subst e; have h := cast_same h
    obtain ⟨c, d, rfl, h1, h2⟩ := hr
    exact ⟨_, _, [], c, d, rfl, RepD.mono (fun _ h => .inl h) h1, h2, h, rfl⟩
  | str =>
    intro ls bw k h cs hr
    unfold pk at h
    split at h <;> try (first | contradiction | exact h.fail.elim)
    have e := cast_eq' h; subst e; have h := cast_same h
    obtain ⟨c, d, rfl, h1, h2⟩ := hr
    exact ⟨_, _, [], c, d, rfl, RepD.mono (fun _ h => .inl h) h1, h2, h, rfl⟩
  | ar n a ih =>
    intro ls bw k h cs hr
    cases ls with
    | nil => exact Ev.fail h |>.elim
    | cons l q =>
    cases l with
    | dat t v =>
    have h : Ev ok (cast? t (.ar n a) v fun x => k x q bw) s r := h
    have e := cast_eq' h; subst e; have h := cast_same h
    obtain ⟨c, d, rfl, h1, h2⟩ := hr
    exact ⟨_, _, [], c, d, rfl, RepD.mono (fun _ h => .inl h) h1, h2, h, rfl⟩
    | _ => exact Ev.fail h |>.elim
theorem RepD.plus_nil {t : Ty} {v : Den t} {c : List Value} (h : RepD (plus s.ob E F []) w t v c) : RepD F w t v c := h.mono fun b hb => hb.elim id fun ⟨k, hk, _⟩ => by simp at hk

/-! Conversions -/
theorem RepD_bytes : ∀ {xs : List Int} {ds : List Value}, All (fun x c => RepD F w (.int .u8) x c) xs ds → ds = xs.map (Value.int .u8)
  | [], _, h => h
  | x :: r, _, ⟨c, d, rfl, h1, h2⟩ => by
    have h1 : c = [Value.int .u8 x] := by unfold RepD at h1; exact h1
    subst h1
    rw [RepD_bytes h2]; rfl
theorem foldl_push : ∀ (l : List Int) (r : ByteArray), l.foldl (fun r n => r.push (UInt8.ofNat n.toNat)) r = ⟨r.data ++ (l.map fun n => UInt8.ofNat n.toNat).toArray⟩
  | [], r => by simp
  | b :: l, r => by
    simp only [List.foldl_cons, List.map_cons]
    rw [foldl_push l]
    simp [ByteArray.push]
theorem run_bytes_str {xs : List Int} {v : Value} {src dst e : TypeId} (hs : P.underlying src = some (.slice e)) (he : P.underlying e = some (.int .u8)) (hd : P.underlying dst = some .string) {F' : Nat → Prop}
    (h : RepD F' w (.sl (.int .u8)) xs [v]) : (convert src dst v).run P w = .ok (.string (strOf xs)) w := by
  rw [RepD] at h
  obtain ⟨ad, cap, h1, h2, h3⟩ := h
  simp only [List.cons.injEq, and_true] at h1
  subst h1
  rw [run_convert_bytes_string w src dst e ad _ cap hs he hd]
  have nil : (xs : List Int) = [] → (Conv.bytesToString (.slice none 0 cap)).run P w = .ok (.string (strOf xs)) w := by
    rintro rfl
    simp [Conv.bytesToString, strOf]
    rfl
  rcases h3 with rfl | ⟨b, oo, ds, rfl, h4, h5, h6⟩
  · cases ad with
    | none => exact nil rfl
    | some ad =>
      have hl := run_loadCells_list (P := P) w ad [] (by simp)
      rw [List.length_nil] at hl
      have := run_bytesToString (P := P) w ad 0 cap [] (by simpa using hl)
      exact this
  · have h5 := RepD_bytes h5
    subst h5
    have hl := run_loadCells_list (P := P) w ⟨b, oo, none⟩ (List.map (Value.int .u8) xs) (fun j u hj => by rw [add_lit]; exact h6 j u hj)
    rw [List.length_map] at hl
    rw [run_bytesToString w ⟨b, oo, none⟩ _ cap xs (by simpa using hl), foldl_push]
    simp [strOf]
theorem bytes_cells (s : ByteArray) : All (fun x c => RepD F w (.int .u8) x c) (bytesOf s) ((bytesOf s).map (Value.int .u8)) := by
  induction bytesOf s with
  | nil => rfl
  | cons x r ih => exact ⟨[_], _, rfl, by unfold RepD; rfl, ih⟩
theorem op_convert (hti : TIok P cx) {t u : TypeId} {x : Operand} (ho : o.op = .convert t u x) : OpP P ok cx hi o := by
  intro C hC rg ix key A s a w wr K Q h hr hA hK
  simp only [opSem, ho] at h
  obtain ⟨E, F, hm, ht⟩ := hr
  obtain ⟨i, hi', h⟩ := Cx.t_ev h
  have hT := hti t i hi'
  obtain ⟨j, hj', h⟩ := Cx.t_ev h
  have hU := hti u j hj'
  obtain ⟨X, h1, h2⟩ := ev_ok h ht
  obtain ⟨dt, hdt, _⟩ := hT.und
  have run : ∀ v, (convert t u (a.eval x)).run P w = .ok v w → (execOp a.eval o).run P w = .ok (.value v) w := by
    intro v hv
    simp only [execOp, ho, Sem.run_bind, hv]
    rfl
  have run' : ∀ {v w'}, (convert t u (a.eval x)).run P w = .ok v w' → (execOp a.eval o).run P w = .ok (.value v) w' := by
    intro v w' hv
    simp only [execOp, ho, Sem.run_bind, hv]
    rfl
  unfold convS at h2
  split at h2
  · rename_i k k' n htd
    have hx := of_int h1
    refine pure_rel (run _ ?_) h2 hm ht (rep_int _ _) hK
    rw [hx]
    simp [convert, run_underlying hdt, run_underlying (hU.int htd), Conv.intToInt]
  · rename_i sv htd
    have hx := of_str h1
    refine pure_rel (run _ ?_) h2 hm ht (rep_str _) hK
    rw [hx]
    simp [convert, run_underlying hdt, run_underlying (hU.str htd)]
  · rename_i k' n htd
    have hx := of_int h1
    refine pure_rel (run _ ?_) h2 hm ht (rep_str _) hK
    rw [hx]
    simp [convert, run_underlying hdt, run_underlying (hU.str htd), Conv.intToString]
  · rename_i l _ _ htd
    split at h2
    · rename_i hts hety
      obtain ⟨e, hu, _⟩ := hT.slice hts
      have he := hT.by8 e hu hety
      obtain ⟨xs, nb, h3, h4⟩ := slD_ok h2 hm (cs := [a.eval x]) (by cases l <;> first | exact Ev.fail h2 |>.elim | exact h1.2)
      exact pure_rel (run _ (run_bytes_str hu he (hU.str htd) (h3.data (fun _ h => .inl h)))) h4 hm ht (rep_str _) hK
    · exact h2.fail.elim
  · rename_i sv htd
    have hx := of_str h1
    split at h2
    · rename_i hts hety
      obtain ⟨e, hu, f, z, f1, f2, f3, f4, f5⟩ := hU.slice htd
      have he := hU.by8 e hu hety
      rcases h2.ite with ⟨hb, h2⟩ | ⟨_, h2⟩
      · have hc : sv.size ≤ grownCap w sv.size 0 e := grownCap_ge w sv.size 0 e
        have hlen : (bytesOf sv).length = sv.size := by simp [bytesOf]
        have hw := NewW.drew w (.cells (bytesRow sv (grownCap w sv.size 0 e)) e ((bytesRow sv (grownCap w sv.size 0 e)).size, (bytesRow sv (grownCap w sv.size 0 e)).size + 1))
        refine new_rel (e := arrEI w.heap.size sv.size (grownCap w sv.size 0 e) (.int .u8)) (v := .slice (some ⟨w.heap.size, 0, none⟩) sv.size (grownCap w sv.size 0 e)) (run' ?_) hw h2 hm ht hA rfl (fun hx' => ?_) (fun hx' => ?_) hK
        · rw [hx]; exact run_bytes_of_string w t u e sv (hT.str hts) hu he
        · refine ⟨hlen, hc, rfl, fun _ => rfl, fun h => by simp [arrEI] at h, fun _ => ⟨_, _, _, (bytesOf sv).map (Value.int .u8), hw.last, ?_, bytes_cells sv, ?_, fun _ => ⟨fun hf => ?_, ?_⟩, fun h => by simp at h⟩⟩
          · have e1 : sv.data.size = sv.size := rfl
            simp only [arrEI, bytesRow, Ty.sz, Array.size_append, Array.size_map, Array.size_replicate, e1]
            omega
          · exact hw.at_ (d := List.replicate (grownCap w sv.size 0 e - sv.size) (.int .u8 0)) (by simp [bytesRow, bytesOf])
          · have := hm.fb _ hf; simp [arrEI] at this
          · intro oo ho
            simp only [World.frozen?, arrEI, hw.last]
            simp only [Bool.and_eq_false_iff, decide_eq_false_iff_not]
            left; omega
        · refine rep_slice ⟨.inr rfl, ?_⟩
          rw [Env.set_self]
          exact ⟨by simp [arrEI], _, rfl, fun _ => ⟨rfl, by simp [arrEI]⟩⟩
      · exact h2.fail.elim
    · exact h2.fail.elim
  · exact h2.fail.elim
end
end Go.Proofs.Zs
/- Values built of parts; slices built and made. -/
set_option linter.unusedVariables false
set_option linter.unusedSimpArgs false
namespace Go.Proofs.Zs
open Go

section
variable {P : Program} {ok : Nat → List DV → List DV → Prop} {cx : Cx} {hi : Hi} {o : Oper} {C : Frm} {A : Nat → Prop} {E : Env} {F : Nat → Prop} {s : St} {a : Act} {w : World} {α : Type} {r : α} {wr : Wr}
abbrev PartsOk (E : Env) (F : Nat → Prop) (w : World) : List (Nat × V) → List (Nat × Value) → Prop := All2 fun (p : Nat × V) (q : Nat × Value) => p.1 = q.1 ∧ RepV E F w p.2 q.2
theorem places_ok : ∀ {fs : List Field} {fl : List (Nat × List Nat)} {lay : List Nat}, fsOk P fs fl lay = true →
    ∃ places, fs.mapM (fun f => (P.info? f.type).map fun i => (f.offset, i.size)) = some places ∧ ∀ (j d : Nat) (z : List Nat), fl[j]? = some (d, z) → places[j]? = some ((lay.take d).sum, z.sum) ∧ d + z.length ≤ lay.length
  | [], [], _, _ => ⟨[], rfl, fun j d z h => by simp at h⟩
  | [], _ :: _, _, h => by simp [fsOk] at h
  | _ :: _, [], _, h => by simp [fsOk] at h
  | x :: r, p :: q, lay, h => by
    simp only [fsOk, Bool.and_eq_true, Nat.beq_eq, Nat.ble_eq] at h
    obtain ⟨⟨⟨⟨h1, h2⟩, h3⟩, h4⟩, h5⟩ := h
    obtain ⟨places, g1, g2⟩ := places_ok h5
    cases hi : P.info? x.type with
    | none => rw [hi] at h2; simp at h2
    | some y =>
      rw [hi] at h2
      simp only [Bool.and_eq_true, Nat.beq_eq] at h2
      refine ⟨(x.offset, y.size) :: places, by simp [List.mapM_cons, hi, g1], fun j d z hj => ?_⟩
      cases j with
      | zero => simp at hj; subst hj; exact ⟨by simp [h1, h2.1], h4⟩
      | succ j => simp at hj; simpa using g2 j d z hj
theorem parts_ok {i : TI} {place : Nat → Option (Nat × Nat)} (hpl : ∀ (j d : Nat) (z : List Nat), i.fl[j]? = some (d, z) → place j = some ((i.lay.take d).sum, z.sum) ∧ d + z.length ≤ i.lay.length) :
    ∀ {ps : List (Nat × V)} {qs : List (Nat × Value)} {ls ls' : List L} {cells : Array Value}, parts i ps ls = some ls' → PartsOk E F w ps qs → RepLs E F w ls cells.toList → sizes ls = i.lay →
    ∃ cells', Instr.fill place cells qs = some cells' ∧ RepLs E F w ls' cells'.toList
  | [], [], ls, ls', cells, h, _, hr, _ => by simp only [parts, Option.some.injEq] at h; subst h; exact ⟨cells, rfl, hr⟩
  | [], _ :: _, _, _, _, _, h, _, _ => h.elim
  | _ :: _, [], _, _, _, _, h, _, _ => h.elim
  | p :: r, (j, v) :: q, ls, ls', cells, h, ⟨⟨hj, hv⟩, hq⟩, hr, hz => by
    simp only [parts] at h
    split at h
    · rename_i l lay vl hl hc
      split at h
      · rename_i h1 h2
        have h1 := natsEq_spec h1
        have h2 := natsEq_spec h2
        rw [nthO_eq] at hl
        obtain ⟨g1, g2⟩ := hpl _ _ _ hl
        have hvr := cls_ok hv hc
        have hlen : vl.length = lay.length := by rw [← h1, sizes_len]
        have hll : ls.length = i.lay.length := by rw [← hz, sizes_len]
        have hb : l + vl.length ≤ ls.length := by omega
        rw [takeN_eq, dropN_eq] at h2
        have hsz : sizes vl = sizes ((ls.drop l).take vl.length) := by rw [h1, h2]
        obtain ⟨k1, k2⟩ := RepLs_splice hr hvr hb hsz
        rw [over_eq _ _ _ hb] at h
        simp only at hj
        rw [hj] at g1
        have hvs : v.cells.size = lay.sum := by
          have := sizes_sum hvr
          rw [h1] at this; simpa using this
        rw [hz] at k1 k2
        rw [fill_step g1 hvs (by simp at k2; omega)]
        exact parts_ok hpl h hq (by simpa using k1) (by rw [sizes_splice hb hsz, hz])
      · simp at h
    · simp at h
theorem elems_ok {t : Ty} (hm : Mem C A E F s.ob w) : ∀ {ps : List (Nat × V)} {qs : List (Nat × Value)} {xs : List (Den t)} {k : List (Den t) → Rd Wr} {cells : Array Value} {wr : Wr}, Ev ok (elems t ps xs k) s wr → PartsOk E F w ps qs → All (fun x c => RepD F w t x c) xs cells.toList →
    ∃ xs' cells', Instr.fill (fun i => some (i * t.sz, t.sz)) cells qs = some cells' ∧ cells'.size = cells.size ∧ xs'.length = xs.length ∧ All (fun x c => RepD F w t x c) xs' cells'.toList ∧ Ev ok (k xs') s wr
  | [], [], xs, k, cells, wr, h, _, hr => ⟨xs, cells, rfl, rfl, rfl, hr, h⟩
  | [], _ :: _, _, _, _, _, _, h, _ => h.elim
  | _ :: _, [], _, _, _, _, _, h, _ => h.elim
  | p :: r, (j, v) :: q, xs, k, cells, wr, h, ⟨⟨hj, hv⟩, hq⟩, hr => by
    simp only [elems] at h
    split at h
    · rename_i vl hc
      obtain ⟨y, q', nb, c, d, e, h1, h2, h3, hsz0⟩ := pk_ok hm h (cls_ok hv hc)
      split at h3
      · rename_i hnb hlt
        have hnb : nb = [] := by simpa using hnb
        subst hnb
        have hd : d = [] := h2
        subst hd
        rw [List.append_nil] at e
        have h1 := h1.plus_nil
        simp only at hj
        subst hj
        have hlt : p.1 < xs.length := by have : p.1 + 1 ≤ xs.length := by simpa [Nat.blt] using hlt
                                         omega
        obtain ⟨c1, d1, e1, k1, k2, k3, k4⟩ := hr.set (fun x c => RepD_len) hlt h1
        have hcl : c.length = t.sz := RepD_len h1
        have hvs : v.cells.size = t.sz := by rw [← hcl, ← e]; simp
        have hsp : splice cells.toList (p.1 * t.sz) v.cells.toList = c1 ++ (c ++ e1) := by
          rw [k1, e, splice, ← k2, List.take_left', List.append_cancel_left_eq, List.append_cancel_left_eq, hcl, ← k3, ← List.append_assoc, ← List.length_append, List.drop_left']
          · rfl
          · rfl
        have hsize : p.1 * t.sz + t.sz ≤ cells.size := by
          have := congrArg List.length k1
          simp only [List.length_append, Array.length_toList] at this
          omega
        rw [fill_step rfl hvs hsize, hsp]
        rw [setN_eq] at h3
        obtain ⟨xs', cells', g1, g2, g3, g4, g5⟩ := elems_ok hm h3 hq (cells := (c1 ++ (c ++ e1)).toArray) (by simpa using k4)
        refine ⟨xs', cells', g1, ?_, by simpa using g3, g4, g5⟩
        have := congrArg List.length k1
        simp only [List.length_append, Array.length_toList] at this
        rw [g2]; simp; omega
      · exact h3.fail.elim
    · exact h.fail.elim
/-- A slice of one's own that may not turn any more. -/
theorem Mem.frz {ob : List (Nat × Obj)} (h : Mem C A E F ob w) {k : Nat} {t : Ty} {xs : List (Den t)} {ro : Bool} (ho : lookO ob k = .arr t xs ro) :
    Mem C A E (fun b => F b ∨ ((E.e k).nil = false ∧ b = (E.e k).blk)) (putO ob k (.arr t xs true)) w ∧ Ext E F w E (fun b => F b ∨ ((E.e k).nil = false ∧ b = (E.e k).blk)) w := by
  have hx : Ext E F w E (fun b => F b ∨ ((E.e k).nil = false ∧ b = (E.e k).blk)) w := ⟨fun _ h => h, fun _ _ => rfl, fun _ h => .inl h, fun _ _ _ _ h => h⟩
  have hrp := h.rp k
  rw [ho] at hrp
  obtain ⟨q1, q2, q3, q4, q5, q6⟩ := hrp
  have old : (E.e k).nil = false → F (E.e k).blk ∨ excl (E.e k) (lookO ob k) := fun hn => by
    cases ro with
    | true =>
      obtain ⟨cs, u, fr, ds, k1, k2, k3, k4, k5, k6⟩ := q6 hn
      exact .inl (k6 rfl)
    | false => exact .inr (by rw [ho]; exact hn)
  have ne : ∀ n, n ≠ k → excl (E.e n) (lookO ob n) → ¬ (F (E.e n).blk ∨ ((E.e k).nil = false ∧ (E.e n).blk = (E.e k).blk)) := by
    rintro n hne hn (hF | ⟨hk, hb⟩)
    · exact excl_notF h hn hF
    · rcases old hk with g | g
      · exact excl_notF h hn (hb ▸ g)
      · exact hne (h.inj n k hn g hb)
  have lk : ∀ n, lookO (putO ob k (.arr t xs true)) n = if k = n then .arr t xs true else lookO ob n := fun n => lookO_putO ob k _ n
  refine ⟨⟨?_, ?_, ?_, h.al, ?_, fun b hb => .inl (h.f0 b hb), h.kp, ?_, ?_, h.sz, h.os, h.tape, h.output, h.eo⟩, hx⟩
  · intro n hn
    rw [lk] at hn
    by_cases e : k = n
    · subst e; exact h.lv k (by rw [ho]; trivial)
    · rw [if_neg e] at hn; exact h.lv n hn
  · intro n
    rw [lk]
    by_cases e : k = n
    · subst e
      rw [if_pos rfl]
      refine ⟨q1, q2, q3, q4, q5, fun hn => ?_⟩
      obtain ⟨cs, u, fr, ds, k1, k2, k3, k4, _⟩ := q6 hn
      exact ⟨cs, u, fr, ds, k1, k2, k3.imp fun x c hc => hc.mono fun _ h => .inl h, k4, fun h => (by cases h), fun _ => .inr ⟨hn, rfl⟩⟩
    · rw [if_neg e]
      exact (h.rp n).ext hx (fun _ _ => rfl) (ne n (Ne.symm e))
  · intro n m hn hm hb
    rw [lk] at hn hm
    by_cases e : k = n
    · rw [if_pos e] at hn; exact hn.elim
    · by_cases e' : k = m
      · rw [if_pos e'] at hm; exact hm.elim
      · rw [if_neg e] at hn; rw [if_neg e'] at hm
        exact h.inj n m hn hm hb
  · rintro b (hb | ⟨hn, rfl⟩)
    · exact h.fb b hb
    · exact h.blk_lt (by rw [ho]; trivial) (.inl hn)
  · rintro b (hb | ⟨hn, rfl⟩)
    · exact h.uf b hb
    · rcases old hn with g | g
      · exact h.uf _ g
      · exact .inr (h.uo k g)
  · intro n hn
    rw [lk] at hn
    by_cases e : k = n
    · rw [if_pos e] at hn; exact hn.elim
    · rw [if_neg e] at hn; exact h.uo n hn
def Frz (s : St) (wf : Wr) : Prop := ∀ p ∈ wf, ∃ n t xs ro, p = (.ob n, .o (.arr t xs true)) ∧ lookO s.ob n = .arr t xs ro
theorem freeze_ev {r : Wr} : ∀ {bw : List Nat} {wr : Wr} {k : Wr → Rd Wr}, Ev ok (freeze bw wr k) s r → ∃ wf, Ev ok (k (wf ++ wr)) s r ∧ Frz s wf ∧ ∀ n ∈ bw, ∃ t xs, ((.ob n, .o (.arr t xs true)) : Loc × Cn) ∈ wf
  | [], wr, k, h => ⟨[], h, (fun p hp => by cases hp), by simp⟩
  | n :: q, wr, k, h => by
    simp only [freeze] at h
    have h := h.get
    simp only [look] at h
    split at h
    · rename_i t xs ro hobj
      simp only [Cn.o.injEq] at hobj
      obtain ⟨wf, h1, h2, h3⟩ := freeze_ev h
      refine ⟨wf ++ [(.ob n, .o (.arr t xs true))], by rw [List.append_assoc]; exact h1, fun p hp => ?_, fun m hm => ?_⟩
      · rcases List.mem_append.1 hp with hp | hp
        · exact h2 p hp
        · rw [List.mem_singleton] at hp
          exact ⟨n, t, xs, ro, hp, hobj⟩
      · rcases List.mem_cons.1 hm with rfl | hm
        · exact ⟨t, xs, by simp⟩
        · obtain ⟨t', xs', g⟩ := h3 m hm
          exact ⟨t', xs', by simp [g]⟩
    · exact h.fail.elim
theorem frz_mem : ∀ {wf : Wr} {s : St} {F : Nat → Prop}, Frz s wf → Mem C A E F s.ob w →
    ∃ F', Mem C A E F' (apply wf s).ob w ∧ (apply wf s).tm = s.tm ∧ Ext E F w E F' w ∧ ∀ n t xs, ((.ob n, .o (.arr t xs true)) : Loc × Cn) ∈ wf → (E.e n).nil = false → F' (E.e n).blk
  | [], s, F, _, hm => ⟨F, hm, rfl, Ext.refl _ _ _, by intro n t xs h; cases h⟩
  | p :: r, s, F, hf, hm => by
    obtain ⟨n, t, xs, ro, rfl, ho⟩ := hf p (by simp)
    obtain ⟨m1, x1⟩ := hm.frz ho
    have hf' : Frz { s with ob := putO s.ob n (.arr t xs true) } r := fun q hq => by
      obtain ⟨n', t', xs', ro', rfl, ho'⟩ := hf q (by simp [hq])
      by_cases e : n = n'
      · subst e
        rw [ho] at ho'
        simp only [Obj.arr.injEq] at ho'
        obtain ⟨rfl, h2, _⟩ := ho'
        have h2 := eq_of_heq h2
        subst h2
        exact ⟨n, t, xs, true, rfl, by show lookO (putO s.ob n _) n = _; rw [lookO_putO, if_pos rfl]⟩
      · exact ⟨n', t', xs', ro', rfl, by show lookO (putO s.ob n _) n' = _; rw [lookO_putO, if_neg e]; exact ho'⟩
    obtain ⟨F', g1, g2, g3, g4⟩ := frz_mem hf' m1
    refine ⟨F', g1, g2, x1.trans g3, fun n' t' xs' hq hn => ?_⟩
    rcases List.mem_cons.1 hq with hq | hq
    · simp only [Prod.mk.injEq, Loc.ob.injEq] at hq
      rw [hq.1] at hn ⊢
      exact g3.fz _ (.inr ⟨hn, rfl⟩)
    · exact g4 n' t' xs' hq hn
theorem elemF_ok {t : Ty} (hm : Mem C A E F s.ob w) : ∀ {ps : List (Nat × V)} {qs : List (Nat × Value)} {xs : List (Den t)} {bw : List Nat} {k : List (Den t) → List Nat → Rd Wr} {cells : Array Value} {wr : Wr}, Ev ok (elemF t ps xs bw k) s wr → PartsOk E F w ps qs → All (fun x c => RepD (plus s.ob E F bw) w t x c) xs cells.toList →
    ∃ xs' cells' bw', Instr.fill (fun i => some (i * t.sz, t.sz)) cells qs = some cells' ∧ cells'.size = cells.size ∧ xs'.length = xs.length ∧ All (fun x c => RepD (plus s.ob E F bw') w t x c) xs' cells'.toList ∧ Ev ok (k xs' bw') s wr
  | [], [], xs, bw, k, cells, wr, h, _, hr => ⟨xs, cells, bw, rfl, rfl, rfl, hr, h⟩
  | [], _ :: _, _, _, _, _, _, _, h, _ => h.elim
  | _ :: _, [], _, _, _, _, _, _, h, _ => h.elim
  | p :: r, (j, v) :: q, xs, bw, k, cells, wr, h, ⟨⟨hj, hv⟩, hq⟩, hr => by
    simp only [elemF] at h
    split at h
    · rename_i vl hc
      obtain ⟨y, q', nb, c, d, e, h1, h2, h3, hsz0⟩ := pk_ok hm h (cls_ok hv hc)
      split at h3
      · rename_i hlt
        have hd : d = [] := h2
        subst hd
        rw [List.append_nil] at e
        have h1 : RepD (plus s.ob E F (nb ++ bw)) w t y c := h1.mono (plus_mono (by simp +contextual))
        have hr : All (fun x c => RepD (plus s.ob E F (nb ++ bw)) w t x c) xs cells.toList := hr.imp fun _ _ hc => hc.mono (plus_mono (by simp +contextual))
        simp only at hj
        subst hj
        have hlt : p.1 < xs.length := by have : p.1 + 1 ≤ xs.length := by simpa [Nat.blt] using hlt
                                         omega
        obtain ⟨c1, d1, e1, k1, k2, k3, k4⟩ := hr.set (fun x c => RepD_len) hlt h1
        have hcl : c.length = t.sz := RepD_len h1
        have hvs : v.cells.size = t.sz := by rw [← hcl, ← e]; simp
        have hsp : splice cells.toList (p.1 * t.sz) v.cells.toList = c1 ++ (c ++ e1) := by
          rw [k1, e, splice, ← k2, List.take_left', List.append_cancel_left_eq, List.append_cancel_left_eq, hcl, ← k3, ← List.append_assoc, ← List.length_append, List.drop_left']
          · rfl
          · rfl
        have hsize : p.1 * t.sz + t.sz ≤ cells.size := by
          have := congrArg List.length k1
          simp only [List.length_append, Array.length_toList] at this
          omega
        rw [fill_step rfl hvs hsize, hsp]
        rw [setN_eq] at h3
        obtain ⟨xs', cells', bw', g1, g2, g3, g4, g5⟩ := elemF_ok hm h3 hq (cells := (c1 ++ (c ++ e1)).toArray) (by simpa using k4)
        refine ⟨xs', cells', bw', g1, ?_, by simpa using g3, g4, g5⟩
        have := congrArg List.length k1
        simp only [List.length_append, Array.length_toList] at this
        rw [g2]; simp; omega
      · exact h3.fail.elim
    · exact h.fail.elim
theorem fin_app {dst : Option Nat} {a b : Wr} {x : V} {s' : St} (h : Ev ok (fin hi dst (a ++ b) x) s wr) : ∃ wr', wr = a ++ wr' ∧ Ev ok (fin hi dst b x) s' wr' := by
  unfold fin at h ⊢
  split at h
  · exact ⟨b, h.ret, ⟨[], .ret _ _⟩⟩
  · split at h
    · rename_i hmem
      rcases h.ite with ⟨hb, h1⟩ | ⟨hb, h1⟩ <;> subst hb
      · have e := h1.ret; exact ⟨_, by rw [e, List.append_assoc], ⟨[], .thn (.ret _ _)⟩⟩
      · have e := h1.ret; exact ⟨_, by rw [e, List.append_assoc], ⟨[], .els (.ret _ _)⟩⟩
    · exact ⟨_, by rw [h.ret, List.append_assoc], ⟨[], .ret _ _⟩⟩
theorem made_all {t : Ty} {v : Den t} {z : Array Value} (h : RepD F w t v z.toList) : ∀ n, All (fun x c => RepD F w t x c) (List.replicate n v) (madeCells z (n * t.sz)).toList := by
  have hz : z.size = t.sz := by rw [← RepD_len h]; simp
  have hone : (List.range z.size).map (fun i => z[i % z.size]!) = z.toList := by
    apply List.ext_getElem
    · simp
    · intro i h1 h2
      simp at h1 h2
      simp [Nat.mod_eq_of_lt h1, h1]
  intro n
  induction n with
  | zero => simp [madeCells, All]
  | succ n ih =>
    refine ⟨z.toList, (madeCells z (n * t.sz)).toList, ?_, h, ih⟩
    rw [← hz]
    simp only [madeCells, Array.toList_map, Array.toList_range, Nat.succ_mul, Nat.add_comm (n * z.size), List.range_add, List.map_append, List.map_map, hone]
    congr 2
    funext i
    simp
theorem op_build (hti : TIok P cx) {t : TypeId} {ps : Array (Nat × Operand)} (ho : o.op = .build t ps) : OpP P ok cx hi o := by
  intro C hC rg ix key A s a w wr K Q h hr hA hK
  simp only [opSem, ho] at h
  obtain ⟨E, F, hm, ht⟩ := hr
  obtain ⟨i, hi', h⟩ := Cx.t_ev h
  have hT := hti t i hi'
  obtain ⟨xs, h1, h2⟩ := evParts_ok h ht
  obtain ⟨f, z, f1, f2, f3, f4, f5⟩ := hT.inf
  have run : ∀ cells, P.built t (ps.toList.map fun p => (p.1, a.eval p.2)) = some cells → (execOp a.eval o).run P w = .ok (.value (.agg cells)) w := by
    intro cells hc
    simp only [execOp, ho, Sem.run_bind]
    rw [run_build w t _ cells (by simpa using hc)]
    rfl
  split at h2
  · rename_i htd
    obtain ⟨fs, hu, hfs⟩ := hT.struct htd
    split at h2
    · rename_i ls hls
      obtain ⟨places, g1, g2⟩ := places_ok hfs
      obtain ⟨cells, k1, k2⟩ := parts_ok (place := fun j => places.toArray[j]?) (fun j d z hj => by simpa using g2 j d z hj) hls h1 (zkD_rep _ _ f4) hT.lay.symm
      refine pure_rel (run cells ?_) h2 hm ht ⟨cells, rfl, k2⟩ hK
      simp only [Program.built, f1, hu, f3, g1]
      exact k1
    · exact h2.fail.elim
  · rename_i htd
    obtain ⟨e, hu, ⟨fe, ze, e1, e2, e3, e4, e5⟩, hsc, hzk⟩ := hT.array htd
    have hz := zkD_rep (E := E) (F := F) (w := w) _ _ f4
    rw [hzk] at hz
    have hz := All.one.1 (show RepLs E F w [L.dat (.ar i.n i.ety) (zeroD (.ar i.n i.ety))] _ from hz)
    rw [RepL, RepD] at hz
    rw [repl_eq] at h2
    obtain ⟨xs', cells, k1, k2, k3, k4, k5⟩ := elems_ok hm h2 h1 hz.2
    refine pure_rel (run cells ?_) k5 hm ht ⟨cells, rfl, All.one.2 ?_⟩ hK
    · simp only [Program.built, f1, hu, f3, e1, e2, k1]
    · rw [RepL, RepD]; exact ⟨by rw [k3]; simp, k4⟩
  · exact h2.fail.elim
/-- A slice made: its cells. -/
theorem arr_rel {key : Nat} {t : Ty} {xs : List (Den t)} {n c : Nat} {cs : Array Value} {ds : List Value} {d : List Value} {ty : TypeId} {w' : World} {K : Act → World → Prop} {Q : Exit → Act → World → Prop} (hw : NewW w w' (.cells cs ty))
    (hrun : (execOp a.eval o).run P w = .ok (.value (.slice (some ⟨w.heap.size, 0, none⟩) n c)) w')
    (h : Ev ok (fin hi o.dst [(.ob key, .o (.arr t xs false))] (.one (.own key))) s wr) (hm : Mem C A E F s.ob w) (ht : Tms E F s.tm a w) (hA : ∀ k, key ≤ k → k < key + stride → ¬ A k)
    (hn : xs.length = n) (hc : n ≤ c) (hcs : c * t.sz ≤ cs.size) (hr : All (fun x c => RepD F w t x c) xs ds) (he : cs.toList = ds ++ d)
    (hK : ∀ a' w', Rel C (fun k => A k ∨ (key ≤ k ∧ k < key + stride)) (apply wr s) a' w' → K a' w') : o.wp P a w K Q := by
  refine new_rel (e := arrEI w.heap.size n c t) hrun hw h hm ht hA rfl (fun hx => ?_) (fun hx => ?_) hK
  · refine ⟨hn, hc, rfl, fun _ => rfl, fun h => by simp [arrEI] at h, fun _ => ⟨_, _, _, ds, hw.last, by simp [arrEI]; exact hcs, hr.imp fun x c hc => RepD.ext hx.fz hx.wd hc, hw.at_ he, fun _ => ⟨fun hf => ?_, ?_⟩, fun h => by simp at h⟩⟩
    · have := hm.fb _ hf; simp [arrEI] at this
    · intro oo ho
      simp only [World.frozen?, arrEI, hw.last]
      simp
  · refine rep_slice ⟨.inr rfl, ?_⟩
    rw [Env.set_self]
    exact ⟨by simp [arrEI], _, rfl, fun _ => ⟨rfl, by simp [arrEI]⟩⟩
theorem op_buildSlice (hti : TIok P cx) {t : TypeId} {n : Nat} {ps : Array (Nat × Operand)} (ho : o.op = .buildSlice t n ps) : OpP P ok cx hi o := by
  intro C hC rg ix key A s a w wr K Q h hr hA hK
  simp only [opSem, ho] at h
  obtain ⟨E, F, hm, ht⟩ := hr
  obtain ⟨i, hi', h⟩ := Cx.t_ev h
  have hT := hti t i hi'
  obtain ⟨xs, h1, h2⟩ := evParts_ok h ht
  split at h2
  · rename_i htd
    obtain ⟨e, hu, ⟨f, z, f1, f2, f3, f4, f5⟩⟩ := hT.slice htd
    split at h2
    · rename_i hsm
      simp only [Nat.ble_eq] at hsm
      rw [repl_eq] at h2
      obtain ⟨zc, hz1, hz2⟩ := zD_rep (F := F) (w := w) _ _ _ f5
      rw [List.append_nil] at hz1
      rw [← hz1] at hz2
      obtain ⟨xs', cells, bw', k1, k2, k3, k4, k5⟩ := elemF_ok (bw := []) hm h2 h1 ((made_all hz2 n).imp fun _ _ hc => hc.mono fun _ h => .inl h)
      rw [List.length_replicate] at k3
      rw [size_madeCells] at k2
      obtain ⟨wf, k6, k7, k8⟩ := freeze_ev k5
      obtain ⟨F', m1, t1, x1, f9⟩ := frz_mem k7 hm
      rw [List.append_nil] at k6
      obtain ⟨wr', ew, k9⟩ := fin_app (s' := apply wf s) k6
      subst ew
      have k4 : All (fun x c => RepD F' w i.ety x c) xs' cells.toList := k4.imp fun _ _ hc => hc.mono fun b hb => by
        rcases hb with hb | ⟨m, hm1, hm2, rfl⟩
        · exact x1.fz b hb
        · obtain ⟨t', xs2, g⟩ := k8 m hm1
          obtain ⟨n', t2, xs3, ro, e2, ho⟩ := k7 _ g
          simp only [Prod.mk.injEq, Loc.ob.injEq] at e2
          obtain ⟨rfl, _⟩ := e2
          rw [ho] at hm2
          exact f9 m t' xs2 g hm2
      rw [apply_append] at hK
      refine arr_rel (s := apply wf s) (NewW.alloc w (.cells cells e)) (d := []) (ds := cells.toList) ?_ k9 m1 (by rw [t1]; exact ht.ext x1) hA k3 (Nat.le_refl _) (by omega) k4 (by simp) hK
      have hzs : n * i.ety.sz = 0 → madeCells #[] (n * i.ety.sz) = madeCells z.cells (n * i.ety.sz) := fun h0 => by rw [h0]; simp [madeCells]
      have hb : ¬ (16777216 < n * i.ety.sz) := by omega
      simp only [execOp, ho, Sem.run_bind]
      by_cases h0 : n * i.ety.sz = 0
      · have hk := k1
        rw [← hzs h0] at hk
        simp only [madeCells] at hk
        simp [Instr.buildSlice, run_underlying hu, sizeOf, typeInfo, f1, f2, hb, h0, newRow] at hk ⊢
        simp [hk]
      · simp only [madeCells] at k1
        simp [Instr.buildSlice, run_underlying hu, sizeOf, typeInfo, zeroValue, f1, f2, f4, hb, h0, newRow, k1]
    · exact h2.fail.elim
  · exact h2.fail.elim
theorem make_ok {t e : TypeId} {f : TypeInfo} {z : Value} {T : Ty} {eby : Nat} (hu : P.underlying t = some (.slice e)) (f1 : P.info? e = some f) (f4 : f.zero = some z) (f2 : f.size = T.sz) (f3 : f.bytes = eby) (hz : RepD F w T (zeroD T) z.cells.toList)
    {n c : Int} (hb : decide (0 ≤ n ∧ n ≤ c ∧ c * (eby : Int) ≤ (reach : Int) ∧ c ≤ (reach : Int)) = true) :
    ∃ cs : Array Value, n.toNat ≤ c.toNat ∧ c.toNat * T.sz ≤ cs.size ∧ All (fun x c => RepD F w T x c) (List.replicate n.toNat (zeroD T)) (madeCells z.cells (n.toNat * T.sz)).toList ∧
      cs.toList = (madeCells z.cells (n.toNat * T.sz)).toList ++ cs.toList.drop (n.toNat * T.sz) ∧ (Instr.makeSlice t (.int .i64 n) (.int .i64 c)).run P w = .ok (.slice (some ⟨w.heap.size, 0, none⟩) n.toNat c.toNat) (w.alloc (.cells cs e)) := by
  obtain ⟨h0, h1, h2, h3⟩ := of_decide_eq_true hb
  unfold reach at h2 h3
  refine ⟨madeCells z.cells (c.toNat * f.size), by omega, by rw [size_madeCells, f2]; exact Nat.le_refl _, made_all hz _, ?_, run_make w t e f z hu f1 f4 .i64 .i64 n c h0 h1 (by rw [f3, Int.mul_comm]; omega) (by omega)⟩
  rw [f2]
  obtain ⟨d, hd⟩ : ∃ d, c.toNat * T.sz = n.toNat * T.sz + d := Nat.exists_eq_add_of_le (Nat.mul_le_mul_right _ (by omega))
  rw [hd]
  have hl : (madeCells z.cells (n.toNat * T.sz)).toList.length = n.toNat * T.sz := by simp [size_madeCells]
  have hp : (madeCells z.cells (n.toNat * T.sz + d)).toList = (madeCells z.cells (n.toNat * T.sz)).toList ++ ((List.range d).map (n.toNat * T.sz + ·)).map (fun i => z.cells[i % z.cells.size]!) := by
    simp only [madeCells, Array.toList_map, Array.toList_range, List.range_add, List.map_append]
  rw [hp, List.drop_left' hl]
theorem op_makeSlice (hti : TIok P cx) {t : TypeId} {x y : Operand} (ho : o.op = .makeSlice t x y) : OpP P ok cx hi o := by
  intro C hC rg ix key A s a w wr K Q h hr hA hK
  simp only [opSem, ho] at h
  obtain ⟨E, F, hm, ht⟩ := hr
  obtain ⟨i, hi', h⟩ := Cx.t_ev h
  have hT := hti t i hi'
  obtain ⟨X, h1, h2⟩ := ev_ok h ht
  split at h2
  · rename_i n
    have hn := of_int h1
    obtain ⟨Y, h3, h4⟩ := ev_ok h2 ht
    split at h4
    · rename_i c
      have hc := of_int h3
      split at h4
      · rename_i htd
        obtain ⟨e, hu, ⟨f, z, f1, f2, f3, f4, f5⟩⟩ := hT.slice htd
        obtain ⟨zc, hz1, hz2⟩ := zD_rep (F := F) (w := w) _ _ _ f5
        rw [List.append_nil] at hz1
        rw [← hz1] at hz2
        rcases h4.ite with ⟨hb, h4⟩ | ⟨_, h4⟩
        · obtain ⟨cs, b1, b2, b3, b4, b5⟩ := make_ok (P := P) (w := w) hu f1 f4 f2 f3 hz2 hb
          refine arr_rel (NewW.alloc w (.cells cs e)) ?_ h4 hm ht hA (List.length_replicate ..) b1 b2 b3 b4 hK
          simp only [execOp, ho, Sem.run_bind, hn, hc, b5]
          rfl
        · exact h4.fail.elim
      · exact h4.fail.elim
    · exact h4.fail.elim
  · exact h2.fail.elim
end
end Go.Proofs.Zs
