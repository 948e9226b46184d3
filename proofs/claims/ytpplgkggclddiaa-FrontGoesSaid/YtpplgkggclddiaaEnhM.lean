/- A loop over a slice of structs, an element at a time told as a box: the loop. -/
import Derived.Test.YtpplgkggclddiaaEnhL
set_option linter.unusedVariables false
set_option linter.unusedSimpArgs false
namespace Go.Proofs.Zz
open Go

/-! How long payloads are -/
def LK.plen : LK → Nat
  | .d _ | .o _ | .r _ => 1
  | .oh _ _ _ => 2
  | _ => 0
def plenL : List LK → Nat
  | [] => 0
  | k :: r => k.plen + plenL r
def AK.plen : AK → Nat
  | .no => 0
  | .one k => k.plen
  | .agg ks => plenL ks
def plenA : List AK → Nat
  | [] => 0
  | a :: r => a.plen + plenA r
def plenB : List (List LK) → Nat
  | [] => 0
  | ks :: r => plenL ks + plenB r
section
variable {β : Nat → EI} {F : Nat → Prop} {w : World}
theorem RepK.plen {k : LK} {p : List DV} {es : List EI} {cs : List Value} (h : RepK β F w k p es cs) : p.length = k.plen := by cases h <;> rfl
theorem RepKs.plen {ks : List LK} {p : List DV} {es : List EI} {cs : List Value} (h : RepKs β F w ks p es cs) : p.length = plenL ks := by
  induction h with
  | nil => rfl
  | cons a _ ih => rw [List.length_append, a.plen, ih]; rfl
theorem RepA.plen {a : AK} {p : List DV} {es : List EI} {v : Value} (h : RepA β F w a p es v) : p.length = a.plen := by
  cases h with
  | no v => rfl
  | any n v => rfl
  | one _ _ h => exact RepK.plen h
  | agg h => exact RepKs.plen h
theorem RepAs.plen {as : List AK} {p : List DV} {es : List EI} {vs : List Value} (h : RepAs β F w as p es vs) : p.length = plenA as := by
  induction h with
  | nil vs => rfl
  | cons a _ ih => rw [List.length_append, a.plen, ih]; rfl
theorem RepBs.plen {kss : List (List LK)} {j : Nat} {p : List DV} {es : List EI} (h : RepBs β F w kss j p es) : p.length = plenB kss := by
  induction h with
  | nil j => rfl
  | cons a b c d _ ih => rw [List.length_append, RepKs.plen b, ih]; rfl
theorem RepK.lt {k : LK} {p : List DV} {es : List EI} {cs : List Value} (h : RepK β F w k p es cs) : ∀ e ∈ es, e.nil = false → e.blk < w.heap.size := by
  cases h with
  | o h1 h2 =>
    intro e he hn
    simp only [List.mem_singleton] at he; subst he
    obtain ⟨_, _, _, _, _, h6⟩ := h2
    obtain ⟨cs, u, fr, ds, k1, _⟩ := h6 hn
    exact (Array.getElem?_eq_some_iff.1 k1).1
  | _ => intro e he; simp at he
theorem RepKs.lt {ks : List LK} {p : List DV} {es : List EI} {cs : List Value} (h : RepKs β F w ks p es cs) : ∀ e ∈ es, e.nil = false → e.blk < w.heap.size := by
  induction h with
  | nil => intro e he; simp at he
  | cons a _ ih =>
    intro e he hn
    rcases List.mem_append.1 he with he | he
    · exact a.lt e he hn
    · exact ih e he hn
/-- A slice of one's own, as a datum. -/
theorem own_data {e : EI} {t : Ty} {xs : List (Den t)} {cs : List Value} {F2 : Nat → Prop} (hw : Win e 0 e.len cs) (ha : RepArrO F w e t xs) (hF : ∀ b, F b → F2 b) (he : e.nil = false → F2 e.blk) : RepD F2 w (.sl t) xs cs := by
  obtain ⟨h1, a, rfl, h3⟩ := hw
  obtain ⟨q1, q2, q3, q4, q5, q6⟩ := ha
  rw [RepD]
  refine ⟨a, e.cap - 0, by rw [q1], by rw [q1]; omega, ?_⟩
  by_cases hz : e.cap - 0 = 0
  · left; exact List.length_eq_zero_iff.1 (by omega)
  · obtain ⟨g1, g2⟩ := h3 hz
    obtain ⟨cs, u, fr, ds, k1, k2, k3, k4, k5⟩ := q6 g1
    exact .inr ⟨e.blk, e.base, ds, by simpa using g2, he g1, k3.imp fun x c hc => hc.mono hF, k4⟩
theorem At_split {b o : Nat} {cs : Array Value} {u : TypeId} {fr : Nat × Nat} {ds : List Value} (h : w.heap[b]? = some (.cells cs u fr)) (ha : At w b o ds) (hl : o + ds.length ≤ cs.size) :
    cs.toList = cs.toList.take o ++ (ds ++ cs.toList.drop (o + ds.length)) := by
  have e : ds = (cs.toList.drop o).take ds.length := by
    apply List.ext_getElem?
    intro j
    by_cases hj : j < ds.length
    · have := ha j ds[j] (List.getElem?_eq_getElem hj)
      unfold World.cell? at this
      simp only [h, Option.isSome_none, Bool.false_eq_true, if_false] at this
      rw [List.getElem?_eq_getElem hj, ← this, List.getElem?_take, if_pos hj, List.getElem?_drop, Array.getElem?_toList]
    · rw [List.getElem?_eq_none (by omega), List.getElem?_eq_none (by simp; omega)]
  have e3 : cs.toList.drop o = ds ++ cs.toList.drop (o + ds.length) := by
    have := (List.take_append_drop ds.length (cs.toList.drop o)).symm
    rw [← e, List.drop_drop] at this; exact this
  exact (List.take_append_drop o _).symm.trans (congrArg (cs.toList.take o ++ ·) e3)
theorem At_of {b : Nat} {cs : Array Value} {u : TypeId} {fr : Nat × Nat} {p ds q : List Value} (h : w.heap[b]? = some (.cells cs u fr)) (e : cs.toList = p ++ (ds ++ q)) : At w b p.length ds := by
  intro j v hj
  have hlt := (List.getElem?_eq_some_iff.1 hj).1
  unfold World.cell?
  simp only [h, Option.isSome_none, Bool.false_eq_true, if_false]
  rw [← Array.getElem?_toList, e, List.getElem?_append_right (by omega), Nat.add_sub_cancel_left, List.getElem?_append_left hlt]
  exact hj
end

/-- A frame, gone on with. -/
theorem Enter.comp {C : Frm} {F F1 : Nat → Prop} {w w1 : World} {nb nb1 : Nat} {β β1 β2 : Nat → EI} {es es1 es2 : List EI} {m : Nat} {O1 : Nat → Prop} {n1 : Nat} {e1 : Nat → EI} (h : Enter C F w nb β es) (hO : ∀ b, O1 b → C.O b ∨ C.w0.heap.size ≤ b)
    (h1 : Enter ⟨O1, F, w, n1, e1⟩ F1 w1 nb1 β1 es1) {F2 : Nat → Prop} (hF : ∀ b, F1 b → F2 b) (hF2 : ∀ b, F2 b → F1 b ∨ (b < w1.heap.size ∧ (C.O b ∨ C.w0.heap.size ≤ b))) (ho : ∀ b, ownB m β2 es2 b → C.O b ∨ C.w0.heap.size ≤ b)
    (hn : C.nb ≤ m) (he : ∀ k, k < C.nb → β2 k = C.e0 k) : Enter C F2 w1 m β2 es2 := by
  refine ⟨fun b hb => ?_, fun b hb => hF b (h1.f0 b (h.f0 b hb)), fun b hb ho' => ?_, fun b hb => ?_, ho, Nat.le_trans h.sz h1.sz, h1.os.trans h.os, h1.tape.trans h.tape, h1.output.trans h.output, hn, he⟩
  · rcases hF2 b hb with h2 | ⟨h2, _⟩
    · exact h1.fb b h2
    · exact h2
  · have := h1.kp b (Nat.lt_of_lt_of_le hb h.sz) (fun h2 => by
      rcases hO b h2 with h3 | h3
      · exact ho' h3
      · omega)
    exact this.trans (h.kp b hb ho')
  · rcases hF2 b hb with h2 | ⟨_, h2⟩
    · rcases h1.uf b h2 with h3 | h3 | h3
      · exact h.uf b h3
      · exact .inr (hO b h3)
      · exact .inr (.inr (Nat.le_trans h.sz h3))
    · exact .inr h2

section
variable {P : Program} {cx : Cx} {hi : Hi} {l0 : List CE} {t0 : List LE} {f : FuncId} {fn : Func} {b : Nat} {body : Code}
/-- What the loop is told of. -/
structure OL (P : Program) (cx : Cx) (hi : Hi) (l0 : List CE) (t0 : List LE) (fn : Func) (b : Nat) (body : Code) where
  bs : List (List LK)
  av : List AK
  ax : List AK
  sk : List LK
  ks : List LK
  T0 : Ty
  T1 : Ty
  sz : Nat
  LR : LS
  LX : LS
  L0 : LS
  po : Den T0 → List DV
  pc : Den T1 → List DV
  step : Int → Int → List DV → List DV → Den T0 → Option (List DV × List DV × Den T1)
  okA : asOk (bs.length + 1) av = true
  okX : asOk (bs.length + 1) ax = true
  okB : bsOk (bs.length + 1) bs = true
  okS : ksOk (bs.length + 1) sk = true
  nA : plenA av = 1
  nX : plenA ax = 0
  hR : LR.h = { av := av, bx := bs ++ [.oh (bs.length + 1) sz (szsL ks) :: sk, ks] }
  hX : LX.h = { av := av, bx := bs ++ [.oh bs.length sz (szsL ks) :: sk] }
  xR : LR.x = []
  xX : lookN LX.x 1 = some { av := ax, bx := bs ++ [.oh bs.length sz (szsL ks) :: sk] }
  h0 : L0.h = { av := av, bx := bs ++ [.o T0 :: sk] }
  x0 : lookN L0.x 1 = some { av := ax, bx := bs ++ [.o T1 :: sk] }
  z0 : T0.sz = sz
  z1 : T1.sz = sz
  zp : 0 < sz
  zo : ∀ l, lOff T0 l = lOff T1 l
  open_ : ∀ β F w v c, RepD F w T0 v c → ∃ es, RepKs β F w ks (po v) es c ∧ ∀ e ∈ es, e.nil = true
  close : ∀ β F w v es c, RepKs β F w ks (pc v) es c → ∀ F2 : Nat → Prop, (∀ b, F b → F2 b) → (∀ e ∈ es, e.nil = false → F2 e.blk) → RepD F2 w T1 v c
  round : ∀ n i X S v X' S' v', step n i X S v = some (X', S', v') → plenB bs = X.length → plenL sk = S.length →
    X'.length = plenB bs ∧ S'.length = plenL sk ∧ Zz.round cx hi (ctL l0) (ltL t0) fn.ntmps (bs.length + 2) b LR body (fun p => some (7, p)) (⟨.int .i64, i⟩ :: (X ++ ((⟨.int .i64, n⟩ :: ⟨.int .i64, i⟩ :: S) ++ po v))) =
      some (7, ⟨.int .i64, i + 1⟩ :: (X' ++ ((⟨.int .i64, n⟩ :: ⟨.int .i64, i⟩ :: S') ++ pc v')))
  exit : ∀ (n : Int) (X S : List DV) (β : Nat → EI) (F : Nat → Prop) (w : World), RepBs β F w bs 0 X [] → (∃ c, RepKs β F w sk S [] c) → Zz.round cx hi (ctL l0) (ltL []) fn.ntmps (bs.length + 1) b LX body (fun _ => none) (⟨.int .i64, n⟩ :: (X ++ (⟨.int .i64, n⟩ :: ⟨.int .i64, n⟩ :: S))) = some (1, X ++ (⟨.int .i64, n⟩ :: ⟨.int .i64, n⟩ :: S))
def OL.walk (o : OL P cx hi l0 t0 fn b body) (n : Int) : List (Den o.T0) → Int → List DV → List DV → Option (List DV × List DV × List (Den o.T1))
  | [], _, X, S => some (X, S, [])
  | v :: r, i, X, S => match o.step n i X S v with
    | none => none
    | some (X', S', v') => match o.walk n r (i + 1) X' S' with
      | none => none
      | some (X2, S2, ys) => some (X2, S2, v' :: ys)

theorem OL.walk_cons (o : OL P cx hi l0 t0 fn b body) (n : Int) (v : Den o.T0) (r : List (Den o.T0)) (i : Int) (X S : List DV) : o.walk n (v :: r) i X S = (match o.step n i X S v with
    | none => none
    | some (X', S', v') => match o.walk n r (i + 1) X' S' with
      | none => none
      | some (X2, S2, ys) => some (X2, S2, v' :: ys)) := rfl

/-- Between two rounds. -/
structure OI (o : OL P cx hi l0 t0 fn b body) (C : Frm) (β : Nat → EI) (e : EI) (F : Nat → Prop) (a : Act) (w : World) (X S : List DV) (ys : List (Den o.T1)) (rest : List (Den o.T0)) : Prop where
  tm : RepAs β F w o.av [⟨.int .i64, (ys.length : Int)⟩] [] a.tmps.toList
  bx : RepBs β F w o.bs 0 X []
  sb : ∃ t c, BoxAt w (β o.bs.length) t ((β o.bs.length).hd :: c) ∧ RepKs β F w o.sk S [] c
  sn : ¬ F (β o.bs.length).blk
  sl : ∀ i, i ≤ 1 + (szsL o.sk).length → (β o.bs.length).loff i = (β o.bs.length).pre.length + ((1 :: szsL o.sk).take i).sum
  bd : ∀ i j, i < o.bs.length + 1 → j < o.bs.length + 1 → (β i).blk = (β j).blk → i = j
  ent : Enter C F w (o.bs.length + 1) β []
  tz : a.tmps.size = fn.ntmps
  df : a.defers = []
  len : ys.length + rest.length = e.len
  esz : e.esz = o.sz
  eoff : ∀ l, e.eoff l = lOff o.T0 l
  cap : e.len ≤ e.cap
  win : Win e 0 e.len [(β o.bs.length).hd]
  nz : e.nil = true → e.cap = 0
  arr : e.nil = false → ∃ cs u fr pre d1 d2 post, w.heap[e.blk]? = some (.cells cs u fr) ∧ cs.toList = pre ++ (d1 ++ (d2 ++ post)) ∧ pre.length = e.base ∧ All (fun x c => RepD F w o.T1 x c) ys d1 ∧ All (fun x c => RepD F w o.T0 x c) rest d2 ∧
    unfr w e.blk cs.size ∧ e.base + e.cap * e.esz ≤ cs.size
  nf : e.nil = false → ¬ F e.blk
  nb : e.nil = false → ∀ j, j < o.bs.length + 1 → (β j).blk ≠ e.blk
  own : e.nil = false → C.O e.blk ∨ C.w0.heap.size ≤ e.blk
end
end Go.Proofs.Zz
