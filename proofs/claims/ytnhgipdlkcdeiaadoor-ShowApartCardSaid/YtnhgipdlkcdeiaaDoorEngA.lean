import Derived.Lib.LaidTab
import Derived.Lib.ItoaNum
import Derived.Orders
set_option linter.unusedSimpArgs false
set_option linter.unusedVariables false
/- What is laid in memory ahead of all: tables of Go's library that functions of the program read. -/
namespace Go.Proofs.Zs
open Go
def Facts (P : Program) (w : World) : Prop := Lib.TabIs P w "internal/strconv.uint64pow10" .u64 Lib.pow10Tab
/-- What is laid stands in blocks that may not turn any more. -/
def Laid (P : Program) (F : Nat → Prop) (w : World) : Prop := ∃ B : Nat → Prop, (∀ b, B b → F b) ∧ ∀ w' : World, (∀ b, B b → w'.heap[b]? = w.heap[b]?) → Facts P w'
theorem Laid.mono {P : Program} {F F' : Nat → Prop} {w w' : World} (h : Laid P F w) (hf : ∀ b, F b → F' b) (hw : ∀ b, F b → w'.heap[b]? = w.heap[b]?) : Laid P F' w' := by
  obtain ⟨B, h1, h2⟩ := h
  exact ⟨B, fun b hb => hf b (h1 b hb), fun w2 h => h2 w2 fun b hb => (h b hb).trans (hw b (h1 b hb))⟩
theorem Laid.facts {P : Program} {F : Nat → Prop} {w : World} (h : Laid P F w) : Facts P w := by
  obtain ⟨B, _, h2⟩ := h
  exact h2 w fun _ _ => rfl
theorem laid_tab {P : Program} {w : World} {n : String} {k : IntKind} {zs : List Int} (h : Lib.TabIs P w n k zs) {w' : World} (hw : ∀ b, b < w.heap.size → w'.heap[b]? = w.heap[b]?) : Lib.TabIs P w' n k zs := by
  unfold Lib.TabIs World.var? at h ⊢
  cases hg : P.globalNamed n with
  | none => rw [hg] at h; cases h
  | some g =>
    rw [hg] at h
    simp only [Option.bind_some] at h ⊢
    have hlt : g < w.heap.size := by
      rcases Nat.lt_or_ge g w.heap.size with h1 | h1
      · exact h1
      · rw [Array.getElem?_eq_none h1] at h; cases h
    rw [hw g hlt]
    exact h
theorem laid_all {P : Program} {w : World} (h : Facts P w) : Laid P (fun b => b < w.heap.size) w := ⟨_, fun _ h => h, fun _ hw => laid_tab h hw⟩
end Go.Proofs.Zs
/- The words of an abstract run of a Go function over plain data: types of plain data, leaves, objects, signatures, operations, code. Definitions only. -/
namespace Go.Proofs.Zs
open Go

/-- Types of plain data. -/
inductive Ty where
  | int (k : IntKind) | bool | str | unit | pair (a b : Ty) | ar (n : Nat) (a : Ty) | sl (a : Ty) | nl
  deriving DecidableEq

@[reducible] def Den : Ty → Type
  | .int _ => Int
  | .bool => Bool
  | .str => ByteArray
  | .unit => Unit
  | .pair a b => Den a × Den b
  | .ar _ a => List (Den a)
  | .sl a => List (Den a)
  | .nl => Unit

def zeroD : (t : Ty) → Den t
  | .int _ => (0 : Int)
  | .bool => false
  | .str => ByteArray.empty
  | .unit => ()
  | .pair a b => (zeroD a, zeroD b)
  | .ar n a => List.replicate n (zeroD a)
  | .sl _ => []
  | .nl => ()

/-- Types held against each other, quickly. -/
def kEq : IntKind → IntKind → Bool
  | .i8, .i8 => true
  | .i16, .i16 => true
  | .i32, .i32 => true
  | .i64, .i64 => true
  | .u8, .u8 => true
  | .u16, .u16 => true
  | .u32, .u32 => true
  | .u64, .u64 => true
  | _, _ => false
def tyEq : Ty → Ty → Bool
  | .int k, .int j => kEq k j
  | .bool, .bool => true
  | .str, .str => true
  | .unit, .unit => true
  | .pair a b, .pair c d => match tyEq a c with
    | true => tyEq b d
    | false => false
  | .ar n a, .ar m b => match Nat.beq n m with
    | true => tyEq a b
    | false => false
  | .sl a, .sl b => tyEq a b
  | .nl, .nl => true
  | _, _ => false
theorem kEq_spec {k j : IntKind} (h : kEq k j = true) : k = j := by cases k <;> cases j <;> first | rfl | simp [kEq] at h
theorem kEq_refl (k : IntKind) : kEq k k = true := by cases k <;> rfl
theorem tyEq_spec : ∀ {t u : Ty}, tyEq t u = true → t = u := by
  intro t
  induction t with
  | int k => intro u h; cases u <;> simp only [tyEq, Bool.false_eq_true] at h; rw [kEq_spec h]
  | pair a b iha ihb =>
    intro u h
    cases u <;> simp only [tyEq, Bool.false_eq_true] at h
    split at h
    · rename_i h1; rw [iha h1, ihb h]
    · simp at h
  | ar n a ih =>
    intro u h
    cases u <;> simp only [tyEq, Bool.false_eq_true] at h
    split at h
    · rename_i h1; rw [Nat.eq_of_beq_eq_true h1, ih h]
    · simp at h
  | sl a ih => intro u h; cases u <;> simp only [tyEq, Bool.false_eq_true] at h; rw [ih h]
  | _ => intro u h; cases u <;> first | rfl | simp [tyEq] at h
theorem tyEq_refl : ∀ t : Ty, tyEq t t = true := by
  intro t
  induction t with
  | int k => exact kEq_refl k
  | pair a b iha ihb => simp only [tyEq, iha, ihb]
  | ar n a ih => simp only [tyEq, Nat.beq_refl, ih]
  | sl a ih => simp only [tyEq, ih]
  | _ => rfl
@[simp] theorem tyEq_iff {t u : Ty} : tyEq t u = true ↔ t = u := ⟨tyEq_spec, fun h => by rw [h]; exact tyEq_refl u⟩
/-- By the equality of two types. -/
def tyc {α : Type} (t u : Ty) (k : t = u → α) (e : α) : α :=
  match h : tyEq t u with
  | true => k (tyEq_spec h)
  | false => e
theorem tyc_same {α : Type} {t : Ty} {k : t = t → α} {e : α} : tyc t t k e = k rfl := by
  unfold tyc
  split
  · rfl
  · rename_i h; rw [tyEq_refl] at h; simp at h
theorem tyc_or {α : Type} {t u : Ty} {k : t = u → α} {e : α} : (∃ h : t = u, tyc t u k e = k h) ∨ tyc t u k e = e := by
  unfold tyc
  split
  · rename_i h; exact .inl ⟨tyEq_spec h, rfl⟩
  · exact .inr rfl

/-- How many cells a value takes. -/
def Ty.sz : Ty → Nat
  | .int _ | .bool | .str | .sl _ | .nl => 1
  | .unit => 0
  | .pair a b => a.sz + b.sz
  | .ar n a => n * a.sz

/-- A place in a box: at its l-th leaf, what lies there having leaves of these sizes. -/
structure Cp where
  k : Nat
  l : Nat
  y : List Nat

structure DV where
  t : Ty
  v : Den t

/-- A leaf: what one place of a variable holds. -/
inductive L where
  | any (n : Nat)
  | dat (t : Ty) (v : Den t)
  | nn (t : Ty) (v : List (Den t))
  | nils
  | nl
  | cst (k : Nat)
  | oh (k : Nat) (n i : Int) (sz : Nat) (y : List Nat)
  | own (k : Nat)
  | suf (k off : Nat)
  | mid (k off len : Nat)
  | sla (k l m off len : Nat)
  | ptr (k l : Nat) (y : List Nat)
  | pta (k l n i : Nat)
  | pte (k i l : Nat) (y : List Nat)
  | rf (t : Ty) (v : Den t) (l : Nat)
  | nilp
  | fn (f : Nat) (caps : List Cp)
  /-- What walks through a string; a map of one's own; an interface's value that holds a struct of plain data; an error that is nil, or not. -/
  | itp (k : Nat)
  | mpp (k : Nat)
  | ifd (t : Nat) (vs : List DV)
  | ife (b : Bool)

inductive V where
  | one (l : L)
  | agg (ls : List L)
  | tup (vs : List V)

/-- What is no row of cells: a string that is walked through, from a place on; a map. -/
inductive Raw where
  | it (s : ByteArray) (p : Int)
  | mp (t : Ty) (es : List (ByteArray × Den t))

inductive Obj where
  | dead
  | box (ls : List L)
  | arr (t : Ty) (xs : List (Den t)) (ro : Bool)
  | raw (r : Raw)

inductive Loc where
  | tmp (t : Nat)
  | lf (k l : Nat)
  | ob (k : Nat)

inductive Cn where
  | v (x : V)
  | l (x : L)
  | o (x : Obj)

structure St where
  tm : List V
  ob : List (Nat × Obj)
  nx : Nat

def bad : V := .one (.any 1)

def lookO : List (Nat × Obj) → Nat → Obj
  | [], _ => .dead
  | p :: r, k => match Nat.beq p.1 k with
    | true => p.2
    | false => lookO r k

def putO : List (Nat × Obj) → Nat → Obj → List (Nat × Obj)
  | [], k, o => [(k, o)]
  | p :: r, k, o => match Nat.beq p.1 k with
    | true => (k, o) :: r
    | false => p :: putO r k o

def nthD {α : Type} (d : α) : List α → Nat → α
  | [], _ => d
  | x :: _, 0 => x
  | _ :: r, n + 1 => nthD d r n

def nthO {α : Type} : List α → Nat → Option α
  | [], _ => none
  | x :: _, 0 => some x
  | _ :: r, n + 1 => nthO r n

def setN {α : Type} : List α → Nat → α → List α
  | [], _, _ => []
  | _ :: r, 0, y => y :: r
  | x :: r, n + 1, y => x :: setN r n y

def look (s : St) : Loc → Cn
  | .tmp t => .v (nthD bad s.tm t)
  | .lf k l => match lookO s.ob k with
    | .box ls => match nthO ls l with
      | some x => .l x
      | none => .o .dead
    | o => .o o
  | .ob k => .o (lookO s.ob k)

def asg (s : St) : Loc → Cn → St
  | .tmp t, .v x => { s with tm := setN s.tm t x }
  | .lf k l, .l x => match lookO s.ob k with
    | .box ls => { s with ob := putO s.ob k (.box (setN ls l x)) }
    | _ => s
  | .ob k, .o x => { s with ob := putO s.ob k x }
  | _, _ => s

/-- What an operation asks of a state, and answers. -/
inductive Rd (α : Type) where
  | ret (a : α)
  | fail
  | get (l : Loc) (k : Cn → Rd α)
  | ite (b : Bool) (t e : Rd α)
  | call (f : Nat) (pay : List DV) (k : List DV → Rd α)

abbrev Rs := Nat × List DV
/-- What calls answer. -/
abbrev CT := Nat → List DV → (List DV → Option Rs) → Option Rs

def rdRun (ct : CT) {α : Type} : Rd α → St → List Loc → (α → List Loc → Option Rs) → Option Rs
  | .ret a, _, ls, k => k a ls
  | .fail, _, _, _ => none
  | .get l f, s, ls, k => rdRun ct (f (look s l)) s (l :: ls) k
  | .ite b t e, s, ls, k => match b with
    | true => rdRun ct t s ls k
    | false => rdRun ct e s ls k
  | .call f p g, s, ls, k => ct f p fun r => rdRun ct (g r) s ls k

def Rd.bind {α β : Type} : Rd α → (α → Rd β) → Rd β
  | .ret a, f => f a
  | .fail, _ => .fail
  | .get l k, f => .get l fun c => (k c).bind f
  | .ite b t e, f => .ite b (t.bind f) (e.bind f)
  | .call g p k, f => .call g p fun r => (k r).bind f

abbrev Wr := List (Loc × Cn)

def apply : Wr → St → St
  | [], s => s
  | p :: r, s => apply r (asg s p.1 p.2)

/-! Types of the program -/
inductive TD where
  | int (k : IntKind) | bool | str | struct | array | slice | ptr | func | map | iface | other

/-- A leaf's zero value. -/
inductive ZK where
  | d (t : Ty) | nils | nilp | any (n : Nat)

def ZK.l : ZK → L
  | .d t => .dat t (zeroD t)
  | .nils => .nils
  | .nilp => .nilp
  | .any n => .any n

structure TI where
  td : TD := .other
  /-- The leaves' sizes. -/
  lay : List Nat := []
  /-- A struct's field: at which leaf it begins, its leaves' sizes. -/
  fl : List (Nat × List Nat) := []
  /-- Is a field a struct or an array? -/
  fg : List Bool := []
  /-- An array's length; of which plain type elements are, how many bytes they take. -/
  n : Nat := 0
  ety : Ty := .unit
  eby : Nat := 0
  zk : List ZK := []
  /-- The leaves' types, if values may be held against each other. -/
  eqt : Option (List Ty) := none

def zs : List ZK → List L
  | [] => []
  | k :: r => k.l :: zs r

def TI.agg (t : TI) : Bool := match t.td with
  | .struct | .array => true
  | _ => false

/-! Signatures -/
inductive LK where
  | any (n : Nat)
  | d (t : Ty)
  | o (t : Ty)
  | r (t : Ty)
  | p (j l : Nat) (y : List Nat)
  | f (f : Nat) (caps : List Cp)
  | np
  | cst (j : Nat)
  | oh (j sz : Nat) (y : List Nat)
  /-- The header of the slice that lies, as one's own, at the l-th leaf of box j. -/
  | hd (j l : Nat)
  /-- A slice of one's own, that a call writes in place: the sole argument of a function without results. -/
  | w (t : Ty)
  /-- What walks through a string; a map of one's own; an interface's value that holds a struct of plain data; an error. -/
  | it
  | mp (t : Ty)
  | ifd (t : Nat) (ts : List Ty)
  | ife

inductive AK where
  | no
  | one (k : LK)
  | agg (ks : List LK)

structure Sg where
  av : List AK
  bx : List (List LK)

/-- What is told of each call's callee: its number in the table of calls, what goes in, what comes out. -/
structure CS where
  id : Nat
  fn : Nat
  i : Sg
  r : List AK
  one : Bool
  ob : List (List LK)

structure LS where
  /-- At the head. -/
  h : Sg
  /-- At each exit: the block's number and one (0: return). -/
  x : List (Nat × Sg)

/-- What is told of a function: the callees, by the operation's region and place; the loops, by the block within; which slots' truth values are parted at once. -/
structure Hi where
  cs : List ((Nat × Nat) × CS)
  ls : List (Nat × LS)
  sp : List Nat
  /-- The blocks that are told as loops are: where paths meet. -/
  js : List Nat
  /-- Boxes that a call hands over beside its arguments: which box of the callee's, which slot points to it. -/
  gx : List ((Nat × Nat) × List (Nat × Nat))

structure Cx where
  ti : Nat → Option TI

def Cx.t {α : Type} (cx : Cx) (t : Nat) (k : TI → Rd α) : Rd α :=
  match cx.ti t with
  | some i => k i
  | none => .fail

/-! Leaves and plain data -/
def unpk : (t : Ty) → Den t → List L
  | .unit, _ => []
  | .pair a b, v => unpk a v.1 ++ unpk b v.2
  | .int k, v => [.dat (.int k) v]
  | .bool, v => [.dat .bool v]
  | .str, v => [.dat .str v]
  | .ar n a, v => [.dat (.ar n a) v]
  | .sl a, v => [.dat (.sl a) v]
  | .nl, v => [.dat .nl v]

def L.size : L → Nat
  | .any n => n
  | .dat t _ => t.sz
  | _ => 1

def sizes : List L → List Nat
  | [] => []
  | l :: r => l.size :: sizes r

def natsEq : List Nat → List Nat → Bool
  | [], [] => true
  | a :: r, b :: q => match Nat.beq a b with
    | true => natsEq r q
    | false => false
  | _, _ => false

def scalar : Ty → Bool
  | .int _ | .bool => true
  | _ => false

/-- A datum of one type as one of another, which is the same. -/
def cast? {α : Type} (t u : Ty) (v : Den t) (k : Den u → Rd α) : Rd α :=
  tyc t u (fun h => k (h ▸ v)) .fail

def castL? {α : Type} (t u : Ty) (v : List (Den t)) (k : List (Den u) → Rd α) : Rd α :=
  tyc t u (fun h => k (h ▸ v)) .fail

/-- A slice's elements. -/
def slD {α : Type} (a : Ty) (l : L) (bw : List Nat) (k : List (Den a) → List Nat → Rd α) : Rd α :=
  match l with
  | .dat (.sl t) v => castL? t a v fun xs => k xs bw
  | .nn t v => castL? t a v fun xs => k xs bw
  | .nils => k [] bw
  | .own n => .get (.ob n) fun
    | .o (.arr t xs _) => castL? t a xs fun xs => k xs (n :: bw)
    | _ => .fail
  | .suf n off => .get (.ob n) fun
    | .o (.arr t xs _) => castL? t a xs fun xs => k (xs.drop off) (n :: bw)
    | _ => .fail
  | .mid n off len => .get (.ob n) fun
    | .o (.arr t xs _) => castL? t a xs fun xs => k ((xs.drop off).take len) (n :: bw)
    | _ => .fail
  | .sla n l m off len => .get (.lf n l) fun
    | .l (.dat (.ar m' t) v) => match Nat.beq m m' && scalar t with
      | true => castL? t a v fun xs => k ((xs.drop off).take len) (n :: bw)
      | false => .fail
    | _ => .fail
  | _ => .fail

/-- Leaves as a datum. -/
def pk {α : Type} : (t : Ty) → List L → List Nat → (Den t → List L → List Nat → Rd α) → Rd α
  | .unit, ls, bw, k => k () ls bw
  | .pair a b, ls, bw, k => pk a ls bw fun x r bw => pk b r bw fun y q bw => k (x, y) q bw
  | .sl a, l :: r, bw, k => slD a l bw fun xs bw => k xs r bw
  | .int i, .dat t v :: r, bw, k => cast? t (.int i) v fun x => k x r bw
  | .bool, .dat t v :: r, bw, k => cast? t .bool v fun x => k x r bw
  | .str, .dat t v :: r, bw, k => cast? t .str v fun x => k x r bw
  | .ar n a, .dat t v :: r, bw, k => cast? t (.ar n a) v fun x => k x r bw
  | .nl, .dat t v :: r, bw, k => cast? t .nl v fun x => k x r bw
  | .nl, .nils :: r, bw, k => k () r bw
  | _, _, _, _ => .fail

def V.ls : V → List L
  | .one l => [l]
  | .agg ls => ls
  | .tup _ => []

/-! Matching of a state with a signature -/
structure M where
  bx : List (Option Nat)
  pay : List DV
  /-- Slices that go over; those that are but read. -/
  tk : List Nat
  bw : List Nat

def memN (k : Nat) : List Nat → Bool
  | [] => false
  | x :: r => match Nat.beq x k with
    | true => true
    | false => memN k r

/-- Box j of the signature is object k. -/
def bindB (m : M) (j k : Nat) : Option M :=
  match nthO m.bx j with
  | some (some k') => match Nat.beq k' k with
    | true => some m
    | false => none
  | some none => some { m with bx := setN m.bx j (some k) }
  | none => none

def bindBs (m : M) : List Cp → List Cp → Option M
  | [], [] => some m
  | c :: r, c' :: q => match Nat.beq c.l c'.l && natsEq c.y c'.y with
    | true => match bindB m c.k c'.k with
      | some m => bindBs m r q
      | none => none
    | false => none
  | _, _ => none

def mtO {α : Type} (a : Ty) (l : L) (m : M) (k : M → Rd α) : Rd α :=
  let take (n : Nat) (f : List (Den a) → List (Den a)) : Rd α :=
    match memN n m.tk with
    | true => .fail
    | false => .get (.ob n) fun
      | .o (.arr t xs false) => castL? t a xs fun xs => k { m with pay := ⟨.sl a, f xs⟩ :: m.pay, tk := n :: m.tk }
      | _ => .fail
  match l with
  | .own n => take n fun xs => xs
  | .suf n off => take n fun xs => xs.drop off
  | .mid n off len => take n fun xs => (xs.drop off).take len
  | .nils => k { m with pay := ⟨.sl a, ([] : List (Den a))⟩ :: m.pay }
  | _ => .fail

def mtIt {α : Type} (n : Nat) (m : M) (k : M → Rd α) : Rd α :=
  match memN n m.tk with
  | true => .fail
  | false => .get (.ob n) fun
    | .o (.raw (.it s p)) => k { m with pay := ⟨.int .i64, p⟩ :: ⟨.str, s⟩ :: m.pay, tk := n :: m.tk }
    | _ => .fail
def mtMp {α : Type} (t : Ty) (n : Nat) (m : M) (k : M → Rd α) : Rd α :=
  match memN n m.tk with
  | true => .fail
  | false => .get (.ob n) fun
    | .o (.raw (.mp u es)) => tyc u t (fun h => k { m with pay := ⟨.sl (.pair .str t), (h ▸ es : List (ByteArray × Den t))⟩ :: m.pay, tk := n :: m.tk }) .fail
    | _ => .fail
/-- Data of these types. -/
def dtys : List DV → List Ty → Bool
  | [], [] => true
  | d :: r, t :: q => tyEq d.t t && dtys r q
  | _, _ => false
/-- n leaves of box k from the l-th on. -/
def rdLs {α : Type} (k : Nat) : Nat → Nat → (List L → Rd α) → Rd α
  | 0, _, f => f []
  | n + 1, l, f => .get (.lf k l) fun
    | .l x => rdLs k n (l + 1) fun r => f (x :: r)
    | _ => .fail

def takeN {α : Type} : Nat → List α → List α
  | 0, _ => []
  | _ + 1, [] => []
  | n + 1, x :: r => x :: takeN n r

def dropN {α : Type} : Nat → List α → List α
  | 0, l => l
  | _ + 1, [] => []
  | n + 1, _ :: r => dropN n r

/-- A pointer whose datum is but read. -/
def mtR {α : Type} (t : Ty) (l : L) (m : M) (k : M → Rd α) : Rd α :=
  let n := (sizes (unpk t (zeroD t))).length
  let out (ls : List L) (bw : List Nat) : Rd α := pk t ls bw fun v r bw => match r with
    | [] => k { m with pay := ⟨t, v⟩ :: m.pay, bw := bw }
    | _ => .fail
  match l with
  | .ptr b l _ => match Nat.beq n 0 with
    | true => .fail
    | false => rdLs b n l fun ls => out ls (b :: m.bw)
  | .pte b i l _ => .get (.ob b) fun
    | .o (.arr a xs _) => out (takeN n (dropN l (unpk a (xs.getD i (zeroD a))))) (b :: m.bw)
    | _ => .fail
  | .rf a v l => out (takeN n (dropN l (unpk a v))) m.bw
  | _ => .fail

def mtLs {α : Type} : List LK → List L → M → (M → Rd α) → Rd α
  | [], [], m, k => k m
  | .any n :: ks, l :: ls, m, k => match Nat.beq l.size n with
    | true => mtLs ks ls m k
    | false => .fail
  | .d t :: ks, ls, m, k => pk t ls m.bw fun v r bw => mtLs ks r { m with pay := ⟨t, v⟩ :: m.pay, bw := bw } k
  | .o a :: ks, l :: ls, m, k => mtO a l m fun m => mtLs ks ls m k
  | .r t :: ks, l :: ls, m, k => mtR t l m fun m => mtLs ks ls m k
  | .p j l' y' :: ks, .ptr n l y :: ls, m, k => match Nat.beq l l' && natsEq y y' with
    | true => match bindB m j n with
      | some m => mtLs ks ls m k
      | none => .fail
    | false => .fail
  | .f g cs :: ks, .fn g' cs' :: ls, m, k => match Nat.beq g g' with
    | true => match bindBs m cs cs' with
      | some m => mtLs ks ls m k
      | none => .fail
    | false => .fail
  | .np :: ks, .nilp :: ls, m, k => mtLs ks ls m k
  | .oh j sz y :: ks, .oh q n i sz' y' :: ls, m, k => match Nat.beq sz sz' && natsEq y y' with
    | true => match bindB m j q with
      | some m => mtLs ks ls { m with pay := ⟨.int .i64, i⟩ :: ⟨.int .i64, n⟩ :: m.pay } k
      | none => .fail
    | false => .fail
  | .cst j :: ks, .cst n :: ls, m, k => match bindB m j n with
    | some m => mtLs ks ls m k
    | none => .fail
  | .it :: ks, .itp n :: ls, m, k => mtIt n m fun m => mtLs ks ls m k
  | .mp t :: ks, .mpp n :: ls, m, k => mtMp t n m fun m => mtLs ks ls m k
  | .ifd t ts :: ks, .ifd t' vs :: ls, m, k => match Nat.beq t t' && dtys vs ts with
    | true => mtLs ks ls { m with pay := vs.reverse ++ m.pay } k
    | false => .fail
  | .ife :: ks, .ife b :: ls, m, k => mtLs ks ls { m with pay := ⟨.bool, b⟩ :: m.pay } k
  | _, _, _, _ => .fail

def mtAs {α : Type} : List AK → List V → M → (M → Rd α) → Rd α
  | [], _, m, k => k m
  | .no :: aks, _ :: vs, m, k => mtAs aks vs m k
  | .one (.any _) :: aks, .one _ :: vs, m, k => mtAs aks vs m k
  | .one (.hd j l) :: aks, .one (.own n) :: vs, m, k => match nthD none m.bx j with
    | some q => .get (.lf q l) fun
      | .l (.own n') => match Nat.beq n n' with
        | true => mtAs aks vs m k
        | false => .fail
      | _ => .fail
    | none => .fail
  | .one _ :: _, .one (.any _) :: _, _, _ => .fail
  | .one x :: aks, .one l :: vs, m, k => mtLs [x] [l] m fun m => mtAs aks vs m k
  | .agg xs :: aks, .agg ls :: vs, m, k => mtLs xs ls m fun m => mtAs aks vs m k
  | _, _, _, _ => .fail

def mtBx {α : Type} : List (List LK) → Nat → M → (M → Rd α) → Rd α
  | [], _, m, k => k m
  | ks :: r, j, m, k => match nthD none m.bx j with
    | some n => .get (.ob n) fun
      | .o (.box ls) => mtLs ks ls m fun m => mtBx r (j + 1) m k
      | _ => .fail
    | none => .fail

def nones : Nat → List (Option Nat)
  | 0 => []
  | n + 1 => none :: nones n

def distinct : List Nat → Bool
  | [] => true
  | x :: r => match memN x r with
    | true => false
    | false => distinct r

def disj : List Nat → List Nat → Bool
  | [], _ => true
  | x :: r, l => match memN x l with
    | true => false
    | false => disj r l

def somes : List (Option Nat) → Option (List Nat)
  | [] => some []
  | some x :: r => match somes r with
    | some q => some (x :: q)
    | none => none
  | none :: _ => none

/-- The payload (in order), the boxes' keys, what was taken, what is but read. -/
def mtSgP {α : Type} (pre : List (Option Nat)) (sg : Sg) (vs : List V) (k : List DV → List Nat → List Nat → List Nat → Rd α) : Rd α :=
  mtAs sg.av vs { bx := pre, pay := [], tk := [], bw := [] } fun m =>
  mtBx sg.bx 0 m fun m =>
  match somes m.bx with
  | some bs => match distinct bs && disj m.tk m.bw && disj bs m.bw with
    | true => k m.pay.reverse bs m.tk m.bw
    | false => .fail
  | none => .fail

def mtSg {α : Type} (sg : Sg) (vs : List V) (k : List DV → List Nat → List Nat → List Nat → Rd α) : Rd α := mtSgP (nones sg.bx.length) sg vs k

/-! A state made of a signature and a payload -/
structure B where
  pay : List DV
  nx : Nat
  ob : List (Nat × Obj)
  nb : Nat

def popD : List Ty → List DV → Option (List DV × List DV)
  | [], p => some ([], p)
  | t :: ts, d :: p => match tyEq d.t t with
    | true => match popD ts p with
      | some (vs, r) => some (d :: vs, r)
      | none => none
    | false => none
  | _ :: _, [] => none
def blL (k : LK) (ren : Nat → Nat) (b : B) : Option (List L × B) :=
  match k with
  | .any n => some ([.any n], b)
  | .d t => match b.pay with
    | ⟨u, v⟩ :: r => tyc u t (fun h => some (unpk t (h ▸ v), { b with pay := r })) none
    | [] => none
  | .o a => match b.pay with
    | ⟨.sl u, xs⟩ :: r => tyc u a (fun h => some ([.own b.nx], { b with pay := r, nx := b.nx + 1, ob := (b.nx, .arr a (h ▸ xs) false) :: b.ob })) none
    | _ => none
  | .r t => match b.pay with
    | ⟨u, v⟩ :: r => tyc u t (fun h => some ([.rf t (h ▸ v) 0], { b with pay := r })) none
    | [] => none
  | .p j l y => match Nat.blt j b.nb with
    | true => some ([.ptr (ren j) l y], b)
    | false => none
  | .f g cs => match cs.all fun c => Nat.blt c.k b.nb with
    | true => some ([.fn g (cs.map fun c => ⟨ren c.k, c.l, c.y⟩)], b)
    | false => none
  | .np => some ([.nilp], b)
  | .oh j sz y => match Nat.blt j b.nb with
    | true => match b.pay with
      | ⟨.int .i64, n⟩ :: ⟨.int .i64, i⟩ :: r => some ([.oh (ren j) n i sz y], { b with pay := r })
      | _ => none
    | false => none
  | .cst j => match Nat.blt j b.nb with
    | true => some ([.cst (ren j)], b)
    | false => none
  | .hd _ _ => some ([.any 1], b)
  | .w _ => none
  | .it => match b.pay with
    | ⟨.str, s⟩ :: ⟨.int .i64, p⟩ :: r => some ([.itp b.nx], { b with pay := r, nx := b.nx + 1, ob := (b.nx, .raw (.it s p)) :: b.ob })
    | _ => none
  | .mp t => match b.pay with
    | ⟨.sl (.pair .str u), xs⟩ :: r => tyc u t (fun h => some ([.mpp b.nx], { b with pay := r, nx := b.nx + 1, ob := (b.nx, .raw (.mp t (h ▸ (show List (ByteArray × Den u) from xs)))) :: b.ob })) none
    | _ => none
  | .ifd t ts => match popD ts b.pay with
    | some (vs, r) => some ([.ifd t vs], { b with pay := r })
    | none => none
  | .ife => match b.pay with
    | ⟨.bool, x⟩ :: r => some ([.ife x], { b with pay := r })
    | _ => none

def blLs (ren : Nat → Nat) : List LK → B → Option (List L × B)
  | [], b => some ([], b)
  | k :: r, b => match blL k ren b with
    | some (l, b) => match blLs ren r b with
      | some (q, b) => some (l ++ q, b)
      | none => none
    | none => none

def blA (ren : Nat → Nat) : AK → B → Option (V × B)
  | .no, b => some (bad, b)
  | .one k, b => match blL k ren b with
    | some ([l], b) => some (.one l, b)
    | _ => none
  | .agg ks, b => match blLs ren ks b with
    | some (ls, b) => some (.agg ls, b)
    | none => none

def blAs (ren : Nat → Nat) : List AK → B → Option (List V × B)
  | [], b => some ([], b)
  | a :: r, b => match blA ren a b with
    | some (v, b) => match blAs ren r b with
      | some (q, b) => some (v :: q, b)
      | none => none
    | none => none

/-- Boxes anew: their contents. -/
def blBs (ren : Nat → Nat) : List (List LK) → Nat → B → Option (List (Nat × List L) × B)
  | [], _, b => some ([], b)
  | ks :: r, j, b => match blLs ren ks b with
    | some (ls, b) => match blBs ren r (j + 1) b with
      | some (q, b) => some ((ren j, ls) :: q, b)
      | none => none
    | none => none

def boxes : List (Nat × List L) → List (Nat × Obj)
  | [] => []
  | p :: r => (p.1, .box p.2) :: boxes r

def bads : Nat → List V
  | 0 => []
  | n + 1 => bad :: bads n

def hasHd : List AK → Bool
  | [] => false
  | .one (.hd _ _) :: _ => true
  | _ :: r => hasHd r
/-- The headers of slices that lie in boxes. -/
def patch (ob : List (Nat × Obj)) : List AK → List V → List V
  | .one (.hd j l) :: aks, v :: vs => (match lookO ob j with
    | .box ls => match nthO ls l with
      | some (.own k) => .one (.own k)
      | _ => v
    | _ => v) :: patch ob aks vs
  | _ :: aks, v :: vs => v :: patch ob aks vs
  | _, vs => vs
def tmsOf (ob : List (Nat × Obj)) (aks : List AK) (vs : List V) : List V := match hasHd aks with
  | true => patch ob aks vs
  | false => vs
/-- The state of a signature: boxes are objects 0, 1, .., slices those behind. -/
def mkSt (sg : Sg) (n : Nat) (pay : List DV) : Option St :=
  match blAs (fun j => j) sg.av { pay := pay, nx := sg.bx.length, ob := [], nb := sg.bx.length } with
  | some (vs, b) => match blBs (fun j => j) sg.bx 0 b with
    | some (bx, b) => match b.pay with
      | [] => some { tm := tmsOf (boxes bx ++ b.ob) sg.av vs ++ bads (n - vs.length), ob := boxes bx ++ b.ob, nx := b.nx }
      | _ => none
    | none => none
  | none => none
end Go.Proofs.Zs
/- The abstract run of operations, regions and code. Definitions only. -/
namespace Go.Proofs.Zs
open Go

def cV : Value → Option V
  | .bool b => some (.one (.dat .bool b))
  | .int k n => some (.one (.dat (.int k) n))
  | .string s => some (.one (.dat .str s))
  | .slice none 0 0 => some (.one .nils)
  | .pointer none => some (.one .nilp)
  | .nilIface => some (.one (.ife true))
  | _ => none

def ev {α : Type} (o : Operand) (k : V → Rd α) : Rd α :=
  match o with
  | .tmp t => .get (.tmp t) fun
    | .v x => k x
    | _ => .fail
  | .const v => match cV v with
    | some x => k x
    | none => .fail
  | .func f => k (.one (.fn f []))
  | .global _ => .fail

def evs {α : Type} : List Operand → (List V → Rd α) → Rd α
  | [], k => k []
  | o :: r, k => ev o fun x => evs r fun q => k (x :: q)

def evParts {α : Type} : List (Nat × Operand) → (List (Nat × V) → Rd α) → Rd α
  | [], k => k []
  | p :: r, k => ev p.2 fun x => evParts r fun q => k ((p.1, x) :: q)

/-- What an operation leaves in its slot: a truth value that is asked for is parted at once. -/
def fin (hi : Hi) (dst : Option Nat) (wr : Wr) (x : V) : Rd Wr :=
  match dst with
  | none => .ret wr
  | some d => match memN d hi.sp, x with
    | true, .one (.dat .bool b) => .ite b (.ret (wr ++ [(.tmp d, .v (.one (.dat .bool true)))])) (.ret (wr ++ [(.tmp d, .v (.one (.dat .bool false)))]))
    | _, x => .ret (wr ++ [(.tmp d, .v x)])

/-! Numbers -/
def bitAnd (k : IntKind) (x y : Int) : Int := k.wrap ((BitVec.ofInt k.bits x &&& BitVec.ofInt k.bits y).toNat : Int)
def bitOr (k : IntKind) (x y : Int) : Int := k.wrap ((BitVec.ofInt k.bits x ||| BitVec.ofInt k.bits y).toNat : Int)
def bitXor (k : IntKind) (x y : Int) : Int := k.wrap ((BitVec.ofInt k.bits x ^^^ BitVec.ofInt k.bits y).toNat : Int)
def bitNot (k : IntKind) (x y : Int) : Int := k.wrap ((BitVec.ofInt k.bits x &&& ~~~ BitVec.ofInt k.bits y).toNat : Int)
def shl (k : IntKind) (x y : Int) : Int := k.wrap (x * 2 ^ (min y.toNat k.bits))
def shr (k : IntKind) (x y : Int) : Int := x.fdiv (2 ^ (min y.toNat k.bits))

def int (k : IntKind) (n : Int) : V := .one (.dat (.int k) n)
def boo (b : Bool) : V := .one (.dat .bool b)
def strV (s : ByteArray) : V := .one (.dat .str s)

def binI {α : Type} (op : BinOp) (i j : IntKind) (x y : Int) (k : V → Rd α) : Rd α :=
  match op with
  | .shl => .ite (decide (y < 0)) .fail (k (int i (shl i x y)))
  | .shr => .ite (decide (y < 0)) .fail (k (int i (shr i x y)))
  | op => if i = j then match op with
    | .add => k (int i (i.wrap (x + y)))
    | .sub => k (int i (i.wrap (x - y)))
    | .mul => k (int i (i.wrap (x * y)))
    | .quo => .ite (decide (y = 0)) .fail (k (int i (i.wrap (x.tdiv y))))
    | .rem => .ite (decide (y = 0)) .fail (k (int i (x.tmod y)))
    | .and => k (int i (bitAnd i x y))
    | .or => k (int i (bitOr i x y))
    | .xor => k (int i (bitXor i x y))
    | .andNot => k (int i (bitNot i x y))
    | .eql => k (boo (x == y))
    | .neq => k (boo (x != y))
    | .lss => k (boo (decide (x < y)))
    | .leq => k (boo (decide (x ≤ y)))
    | .gtr => k (boo (decide (x > y)))
    | .geq => k (boo (decide (x ≥ y)))
    | _ => .fail
    else .fail

/-- So long may what strings and slices make be. -/
def reach : Nat := 35184372088832

def binS {α : Type} (op : BinOp) (x y : ByteArray) (k : V → Rd α) : Rd α :=
  match op with
  | .add => .ite (decide (x.size + y.size ≤ reach)) (k (strV (x ++ y))) .fail
  | .eql => k (boo (x.toList == y.toList))
  | .neq => k (boo (!(x.toList == y.toList)))
  | .lss => k (boo (Op.bytesLess x.toList y.toList))
  | _ => .fail

/-- Are two leaves one? -/
def eqL : L → L → Option Bool
  | .dat (.int i) x, .dat (.int j) y => if i = j then some (x == y) else none
  | .dat .bool x, .dat .bool y => some (x == y)
  | .dat .str x, .dat .str y => some (x == y)
  | .dat (.ar n (.int i)) x, .dat (.ar m (.int j)) y => if n = m ∧ i = j then some ((x : List Int) == (y : List Int)) else none
  | .dat (.ar n .bool) x, .dat (.ar m .bool) y => if n = m then some ((x : List Bool) == (y : List Bool)) else none
  | _, _ => none

def eqLs : List L → List L → Option Bool
  | [], [] => some true
  | [a], [b] => eqL a b
  | a :: r, b :: q => match eqL a b, eqLs r q with
    | some x, some y => some (x && y)
    | _, _ => none
  | _, _ => none

def isNilS : L → Option Bool
  | .nils => some true
  | .nl => some true
  | .nn _ _ => some false
  | _ => none

def isNilP : L → Option Bool
  | .nilp => some true
  | .ptr _ _ _ => some false
  | .pta _ _ _ _ => some false
  | .pte _ _ _ _ => some false
  | .rf _ _ _ => some false
  | _ => none

def tysEq : List L → List Ty → Bool
  | [], [] => true
  | .dat t _ :: r, u :: q => tyEq t u && tysEq r q
  | _, _ => false

def binO {α : Type} (t : TI) (op : BinOp) (x y : V) (k : V → Rd α) : Rd α :=
  match x, y with
  | .one (.dat (.int i) a), .one (.dat (.int j) b) => binI op i j a b k
  | .one (.dat .str a), .one (.dat .str b) => binS op a b k
  | .one (.dat .bool a), .one (.dat .bool b) => match t.td, op with
    | .bool, .eql => k (boo (a == b))
    | .bool, .neq => k (boo (!(a == b)))
    | _, _ => .fail
  | .agg a, .agg b => match t.eqt, t.agg with
    | none, _ => .fail
    | some _, false => .fail
    | some ts, true => match tysEq a ts && tysEq b ts with
      | false => .fail
      | true => match op, eqLs a b with
        | .eql, some c => k (boo c)
        | .neq, some c => k (boo (!c))
        | _, _ => .fail
  | .one a, .one .nils => match t.td, op, isNilS a with
    | .slice, .eql, some c => k (boo c)
    | .slice, .neq, some c => k (boo (!c))
    | _, _, _ => .fail
  | .one a, .one .nilp => match t.td, op, isNilP a with
    | .ptr, .eql, some c => k (boo c)
    | .ptr, .neq, some c => k (boo (!c))
    | _, _, _ => .fail
  | _, _ => .fail
/-- An error held against nil. -/
def ifeO {α : Type} (t : TI) (op : BinOp) (a : Bool) (k : V → Rd α) : Rd α :=
  match t.td, op with
  | .iface, .eql => k (boo a)
  | .iface, .neq => k (boo (!a))
  | _, _ => .fail

def unO {α : Type} (op : UnOp) (x : V) (k : V → Rd α) : Rd α :=
  match op, x with
  | .not, .one (.dat .bool b) => k (boo (!b))
  | .neg, .one (.dat (.int i) n) => k (int i (i.wrap (0 - n)))
  | .xor, .one (.dat (.int i) n) => k (int i (bitXor i (if i.signed then -1 else i.max) n))
  | _, _ => .fail

/-- Bytes of a string, as numbers; and back. -/
def bytesOf (s : ByteArray) : List Int := s.data.toList.map fun b => (b.toNat : Int)
def strOf (l : List Int) : ByteArray := ⟨(l.map fun n => UInt8.ofNat n.toNat).toArray⟩
def byteAt (s : ByteArray) (i : Int) : Int := (s.data.toList.getD i.toNat 0).toNat

/-! Leaves read and written -/
def wrLs (k : Nat) : Nat → List L → Wr
  | _, [] => []
  | l, x :: r => (.lf k l, .l x) :: wrLs k (l + 1) r

/-- The leaves of a value of which something is known. -/
def V.cls : V → Option (List L)
  | .one (.any _) => none
  | .one l => some [l]
  | .agg ls => some ls
  | .tup _ => none

/-- A value of leaves, by its type. -/
def toV (t : TI) (ls : List L) : Option V :=
  match t.agg, ls with
  | true, ls => some (.agg ls)
  | false, [l] => some (.one l)
  | _, _ => none

def loadS (t : TI) (x : V) (k : V → Rd Wr) : Rd Wr :=
  let out (ls : List L) : Rd Wr := match natsEq (sizes ls) t.lay with
    | true => match toV t ls with
      | some v => k v
      | none => .fail
    | false => .fail
  match x with
  | .one (.ptr n l _) => rdLs n t.lay.length l out
  | .one (.pta n l m i) => .get (.lf n l) fun
    | .l (.dat (.ar m' a) v) => match Nat.beq m m', a with
      | true, .int j => out [.dat (.int j) ((v : List Int).getD i 0)]
      | true, .bool => out [.dat .bool ((v : List Bool).getD i false)]
      | _, _ => .fail
    | _ => .fail
  | .one (.pte n i l _) => .get (.ob n) fun
    | .o (.arr a xs _) => out (takeN t.lay.length (dropN l (unpk a (xs.getD i (zeroD a)))))
    | _ => .fail
  | .one (.rf a v l) => out (takeN t.lay.length (dropN l (unpk a v)))
  | _ => .fail

/-- The leaves from the l-th on are those. -/
def over : List L → Nat → List L → List L
  | ls, 0, [] => ls
  | _ :: r, 0, x :: q => x :: over r 0 q
  | x :: r, l + 1, q => x :: over r l q
  | ls, _, _ => ls

def storeS (t : TI) (x : V) (v : V) (k : Wr → Rd Wr) : Rd Wr :=
  match v.cls with
  | none => .fail
  | some vl => match natsEq (sizes vl) t.lay && !t.lay.isEmpty with
    | false => .fail
    | true => match x with
      | .one (.ptr n l _) => rdLs n t.lay.length l fun old => match natsEq (sizes old) t.lay with
        | true => k (wrLs n l vl)
        | false => .fail
      | .one (.pta n l m i) => .get (.lf n l) fun
        | .l (.dat (.ar m' a) w) => match Nat.beq m m', a, v with
          | true, .int j, .one (.dat (.int j') y) => if j = j' then k [(.lf n l, .l (.dat (.ar m' (.int j)) ((w : List Int).set i y)))] else .fail
          | true, .bool, .one (.dat .bool y) => k [(.lf n l, .l (.dat (.ar m' .bool) ((w : List Bool).set i y)))]
          | _, _, _ => .fail
        | _ => .fail
      | .one (.pte n i l _) => .get (.ob n) fun
        | .o (.arr a xs false) =>
          let old := unpk a (xs.getD i (zeroD a))
          match natsEq (sizes (takeN t.lay.length (dropN l old))) t.lay with
          | true => pk a (over old l vl) [] fun y r bw => match r, bw with
            | [], [] => k [(.ob n, .o (.arr a (xs.set i y) false))]
            | _, _ => .fail
          | false => .fail
        | _ => .fail
      | _ => .fail

def fieldS (t : TI) (x : V) (f : Nat) (k : V → Rd Wr) : Rd Wr :=
  match t.td, nthO t.fl f with
  | .struct, some (d, z) => match x with
    | .one (.ptr n l y) => match natsEq y t.lay with
      | true => k (.one (.ptr n (l + d) z))
      | false => .fail
    | .one (.pte n i l y) => match natsEq y t.lay with
      | true => k (.one (.pte n i (l + d) z))
      | false => .fail
    | .one (.rf a v l) => match natsEq (takeN t.lay.length (dropN l (sizes (unpk a (zeroD a))))) t.lay with
      | true => k (.one (.rf a v (l + d)))
      | false => .fail
    | _ => .fail
  | _, _ => .fail

/-- A part of a struct. -/
def fieldV (t : TI) (x : V) (f : Nat) (k : V → Rd Wr) : Rd Wr :=
  match t.td, nthO t.fl f, nthO t.fg f, x with
  | .struct, some (d, z), some g, .agg ls => match natsEq (sizes ls) t.lay, natsEq (sizes (takeN z.length (dropN d ls))) z with
    | true, true => match g, takeN z.length (dropN d ls) with
      | true, q => k (.agg q)
      | false, [y] => match Nat.beq y.size 1 with
        | true => k (.one y)
        | false => .fail
      | _, _ => .fail
    | _, _ => .fail
  | _, _, _, _ => .fail

def idx (i : Int) (n : Nat) : Bool := decide (0 ≤ i ∧ i < (n : Int))

def indexS (t : TI) (x y : V) (k : V → Rd Wr) : Rd Wr :=
  match y with
  | .one (.dat (.int _) i) => match t.td with
    | .array => match x with
      | .one (.ptr n l _) => .ite (idx i t.n) (k (.one (.pta n l t.n i.toNat))) .fail
      | .one (.rf a v l) => match dropN l (unpk a v) with
        | .dat (.ar m b) w :: _ => match Nat.beq m t.n && tyEq b t.ety with
          | true => .ite (idx i t.n) (k (.one (.rf b (w.getD i.toNat (zeroD b)) 0))) .fail
          | false => .fail
        | _ => .fail
      | _ => .fail
    | .slice => match x with
      | .one (.own n) => .get (.ob n) fun
        | .o (.arr a xs _) => castL? a t.ety xs fun xs => .ite (idx i xs.length) (k (.one (.pte n i.toNat 0 (sizes (unpk t.ety (zeroD t.ety)))))) .fail
        | _ => .fail
      | .one (.suf n off) => .get (.ob n) fun
        | .o (.arr a xs _) => castL? a t.ety xs fun xs => .ite (idx i (xs.length - off)) (k (.one (.pte n (off + i.toNat) 0 (sizes (unpk t.ety (zeroD t.ety)))))) .fail
        | _ => .fail
      | .one (.mid n off len) => .get (.ob n) fun
        | .o (.arr a xs _) => castL? a t.ety xs fun _ => .ite (idx i len) (k (.one (.pte n (off + i.toNat) 0 (sizes (unpk t.ety (zeroD t.ety)))))) .fail
        | _ => .fail
      | .one (.dat (.sl a) xs) => castL? a t.ety xs fun xs => .ite (idx i xs.length) (k (.one (.rf t.ety (xs.getD i.toNat (zeroD t.ety)) 0))) .fail
      | .one (.nn a xs) => castL? a t.ety xs fun xs => .ite (idx i xs.length) (k (.one (.rf t.ety (xs.getD i.toNat (zeroD t.ety)) 0))) .fail
      | .one (.oh q n i' sz y) => match Nat.beq sz t.ety.sz with
        | true => .ite (decide (i = i' ∧ 0 ≤ i ∧ i < n)) (k (.one (.ptr q 0 y))) .fail
        | false => .fail
      | _ => .fail
    | _ => .fail
  | _ => .fail

def index2 (t : TI) (x y : V) (k : V → Rd Wr) : Rd Wr :=
  match t.td, x, y with
  | .str, .one (.dat .str s), .one (.dat (.int _) i) => .ite (idx i s.size) (k (int .u8 (byteAt s i))) .fail
  | _, _, _ => .fail

def evO {α : Type} (o : Option Operand) (k : Option V → Rd α) : Rd α :=
  match o with
  | none => k none
  | some o => ev o fun x => k (some x)

/-- The lower bound of a cut that goes to the end. -/
def cutLo {α : Type} (n : Nat) (lo : V) (k : Nat → Rd α) : Rd α :=
  match lo with
  | .one (.dat (.int _) l) => .ite (decide (0 ≤ l ∧ l ≤ (n : Int))) (k l.toNat) .fail
  | _ => .fail

def cutHi {α : Type} (n : Nat) (lo : Option V) (h : Int) (k : Nat → Nat → Rd α) : Rd α :=
  match lo with
  | none => .ite (decide (0 ≤ h ∧ h ≤ (n : Int))) (k 0 h.toNat) .fail
  | some (.one (.dat (.int _) l)) => .ite (decide (0 ≤ h ∧ h ≤ (n : Int))) (.ite (decide (0 ≤ l ∧ l ≤ h)) (k l.toNat h.toNat) .fail) .fail
  | _ => .fail

/-- The bounds of a cut of what has n places. -/
def cut {α : Type} (n : Nat) (lo hi : Option V) (k : Nat → Nat → Rd α) : Rd α :=
  match hi with
  | some (.one (.dat (.int _) h)) => cutHi n lo h k
  | none => match lo with
    | none => k 0 n
    | some l => cutLo n l fun l => k l n
  | _ => .fail

def sliceS (t : TI) (x : V) (lo hi : Option V) (k : V → Rd Wr) : Rd Wr :=
  match t.td, x with
  | .str, .one (.dat .str s) => cut s.size lo hi fun l h => k (strV (s.extract l h))
  | .slice, .one (.own n) => .get (.ob n) fun
    | .o (.arr a xs _) => castL? a t.ety xs fun xs => match hi, lo with
      | none, none => k x
      | none, some lo => cutLo xs.length lo fun l => k (.one (.suf n l))
      | some _, _ => cut xs.length lo hi fun l h => k (.one (.mid n l (h - l)))
    | _ => .fail
  | .slice, .one (.suf n off) => .get (.ob n) fun
    | .o (.arr a xs _) => castL? a t.ety xs fun xs => match hi, lo with
      | none, none => k x
      | none, some lo => cutLo (xs.length - off) lo fun l => k (.one (.suf n (off + l)))
      | some _, _ => cut (xs.length - off) lo hi fun l h => k (.one (.mid n (off + l) (h - l)))
    | _ => .fail
  | .slice, .one (.mid n off len) => .get (.ob n) fun
    | .o (.arr a xs _) => castL? a t.ety xs fun _ => cut len lo hi fun l h => k (.one (.mid n (off + l) (h - l)))
    | _ => .fail
  | .slice, .one (.dat (.sl a) xs) => castL? a t.ety xs fun xs => match hi, lo with
    | none, none => k x
    | none, some lo => cutLo xs.length lo fun l => k (.one (.dat (.sl t.ety) (xs.drop l)))
    | some _, _ => cut xs.length lo hi fun l h => k (.one (.dat (.sl t.ety) ((xs.drop l).take (h - l))))
  | .array, .one (.ptr n l _) => cut t.n lo hi fun a b => k (.one (.sla n l t.n a (b - a)))
  | _, _ => .fail

def lenS (t : TI) (x : V) (k : V → Rd Wr) : Rd Wr :=
  match t.td, x with
  | .str, .one (.dat .str s) => k (int .i64 (s.size : Int))
  | .slice, .one (.dat (.sl _) xs) => k (int .i64 (xs.length : Int))
  | .slice, .one (.nn _ xs) => k (int .i64 (xs.length : Int))
  | .slice, .one .nils => k (int .i64 0)
  | .slice, .one (.own n) => .get (.ob n) fun
    | .o (.arr _ xs _) => k (int .i64 (xs.length : Int))
    | _ => .fail
  | .slice, .one (.suf n off) => .get (.ob n) fun
    | .o (.arr _ xs _) => k (int .i64 ((xs.length - off : Nat) : Int))
    | _ => .fail
  | .slice, .one (.mid _ _ len) => k (int .i64 (len : Int))
  | .slice, .one (.sla _ _ _ _ len) => k (int .i64 (len : Int))
  | .slice, .one (.oh _ n _ _ _) => k (int .i64 n)
  | .array, _ => k (int .i64 (t.n : Int))
  | _, _ => .fail

/-- A slice that is appended to: what it has, and what is gone then. -/
def oldS (a : Ty) (x : V) (k : List (Den a) → Wr → Rd Wr) : Rd Wr :=
  match x with
  | .one .nils => k [] []
  | .one (.own n) => .get (.ob n) fun
    | .o (.arr t xs false) => castL? t a xs fun xs => k xs [(.ob n, .o .dead)]
    | _ => .fail
  | .one (.suf n off) => .get (.ob n) fun
    | .o (.arr t xs false) => castL? t a xs fun xs => k (xs.drop off) [(.ob n, .o .dead)]
    | _ => .fail
  | .one (.mid n off len) => .get (.ob n) fun
    | .o (.arr t xs false) => castL? t a xs fun xs => k ((xs.drop off).take len) [(.ob n, .o .dead)]
    | _ => .fail
  | _ => .fail

def newS (a : Ty) (x : V) (k : List (Den a) → Rd Wr) : Rd Wr :=
  match x with
  | .one (.dat .str s) => castL? (.int .u8) a (bytesOf s) k
  | .one l => slD a l [] fun xs _ => k xs
  | _ => .fail

def appendS (key : Nat) (t : TI) (x y : V) (k : V → Wr → Rd Wr) : Rd Wr :=
  match t.td, Nat.beq t.eby 0 with
  | .slice, false => oldS t.ety x fun old gone => newS t.ety y fun new =>
    .ite (decide ((old.length + new.length) * t.eby ≤ reach)) (k (.one (.own key)) (gone ++ [(.ob key, .o (.arr t.ety (old ++ new) false))])) .fail
  | _, _ => .fail

/-- A cut of an array of one's own: the array, where the cut begins, how long it is. -/
def winS (x : V) (k : Nat → (t : Ty) → List (Den t) → Nat → Nat → Rd Wr) : Rd Wr :=
  match x with
  | .one (.own n) => .get (.ob n) fun
    | .o (.arr t xs false) => k n t xs 0 xs.length
    | _ => .fail
  | .one (.suf n off) => .get (.ob n) fun
    | .o (.arr t xs false) => k n t xs off (xs.length - off)
    | _ => .fail
  | .one (.mid n off len) => .get (.ob n) fun
    | .o (.arr t xs false) => k n t xs off len
    | _ => .fail
  | _ => .fail

/-- Those laid over these from the off-th on. -/
def laid {α : Type} (xs : List α) (off : Nat) (ys : List α) : List α := xs.take off ++ (ys ++ xs.drop (off + ys.length))

def copyS (t : TI) (x y : V) (k : V → Wr → Rd Wr) : Rd Wr :=
  match t.td, y with
  | .slice, .one l => winS x fun n a xs off len => castL? a t.ety xs fun xs => slD t.ety l [] fun ys _ =>
    k (int .i64 ((ys.take len).length : Int)) [(.ob n, .o (.arr t.ety (laid xs off (ys.take len)) false))]
  | _, _ => .fail

def clearS (t : TI) (x : V) (k : V → Wr → Rd Wr) : Rd Wr :=
  match t.td with
  | .slice => winS x fun n a xs off len => castL? a t.ety xs fun xs =>
    k (.tup []) [(.ob n, .o (.arr t.ety (laid xs off (List.replicate len (zeroD t.ety))) false))]
  | _ => .fail

/-- Parts put into zero leaves. -/
def parts (t : TI) : List (Nat × V) → List L → Option (List L)
  | [], ls => some ls
  | p :: r, ls => match nthO t.fl p.1, p.2.cls with
    | some (l, lay), some vl => match natsEq (sizes vl) lay, natsEq (sizes (takeN vl.length (dropN l ls))) lay with
      | true, true => parts t r (over ls l vl)
      | _, _ => none
    | _, _ => none

/-- Elements, and the slices that go with them. -/
def elemF (a : Ty) : List (Nat × V) → List (Den a) → List Nat → (List (Den a) → List Nat → Rd Wr) → Rd Wr
  | [], xs, bw, k => k xs bw
  | p :: r, xs, bw, k => match p.2.cls with
    | some vl => pk a vl bw fun y q bw => match q, Nat.blt p.1 xs.length with
      | [], true => elemF a r (setN xs p.1 y) bw k
      | _, _ => .fail
    | none => .fail

def elems (a : Ty) : List (Nat × V) → List (Den a) → (List (Den a) → Rd Wr) → Rd Wr
  | [], xs, k => k xs
  | p :: r, xs, k => match p.2.cls with
    | some vl => pk a vl [] fun y q bw => match q, bw, Nat.blt p.1 xs.length with
      | [], [], true => elems a r (setN xs p.1 y) k
      | _, _, _ => .fail
    | none => .fail

def repl {α : Type} : Nat → α → List α
  | 0, _ => []
  | n + 1, x => x :: repl n x

def convS (key : Nat) (src dst : TI) (x : V) (k : V → Wr → Rd Wr) : Rd Wr :=
  match dst.td, x with
  | .int j, .one (.dat (.int _) n) => k (int j (j.wrap n)) []
  | .str, .one (.dat .str s) => k (strV s) []
  | .str, .one (.dat (.int _) n) => k (strV (Utf8.encode n)) []
  | .str, .one l => match src.td, src.ety with
    | .slice, .int .u8 => slD (.int .u8) l [] fun xs _ => k (strV (strOf xs)) []
    | _, _ => .fail
  | .slice, .one (.dat .str s) => match src.td, dst.ety with
    | .str, .int .u8 => .ite (decide (s.size ≤ reach)) (k (.one (.own key)) [(.ob key, .o (.arr (.int .u8) (bytesOf s) false))]) .fail
    | _, _ => .fail
  | _, _ => .fail

def caps : List V → Option (List Cp)
  | [] => some []
  | .one (.ptr n l y) :: r => match caps r with
    | some q => some (⟨n, l, y⟩ :: q)
    | none => none
  | _ => none

def capV : List Cp → List V
  | [] => []
  | p :: r => .one (.ptr p.k p.l p.y) :: capV r

def Ty.hasSl : Ty → Bool
  | .sl _ => true
  | .pair a b => a.hasSl || b.hasSl
  | .ar _ a => a.hasSl
  | _ => false

def LK.hasSl : LK → Bool
  | .d t => t.hasSl
  | .o t => t.hasSl
  | .r _ => true
  | _ => false

def anySl : List LK → Bool
  | [] => false
  | k :: r => k.hasSl || anySl r

def AK.hasSl : AK → Bool
  | .no => false
  | .one k => k.hasSl
  | .agg ks => anySl ks

def CS.hasSl (c : CS) : Bool := c.r.any AK.hasSl || c.ob.any anySl

/-- What is but read may be kept from here on. -/
def freeze : List Nat → Wr → (Wr → Rd Wr) → Rd Wr
  | [], wr, k => k wr
  | n :: r, wr, k => .get (.ob n) fun
    | .o (.arr t xs _) => freeze r ((.ob n, .o (.arr t xs true)) :: wr) k
    | _ => .fail

/-! Strings walked through; maps; interfaces -/
def runeC (s : ByteArray) (p : Int) : Int := ((Utf8.decode s p.toNat).1 : Int)
def runeW (s : ByteArray) (p : Int) : Int := ((Utf8.decode s p.toNat).2 : Int)
def mapHas {α : Type} : List (ByteArray × α) → ByteArray → Bool
  | [], _ => false
  | p :: r, k => (k == p.1) || mapHas r k
def mapGet {α : Type} (z : α) : List (ByteArray × α) → ByteArray → α
  | [], _ => z
  | p :: r, k => if (k == p.1) = true then p.2 else mapGet z r k
def mapSet {α : Type} : List (ByteArray × α) → ByteArray → α → List (ByteArray × α)
  | [], k, v => [(k, v)]
  | p :: r, k, v => if (k == p.1) = true then (p.1, v) :: r else p :: mapSet r k v
/-- Leaves of plain data without slices. -/
def dvs : List L → Option (List DV)
  | [] => some []
  | .dat t v :: r => match scalar t, dvs r with
    | true, some q => some (⟨t, v⟩ :: q)
    | _, _ => none
  | _ => none
def lsOf : List DV → List L
  | [] => []
  | d :: r => .dat d.t d.v :: lsOf r
def rangeS (key : Nat) (t : TI) (x : V) (k : V → Wr → Rd Wr) : Rd Wr :=
  match t.td, x with
  | .str, .one (.dat .str s) => k (.one (.itp key)) [(.ob key, .o (.raw (.it s 0)))]
  | _, _ => .fail
def nextS (x : V) (k : V → Wr → Rd Wr) : Rd Wr :=
  match x with
  | .one (.itp n) => .get (.ob n) fun
    | .o (.raw (.it s p)) => .ite (decide (p < (s.size : Int)))
      (k (.tup [boo true, int .i64 p, int .i32 (runeC s p)]) [(.ob n, .o (.raw (.it s (p + runeW s p))))])
      (k (.tup [boo false]) [])
    | _ => .fail
  | _ => .fail
def makeMapS (key : Nat) (t : TI) (k : V → Wr → Rd Wr) : Rd Wr :=
  match t.td, scalar t.ety with
  | .map, true => k (.one (.mpp key)) [(.ob key, .o (.raw (.mp t.ety [])))]
  | _, _ => .fail
def lookupS (t : TI) (x i : V) (ok : Bool) (k : V → Rd Wr) : Rd Wr :=
  match t.td, x, i with
  | .map, .one (.mpp n), .one (.dat .str key) => .get (.ob n) fun
    | .o (.raw (.mp u es)) => match tyEq u t.ety, scalar u with
      | true, true => match ok with
        | true => k (.tup [.one (.dat u (mapGet (zeroD u) es key)), boo (mapHas es key)])
        | false => k (.one (.dat u (mapGet (zeroD u) es key)))
      | _, _ => .fail
    | _ => .fail
  | _, _, _ => .fail
def mapSetS (t : TI) (x i v : V) (k : Wr → Rd Wr) : Rd Wr :=
  match t.td, x, i, v with
  | .map, .one (.mpp n), .one (.dat .str key), .one (.dat u y) => .get (.ob n) fun
    | .o (.raw (.mp u' es)) => match scalar u' with
      | true => tyc u u' (fun h => k [(.ob n, .o (.raw (.mp u' (mapSet es key (h ▸ y)))))]) .fail
      | false => .fail
    | _ => .fail
  | _, _, _, _ => .fail
def ifaceS (n : Nat) (t : TI) (x : V) (k : V → Rd Wr) : Rd Wr :=
  match t.td, x with
  | .struct, .agg ls => match dvs ls with
    | some vs => k (.one (.ifd n vs))
    | none => .fail
  | _, _ => .fail
def assertS (n : Nat) (t : TI) (x : V) (k : V → Rd Wr) : Rd Wr :=
  match t.td, x with
  | .struct, .one (.ifd m vs) => match Nat.beq m n with
    | true => k (.tup [.agg (lsOf vs), boo true])
    | false => k (.tup [.agg (zs t.zk), boo false])
  | _, _ => .fail

def deads : List Nat → Wr
  | [] => []
  | n :: r => (.ob n, .o .dead) :: deads r

def obs : List (Nat × Obj) → Wr
  | [] => []
  | p :: r => (.ob p.1, .o p.2) :: obs r

def look2 {α : Type} : List ((Nat × Nat) × α) → Nat → Nat → Option α
  | [], _, _ => none
  | p :: r, a, b => match Nat.beq p.1.1 a && Nat.beq p.1.2 b with
    | true => some p.2
    | false => look2 r a b

def stride : Nat := 64

/-- Boxes that go over beside the arguments. -/
def ghosts {α : Type} : List (Nat × Nat) → List (Option Nat) → (List (Option Nat) → Rd α) → Rd α
  | [], pre, k => k pre
  | g :: r, pre, k => .get (.tmp g.2) fun
    | .v (.one (.ptr q _ _)) => ghosts r (setN pre g.1 (some q)) k
    | _ => .fail
def callS (key : Nat) (c : CS) (gx : List (Nat × Nat)) (f : V) (args : List V) (k : V → Wr → Rd Wr) : Rd Wr :=
  match f with
  | .one (.fn g cp) => match Nat.beq g c.fn with
    | false => .fail
    | true => ghosts gx (nones c.i.bx.length) fun pre => mtSgP pre c.i (args ++ capV cp) fun pay bs tk bw =>
      .call c.id pay fun out =>
        let ren (j : Nat) : Nat := nthD 0 bs j
        match blAs ren c.r { pay := out, nx := key, ob := [], nb := bs.length } with
        | none => .fail
        | some (vs, b) => match blBs ren c.ob 0 b with
          | none => .fail
          | some (bx, b) => match b.pay with
            | [] => match Nat.ble b.nx (key + stride) && Nat.beq c.ob.length bs.length && Nat.beq (args.length + cp.length) c.i.av.length with
              | false => .fail
              | true =>
              let wr := obs (boxes bx) ++ (obs b.ob ++ deads tk)
              match (if c.one then (match vs with | [v] => some v | _ => none) else some (.tup vs)) with
              | none => .fail
              | some v => match c.hasSl with
                | false => k v wr
                | true => freeze bw wr fun wr => k v wr
            | _ => .fail
  | _ => .fail

/-- A callee that writes its sole argument, a slice of one's own, in place. -/
def wrT (c : CS) : Option Ty := match c.i.av with
  | [.one (.w t)] => some t
  | _ => none
def wrS (c : CS) (t : Ty) (f : V) (args : List V) (k : V → Wr → Rd Wr) : Rd Wr :=
  match f, args with
  | .one (.fn g []), [.one (.own n)] => match Nat.beq g c.fn with
    | false => .fail
    | true => .get (.ob n) fun
      | .o (.arr u xs false) => castL? u t xs fun xs => .call c.id [⟨.sl t, xs⟩] fun
        | [⟨.sl u', ys⟩] => castL? u' t ys fun ys => k (.tup []) [(.ob n, .o (.arr t ys false))]
        | _ => .fail
      | _ => .fail
  | _, _ => .fail

def opSem (cx : Cx) (hi : Hi) (rg ix key : Nat) (o : Oper) : Rd Wr :=
  let k (x : V) : Rd Wr := fin hi o.dst [] x
  let kw (x : V) (wr : Wr) : Rd Wr := fin hi o.dst wr x
  match o.op with
  | .move x => ev x k
  | .assign x => ev x k
  | .pick c a b => ev c fun
    | .one (.dat .bool t) => ev a fun x => ev b fun y => .ite t (k x) (k y)
    | _ => .fail
  | .alloc t => cx.t t fun t => kw (.one (.ptr key 0 t.lay)) [(.ob key, .o (.box (zs t.zk)))]
  | .box t x => cx.t t fun t => ev x fun v => match v.cls with
    | some vl => match natsEq (sizes vl) t.lay with
      | true => kw (.one (.ptr key 0 t.lay)) [(.ob key, .o (.box vl))]
      | false => .fail
    | none => .fail
  | .build t ps => cx.t t fun t => evParts ps.toList fun ps => match t.td with
    | .struct => match parts t ps (zs t.zk) with
      | some ls => k (.agg ls)
      | none => .fail
    | .array => elems t.ety ps (repl t.n (zeroD t.ety)) fun xs => k (.agg [.dat (.ar t.n t.ety) xs])
    | _ => .fail
  | .buildSlice t n ps => cx.t t fun t => evParts ps.toList fun ps => match t.td with
    | .slice => match Nat.ble (n * t.ety.sz) 16777216 with
      | true => elemF t.ety ps (repl n (zeroD t.ety)) [] fun xs bw => freeze bw [] fun wr => kw (.one (.own key)) (wr ++ [(.ob key, .o (.arr t.ety xs false))])
      | false => .fail
    | _ => .fail
  | .load t x => cx.t t fun t => ev x fun x => loadS t x k
  | .store t x y => cx.t t fun t => ev x fun x => ev y fun y => storeS t x y fun wr => match o.dst with
    | none => .ret wr
    | some d => .ret (wr ++ [(.tmp d, .v bad)])
  | .nilCheck x => ev x fun v => match v with
    | .one (.ptr _ _ _) => k v
    | .one (.pta _ _ _ _) => k v
    | .one (.pte _ _ _ _) => k v
    | .one (.rf _ _ _) => k v
    | _ => .fail
  | .binOp op t x yo _ => ev x fun x => ev yo fun y => match x with
    | .one (.dat (.int _) _) => binO {} op x y k
    | .one (.dat .str _) => binO {} op x y k
    | .one (.ife a) => match yo with
      | .const .nilIface => cx.t t fun t => ifeO t op a k
      | _ => .fail
    | _ => cx.t t fun t => binO t op x y k
  | .unOp op _ x => ev x fun x => unO op x k
  | .convert s d x => cx.t s fun s => cx.t d fun d => ev x fun x => convS key s d x kw
  | .makeFunc (.func f) fs cs => match fs.toList with
    | [] => evs cs.toList fun vs => match caps vs with
      | some q => k (.one (.fn f q))
      | none => .fail
    | _ => .fail
  | .makeSlice t n c => cx.t t fun t => ev n fun
    | .one (.dat (.int .i64) n) => ev c fun
      | .one (.dat (.int .i64) c) => match t.td with
        | .slice => .ite (decide (0 ≤ n ∧ n ≤ c ∧ c * (t.eby : Int) ≤ (reach : Int) ∧ c ≤ (reach : Int))) (kw (.one (.own key)) [(.ob key, .o (.arr t.ety (List.replicate n.toNat (zeroD t.ety)) false))]) .fail
        | _ => .fail
      | _ => .fail
    | _ => .fail
  | .slice t x lo hi mx => match mx with
    | none => cx.t t fun t => ev x fun x => evO lo fun lo => evO hi fun hi => sliceS t x lo hi k
    | some _ => .fail
  | .fieldAddr t x f => cx.t t fun t => ev x fun x => fieldS t x f k
  | .field t x f => cx.t t fun t => ev x fun x => fieldV t x f k
  | .indexAddr t x y => cx.t t fun t => ev x fun x => ev y fun y => indexS t x y k
  | .index t x y => cx.t t fun t => ev x fun x => ev y fun y => index2 t x y k
  | .range t x => cx.t t fun t => ev x fun x => rangeS key t x kw
  | .next x true => ev x fun x => nextS x kw
  | .makeMap t none => cx.t t fun t => makeMapS key t kw
  | .lookup t x i ok => cx.t t fun t => ev x fun x => ev i fun i => lookupS t x i ok k
  | .mapUpdate t m i v => cx.t t fun t => ev m fun m => ev i fun i => ev v fun v => mapSetS t m i v fun wr => match o.dst with
    | none => .ret wr
    | some d => .ret (wr ++ [(.tmp d, .v bad)])
  | .makeInterface t x => cx.t t fun T => ev x fun x => ifaceS t T x k
  | .typeAssert x _ t true => cx.t t fun T => ev x fun x => assertS t T x k
  | .extract x i => ev x fun
    | .tup vs => match nthO vs i with
      | some (.tup _) => .fail
      | some v => k v
      | none => .fail
    | _ => .fail
  | .call c => match c.callee with
    | .builtin .len => evs c.args.toList fun
      | [x] => match c.argTypes.toList with
        | t :: _ => cx.t t fun t => lenS t x k
        | _ => .fail
      | _ => .fail
    | .builtin .append => evs c.args.toList fun
      | [x, y] => match c.argTypes.toList with
        | [t, u] => cx.t t fun t => cx.t u fun u => match u.td with
          | .slice => appendS key t x y kw
          | .str => appendS key t x y kw
          | _ => .fail
        | _ => .fail
      | _ => .fail
    | .builtin .copy => evs c.args.toList fun
      | [x, y] => match c.argTypes.toList with
        | [t, _] => cx.t t fun t => copyS t x y kw
        | _ => .fail
      | _ => .fail
    | .builtin .clear => evs c.args.toList fun
      | [x] => match c.argTypes.toList with
        | [t] => cx.t t fun t => clearS t x kw
        | _ => .fail
      | _ => .fail
    | .builtin .min => evs c.args.toList fun
      | [.one (.dat (.int i) x), .one (.dat (.int _) y)] => k (int i (if y < x then y else x))
      | _ => .fail
    | .builtin .max => evs c.args.toList fun
      | [.one (.dat (.int i) x), .one (.dat (.int _) y)] => k (int i (if x < y then y else x))
      | _ => .fail
    | .value f => match look2 hi.cs rg ix with
      | some cs => match wrT cs with
       | some t => ev f fun f => evs c.args.toList fun args => wrS cs t f args kw
       | none => ev f fun f => evs c.args.toList fun args => callS key cs (match look2 hi.gx rg ix with | some g => g | none => []) f args kw
      | none => .fail
    | _ => .fail
  | _ => .fail

/-- An operation with its guard; gd: which slot an operation of the region fills. -/
def opG (cx : Cx) (hi : Hi) (rg ix key : Nat) (gd : Nat → Option Nat) (o : Oper) : Rd Wr :=
  let off : Rd Wr := match o.dst with
    | none => .ret []
    | some d => .ret [(.tmp d, .v (.tup []))]
  match o.guard with
  | none => opSem cx hi rg ix key o
  | some (j, want) => match gd j with
    | some d => .get (.tmp d) fun
      | .v (.one (.dat .bool b)) => match want with
        | true => .ite b (opSem cx hi rg ix key o) off
        | false => .ite b off (opSem cx hi rg ix key o)
      | .v (.tup []) => off
      | _ => .fail
    | none => .fail

/-- Operations one behind the other. -/
def seqOps (cx : Cx) (hi : Hi) (ct : CT) (rg : Nat) (gd : Nat → Option Nat) : List Oper → Nat → Nat → St → (St → Option Rs) → Option Rs
  | [], _, _, s, k => k s
  | o :: r, ix, key, s, k => rdRun ct (opG cx hi rg ix key gd o) s [] fun wr _ =>
    seqOps cx hi ct rg gd r (ix + 1) (key + stride) (apply wr s) k

/-! A region whose order is open: what each operation reads and writes -/
structure Fp where
  ix : Nat
  rd : List Loc
  wr : List Loc

def overlap : Loc → Loc → Bool
  | .tmp a, .tmp b => Nat.beq a b
  | .lf k l, .lf k' l' => Nat.beq k k' && Nat.beq l l'
  | .ob k, .ob k' => Nat.beq k k'
  | .ob k, .lf k' _ => Nat.beq k k'
  | .lf k _, .ob k' => Nat.beq k k'
  | _, _ => false

def meets (l : Loc) : List Loc → Bool
  | [] => false
  | x :: r => overlap l x || meets l r

def anyMeets : List Loc → List Loc → Bool
  | [], _ => false
  | x :: r, l => meets x l || anyMeets r l

def wrLocs : Wr → List Loc
  | [] => []
  | p :: r => p.1 :: wrLocs r

/-- Nothing that one writes does the other read or write. -/
def apart (a b : Fp) : Bool := !anyMeets a.wr b.wr && !anyMeets a.wr b.rd && !anyMeets a.rd b.wr

/-- What an operation waits for, as bits: acc: those of the operations ahead. -/
def bits (acc : List Nat) : List Edge → Nat
  | [] => 0
  | e :: r => match Region.binds .any e with
    | true => (2 ^ e.on ||| nthD 0 acc e.on) ||| bits acc r
    | false => bits acc r

def waits : List Oper → List Nat → List Nat
  | [], acc => acc
  | o :: r, acc => waits r (acc ++ [bits acc o.after.toList])

/-- Each operation waits for elder ones alone. -/
def edgesOk : List Oper → Nat → Bool
  | [], _ => true
  | o :: r, n => (o.after.toList.all fun e => !Region.binds .any e || Nat.blt e.on n) && edgesOk r (n + 1)

/-- Those of the list are apart from f, or f waits for them. -/
def apartAll (w : Nat) (f : Fp) : List Fp → Bool
  | [] => true
  | g :: r => (w.testBit g.ix || apart g f) && apartAll w f r

def anyOps (cx : Cx) (hi : Hi) (ct : CT) (rg : Nat) (gd : Nat → Option Nat) (ws : List Nat) : List Oper → Nat → Nat → List Fp → St → (St → Option Rs) → Option Rs
  | [], _, _, _, s, k => k s
  | o :: r, ix, key, fs, s, k => rdRun ct (opG cx hi rg ix key gd o) s [] fun wr rd =>
    let f : Fp := ⟨ix, rd, wrLocs wr⟩
    match apartAll (nthD 0 ws ix) f fs with
    | true => anyOps cx hi ct rg gd ws r (ix + 1) (key + stride) (f :: fs) (apply wr s) k
    | false => none

def bump (n : Nat) (s : St) : St := { s with nx := s.nx + stride * n }

def dstOf (ops : List Oper) (j : Nat) : Option Nat := nthD none (ops.map fun o => o.dst) j

def region (cx : Cx) (hi : Hi) (ct : CT) (rg : Nat) (ops : List Oper) (draw : Bool) (s : St) (k : St → Option Rs) : Option Rs :=
  match draw with
  | false => seqOps cx hi ct rg (dstOf ops) ops 0 s.nx (bump ops.length s) k
  | true => match edgesOk ops 0 with
    | true => anyOps cx hi ct rg (dstOf ops) (waits ops []) ops 0 s.nx [] (bump ops.length s) k
    | false => none

def lookN {α : Type} : List (Nat × α) → Nat → Option α
  | [], _ => none
  | p :: r, a => match Nat.beq p.1 a with
    | true => some p.2
    | false => lookN r a

/-- What loops answer: an exit's number (0: return; a block's number and one), and what is left. -/
abbrev LT := Nat → List DV → (Rs → Option Rs) → Option Rs

def boxKeys : Nat → List V
  | 0 => []
  | n + 1 => boxKeys n ++ [.one (.ptr n 0 [])]

def boxAs : Nat → List AK
  | 0 => []
  | n + 1 => boxAs n ++ [.one (.p n 0 [])]

def upto : Nat → List Nat
  | 0 => []
  | n + 1 => upto n ++ [n]

/-- The first boxes are the objects 0, 1, .. -/
def kept (nb : Nat) (bs : List Nat) (pay : List DV) : Rd (List DV) :=
  match natsEq (takeN nb bs) (upto nb) with
  | true => .ret pay
  | false => .fail

/-- A signature whose first boxes are the objects 0, 1, .. -/
def Sg.at_ (sg : Sg) (nb : Nat) : Sg := { av := boxAs nb ++ sg.av, bx := sg.bx }

/-- What goes over at a loop's head or exit. -/
def leave (nt nb : Nat) (ct : CT) (sg : Sg) (s : St) (k : List DV → Option Rs) : Option Rs :=
  match Nat.beq s.tm.length nt with
  | true => rdRun ct (mtSg (sg.at_ nb) (boxKeys nb ++ s.tm) fun pay bs _ _ => kept nb bs pay) s [] fun pay _ => k pay
  | false => none

/-! A state, told whole -/
def fN {R : Type} (n : Nat) (k : Nat → R) : R := match n with
  | 0 => k 0
  | m + 1 => k (Nat.succ m)
def fNs {R : Type} : List Nat → (List Nat → R) → R
  | [], k => k []
  | n :: r, k => fN n fun n => fNs r fun r => k (n :: r)
def fC {R : Type} : List Cp → (List Cp → R) → R
  | [], k => k []
  | c :: r, k => fN c.k fun n => fN c.l fun l => fNs c.y fun y => fC r fun r => k (⟨n, l, y⟩ :: r)
def fL {R : Type} (l : L) (k : L → R) : R := match l with
  | .any n => fN n fun n => k (.any n)
  | .dat t v => k (.dat t v)
  | .nn t v => k (.nn t v)
  | .nils => k .nils
  | .nl => k .nl
  | .cst n => fN n fun n => k (.cst n)
  | .oh n a b sz y => fN n fun n => fN sz fun sz => fNs y fun y => k (.oh n a b sz y)
  | .own n => fN n fun n => k (.own n)
  | .suf n off => fN n fun n => k (.suf n off)
  | .mid n off len => fN n fun n => k (.mid n off len)
  | .sla n l m off len => fN n fun n => fN l fun l => fN m fun m => k (.sla n l m off len)
  | .ptr n l y => fN n fun n => fN l fun l => fNs y fun y => k (.ptr n l y)
  | .pta n l m i => fN n fun n => fN l fun l => fN m fun m => k (.pta n l m i)
  | .pte n i l y => fN n fun n => fN l fun l => fNs y fun y => k (.pte n i l y)
  | .rf t v l => fN l fun l => k (.rf t v l)
  | .nilp => k .nilp
  | .fn f c => fN f fun f => fC c fun c => k (.fn f c)
  | .itp n => fN n fun n => k (.itp n)
  | .mpp n => fN n fun n => k (.mpp n)
  | .ifd t vs => fN t fun t => k (.ifd t vs)
  | .ife b => k (.ife b)
def fLs {R : Type} : List L → (List L → R) → R
  | [], k => k []
  | l :: r, k => fL l fun l => fLs r fun r => k (l :: r)
def fV {R : Type} (v : V) (k : V → R) : R := match v with
  | .one l => fL l fun l => k (.one l)
  | .agg ls => fLs ls fun ls => k (.agg ls)
  | .tup vs => k (.tup vs)
def fVs {R : Type} : List V → (List V → R) → R
  | [], k => k []
  | v :: r, k => fV v fun v => fVs r fun r => k (v :: r)
def fO {R : Type} (o : Obj) (k : Obj → R) : R := match o with
  | .dead => k .dead
  | .box ls => fLs ls fun ls => k (.box ls)
  | .arr t xs ro => match ro with
    | true => k (.arr t xs true)
    | false => k (.arr t xs false)
  | .raw r => k (.raw r)
def fOs {R : Type} : List (Nat × Obj) → (List (Nat × Obj) → R) → R
  | [], k => k []
  | p :: r, k => fN p.1 fun n => fO p.2 fun o => fOs r fun r => k ((n, o) :: r)
def fSt {R : Type} (s : St) (k : St → R) : R := fVs s.tm fun tm => fOs s.ob fun ob => fN s.nx fun nx => k { tm := tm, ob := ob, nx := nx }
theorem fN_eq {R : Type} (n : Nat) (k : Nat → R) : fN n k = k n := by cases n <;> rfl
theorem fNs_eq {R : Type} : ∀ (l : List Nat) (k : List Nat → R), fNs l k = k l
  | [], _ => rfl
  | n :: r, k => by simp only [fNs, fN_eq, fNs_eq r]
theorem fC_eq {R : Type} : ∀ (l : List Cp) (k : List Cp → R), fC l k = k l
  | [], _ => rfl
  | c :: r, k => by simp only [fC, fN_eq, fNs_eq, fC_eq r]
theorem fL_eq {R : Type} (l : L) (k : L → R) : fL l k = k l := by cases l <;> simp only [fL, fN_eq, fNs_eq, fC_eq]
theorem fLs_eq {R : Type} : ∀ (l : List L) (k : List L → R), fLs l k = k l
  | [], _ => rfl
  | n :: r, k => by simp only [fLs, fL_eq, fLs_eq r]
theorem fV_eq {R : Type} (v : V) (k : V → R) : fV v k = k v := by cases v <;> simp only [fV, fL_eq, fLs_eq]
theorem fVs_eq {R : Type} : ∀ (l : List V) (k : List V → R), fVs l k = k l
  | [], _ => rfl
  | n :: r, k => by simp only [fVs, fV_eq, fVs_eq r]
theorem fO_eq {R : Type} (o : Obj) (k : Obj → R) : fO o k = k o := by
  cases o with
  | arr t xs ro => cases ro <;> rfl
  | _ => simp only [fO, fLs_eq]
theorem fOs_eq {R : Type} : ∀ (l : List (Nat × Obj)) (k : List (Nat × Obj) → R), fOs l k = k l
  | [], _ => rfl
  | n :: r, k => by simp only [fOs, fN_eq, fO_eq, fOs_eq r]
theorem fSt_eq {R : Type} (s : St) (k : St → R) : fSt s k = k s := by simp only [fSt, fVs_eq, fOs_eq, fN_eq]

/-- Regions that are told have this number added to their own. -/
def told : Nat := 100000
def tails : Nat := 200000
/-- Is what begins with this region told, to its end? -/
def tailT (js : List Nat) : Code → Option Nat
  | .region id _ _ => match memN (id + tails) js with
    | true => some (id + tails)
    | false => none
  | _ => none
def run (cx : Cx) (hi : Hi) (ct : CT) (lt : LT) (nt nb : Nat) : Nat → Code → St → (St → Option Rs) → (Nat → St → Option Rs) → (St → Option Rs) → Option Rs
  | _, .skip, s, kn, _, _ => kn s
  | b, .seq x y, s, kn, ke, kr => match tailT hi.js x with
    | none => run cx hi ct lt nt nb b x s (fun s => run cx hi ct lt nt nb b y s kn ke kr) ke kr
    | some key => match lookN hi.ls key with
      | none => none
      | some l => leave nt nb ct l.h s fun pay => lt key pay fun r =>
        match lookN l.x r.1 with
        | none => none
        | some sg => match mkSt sg nt r.2 with
          | none => none
          | some s => match r.1 with
            | 0 => kr s
            | i + 1 => match Nat.beq i key with
              | true => kn s
              | false => ke i s
  | _, .region id ops draw, s, kn, ke, kr => match memN (id + told) hi.js with
    | false => region cx hi ct id ops.toList draw s fun s => fSt s kn
    | true => match lookN hi.ls (id + told) with
      | none => none
      | some l => leave nt nb ct l.h s fun pay => lt (id + told) pay fun r =>
        match lookN l.x r.1 with
        | none => none
        | some sg => match mkSt sg nt r.2 with
          | none => none
          | some s => match r.1 with
            | 0 => kr s
            | i + 1 => match Nat.beq i (id + told) with
              | true => kn s
              | false => ke i s
  | b, .cond c x y, s, kn, ke, kr => rdRun ct (ev c fun v => .ret v) s [] fun v _ => match v with
    | .one (.dat .bool t) => match t with
      | true => run cx hi ct lt nt nb b x s kn ke kr
      | false => run cx hi ct lt nt nb b y s kn ke kr
    | _ => none
  | _, .block id x, s, kn, ke, kr => match memN id hi.js with
    | false => run cx hi ct lt nt nb id x s kn (fun i s => match Nat.beq i id with
      | true => kn s
      | false => ke i s) kr
    | true => match lookN hi.ls id with
      | none => none
      | some l => leave nt nb ct l.h s fun pay => lt id pay fun r =>
        match lookN l.x r.1 with
        | none => none
        | some sg => match mkSt sg nt r.2 with
          | none => none
          | some s => match r.1 with
            | 0 => kr s
            | i + 1 => match Nat.beq i id with
              | true => kn s
              | false => ke i s
  | b, .loop _, s, _, ke, kr => match memN b hi.js with
    | true => none
    | false => match lookN hi.ls b with
      | none => none
      | some l => leave nt nb ct l.h s fun pay => lt b pay fun r =>
        match lookN l.x r.1 with
        | none => none
        | some sg => match mkSt sg nt r.2 with
          | none => none
          | some s => match r.1 with
            | 0 => kr s
            | i + 1 => ke i s
  | _, .exit id, s, _, ke, _ => ke id s
  | _, .ret, s, _, _, kr => kr s
  | _, _, _, _, _, _ => none

/-- A round of the loop in block b. -/
def round (cx : Cx) (hi : Hi) (ct : CT) (lt : LT) (nt nb : Nat) (b : Nat) (l : LS) (body : Code) (again : List DV → Option Rs) (pay : List DV) : Option Rs :=
  match mkSt l.h nt pay with
  | none => none
  | some s => run cx hi ct lt nt nb b body s
    (fun s => leave nt nb ct l.h s again)
    (fun i s => match lookN l.x (i + 1) with
      | none => none
      | some sg => leave nt nb ct sg s fun pay => some (i + 1, pay))
    (fun s => match lookN l.x 0 with
      | none => none
      | some sg => leave nt nb ct sg s fun pay => some (0, pay))

/-- What leaves a piece that is told: by its own end, by an exit, by a return. -/
def blockX (nt nb : Nat) (ct : CT) (l : LS) (i : Nat) (s : St) : Option Rs :=
  match lookN l.x (i + 1) with
  | none => none
  | some sg => leave nt nb ct sg s fun pay => some (i + 1, pay)
def blockE (nt nb : Nat) (ct : CT) (l : LS) (key i : Nat) (s : St) : Option Rs := match Nat.beq i key with
  | true => none
  | false => blockX nt nb ct l i s
/-- A piece that is told: a block, a region, what begins with a region. -/
def blockR (cx : Cx) (hi : Hi) (ct : CT) (lt : LT) (nt nb : Nat) (b key : Nat) (l : LS) (code : Code) (pay : List DV) : Option Rs :=
  match mkSt l.h nt pay with
  | none => none
  | some s => match code with
    | .block id x => run cx hi ct lt nt nb id x s (blockX nt nb ct l key) (fun i s => match Nat.beq i id with
      | true => blockX nt nb ct l key s
      | false => blockE nt nb ct l key i s)
      (fun s => match lookN l.x 0 with
        | none => none
        | some sg => leave nt nb ct sg s fun pay => some (0, pay))
    | .region id ops draw => region cx hi ct id ops.toList draw s fun s => fSt s (blockX nt nb ct l key)
    | .seq x y =>
      let kr := fun s => match lookN l.x 0 with
        | none => none
        | some sg => leave nt nb ct sg s fun pay => some (0, pay)
      run cx hi ct lt nt nb b x s (fun s => run cx hi ct lt nt nb b y s (blockX nt nb ct l key) (blockE nt nb ct l key) kr) (blockE nt nb ct l key) kr
    | _ => none

def iter (f : (List DV → Option Rs) → List DV → Option Rs) : Nat → List DV → Option Rs
  | 0, _ => none
  | n + 1, p => f (iter f n) p

/-- The results, out of their slots and variables. -/
def results {α : Type} (cx : Cx) : List ResultVar → (List V → Rd α) → Rd α
  | [], k => k []
  | .tmp t :: r, k => .get (.tmp t) fun
    | .v x => results cx r fun q => k (x :: q)
    | _ => .fail
  | .cell a t :: r, k => cx.t t fun t => .get (.tmp a) fun
    | .v (.one (.ptr n l _)) => rdLs n t.lay.length l fun ls => match natsEq (sizes ls) t.lay, toV t ls with
      | true, some v => results cx r fun q => k (v :: q)
      | _, _ => .fail
    | _ => .fail

/-- The end of a function: its results, and its boxes. nb: how many boxes came in. -/
def finish (cx : Cx) (ct : CT) (rv : List ResultVar) (nb : Nat) (r : List AK) (ob : List (List LK)) (s : St) : Option Rs :=
  rdRun ct (results cx rv fun vs => mtSg { av := boxAs nb ++ r, bx := ob } (boxKeys nb ++ vs) fun pay bs _ _ => kept nb bs pay) s [] fun pay _ => some (0, pay)

def den (cx : Cx) (hi : Hi) (ct : CT) (lt : LT) (fn : Func) (c : Code) (i : Sg) (r : List AK) (ob : List (List LK)) (pay : List DV) : Option Rs :=
  match mkSt i fn.ntmps pay, Nat.ble i.av.length fn.ntmps && Nat.beq ob.length i.bx.length with
  | some s, true => run cx hi ct lt fn.ntmps i.bx.length 0 c s (finish cx ct fn.results.toList i.bx.length r ob) (fun _ _ => none) (finish cx ct fn.results.toList i.bx.length r ob)
  | _, _ => none
end Go.Proofs.Zs
