/- The words of an abstract run of a Go function over plain data: types of plain data, leaves, objects, signatures, operations, code. Definitions only. -/
import Derived.Orders
set_option linter.unusedSimpArgs false
set_option linter.unusedVariables false
namespace Go.Proofs.Zz
open Go

/-- Types of plain data. -/
inductive Ty where
  | int (k : IntKind) | bool | str | unit | pair (a b : Ty) | ar (n : Nat) (a : Ty) | sl (a : Ty) | nl
  deriving DecidableEq

@[reducible] def Den : Ty → Type
  | .int _ => Int
  | .bool => Bool
  | .str => ByteArray
  | .unit => Unit
  | .pair a b => Den a × Den b
  | .ar _ a => List (Den a)
  | .sl a => List (Den a)
  | .nl => Unit

def zeroD : (t : Ty) → Den t
  | .int _ => (0 : Int)
  | .bool => false
  | .str => ByteArray.empty
  | .unit => ()
  | .pair a b => (zeroD a, zeroD b)
  | .ar n a => List.replicate n (zeroD a)
  | .sl _ => []
  | .nl => ()

/-- Types held against each other, quickly. -/
def kEq : IntKind → IntKind → Bool
  | .i8, .i8 => true
  | .i16, .i16 => true
  | .i32, .i32 => true
  | .i64, .i64 => true
  | .u8, .u8 => true
  | .u16, .u16 => true
  | .u32, .u32 => true
  | .u64, .u64 => true
  | _, _ => false
def tyEq : Ty → Ty → Bool
  | .int k, .int j => kEq k j
  | .bool, .bool => true
  | .str, .str => true
  | .unit, .unit => true
  | .pair a b, .pair c d => match tyEq a c with
    | true => tyEq b d
    | false => false
  | .ar n a, .ar m b => match Nat.beq n m with
    | true => tyEq a b
    | false => false
  | .sl a, .sl b => tyEq a b
  | .nl, .nl => true
  | _, _ => false
theorem kEq_spec {k j : IntKind} (h : kEq k j = true) : k = j := by cases k <;> cases j <;> first | rfl | simp [kEq] at h
theorem kEq_refl (k : IntKind) : kEq k k = true := by cases k <;> rfl
theorem tyEq_spec : ∀ {t u : Ty}, tyEq t u = true → t = u := by
  intro t
  induction t with
  | int k => intro u h; cases u <;> simp only [tyEq, Bool.false_eq_true] at h; rw [kEq_spec h]
  | pair a b iha ihb =>
    intro u h
    cases u <;> simp only [tyEq, Bool.false_eq_true] at h
    split at h
    · rename_i h1; rw [iha h1, ihb h]
    · simp at h
  | ar n a ih =>
    intro u h
    cases u <;> simp only [tyEq, Bool.false_eq_true] at h
    split at h
    · rename_i h1; rw [Nat.eq_of_beq_eq_true h1, ih h]
    · simp at h
  | sl a ih => intro u h; cases u <;> simp only [tyEq, Bool.false_eq_true] at h; rw [ih h]
  | _ => intro u h; cases u <;> first | rfl | simp [tyEq] at h
theorem tyEq_refl : ∀ t : Ty, tyEq t t = true := by
  intro t
  induction t with
  | int k => exact kEq_refl k
  | pair a b iha ihb => simp only [tyEq, iha, ihb]
  | ar n a ih => simp only [tyEq, Nat.beq_refl, ih]
  | sl a ih => simp only [tyEq, ih]
  | _ => rfl
@[simp] theorem tyEq_iff {t u : Ty} : tyEq t u = true ↔ t = u := ⟨tyEq_spec, fun h => by rw [h]; exact tyEq_refl u⟩
/-- By the equality of two types. -/
def tyc {α : Type} (t u : Ty) (k : t = u → α) (e : α) : α :=
  match h : tyEq t u with
  | true => k (tyEq_spec h)
  | false => e
theorem tyc_same {α : Type} {t : Ty} {k : t = t → α} {e : α} : tyc t t k e = k rfl := by
  unfold tyc
  split
  · rfl
  · rename_i h; rw [tyEq_refl] at h; simp at h
theorem tyc_or {α : Type} {t u : Ty} {k : t = u → α} {e : α} : (∃ h : t = u, tyc t u k e = k h) ∨ tyc t u k e = e := by
  unfold tyc
  split
  · rename_i h; exact .inl ⟨tyEq_spec h, rfl⟩
  · exact .inr rfl

/-- How many cells a value takes. -/
def Ty.sz : Ty → Nat
  | .int _ | .bool | .str | .sl _ | .nl => 1
  | .unit => 0
  | .pair a b => a.sz + b.sz
  | .ar n a => n * a.sz

/-- A place in a box: at its l-th leaf, what lies there having leaves of these sizes. -/
structure Cp where
  k : Nat
  l : Nat
  y : List Nat

/-- A leaf: what one place of a variable holds. -/
inductive L where
  | any (n : Nat)
  | dat (t : Ty) (v : Den t)
  | nn (t : Ty) (v : List (Den t))
  | nils
  | nl
  | cst (k : Nat)
  | oh (k : Nat) (n i : Int) (sz : Nat) (y : List Nat)
  | own (k : Nat)
  | suf (k off : Nat)
  | mid (k off len : Nat)
  | sla (k l m off len : Nat)
  | ptr (k l : Nat) (y : List Nat)
  | pta (k l n i : Nat)
  | pte (k i l : Nat) (y : List Nat)
  | rf (t : Ty) (v : Den t) (l : Nat)
  | nilp
  | fn (f : Nat) (caps : List Cp)

inductive V where
  | one (l : L)
  | agg (ls : List L)
  | tup (vs : List V)

inductive Obj where
  | dead
  | box (ls : List L)
  | arr (t : Ty) (xs : List (Den t)) (ro : Bool)

structure DV where
  t : Ty
  v : Den t

inductive Loc where
  | tmp (t : Nat)
  | lf (k l : Nat)
  | ob (k : Nat)

inductive Cn where
  | v (x : V)
  | l (x : L)
  | o (x : Obj)

structure St where
  tm : List V
  ob : List (Nat × Obj)
  nx : Nat

def bad : V := .one (.any 1)

def lookO : List (Nat × Obj) → Nat → Obj
  | [], _ => .dead
  | p :: r, k => match Nat.beq p.1 k with
    | true => p.2
    | false => lookO r k

def putO : List (Nat × Obj) → Nat → Obj → List (Nat × Obj)
  | [], k, o => [(k, o)]
  | p :: r, k, o => match Nat.beq p.1 k with
    | true => (k, o) :: r
    | false => p :: putO r k o

def nthD {α : Type} (d : α) : List α → Nat → α
  | [], _ => d
  | x :: _, 0 => x
  | _ :: r, n + 1 => nthD d r n

def nthO {α : Type} : List α → Nat → Option α
  | [], _ => none
  | x :: _, 0 => some x
  | _ :: r, n + 1 => nthO r n

def setN {α : Type} : List α → Nat → α → List α
  | [], _, _ => []
  | _ :: r, 0, y => y :: r
  | x :: r, n + 1, y => x :: setN r n y

def look (s : St) : Loc → Cn
  | .tmp t => .v (nthD bad s.tm t)
  | .lf k l => match lookO s.ob k with
    | .box ls => match nthO ls l with
      | some x => .l x
      | none => .o .dead
    | o => .o o
  | .ob k => .o (lookO s.ob k)

def asg (s : St) : Loc → Cn → St
  | .tmp t, .v x => { s with tm := setN s.tm t x }
  | .lf k l, .l x => match lookO s.ob k with
    | .box ls => { s with ob := putO s.ob k (.box (setN ls l x)) }
    | _ => s
  | .ob k, .o x => { s with ob := putO s.ob k x }
  | _, _ => s

/-- What an operation asks of a state, and answers. -/
inductive Rd (α : Type) where
  | ret (a : α)
  | fail
  | get (l : Loc) (k : Cn → Rd α)
  | ite (b : Bool) (t e : Rd α)
  | call (f : Nat) (pay : List DV) (k : List DV → Rd α)

abbrev Rs := Nat × List DV
/-- What calls answer. -/
abbrev CT := Nat → List DV → (List DV → Option Rs) → Option Rs

def rdRun (ct : CT) {α : Type} : Rd α → St → List Loc → (α → List Loc → Option Rs) → Option Rs
  | .ret a, _, ls, k => k a ls
  | .fail, _, _, _ => none
  | .get l f, s, ls, k => rdRun ct (f (look s l)) s (l :: ls) k
  | .ite b t e, s, ls, k => match b with
    | true => rdRun ct t s ls k
    | false => rdRun ct e s ls k
  | .call f p g, s, ls, k => ct f p fun r => rdRun ct (g r) s ls k

def Rd.bind {α β : Type} : Rd α → (α → Rd β) → Rd β
  | .ret a, f => f a
  | .fail, _ => .fail
  | .get l k, f => .get l fun c => (k c).bind f
  | .ite b t e, f => .ite b (t.bind f) (e.bind f)
  | .call g p k, f => .call g p fun r => (k r).bind f

abbrev Wr := List (Loc × Cn)

def apply : Wr → St → St
  | [], s => s
  | p :: r, s => apply r (asg s p.1 p.2)

/-! Types of the program -/
inductive TD where
  | int (k : IntKind) | bool | str | struct | array | slice | ptr | func | other

/-- A leaf's zero value. -/
inductive ZK where
  | d (t : Ty) | nils | nilp | any (n : Nat)

def ZK.l : ZK → L
  | .d t => .dat t (zeroD t)
  | .nils => .nils
  | .nilp => .nilp
  | .any n => .any n

structure TI where
  td : TD := .other
  /-- The leaves' sizes. -/
  lay : List Nat := []
  /-- A struct's field: at which leaf it begins, its leaves' sizes. -/
  fl : List (Nat × List Nat) := []
  /-- Is a field a struct or an array? -/
  fg : List Bool := []
  /-- An array's length; of which plain type elements are, how many bytes they take. -/
  n : Nat := 0
  ety : Ty := .unit
  eby : Nat := 0
  zk : List ZK := []
  /-- The leaves' types, if values may be held against each other. -/
  eqt : Option (List Ty) := none

def zs : List ZK → List L
  | [] => []
  | k :: r => k.l :: zs r

def TI.agg (t : TI) : Bool := match t.td with
  | .struct | .array => true
  | _ => false

/-! Signatures -/
inductive LK where
  | any (n : Nat)
  | d (t : Ty)
  | o (t : Ty)
  | r (t : Ty)
  | p (j l : Nat) (y : List Nat)
  | f (f : Nat) (caps : List Cp)
  | np
  | cst (j : Nat)
  | oh (j sz : Nat) (y : List Nat)

inductive AK where
  | no
  | one (k : LK)
  | agg (ks : List LK)

structure Sg where
  av : List AK
  bx : List (List LK)

/-- What is told of each call's callee: its number in the table of calls, what goes in, what comes out. -/
structure CS where
  id : Nat
  fn : Nat
  i : Sg
  r : List AK
  one : Bool
  ob : List (List LK)

structure LS where
  /-- At the head. -/
  h : Sg
  /-- At each exit: the block's number and one (0: return). -/
  x : List (Nat × Sg)

/-- What is told of a function: the callees, by the operation's region and place; the loops, by the block within; which slots' truth values are parted at once. -/
structure Hi where
  cs : List ((Nat × Nat) × CS)
  ls : List (Nat × LS)
  sp : List Nat

structure Cx where
  ti : Nat → Option TI

def Cx.t {α : Type} (cx : Cx) (t : Nat) (k : TI → Rd α) : Rd α :=
  match cx.ti t with
  | some i => k i
  | none => .fail

/-! Leaves and plain data -/
def unpk : (t : Ty) → Den t → List L
  | .unit, _ => []
  | .pair a b, v => unpk a v.1 ++ unpk b v.2
  | .int k, v => [.dat (.int k) v]
  | .bool, v => [.dat .bool v]
  | .str, v => [.dat .str v]
  | .ar n a, v => [.dat (.ar n a) v]
  | .sl a, v => [.dat (.sl a) v]
  | .nl, v => [.dat .nl v]

def L.size : L → Nat
  | .any n => n
  | .dat t _ => t.sz
  | _ => 1

def sizes : List L → List Nat
  | [] => []
  | l :: r => l.size :: sizes r

def natsEq : List Nat → List Nat → Bool
  | [], [] => true
  | a :: r, b :: q => match Nat.beq a b with
    | true => natsEq r q
    | false => false
  | _, _ => false

def scalar : Ty → Bool
  | .int _ | .bool => true
  | _ => false

/-- A datum of one type as one of another, which is the same. -/
def cast? {α : Type} (t u : Ty) (v : Den t) (k : Den u → Rd α) : Rd α :=
  tyc t u (fun h => k (h ▸ v)) .fail

def castL? {α : Type} (t u : Ty) (v : List (Den t)) (k : List (Den u) → Rd α) : Rd α :=
  tyc t u (fun h => k (h ▸ v)) .fail

/-- A slice's elements. -/
def slD {α : Type} (a : Ty) (l : L) (bw : List Nat) (k : List (Den a) → List Nat → Rd α) : Rd α :=
  match l with
  | .dat (.sl t) v => castL? t a v fun xs => k xs bw
  | .nn t v => castL? t a v fun xs => k xs bw
  | .nils => k [] bw
  | .own n => .get (.ob n) fun
    | .o (.arr t xs _) => castL? t a xs fun xs => k xs (n :: bw)
    | _ => .fail
  | .suf n off => .get (.ob n) fun
    | .o (.arr t xs _) => castL? t a xs fun xs => k (xs.drop off) (n :: bw)
    | _ => .fail
  | .mid n off len => .get (.ob n) fun
    | .o (.arr t xs _) => castL? t a xs fun xs => k ((xs.drop off).take len) (n :: bw)
    | _ => .fail
  | .sla n l m off len => .get (.lf n l) fun
    | .l (.dat (.ar m' t) v) => match Nat.beq m m' && scalar t with
      | true => castL? t a v fun xs => k ((xs.drop off).take len) (n :: bw)
      | false => .fail
    | _ => .fail
  | _ => .fail

/-- Leaves as a datum. -/
def pk {α : Type} : (t : Ty) → List L → List Nat → (Den t → List L → List Nat → Rd α) → Rd α
  | .unit, ls, bw, k => k () ls bw
  | .pair a b, ls, bw, k => pk a ls bw fun x r bw => pk b r bw fun y q bw => k (x, y) q bw
  | .sl a, l :: r, bw, k => slD a l bw fun xs bw => k xs r bw
  | .int i, .dat t v :: r, bw, k => cast? t (.int i) v fun x => k x r bw
  | .bool, .dat t v :: r, bw, k => cast? t .bool v fun x => k x r bw
  | .str, .dat t v :: r, bw, k => cast? t .str v fun x => k x r bw
  | .ar n a, .dat t v :: r, bw, k => cast? t (.ar n a) v fun x => k x r bw
  | .nl, .dat t v :: r, bw, k => cast? t .nl v fun x => k x r bw
  | .nl, .nils :: r, bw, k => k () r bw
  | _, _, _, _ => .fail

def V.ls : V → List L
  | .one l => [l]
  | .agg ls => ls
  | .tup _ => []

/-! Matching of a state with a signature -/
structure M where
  bx : List (Option Nat)
  pay : List DV
  /-- Slices that go over; those that are but read. -/
  tk : List Nat
  bw : List Nat

def memN (k : Nat) : List Nat → Bool
  | [] => false
  | x :: r => match Nat.beq x k with
    | true => true
    | false => memN k r

/-- Box j of the signature is object k. -/
def bindB (m : M) (j k : Nat) : Option M :=
  match nthO m.bx j with
  | some (some k') => match Nat.beq k' k with
    | true => some m
    | false => none
  | some none => some { m with bx := setN m.bx j (some k) }
  | none => none

def bindBs (m : M) : List Cp → List Cp → Option M
  | [], [] => some m
  | c :: r, c' :: q => match Nat.beq c.l c'.l && natsEq c.y c'.y with
    | true => match bindB m c.k c'.k with
      | some m => bindBs m r q
      | none => none
    | false => none
  | _, _ => none

def mtO {α : Type} (a : Ty) (l : L) (m : M) (k : M → Rd α) : Rd α :=
  let take (n : Nat) (f : List (Den a) → List (Den a)) : Rd α :=
    match memN n m.tk with
    | true => .fail
    | false => .get (.ob n) fun
      | .o (.arr t xs false) => castL? t a xs fun xs => k { m with pay := ⟨.sl a, f xs⟩ :: m.pay, tk := n :: m.tk }
      | _ => .fail
  match l with
  | .own n => take n fun xs => xs
  | .suf n off => take n fun xs => xs.drop off
  | .mid n off len => take n fun xs => (xs.drop off).take len
  | .nils => k { m with pay := ⟨.sl a, ([] : List (Den a))⟩ :: m.pay }
  | _ => .fail

/-- n leaves of box k from the l-th on. -/
def rdLs {α : Type} (k : Nat) : Nat → Nat → (List L → Rd α) → Rd α
  | 0, _, f => f []
  | n + 1, l, f => .get (.lf k l) fun
    | .l x => rdLs k n (l + 1) fun r => f (x :: r)
    | _ => .fail

def takeN {α : Type} : Nat → List α → List α
  | 0, _ => []
  | _ + 1, [] => []
  | n + 1, x :: r => x :: takeN n r

def dropN {α : Type} : Nat → List α → List α
  | 0, l => l
  | _ + 1, [] => []
  | n + 1, _ :: r => dropN n r

/-- A pointer whose datum is but read. -/
def mtR {α : Type} (t : Ty) (l : L) (m : M) (k : M → Rd α) : Rd α :=
  let n := (sizes (unpk t (zeroD t))).length
  let out (ls : List L) (bw : List Nat) : Rd α := pk t ls bw fun v r bw => match r with
    | [] => k { m with pay := ⟨t, v⟩ :: m.pay, bw := bw }
    | _ => .fail
  match l with
  | .ptr b l _ => match Nat.beq n 0 with
    | true => .fail
    | false => rdLs b n l fun ls => out ls (b :: m.bw)
  | .pte b i l _ => .get (.ob b) fun
    | .o (.arr a xs _) => out (takeN n (dropN l (unpk a (xs.getD i (zeroD a))))) (b :: m.bw)
    | _ => .fail
  | .rf a v l => out (takeN n (dropN l (unpk a v))) m.bw
  | _ => .fail

def mtLs {α : Type} : List LK → List L → M → (M → Rd α) → Rd α
  | [], [], m, k => k m
  | .any n :: ks, l :: ls, m, k => match Nat.beq l.size n with
    | true => mtLs ks ls m k
    | false => .fail
  | .d t :: ks, ls, m, k => pk t ls m.bw fun v r bw => mtLs ks r { m with pay := ⟨t, v⟩ :: m.pay, bw := bw } k
  | .o a :: ks, l :: ls, m, k => mtO a l m fun m => mtLs ks ls m k
  | .r t :: ks, l :: ls, m, k => mtR t l m fun m => mtLs ks ls m k
  | .p j l' y' :: ks, .ptr n l y :: ls, m, k => match Nat.beq l l' && natsEq y y' with
    | true => match bindB m j n with
      | some m => mtLs ks ls m k
      | none => .fail
    | false => .fail
  | .f g cs :: ks, .fn g' cs' :: ls, m, k => match Nat.beq g g' with
    | true => match bindBs m cs cs' with
      | some m => mtLs ks ls m k
      | none => .fail
    | false => .fail
  | .np :: ks, .nilp :: ls, m, k => mtLs ks ls m k
  | .oh j sz y :: ks, .oh q n i sz' y' :: ls, m, k => match Nat.beq sz sz' && natsEq y y' with
    | true => match bindB m j q with
      | some m => mtLs ks ls { m with pay := ⟨.int .i64, i⟩ :: ⟨.int .i64, n⟩ :: m.pay } k
      | none => .fail
    | false => .fail
  | .cst j :: ks, .cst n :: ls, m, k => match bindB m j n with
    | some m => mtLs ks ls m k
    | none => .fail
  | _, _, _, _ => .fail

def mtAs {α : Type} : List AK → List V → M → (M → Rd α) → Rd α
  | [], _, m, k => k m
  | .no :: as, _ :: vs, m, k => mtAs as vs m k
  | .one (.any _) :: as, .one _ :: vs, m, k => mtAs as vs m k
  | .one _ :: _, .one (.any _) :: _, _, _ => .fail
  | .one x :: as, .one l :: vs, m, k => mtLs [x] [l] m fun m => mtAs as vs m k
  | .agg xs :: as, .agg ls :: vs, m, k => mtLs xs ls m fun m => mtAs as vs m k
  | _, _, _, _ => .fail

def mtBx {α : Type} : List (List LK) → Nat → M → (M → Rd α) → Rd α
  | [], _, m, k => k m
  | ks :: r, j, m, k => match nthD none m.bx j with
    | some n => .get (.ob n) fun
      | .o (.box ls) => mtLs ks ls m fun m => mtBx r (j + 1) m k
      | _ => .fail
    | none => .fail

def nones : Nat → List (Option Nat)
  | 0 => []
  | n + 1 => none :: nones n

def distinct : List Nat → Bool
  | [] => true
  | x :: r => match memN x r with
    | true => false
    | false => distinct r

def disj : List Nat → List Nat → Bool
  | [], _ => true
  | x :: r, l => match memN x l with
    | true => false
    | false => disj r l

def somes : List (Option Nat) → Option (List Nat)
  | [] => some []
  | some x :: r => match somes r with
    | some q => some (x :: q)
    | none => none
  | none :: _ => none

/-- The payload (in order), the boxes' keys, what was taken, what is but read. -/
def mtSg {α : Type} (sg : Sg) (vs : List V) (k : List DV → List Nat → List Nat → List Nat → Rd α) : Rd α :=
  mtAs sg.av vs { bx := nones sg.bx.length, pay := [], tk := [], bw := [] } fun m =>
  mtBx sg.bx 0 m fun m =>
  match somes m.bx with
  | some bs => match distinct bs && disj m.tk m.bw && disj bs m.bw with
    | true => k m.pay.reverse bs m.tk m.bw
    | false => .fail
  | none => .fail

/-! A state made of a signature and a payload -/
structure B where
  pay : List DV
  nx : Nat
  ob : List (Nat × Obj)
  nb : Nat

def blL (k : LK) (ren : Nat → Nat) (b : B) : Option (List L × B) :=
  match k with
  | .any n => some ([.any n], b)
  | .d t => match b.pay with
    | ⟨u, v⟩ :: r => tyc u t (fun h => some (unpk t (h ▸ v), { b with pay := r })) none
    | [] => none
  | .o a => match b.pay with
    | ⟨.sl u, xs⟩ :: r => tyc u a (fun h => some ([.own b.nx], { b with pay := r, nx := b.nx + 1, ob := (b.nx, .arr a (h ▸ xs) false) :: b.ob })) none
    | _ => none
  | .r t => match b.pay with
    | ⟨u, v⟩ :: r => tyc u t (fun h => some ([.rf t (h ▸ v) 0], { b with pay := r })) none
    | [] => none
  | .p j l y => match Nat.blt j b.nb with
    | true => some ([.ptr (ren j) l y], b)
    | false => none
  | .f g cs => match cs.all fun c => Nat.blt c.k b.nb with
    | true => some ([.fn g (cs.map fun c => ⟨ren c.k, c.l, c.y⟩)], b)
    | false => none
  | .np => some ([.nilp], b)
  | .oh j sz y => match Nat.blt j b.nb with
    | true => match b.pay with
      | ⟨.int .i64, n⟩ :: ⟨.int .i64, i⟩ :: r => some ([.oh (ren j) n i sz y], { b with pay := r })
      | _ => none
    | false => none
  | .cst j => match Nat.blt j b.nb with
    | true => some ([.cst (ren j)], b)
    | false => none

def blLs (ren : Nat → Nat) : List LK → B → Option (List L × B)
  | [], b => some ([], b)
  | k :: r, b => match blL k ren b with
    | some (l, b) => match blLs ren r b with
      | some (q, b) => some (l ++ q, b)
      | none => none
    | none => none

def blA (ren : Nat → Nat) : AK → B → Option (V × B)
  | .no, b => some (bad, b)
  | .one k, b => match blL k ren b with
    | some ([l], b) => some (.one l, b)
    | _ => none
  | .agg ks, b => match blLs ren ks b with
    | some (ls, b) => some (.agg ls, b)
    | none => none

def blAs (ren : Nat → Nat) : List AK → B → Option (List V × B)
  | [], b => some ([], b)
  | a :: r, b => match blA ren a b with
    | some (v, b) => match blAs ren r b with
      | some (q, b) => some (v :: q, b)
      | none => none
    | none => none

/-- Boxes anew: their contents. -/
def blBs (ren : Nat → Nat) : List (List LK) → Nat → B → Option (List (Nat × List L) × B)
  | [], _, b => some ([], b)
  | ks :: r, j, b => match blLs ren ks b with
    | some (ls, b) => match blBs ren r (j + 1) b with
      | some (q, b) => some ((ren j, ls) :: q, b)
      | none => none
    | none => none

def boxes : List (Nat × List L) → List (Nat × Obj)
  | [] => []
  | p :: r => (p.1, .box p.2) :: boxes r

def bads : Nat → List V
  | 0 => []
  | n + 1 => bad :: bads n

/-- The state of a signature: boxes are objects 0, 1, .., slices those behind. -/
def mkSt (sg : Sg) (n : Nat) (pay : List DV) : Option St :=
  match blAs (fun j => j) sg.av { pay := pay, nx := sg.bx.length, ob := [], nb := sg.bx.length } with
  | some (vs, b) => match blBs (fun j => j) sg.bx 0 b with
    | some (bx, b) => match b.pay with
      | [] => some { tm := vs ++ bads (n - vs.length), ob := boxes bx ++ b.ob, nx := b.nx }
      | _ => none
    | none => none
  | none => none
end Go.Proofs.Zz
