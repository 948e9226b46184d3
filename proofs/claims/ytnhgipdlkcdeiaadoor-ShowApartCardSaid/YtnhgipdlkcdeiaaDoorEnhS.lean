import Derived.Test.YtnhgipdlkcdeiaaDoorEnhH
set_option linter.unusedSimpArgs false
set_option linter.unusedVariables false
/- Payloads taken apart in groups: whole structs as one. -/
set_option linter.unusedVariables false
set_option linter.unusedSimpArgs false
namespace Go.Proofs.Zs
open Go
def ofTq : (ts : List Ty) → Tup ts → List DV → List DV
  | [], _, q => q
  | t :: ts, y, q => ⟨t, y.1⟩ :: ofTq ts y.2 q
noncomputable def unT {X : Type} : (ts : List Ty) → List DV → (Tup ts → List DV → Option X) → Option X
  | [], p, k => k () p
  | t :: ts, p, k => un t p fun y p => unT ts p fun z q => k (y, z) q
/-- A group of data: what stands for several of them. -/
structure Gp (α : Type) where
  ts : List Ty
  to : Tup ts → α
  of : α → Tup ts
  to_of : ∀ a, to (of a) = a
  of_to : ∀ y, of (to y) = y
  dv : α → List DV → List DV
  un : {X : Type} → List DV → (α → List DV → Option X) → Option X
  dv_eq : ∀ a q, dv a q = ofTq ts (of a) q
  un_eq : ∀ {X : Type} (p : List DV) (k : α → List DV → Option X), un p k = unT ts p fun y q => k (to y) q
structure PG where
  α : Type
  g : Gp α
theorem un_eq {X : Type} {t : Ty} {v : Den t} {q : List DV} {k : Den t → List DV → Option X} : un t (⟨t, v⟩ :: q) k = k v q := by
  unfold un
  simp only [tyc_same]
theorem unT_of {X : Type} : ∀ (ts : List Ty) (y : Tup ts) (q : List DV) (k : Tup ts → List DV → Option X), unT ts (ofTq ts y q) k = k y q
  | [], y, q, k => rfl
  | t :: ts, y, q, k => by
    simp only [unT, ofTq]
    rw [un_eq, unT_of ts]
theorem unT_some {X : Type} : ∀ {ts : List Ty} {p : List DV} {k : Tup ts → List DV → Option X} {x : X}, unT ts p k = some x → ∃ y q, p = ofTq ts y q ∧ k y q = some x
  | [], p, k, x, h => ⟨(), p, rfl, h⟩
  | t :: ts, p, k, x, h => by
    simp only [unT] at h
    obtain ⟨y, q, rfl, h'⟩ := un_some h
    obtain ⟨z, q, rfl, h''⟩ := unT_some h'
    exact ⟨(y, z), q, rfl, h''⟩
theorem Gp.un_dv {X α : Type} (g : Gp α) (a : α) (q : List DV) (k : α → List DV → Option X) : g.un (g.dv a q) k = k a q := by
  rw [g.un_eq, g.dv_eq, unT_of, g.to_of]
theorem Gp.un_some {X α : Type} {g : Gp α} {p : List DV} {k : α → List DV → Option X} {x : X} (h : g.un p k = some x) : ∃ a q, p = g.dv a q ∧ k a q = some x := by
  rw [g.un_eq] at h
  obtain ⟨y, q, rfl, h'⟩ := unT_some h
  exact ⟨g.to y, q, by rw [g.dv_eq, g.of_to], h'⟩
/-- One datum. -/
noncomputable def gD (t : Ty) : Gp (Den t) := ⟨[t], fun y => y.1, fun a => (a, ()), fun _ => rfl, fun _ => rfl, fun a q => ⟨t, a⟩ :: q, fun p k => Zs.un t p k, fun _ _ => rfl, fun _ _ => rfl⟩
@[reducible] def Fn' (X : Type) : List PG → Type
  | [] => X
  | g :: r => g.α → Fn' X r
@[reducible] def TupG : List PG → Type
  | [] => Unit
  | g :: r => g.α × TupG r
def dvG : (l : List PG) → TupG l → List DV
  | [], _ => []
  | g :: r, y => g.g.dv y.1 (dvG r y.2)
def apG {X : Type} : (l : List PG) → Fn' X l → TupG l → X
  | [], e, _ => e
  | _ :: r, e, y => apG r (e y.1) y.2
noncomputable def gg {X : Type} : (l : List PG) → Fn' (Option X) l → List DV → Option X
  | [], k, p => un0 p k
  | g :: r, k, p => g.g.un p fun a q => gg r (k a) q
def cK {X : Type} : (l : List PG) → (List DV → X) → Fn' X l
  | [], K => K []
  | g :: r, K => fun a => cK r fun q => K (g.g.dv a q)
def mapG {X Y : Type} (f : X → Y) : (l : List PG) → Fn' X l → Fn' Y l
  | [], e => f e
  | g :: r, e => fun a => mapG f r (e a)
def conG {X : Type} (x : X) : (l : List PG) → Fn' X l
  | [] => x
  | _ :: r => fun _ => conG x r
@[simp] theorem gg_dv {X α : Type} (g : Gp α) (r : List PG) (k : Fn' (Option X) (⟨α, g⟩ :: r)) (a : α) (q : List DV) : gg (⟨α, g⟩ :: r) k (g.dv a q) = gg r (k a) q := g.un_dv a q _
@[simp] theorem gg_nil {X : Type} (k : Option X) : gg [] k [] = k := rfl
theorem gg_cK {X : Type} : ∀ {l : List PG} {p : List DV} {K : List DV → Option X} {x : X}, gg l (cK l K) p = some x → K p = some x
  | [], p, K, x, h => by
    simp only [gg, cK] at h
    obtain ⟨rfl, h⟩ := un0_some h
    exact h
  | g :: r, p, K, x, h => by
    simp only [gg, cK] at h
    obtain ⟨a, q, rfl, h'⟩ := Gp.un_some h
    exact gg_cK (K := fun q => K (g.g.dv a q)) h'
theorem gg_app {X : Type} : ∀ {l : List PG} {p : List DV} {k : Fn' (Option X) l} {x : X}, gg l k p = some x → ∃ ys : TupG l, p = dvG l ys ∧ apG l k ys = some x
  | [], p, k, x, h => by
    simp only [gg] at h
    obtain ⟨rfl, h⟩ := un0_some h
    exact ⟨(), rfl, h⟩
  | g :: r, p, k, x, h => by
    simp only [gg] at h
    obtain ⟨a, q, rfl, h'⟩ := Gp.un_some h
    obtain ⟨ys, rfl, h''⟩ := gg_app h'
    exact ⟨(a, ys), rfl, h''⟩
theorem apG_map {X Y : Type} {f : X → Y} : ∀ {l : List PG} {e : Fn' X l} {ys : TupG l}, apG l (mapG f l e) ys = f (apG l e ys)
  | [], _, _ => rfl
  | _ :: r, e, ys => apG_map (l := r)
theorem apG_con {X : Type} (x : X) : ∀ (l : List PG) (ys : TupG l), apG l (conG x l) ys = x
  | [], _ => rfl
  | _ :: r, ys => apG_con x r ys.2
theorem apG_cK {X : Type} : ∀ (l : List PG) (K : List DV → X) (ys : TupG l), apG l (cK l K) ys = K (dvG l ys)
  | [], _, _ => rfl
  | g :: r, K, ys => apG_cK r (fun q => K (g.g.dv ys.1 q)) ys.2
theorem fn'_ext {X : Type} : ∀ {l : List PG} {f g : Fn' X l}, (∀ ys, apG l f ys = apG l g ys) → f = g
  | [], _, _, h => h ()
  | _ :: r, _, _, h => funext fun y => fn'_ext (l := r) fun ys => h (y, ys)
/-- A function's answer. -/
def on1 {X : Type} (r : Option Rs) (k : List DV → Option X) : Option X :=
  match r with
  | some (n, p) => match n with
    | 0 => k p
    | _ + 1 => none
  | none => none
/-- A loop's answer: by one exit, by two, .. -/
def onA {X : Type} (a : Nat) (r : Option Rs) (k : List DV → Option X) : Option X :=
  match r with
  | some (n, p) => match Nat.beq n a with
    | true => k p
    | false => none
  | none => none
def onB {X : Type} (a b : Nat) (r : Option Rs) (k h : List DV → Option X) : Option X :=
  match r with
  | some (n, p) => match Nat.beq n a with
    | true => k p
    | false => match Nat.beq n b with
      | true => h p
      | false => none
  | none => none
def onC {X : Type} (a b c : Nat) (r : Option Rs) (k h i : List DV → Option X) : Option X :=
  match r with
  | some (n, p) => match Nat.beq n a with
    | true => k p
    | false => match Nat.beq n b with
      | true => h p
      | false => match Nat.beq n c with
        | true => i p
        | false => none
  | none => none
@[simp] theorem on1_some {X : Type} (p : List DV) (k : List DV → Option X) : on1 (some (0, p)) k = k p := rfl
@[simp] theorem onA_some {X : Type} (a : Nat) (p : List DV) (k : List DV → Option X) : onA a (some (a, p)) k = k p := by simp only [onA, Nat.beq_refl]
@[simp] theorem onB_fst {X : Type} (a b : Nat) (p : List DV) (k h : List DV → Option X) : onB a b (some (a, p)) k h = k p := by simp only [onB, Nat.beq_refl]
theorem beq_no {a b : Nat} (h : a ≠ b) : Nat.beq a b = false := by
  cases e : Nat.beq a b with
  | false => rfl
  | true => exact absurd (Nat.eq_of_beq_eq_true e) h
@[simp] theorem onB_snd {X : Type} (a b : Nat) (hab : b ≠ a) (p : List DV) (k h : List DV → Option X) : onB a b (some (b, p)) k h = h p := by simp only [onB, beq_no hab, Nat.beq_refl]
theorem on1_K {l : List PG} {r : Option Rs} {K : List DV → Option Rs} {x : Rs} (h : on1 r (gg l (cK l K)) = some x) : ∃ n q, r = some (n, q) ∧ K q = some x := by
  unfold on1 at h
  split at h
  · split at h
    · exact ⟨_, _, rfl, gg_cK h⟩
    · simp at h
  · simp at h
theorem onA_K {a : Nat} {l : List PG} {r : Option Rs} {K : Rs → Option Rs} {x : Rs} (h : onA a r (gg l (cK l fun p => K (a, p))) = some x) : ∃ q, r = some q ∧ K q = some x := by
  unfold onA at h
  split at h
  · split at h
    · rename_i e; rw [Nat.eq_of_beq_eq_true e]; exact ⟨_, rfl, gg_cK (K := fun p => K (a, p)) h⟩
    · simp at h
  · simp at h
theorem onB_K {a b : Nat} {l m : List PG} {r : Option Rs} {K : Rs → Option Rs} {x : Rs} (h : onB a b r (gg l (cK l fun p => K (a, p))) (gg m (cK m fun p => K (b, p))) = some x) : ∃ q, r = some q ∧ K q = some x := by
  unfold onB at h
  split at h
  · split at h
    · rename_i e; rw [Nat.eq_of_beq_eq_true e]; exact ⟨_, rfl, gg_cK (K := fun p => K (a, p)) h⟩
    · split at h
      · rename_i e; rw [Nat.eq_of_beq_eq_true e]; exact ⟨_, rfl, gg_cK (K := fun p => K (b, p)) h⟩
      · simp at h
  · simp at h
theorem onC_K {a b c : Nat} {l m o : List PG} {r : Option Rs} {K : Rs → Option Rs} {x : Rs} (h : onC a b c r (gg l (cK l fun p => K (a, p))) (gg m (cK m fun p => K (b, p))) (gg o (cK o fun p => K (c, p))) = some x) : ∃ q, r = some q ∧ K q = some x := by
  unfold onC at h
  split at h
  · split at h
    · rename_i e; rw [Nat.eq_of_beq_eq_true e]; exact ⟨_, rfl, gg_cK (K := fun p => K (a, p)) h⟩
    · split at h
      · rename_i e; rw [Nat.eq_of_beq_eq_true e]; exact ⟨_, rfl, gg_cK (K := fun p => K (b, p)) h⟩
      · split at h
        · rename_i e; rw [Nat.eq_of_beq_eq_true e]; exact ⟨_, rfl, gg_cK (K := fun p => K (c, p)) h⟩
        · simp at h
  · simp at h
/-- An entry of the table of calls. -/
noncomputable def mkF (ts us : List PG) (e : Fn' (Option Rs) ts) : List DV → (List DV → Option Rs) → Option Rs := fun p K => gg ts (mapG (fun r => on1 r (gg us (cK us K))) ts e) p
theorem mkF_ok {P : Program} {c : CS} {ts us : List PG} {e : Fn' (Option Rs) ts} (h : ∀ ys n q, apG ts e ys = some (n, q) → CallOK P c (dvG ts ys) q) : CEok P (c, mkF ts us e) := by
  intro p K r hr
  have hr1 : mkF ts us e p K = some r := hr
  unfold mkF at hr1
  obtain ⟨ys, rfl, hr2⟩ := gg_app hr1
  rw [apG_map] at hr2
  obtain ⟨n, q, h1, h2⟩ := on1_K hr2
  exact ⟨q, h ys n q h1, h2⟩
/-- What a loop's exits take: their numbers, their groups. -/
noncomputable def exK (K : Rs → Option Rs) : List (Nat × List PG) → Option Rs → Option Rs
  | [], _ => none
  | [e], r => onA e.1 r (gg e.2 (cK e.2 fun p => K (e.1, p)))
  | [e, f], r => onB e.1 f.1 r (gg e.2 (cK e.2 fun p => K (e.1, p))) (gg f.2 (cK f.2 fun p => K (f.1, p)))
  | [e, f, g], r => onC e.1 f.1 g.1 r (gg e.2 (cK e.2 fun p => K (e.1, p))) (gg f.2 (cK f.2 fun p => K (f.1, p))) (gg g.2 (cK g.2 fun p => K (g.1, p)))
  | _, _ => none
theorem exK_K {K : Rs → Option Rs} {xs : List (Nat × List PG)} {r : Option Rs} {x : Rs} (h : exK K xs r = some x) : ∃ q, r = some q ∧ K q = some x := by
  unfold exK at h
  split at h
  · simp at h
  · exact onA_K h
  · exact onB_K h
  · exact onC_K h
  · simp at h
noncomputable def mkM (ts : List PG) (xs : List (Nat × List PG)) (l : Fn' (Option Rs) ts) : List DV → (Rs → Option Rs) → Option Rs := fun p K => gg ts (mapG (fun r => exK K xs r) ts l) p
theorem mkM_ok {P : Program} {hi : Hi} {bod : Bod} {nt nb b : Nat} {ts : List PG} {xs : List (Nat × List PG)} {l : Fn' (Option Rs) ts}
    {ls : LS} {body : Code} (h1 : lookN hi.ls b = some ls) (h2 : bod.lp b = some body) (h : ∀ ys q, apG ts l ys = some q → LoopOK P nt nb ls body (dvG ts ys) q) (h0 : memN b hi.js = false := by rfl) : LEok P hi bod nt nb (b, mkM ts xs l) := by
  refine ⟨fun _ => ?_, fun h3 => absurd (h0.symm.trans h3) (by simp)⟩
  intro ls' body' hl hb p K r hr
  have hl : lookN hi.ls b = some ls' := hl
  have hb : bod.lp b = some body' := hb
  rw [h1] at hl
  rw [h2] at hb
  simp only [Option.some.injEq] at hl hb
  subst hl; subst hb
  have hr1 : mkM ts xs l p K = some r := hr
  unfold mkM at hr1
  obtain ⟨ys, rfl, hr2⟩ := gg_app hr1
  rw [apG_map] at hr2
  obtain ⟨q, h3, h4⟩ := exK_K hr2
  exact ⟨q, h ys q h3, h4⟩
theorem lpG_eq {ts : List PG} {R : (List DV → Option Rs) → List DV → Option Rs} {r : Fn' (Option Rs) ts → Fn' (Option Rs) ts} {l : Nat → Fn' (Option Rs) ts} (h0 : l 0 = conG none ts) (hs : ∀ n, l (n + 1) = r (l n))
    (hr : ∀ A ys, R A (dvG ts ys) = apG ts (r (cK ts A)) ys) : ∀ n ys, iter R n (dvG ts ys) = apG ts (l n) ys
  | 0, ys => by rw [h0, apG_con]; rfl
  | n + 1, ys => by
    have e : cK ts (iter R n) = l n := fn'_ext fun ys => (apG_cK ts (iter R n) ys).trans (lpG_eq h0 hs hr n ys)
    show R (iter R n) (dvG ts ys) = _
    rw [hr, e, hs]
noncomputable def lpG {ts : List PG} (r : Fn' (Option Rs) ts → Fn' (Option Rs) ts) : Nat → Fn' (Option Rs) ts
  | 0 => conG none ts
  | n + 1 => r (lpG r n)
section
variable {P : Program} {cx : Cx} {hi : Hi} {l : List CE} {t : List LE}
theorem fnG (hti : TIok P cx) (hmix : P.follows .mixedOrders = true) (hct : AllP (CEok P) l) (hcs : AllP (fun e => lookC l e.2.id = some e.2) hi.cs) {cs : CS} {fn : Func} (hf : Fn P cs.fn fn (codeOf fn))
    (hone : cs.one = Nat.beq fn.results.size 1) (hrl : cs.r.length = fn.results.size) (hlt : AllP (LEok P hi (bodOf fn) fn.ntmps cs.i.bx.length) t) {ts us : List PG} {e : Fn' (Option Rs) ts}
    (hk : ∀ ys : TupG ts, den cx hi (ctL l) (ltL t) fn (codeOf fn) cs.i cs.r cs.ob (dvG ts ys) = apG ts e ys) : CEok P (cs, mkF ts us e) :=
  mkF_ok fun ys _ _ h => fn_ok hti hmix hct hcs hf hone hrl hlt ((hk ys).trans h)
theorem loopG (hti : TIok P cx) (hmix : P.follows .mixedOrders = true) (hct : AllP (CEok P) l) (hcs : AllP (fun e => lookC l e.2.id = some e.2) hi.cs) {f : FuncId} {fn : Func} (hf : Fn P f fn (codeOf fn)) {nb b : Nat}
    (hlt : AllP (LEok P hi (bodOf fn) fn.ntmps nb) t) {ls : LS} {body : Code} (h1 : lookN hi.ls b = some ls) (h2 : (bodOf fn).lp b = some body) {ts : List PG} {xs : List (Nat × List PG)} {r : Fn' (Option Rs) ts → Fn' (Option Rs) ts} {n : Nat}
    (hr : ∀ A ys, round cx hi (ctL l) (ltL t) fn.ntmps nb b ls body A (dvG ts ys) = apG ts (r (cK ts A)) ys) (h3 : memN b hi.js = false := by rfl) : LEok P hi (bodOf fn) fn.ntmps nb (b, mkM ts xs (lpG r n)) :=
  mkM_ok h1 h2 (fun ys _ h => loop_ok hti hmix hct hcs hf hlt h1 h2 ((lpG_eq (r := r) rfl (fun _ => rfl) hr n ys).trans h)) h3
theorem blkG (hti : TIok P cx) (hmix : P.follows .mixedOrders = true) (hct : AllP (CEok P) l) (hcs : AllP (fun e => lookC l e.2.id = some e.2) hi.cs) {f : FuncId} {fn : Func} (hf : Fn P f fn (codeOf fn)) {nb b : Nat}
    (hlt : AllP (LEok P hi (bodOf fn) fn.ntmps nb) t) {ls : LS} {body : Nat × Code} (h1 : lookN hi.ls b = some ls) (h2 : (bodOf fn).bk b = some body) (h0 : memN b hi.js = true) {ts : List PG} {xs : List (Nat × List PG)} {e : Fn' (Option Rs) ts}
    (hr : ∀ ys, blockR cx hi (ctL l) (ltL t) fn.ntmps nb body.1 b ls body.2 (dvG ts ys) = apG ts e ys) : LEok P hi (bodOf fn) fn.ntmps nb (b, mkM ts xs e) := by
  refine ⟨fun h3 => absurd (h0.symm.trans h3) (by simp), fun _ => ?_⟩
  intro ls' body' hl hb p K r hr'
  have hl : lookN hi.ls b = some ls' := hl
  have hb : (bodOf fn).bk b = some body' := hb
  rw [h1] at hl
  rw [h2] at hb
  simp only [Option.some.injEq] at hl hb
  subst hl; subst hb
  have hr1 : mkM ts xs e p K = some r := hr'
  unfold mkM at hr1
  obtain ⟨ys, rfl, hr2⟩ := gg_app hr1
  rw [apG_map] at hr2
  obtain ⟨q, h3, h4⟩ := exK_K hr2
  exact ⟨q, block_ok hti hmix hct hcs hf hlt h2 ((hr ys).trans h3), h4⟩
end
/-- A check. -/
def gd {X : Type} (b : Bool) (a : Option X) : Option X := match b with
  | true => a
  | false => none
def gf {X : Type} (b : Bool) (a : Option X) : Option X := match b with
  | true => none
  | false => a
def bi {X : Type} (b : Bool) (a c : X) : X := match b with
  | true => a
  | false => c
@[simp] theorem gd_true {X : Type} (a : Option X) : gd true a = a := rfl
@[simp] theorem gd_false {X : Type} (a : Option X) : gd false a = none := rfl
@[simp] theorem gf_true {X : Type} (a : Option X) : gf true a = none := rfl
@[simp] theorem gf_false {X : Type} (a : Option X) : gf false a = a := rfl
@[simp] theorem bi_true {X : Type} (a b : X) : bi true a b = a := rfl
@[simp] theorem bi_false {X : Type} (a b : X) : bi false a b = b := rfl
theorem gd_if {X : Type} (b : Bool) (a : Option X) : gd b a = if b = true then a else none := by cases b <;> rfl
theorem gf_if {X : Type} (b : Bool) (a : Option X) : gf b a = if b = true then none else a := by cases b <;> rfl
theorem bi_if {X : Type} (b : Bool) (a c : X) : bi b a c = if b = true then a else c := by cases b <;> rfl
theorem gd_t {X : Type} {b : Bool} (h : b = true) (a : Option X) : gd b a = a := by rw [h]; rfl
theorem gg_dvG {X : Type} : ∀ (l : List PG) (k : Fn' (Option X) l) (ys : TupG l), gg l k (dvG l ys) = apG l k ys
  | [], _, _ => rfl
  | g :: r, k, ys => by
    simp only [dvG, apG]
    exact (g.g.un_dv _ _ _).trans (gg_dvG r _ _)
abbrev tI : Ty := .int .i64
abbrev tW : Ty := .int .u32
abbrev tU : Ty := .int .u8
abbrev tB : Ty := .bool
abbrev tS : Ty := .str
noncomputable def gI : Gp Int := gD tI
@[reducible] noncomputable def pI : PG := ⟨Int, gI⟩
noncomputable def gW : Gp Int := gD tW
@[reducible] noncomputable def pW : PG := ⟨Int, gW⟩
noncomputable def gU : Gp Int := gD tU
@[reducible] noncomputable def pU : PG := ⟨Int, gU⟩
noncomputable def gB : Gp Bool := gD tB
@[reducible] noncomputable def pB : PG := ⟨Bool, gB⟩
noncomputable def gT : Gp ByteArray := gD tS
@[reducible] noncomputable def pT : PG := ⟨ByteArray, gT⟩
@[reducible] noncomputable def pD (t : Ty) : PG := ⟨Den t, gD t⟩
abbrev len {α : Type} (l : List α) : Int := ((List.length l : Nat) : Int)
namespace w
abbrev i64 (x : Int) : Int := IntKind.i64.wrap x
abbrev i32 (x : Int) : Int := IntKind.i32.wrap x
abbrev u64 (x : Int) : Int := IntKind.u64.wrap x
abbrev u32 (x : Int) : Int := IntKind.u32.wrap x
abbrev i16 (x : Int) : Int := IntKind.i16.wrap x
abbrev i8 (x : Int) : Int := IntKind.i8.wrap x
abbrev u16 (x : Int) : Int := IntKind.u16.wrap x
abbrev u8 (x : Int) : Int := IntKind.u8.wrap x
end w
/-- Is there room for both? -/
abbrev rm {α : Type} (a b : List α) (n : Nat) : Bool := decide ((a.length + b.length) * n ≤ reach)
abbrev sb (l h : Int) : Bool := decide (0 ≤ l ∧ l ≤ h)
end Go.Proofs.Zs
