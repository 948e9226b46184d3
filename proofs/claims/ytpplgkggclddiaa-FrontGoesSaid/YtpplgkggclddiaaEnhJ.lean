/- Payloads taken apart, for any number of parts. -/
import Derived.Test.YtpplgkggclddiaaEnhI
set_option linter.unusedVariables false
set_option linter.unusedSimpArgs false
namespace Go.Proofs.Zz
open Go

@[reducible] def Cur (X : Type) : List Ty → Type
  | [] => X
  | t :: ts => Den t → Cur X ts
@[reducible] def Tup : List Ty → Type
  | [] => Unit
  | t :: ts => Den t × Tup ts
def ofT : (ts : List Ty) → Tup ts → List DV
  | [], _ => []
  | t :: ts, y => ⟨t, y.1⟩ :: ofT ts y.2
def appT {X : Type} : (ts : List Ty) → Cur X ts → Tup ts → X
  | [], e, _ => e
  | _ :: ts, e, y => appT ts (e y.1) y.2
def mapC {X Y : Type} (g : X → Y) : (ts : List Ty) → Cur X ts → Cur Y ts
  | [], e => g e
  | _ :: ts, e => fun y => mapC g ts (e y)
noncomputable def onG {X : Type} : (ts : List Ty) → List DV → Cur (Option X) ts → Option X
  | [], p, k => un0 p k
  | t :: ts, p, k => un t p fun y p => onG ts p (k y)
def curK {X : Type} : (ts : List Ty) → (List DV → X) → Cur X ts
  | [], K => K []
  | t :: ts, K => fun y => curK ts fun q => K (⟨t, y⟩ :: q)
theorem onG_K {X : Type} : ∀ {ts : List Ty} {p : List DV} {K : List DV → Option X} {x : X}, onG ts p (curK ts K) = some x → K p = some x
  | [], p, K, x, h => by
    simp only [onG, curK] at h
    obtain ⟨rfl, h⟩ := un0_some h
    exact h
  | t :: ts, p, K, x, h => by
    simp only [onG, curK] at h
    obtain ⟨y, q, rfl, h'⟩ := un_some h
    exact onG_K (K := fun q => K (⟨t, y⟩ :: q)) h'
theorem onG_app {X : Type} : ∀ {ts : List Ty} {p : List DV} {k : Cur (Option X) ts} {x : X}, onG ts p k = some x → ∃ ys : Tup ts, p = ofT ts ys ∧ appT ts k ys = some x
  | [], p, k, x, h => by
    simp only [onG] at h
    obtain ⟨rfl, h⟩ := un0_some h
    exact ⟨(), rfl, h⟩
  | t :: ts, p, k, x, h => by
    simp only [onG] at h
    obtain ⟨y, q, rfl, h'⟩ := un_some h
    obtain ⟨ys, rfl, h''⟩ := onG_app h'
    exact ⟨(y, ys), rfl, h''⟩
theorem appT_map {X Y : Type} {g : X → Y} : ∀ {ts : List Ty} {e : Cur X ts} {ys : Tup ts}, appT ts (mapC g ts e) ys = g (appT ts e ys)
  | [], _, _ => rfl
  | _ :: ts, e, ys => appT_map (ts := ts)
/-- An answer taken apart. -/
noncomputable def onR {X : Type} (us : List Ty) (r : Option Rs) (k : Cur (Option X) us) : Option X :=
  match r with
  | some (n, p) => match n with
    | 0 => onG us p k
    | _ + 1 => none
  | none => none
theorem onR_K {us : List Ty} {r : Option Rs} {K : List DV → Option Rs} {x : Rs} (h : onR us r (curK us K) = some x) : ∃ n q, r = some (n, q) ∧ K q = some x := by
  unfold onR at h
  split at h
  · split at h
    · exact ⟨_, _, rfl, onG_K h⟩
    · simp at h
  · simp at h
noncomputable def mkX (ts us : List Ty) (e : Cur (Option Rs) ts) : List DV → (List DV → Option Rs) → Option Rs := fun p K => onG ts p (mapC (fun r => onR us r (curK us K)) ts e)
theorem mkX_ok {P : Program} {c : CS} {ts us : List Ty} {e : Cur (Option Rs) ts} (h : ∀ ys n q, appT ts e ys = some (n, q) → CallOK P c (ofT ts ys) q) : CEok P (c, mkX ts us e) := by
  intro p K r hr
  have hr1 : mkX ts us e p K = some r := hr
  unfold mkX at hr1
  obtain ⟨ys, rfl, hr2⟩ := onG_app hr1
  rw [appT_map] at hr2
  obtain ⟨n, q, h1, h2⟩ := onR_K hr2
  exact ⟨q, h ys n q h1, h2⟩
/-- A loop's answer. -/
noncomputable def mkL (ts : List Ty) (l : Cur (Option Rs) ts) (g : Option Rs → (Rs → Option Rs) → Option Rs) : List DV → (Rs → Option Rs) → Option Rs := fun p K => onG ts p (mapC (fun r => g r K) ts l)
theorem mkL_ok {P : Program} {hi : Hi} {bod : Nat → Option Code} {nt nb b : Nat} {ts : List Ty} {l : Cur (Option Rs) ts} {g : Option Rs → (Rs → Option Rs) → Option Rs} (hg : ∀ r K x, g r K = some x → ∃ q, r = some q ∧ K q = some x)
    {ls : LS} {body : Code} (h1 : lookN hi.ls b = some ls) (h2 : bod b = some body) (h : ∀ ys q, appT ts l ys = some q → LoopOK P nt nb ls body (ofT ts ys) q) : LEok P hi bod nt nb (b, mkL ts l g) := by
  intro ls' body' hl hb p K r hr
  have hl : lookN hi.ls b = some ls' := hl
  have hb : bod b = some body' := hb
  rw [h1] at hl
  rw [h2] at hb
  simp only [Option.some.injEq] at hl hb
  subst hl; subst hb
  have hr1 : mkL ts l g p K = some r := hr
  unfold mkL at hr1
  obtain ⟨ys, rfl, hr2⟩ := onG_app hr1
  rw [appT_map] at hr2
  obtain ⟨q, h3, h4⟩ := hg _ _ _ hr2
  exact ⟨q, h ys q h3, h4⟩
end Go.Proofs.Zz
