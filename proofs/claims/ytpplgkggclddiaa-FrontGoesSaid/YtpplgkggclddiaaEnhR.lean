/- A row's struct arguments, leaf by leaf. -/
import Derived.Test.YtpplgkggclddiaaEnhK
set_option linter.unusedVariables false
set_option linter.unusedSimpArgs false
namespace Go.Proofs.Zz
open Go
section
variable {β : Nat → EI} {F : Nat → Prop} {w : World}
theorem ks_unit {cs : List Value} {v : Den .unit} (h : RepD F w .unit v cs) : RepKs β F w [] [] [] cs := by
  rw [RepD] at h; subst h; exact .nil
theorem ks_pair {a b : Ty} {v : Den (.pair a b)} {cs : List Value} {ks : List LK} {p : List DV} (h : RepD F w (.pair a b) v cs) (hr : ∀ d : List Value, RepD F w b v.2 d → RepKs β F w ks p [] d) :
    RepKs β F w (.d a :: ks) (⟨a, v.1⟩ :: p) [] cs := by
  rw [RepD] at h
  obtain ⟨c, d, rfl, h1, h2⟩ := h
  exact .cons (p := [⟨a, v.1⟩]) (es := []) (.d h1) (hr d h2)
theorem as_one {t : Ty} {x : Den t} {v : Value} {as : List AK} {p : List DV} {vs : List Value} (hc : cellOk v) (h : RepD F w t x [v]) (hr : RepAs β F w as p [] vs) : RepAs β F w (.one (.d t) :: as) (⟨t, x⟩ :: p) [] (v :: vs) :=
  .cons (p := [⟨t, x⟩]) (es := []) (.one (fun _ => by simp) hc (.d h)) hr
theorem as_int {k : IntKind} {x : Int} {as : List AK} {p : List DV} {vs : List Value} (hr : RepAs β F w as p [] vs) : RepAs β F w (.one (.d (.int k)) :: as) (⟨.int k, x⟩ :: p) [] (.int k x :: vs) :=
  as_one trivial (by rw [RepD]) hr
theorem as_bool {x : Bool} {as : List AK} {p : List DV} {vs : List Value} (hr : RepAs β F w as p [] vs) : RepAs β F w (.one (.d .bool) :: as) (⟨.bool, x⟩ :: p) [] (.bool x :: vs) :=
  as_one trivial (by rw [RepD]) hr
theorem as_sl {t : Ty} {x : Den (.sl t)} {a : Option Addr} {n c : Nat} {as : List AK} {p : List DV} {vs : List Value} (h : RepD F w (.sl t) x [.slice a n c]) (hr : RepAs β F w as p [] vs) : RepAs β F w (.one (.d (.sl t)) :: as) (⟨.sl t, x⟩ :: p) [] (.slice a n c :: vs) :=
  as_one trivial h hr
theorem as_agg {ks : List LK} {p q : List DV} {as : List AK} {cs : Array Value} {vs : List Value} (h : RepKs β F w ks p [] cs.toList) (hr : RepAs β F w as q [] vs) : RepAs β F w (.agg ks :: as) (p ++ q) [] (.agg cs :: vs) :=
  .cons (es := []) (.agg h) hr
end
end Go.Proofs.Zz
