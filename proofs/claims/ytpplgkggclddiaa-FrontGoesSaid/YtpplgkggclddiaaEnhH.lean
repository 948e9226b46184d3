/- Tables: of types, of calls, of loops. -/
import Derived.Test.YtpplgkggclddiaaEnhG
set_option linter.unusedVariables false
set_option linter.unusedSimpArgs false
namespace Go.Proofs.Zz
open Go

noncomputable def chkAll (P : Program) : List (Option TI) → Nat → Bool
  | [], _ => true
  | some i :: r, n => match tchk P n i with
    | true => chkAll P r (n + 1)
    | false => false
  | none :: r, n => chkAll P r (n + 1)
theorem chkAll_ok {P : Program} : ∀ {l : List (Option TI)} {n : Nat}, chkAll P l n = true → ∀ t i, nthD none l t = some i → TOk P (n + t) i
  | [], n, _, t, i, h => by simp [nthD] at h
  | none :: r, n, hc, 0, i, h => by simp [nthD] at h
  | some j :: r, n, hc, 0, i, h => by
    simp only [nthD, Option.some.injEq] at h
    subst h
    simp only [chkAll] at hc
    split at hc
    · rename_i hj; exact tchk_spec hj
    · simp at hc
  | none :: r, n, hc, t + 1, i, h => by
    have := chkAll_ok (n := n + 1) (l := r) (by simpa [chkAll] using hc) t i (by simpa [nthD] using h)
    rwa [show n + 1 + t = n + (t + 1) by omega] at this
  | some j :: r, n, hc, t + 1, i, h => by
    simp only [chkAll] at hc
    split at hc
    · have := chkAll_ok (n := n + 1) (l := r) hc t i (by simpa [nthD] using h)
      rwa [show n + 1 + t = n + (t + 1) by omega] at this
    · simp at hc
theorem TIok_of {P : Program} {l : List (Option TI)} (h : chkAll P l 0 = true) : TIok P { ti := fun t => nthD none l t } := fun t i hi => by
  have := chkAll_ok h t i hi
  rwa [Nat.zero_add] at this

/-- What is told of calls: by the callee's number in the table. -/
def okOf (P : Program) (tab : List CS) (id : Nat) (p q : List DV) : Prop := ∃ c, tab[id]? = some c ∧ CallOK P c p q
theorem okOf_hok {P : Program} {tab : List CS} {hi : Hi} (h : ∀ rg ix c, look2 hi.cs rg ix = some c → tab[c.id]? = some c) : ∀ rg ix c, look2 hi.cs rg ix = some c → ∀ p q, okOf P tab c.id p q → CallOK P c p q := by
  intro rg ix c hc p q ⟨c', h1, h2⟩
  rw [h rg ix c hc] at h1
  simp only [Option.some.injEq] at h1
  subst h1
  exact h2
theorem callFunc_ok {P : Program} {f : FuncId} {fn : Func} (hf : P.funcs[f]? = some fn) (hn : (fn.name == "runtime.NumGoroutine") = false) (hb : fn.body.isNone = false) (args : Array Value) (w : World) :
    (callFunc f args).run P w = .ok (.enter f args) w := by
  have hp : (program).run P w = .ok P w := rfl
  unfold callFunc
  simp only [Sem.run_bind, hp, Result.andThen_ok, hf, hn, hb, Bool.false_eq_true, if_false, Sem.run_pure]

/-- The loops of a code, by the blocks they lie in. -/
def loops : Nat → Code → List (Nat × Code)
  | b, .seq x y => loops b x ++ loops b y
  | b, .cond _ x y => loops b x ++ loops b y
  | _, .block id x => loops id x
  | b, .loop x => (b, x) :: loops b x
  | _, _ => []
theorem loops_in {bod : Nat → Option Code} : ∀ (code : Code) (b : Nat), (∀ p ∈ loops b code, bod p.1 = some p.2) → LoopsIn bod b code := by
  intro code
  induction code with
  | seq x y ihx ihy => intro b h; exact ⟨ihx b fun p hp => h p (by simp [loops, hp]), ihy b fun p hp => h p (by simp [loops, hp])⟩
  | cond c x y ihx ihy => intro b h; exact ⟨ihx b fun p hp => h p (by simp [loops, hp]), ihy b fun p hp => h p (by simp [loops, hp])⟩
  | block id x ih => intro b h; exact ih id fun p hp => h p (by simpa [loops] using hp)
  | loop x ih => intro b h; exact h (b, x) (by simp [loops])
  | _ => intro b h; trivial
def fsts {α : Type} : List (Nat × α) → List Nat
  | [] => []
  | p :: r => p.1 :: fsts r
theorem lookN_dist {α : Type} : ∀ {l : List (Nat × α)}, distinct (fsts l) = true → ∀ p ∈ l, lookN l p.1 = some p.2
  | [], _, p, h => by simp at h
  | q :: r, hd, p, h => by
    simp only [fsts, distinct] at hd
    split at hd
    · simp at hd
    · rename_i hm
      have hm := memN_false.1 hm
      simp only [lookN]
      rcases List.mem_cons.1 h with rfl | h
      · simp
      · have hne : q.1 ≠ p.1 := by
          intro e
          apply hm
          rw [e]
          have key : ∀ (l : List (Nat × α)) (p : Nat × α), p ∈ l → p.1 ∈ fsts l := by
            intro l
            induction l with
            | nil => intro p h; simp at h
            | cons x y ih =>
              intro p h
              rcases List.mem_cons.1 h with rfl | h
              · simp [fsts]
              · simp [fsts, ih p h]
          exact key r p h
        split
        · rename_i e; exact (hne (Nat.eq_of_beq_eq_true e)).elim
        · exact lookN_dist hd p h
theorem LoopsIn_of {code : Code} (h : distinct (fsts (loops 0 code)) = true) : LoopsIn (fun b => lookN (loops 0 code) b) 0 code := loops_in code 0 (lookN_dist h)
/-- What lies in a loop. -/
theorem loops_sub : ∀ (code : Code) (b : Nat) (q : Nat × Code), q ∈ loops b code → ∀ p ∈ loops q.1 q.2, p ∈ loops b code := by
  intro code
  induction code with
  | seq x y ihx ihy =>
    intro b q hq p hp
    simp only [loops, List.mem_append] at hq ⊢
    exact hq.imp (fun h => ihx b q h p hp) (fun h => ihy b q h p hp)
  | cond c x y ihx ihy =>
    intro b q hq p hp
    simp only [loops, List.mem_append] at hq ⊢
    exact hq.imp (fun h => ihx b q h p hp) (fun h => ihy b q h p hp)
  | block id x ih => intro b q hq p hp; exact ih id q hq p hp
  | loop x ih =>
    intro b q hq p hp
    simp only [loops, List.mem_cons] at hq ⊢
    rcases hq with rfl | hq
    · exact .inr hp
    · exact .inr (ih b q hq p hp)
  | _ => intro b q hq; simp [loops] at hq
theorem LoopsIn_body {code : Code} (h : distinct (fsts (loops 0 code)) = true) {b : Nat} {x : Code} (hb : lookN (loops 0 code) b = some x) : LoopsIn (fun b => lookN (loops 0 code) b) b x := by
  have hm : (b, x) ∈ loops 0 code := by
    have key : ∀ l : List (Nat × Code), lookN l b = some x → (b, x) ∈ l := by
      intro l
      induction l with
      | nil => intro h; simp [lookN] at h
      | cons p r ih =>
        intro h
        simp only [lookN] at h
        split at h
        · rename_i e
          simp only [Option.some.injEq] at h
          have := Nat.eq_of_beq_eq_true e
          subst this; subst h
          simp
        · simp [ih h]
    exact key _ hb
  exact loops_in x b fun p hp => lookN_dist h p (loops_sub code 0 (b, x) hm p hp)

/-- Payloads taken apart. -/
noncomputable def un {R : Type} (t : Ty) (p : List DV) (k : Den t → List DV → Option R) : Option R :=
  match p with
  | ⟨u, v⟩ :: r => tyc u t (fun h => k (h ▸ v) r) none
  | [] => none
def un0 {R : Type} (p : List DV) (x : Option R) : Option R :=
  match p with
  | [] => x
  | _ => none
theorem un_some {R : Type} {t : Ty} {p : List DV} {k : Den t → List DV → Option R} {r : R} (h : un t p k = some r) : ∃ v q, p = ⟨t, v⟩ :: q ∧ k v q = some r := by
  unfold un at h
  split at h
  · rename_i u v q
    rcases tyc_or (t := u) (u := t) (k := fun h => k (h ▸ v) q) (e := none) with ⟨e, h'⟩ | e
    · rw [h'] at h
      subst e
      exact ⟨v, q, rfl, h⟩
    · rw [e] at h; simp at h
  · simp at h
theorem un0_some {R : Type} {p : List DV} {x : Option R} {r : R} (h : un0 p x = some r) : p = [] ∧ x = some r := by
  unfold un0 at h
  split at h
  · exact ⟨rfl, h⟩
  · simp at h
end Go.Proofs.Zz
