/- The run of a function's code, and its loops. -/
import Derived.Test.YtpplgkggclddiaaEnhE
set_option linter.unusedVariables false
set_option linter.unusedSimpArgs false
namespace Go.Proofs.Zz
open Go

/-- Which loop lies in which block. -/
def LoopsIn (bod : Nat → Option Code) : Nat → Code → Prop
  | b, .seq x y => LoopsIn bod b x ∧ LoopsIn bod b y
  | b, .cond _ x y => LoopsIn bod b x ∧ LoopsIn bod b y
  | _, .block id x => LoopsIn bod id x
  | b, .loop x => bod b = some x
  | _, _ => True

/-- What a loop leaves. -/
def LoopPost (C : Frm) (l : LS) (nt : Nat) (q : Rs) (e : Exit) (a : Act) (w : World) : Prop :=
  e = (match (motive := Nat → Exit) q.1 with | 0 => .ret | i + 1 => .exit i) ∧ a.tmps.size = nt ∧ a.defers = [] ∧
  ∃ sg β F fs, lookN l.x q.1 = some sg ∧ SigIn sg β F w q.2 fs a.tmps.toList ∧ Enter C F w sg.bx.length β fs
def LoopOK (P : Program) (nt nb : Nat) (l : LS) (body : Code) (p : List DV) (q : Rs) : Prop :=
  ∀ (C : Frm) (a : Act) (w : World) (β : Nat → EI) (F : Nat → Prop) (es : List EI), C.nb = nb → SigIn l.h β F w p es a.tmps.toList → Enter C F w l.h.bx.length β es → a.tmps.size = nt → a.defers = [] →
    (Code.loop body).wp P (LoopPost C l nt q) a w
/-- A table of loops tells but what may be told. -/
def LTok (P : Program) (hi : Hi) (bod : Nat → Option Code) (nt nb : Nat) (lt : LT) : Prop :=
  ∀ b l body p K r, lookN hi.ls b = some l → bod b = some body → lt b p K = some r → ∃ q, LoopOK P nt nb l body p q ∧ K q = some r

section
variable {P : Program} {ok : Nat → List DV → List DV → Prop} {cx : Cx} {hi : Hi} {ct : CT} {lt : LT} {bod : Nat → Option Code} {nt : Nat} {C : Frm}
theorem run_ok (hct : CTok ok ct) (hti : TIok P cx) (hok : ∀ rg ix c, look2 hi.cs rg ix = some c → ∀ p q, ok c.id p q → CallOK P c p q) (hmix : P.follows .mixedOrders = true) (hlt : LTok P hi bod nt C.nb lt) :
    ∀ (code : Code) (b : Nat) (s : St) (kn : St → Option Rs) (ke : Nat → St → Option Rs) (kr : St → Option Rs) (r : Rs) (a : Act) (w : World) (Q : Exit → Act → World → Prop), LoopsIn bod b code →
    run cx hi ct lt nt C.nb b code s kn ke kr = some r → Rel C (fun k => k < s.nx) s a w →
    (∀ s' a' w', kn s' = some r → Rel C (fun k => k < s'.nx) s' a' w' → Q .normal a' w') →
    (∀ i s' a' w', ke i s' = some r → Rel C (fun k => k < s'.nx) s' a' w' → Q (.exit i) a' w') →
    (∀ s' a' w', kr s' = some r → Rel C (fun k => k < s'.nx) s' a' w' → Q .ret a' w') → code.wp P Q a w := by
  intro code
  induction code with
  | skip => intro b s kn ke kr r a w Q hl h hr hn he hq; exact wp_skip (hn s a w h hr)
  | seq x y ihx ihy =>
    intro b s kn ke kr r a w Q hl h hr hn he hq
    refine wp_seq (ihx b s _ ke kr r a w _ hl.1 h hr (fun s' a' w' h' hr' => ?_) he hq)
    exact ihy b s' kn ke kr r a' w' Q hl.2 h' hr' hn he hq
  | region id ops draw =>
    intro b s kn ke kr r a w Q hl h hr hn he hq
    exact region_ok hct hmix (opG_ok hti hok C Q id ops s.nx) h hr (fun s' a' w' h' hr' => hn s' a' w' (by rwa [fSt_eq] at h') hr')
  | cond c x y ihx ihy =>
    intro b s kn ke kr r a w Q hl h hr hn he hq
    simp only [run] at h
    obtain ⟨v, rd, h1, h2⟩ := rdRun_ev hct h
    have hr' := hr
    obtain ⟨E, F, hm, ht⟩ := hr
    obtain ⟨X, h3, h4⟩ := ev_ok ⟨rd, h1⟩ ht
    have := h4.ret
    subst this
    split at h2
    · rename_i t
      have hb := of_boo h3
      split at h2
      · exact wp_cond_true hb (ihx b s kn ke kr r a w Q hl.1 h2 hr' hn he hq)
      · exact wp_cond_false hb (ihy b s kn ke kr r a w Q hl.2 h2 hr' hn he hq)
    · simp at h2
  | block id x ih =>
    intro b s kn ke kr r a w Q hl h hr hn he hq
    refine wp_block (ih id s kn _ kr r a w _ hl h hr hn (fun i s' a' w' h' hr' => ?_) hq)
    simp only [Exit.inBlock]
    split at h'
    · rename_i hi'
      rw [if_pos (Nat.eq_of_beq_eq_true hi')]
      exact hn s' a' w' h' hr'
    · rename_i hi'
      rw [if_neg (fun e => by subst e; simp at hi')]
      exact he i s' a' w' h' hr'
  | loop x ih =>
    intro b s kn ke kr r a w Q hl h hr hn he hq
    simp only [run] at h
    split at h
    · simp at h
    · rename_i l hls
      obtain ⟨p, β, G, es, h1, h2, h3, h4, h5⟩ := leave_ok hct h hr
      obtain ⟨q, g1, g2⟩ := hlt b l x p _ r hls hl h1
      refine wp_mono (g1 C a w β G es rfl h2 h3 h4 h5) fun e a' w' hpost => ?_
      obtain ⟨k1, k2, k3, sg, β', F', fs, k4, k5, k6⟩ := hpost
      rw [k4] at g2
      simp only at g2
      split at g2
      · simp at g2
      · rename_i s' hs'
        obtain ⟨m1, m2⟩ := mkSt_ok (rest := []) k5 k6 hs' (by simp) k2 k3
        cases hq1 : q.1 with
        | zero => rw [hq1] at k1 g2; subst k1; exact hq s' a' w' g2 m2
        | succ i => rw [hq1] at k1 g2; subst k1; exact he i s' a' w' g2 m2
  | exit id => intro b s kn ke kr r a w Q hl h hr hn he hq; exact wp_exit (he id s a w h hr)
  | ret => intro b s kn ke kr r a w Q hl h hr hn he hq; exact wp_ret (hq s a w h hr)
  | _ => intro b s kn ke kr r a w Q hl h hr hn he hq; simp [run] at h

/-- A loop by its rounds. -/
theorem iter_ok (hct : CTok ok ct) (hti : TIok P cx) (hok : ∀ rg ix c, look2 hi.cs rg ix = some c → ∀ p q, ok c.id p q → CallOK P c p q) (hmix : P.follows .mixedOrders = true) {nb : Nat} (hlt : LTok P hi bod nt nb lt)
    {b : Nat} {l : LS} {body : Code} (hls : lookN hi.ls b = some l) (hb : LoopsIn bod b body) {n : Nat} {p : List DV} {q : Rs} (h : iter (round cx hi ct lt nt nb b l body) n p = some q) : LoopOK P nt nb l body p q := by
  intro C a w β F es hC hs he hsz hd
  subst hC
  refine wp_loop_fuel (fun n a w => ∃ p β F es, iter (round cx hi ct lt nt C.nb b l body) n p = some q ∧ SigIn l.h β F w p es a.tmps.toList ∧ Enter C F w l.h.bx.length β es ∧ a.tmps.size = nt ∧ a.defers = [])
    (n := n) ⟨p, β, F, es, h, hs, he, hsz, hd⟩ ?_
  rintro n a w ⟨p, β, F, es, h, hs, he, hsz, hd⟩
  cases n with
  | zero => simp [iter] at h
  | succ n =>
    simp only [iter, round] at h
    split at h
    · simp at h
    · rename_i s0 hs0
      obtain ⟨m1, m2⟩ := mkSt_ok (rest := []) hs he hs0 (by simp) hsz hd
      refine run_ok hct hti hok hmix hlt body b s0 _ _ _ q a w _ hb h m2 (fun s' a' w' h' hr' => ?_) (fun i s' a' w' h' hr' => ?_) (fun s' a' w' h' hr' => ?_)
      · obtain ⟨p', β', G', es', k1, k2, k3, k4, k5⟩ := leave_ok hct h' hr'
        exact ⟨n, Nat.lt_succ_self n, p', β', G', es', k1, k2, k3, k4, k5⟩
      · split at h'
        · simp at h'
        · rename_i sg hsg
          obtain ⟨p', β', G', es', k1, k2, k3, k4, k5⟩ := leave_ok hct h' hr'
          simp only [Option.some.injEq] at k1
          subst k1
          exact ⟨rfl, k4, k5, sg, β', G', es', hsg, k2, k3⟩
      · split at h'
        · simp at h'
        · rename_i sg hsg
          obtain ⟨p', β', G', es', k1, k2, k3, k4, k5⟩ := leave_ok hct h' hr'
          simp only [Option.some.injEq] at k1
          subst k1
          exact ⟨rfl, k4, k5, sg, β', G', es', hsg, k2, k3⟩
end
end Go.Proofs.Zz
