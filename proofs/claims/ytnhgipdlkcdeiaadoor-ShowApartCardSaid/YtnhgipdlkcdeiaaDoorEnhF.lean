import Derived.Test.YtnhgipdlkcdeiaaDoorEnhC
set_option linter.unusedSimpArgs false
set_option linter.unusedVariables false
/- The run of a function's code, and its loops. -/
set_option linter.unusedVariables false
set_option linter.unusedSimpArgs false
namespace Go.Proofs.Zs
open Go

/-- Which loop lies in which block. -/
def LoopsIn (bod : Nat → Option Code) : Nat → Code → Prop
  | b, .seq x y => LoopsIn bod b x ∧ LoopsIn bod b y
  | b, .cond _ x y => LoopsIn bod b x ∧ LoopsIn bod b y
  | _, .block id x => LoopsIn bod id x
  | b, .loop x => bod b = some x
  | _, _ => True

/-- What a loop leaves. -/
def LoopPost (C : Frm) (l : LS) (nt : Nat) (q : Rs) (e : Exit) (a : Act) (w : World) : Prop :=
  e = (match (motive := Nat → Exit) q.1 with | 0 => .ret | i + 1 => .exit i) ∧ a.tmps.size = nt ∧ a.defers = [] ∧
  ∃ sg β F fs, lookN l.x q.1 = some sg ∧ SigIn sg β F w q.2 fs a.tmps.toList ∧ Enter C F w sg.bx.length β fs
def LoopOK (P : Program) (nt nb : Nat) (l : LS) (body : Code) (p : List DV) (q : Rs) : Prop :=
  ∀ (C : Frm) (a : Act) (w : World) (β : Nat → EI) (F : Nat → Prop) (es : List EI), C.nb = nb ∧ FrmOk P C → SigIn l.h β F w p es a.tmps.toList → Enter C F w l.h.bx.length β es → a.tmps.size = nt → a.defers = [] →
    (Code.loop body).wp P (LoopPost C l nt q) a w
/-- What a piece that is told leaves. -/
def BlkPost (C : Frm) (l : LS) (nt key : Nat) (q : Rs) (e : Exit) (a : Act) (w : World) : Prop :=
  (e = .normal ∧ q.1 = key + 1 ∨ e = (match (motive := Nat → Exit) q.1 with | 0 => .ret | i + 1 => .exit i) ∧ q.1 ≠ key + 1) ∧ a.tmps.size = nt ∧ a.defers = [] ∧
  ∃ sg β F fs, lookN l.x q.1 = some sg ∧ SigIn sg β F w q.2 fs a.tmps.toList ∧ Enter C F w sg.bx.length β fs
def BlockOK (P : Program) (nt nb : Nat) (l : LS) (key : Nat) (code : Code) (p : List DV) (q : Rs) : Prop :=
  ∀ (C : Frm) (a : Act) (w : World) (β : Nat → EI) (F : Nat → Prop) (es : List EI), C.nb = nb ∧ FrmOk P C → SigIn l.h β F w p es a.tmps.toList → Enter C F w l.h.bx.length β es → a.tmps.size = nt → a.defers = [] →
    code.wp P (BlkPost C l nt key q) a w
/-- Loops by the blocks they lie in; pieces: blocks, regions. -/
structure Bod where
  lp : Nat → Option Code
  bk : Nat → Option (Nat × Code)
def blocks : Nat → Code → List (Nat × (Nat × Code))
  | b, .seq x y => match x with
    | .region id _ _ => (id + tails, (b, .seq x y)) :: (blocks b x ++ blocks b y)
    | _ => blocks b x ++ blocks b y
  | b, .cond _ x y => blocks b x ++ blocks b y
  | b, .block id x => (id, (b, .block id x)) :: blocks id x
  | b, .region id ops draw => [(id + told, (b, .region id ops draw))]
  | b, .loop x => blocks b x
  | _, _ => []
def BlksIn (bk : Nat → Option (Nat × Code)) (b : Nat) (c : Code) : Prop := ∀ p ∈ blocks b c, bk p.1 = some p.2
theorem blocks_seq {b : Nat} {x y : Code} {p : Nat × (Nat × Code)} (h : p ∈ blocks b x ∨ p ∈ blocks b y) : p ∈ blocks b (.seq x y) := by
  unfold blocks
  split
  · exact List.mem_cons_of_mem _ (List.mem_append.2 h)
  · exact List.mem_append.2 h
theorem blocks_of_seq {b : Nat} {x y : Code} {p : Nat × (Nat × Code)} (h : p ∈ blocks b (.seq x y)) : (∃ id ops draw, x = .region id ops draw ∧ p = (id + tails, (b, .seq x y))) ∨ p ∈ blocks b x ∨ p ∈ blocks b y := by
  unfold blocks at h
  split at h
  · rename_i id ops draw
    rcases List.mem_cons.1 h with h | h
    · exact .inl ⟨id, ops, draw, rfl, h⟩
    · exact .inr (List.mem_append.1 h)
  · exact .inr (List.mem_append.1 h)
theorem tailT_some {js : List Nat} {x : Code} {key : Nat} (h : tailT js x = some key) : memN key js = true ∧ ∃ id ops draw, x = .region id ops draw ∧ key = id + tails := by
  unfold tailT at h
  split at h
  · rename_i id ops draw
    split at h
    · rename_i hm
      simp only [Option.some.injEq] at h
      subst h
      exact ⟨hm, id, ops, draw, rfl, rfl⟩
    · simp at h
  · simp at h
/-- A table of loops tells but what may be told. -/
def LTok (P : Program) (hi : Hi) (bod : Bod) (nt nb : Nat) (lt : LT) : Prop :=
  (∀ b l body p K r, memN b hi.js = false → lookN hi.ls b = some l → bod.lp b = some body → lt b p K = some r → ∃ q, LoopOK P nt nb l body p q ∧ K q = some r) ∧
  (∀ b l body p K r, memN b hi.js = true → lookN hi.ls b = some l → bod.bk b = some body → lt b p K = some r → ∃ q, BlockOK P nt nb l b body.2 p q ∧ K q = some r)

section
variable {P : Program} {ok : Nat → List DV → List DV → Prop} {cx : Cx} {hi : Hi} {ct : CT} {lt : LT} {bod : Bod} {nt : Nat} {C : Frm}
theorem run_ok (hct : CTok ok ct) (hti : TIok P cx) (hok : ∀ rg ix c, look2 hi.cs rg ix = some c → ∀ p q, ok c.id p q → CallOK P c p q) (hmix : P.follows .mixedOrders = true) (hlt : LTok P hi bod nt C.nb lt) (hF : FrmOk P C) :
    ∀ (code : Code) (b : Nat) (s : St) (kn : St → Option Rs) (ke : Nat → St → Option Rs) (kr : St → Option Rs) (r : Rs) (a : Act) (w : World) (Q : Exit → Act → World → Prop), LoopsIn bod.lp b code → BlksIn bod.bk b code →
    run cx hi ct lt nt C.nb b code s kn ke kr = some r → Rel C (fun k => k < s.nx) s a w →
    (∀ s' a' w', kn s' = some r → Rel C (fun k => k < s'.nx) s' a' w' → Q .normal a' w') →
    (∀ i s' a' w', ke i s' = some r → Rel C (fun k => k < s'.nx) s' a' w' → Q (.exit i) a' w') →
    (∀ s' a' w', kr s' = some r → Rel C (fun k => k < s'.nx) s' a' w' → Q .ret a' w') → code.wp P Q a w := by
  intro code
  induction code with
  | skip => intro b s kn ke kr r a w Q hl hB h hr hn he hq; exact wp_skip (hn s a w h hr)
  | seq x y ihx ihy =>
    intro b s kn ke kr r a w Q hl hB h hr hn he hq
    simp only [run] at h
    split at h
    · refine wp_seq (ihx b s _ ke kr r a w _ hl.1 (fun p hp => hB p (blocks_seq (.inl hp))) h hr (fun s' a' w' h' hr' => ?_) he hq)
      exact ihy b s' kn ke kr r a' w' Q hl.2 (fun p hp => hB p (blocks_seq (.inr hp))) h' hr' hn he hq
    · rename_i key htl
      obtain ⟨hjs, id, ops, draw, hx, hkey⟩ := tailT_some htl
      split at h
      · simp at h
      · rename_i l hls
        obtain ⟨p, β, G, es, h1, h2, h3, h4, h5⟩ := leave_ok hct h hr
        obtain ⟨q, g1, g2⟩ := hlt.2 key l (b, .seq x y) p _ r hjs hls (hB (key, (b, .seq x y)) (by subst hx; subst hkey; simp [blocks])) h1
        refine wp_mono (g1 C a w β G es ⟨rfl, hF⟩ h2 h3 h4 h5) fun e a' w' hpost => ?_
        obtain ⟨k1, k2, k3, sg, β', F', fs, k4, k5, k6⟩ := hpost
        rw [k4] at g2
        simp only at g2
        split at g2
        · simp at g2
        · rename_i s' hs'
          obtain ⟨m1, m2⟩ := mkSt_ok (rest := []) k5 k6 hs' (by simp) k2 k3
          rcases k1 with ⟨rfl, hq1⟩ | ⟨k1, hq1⟩
          · rw [hq1] at g2
            simp only [Nat.beq_refl] at g2
            exact hn s' a' w' g2 m2
          · cases hq2 : q.1 with
            | zero => rw [hq2] at k1 g2; subst k1; exact hq s' a' w' g2 m2
            | succ i =>
              rw [hq2] at k1 g2 hq1
              subst k1
              simp only at g2
              split at g2
              · rename_i hi'
                have := Nat.eq_of_beq_eq_true hi'
                exact absurd (by rw [this]) hq1
              · exact he i s' a' w' g2 m2
  | region id ops draw =>
    intro b s kn ke kr r a w Q hl hB h hr hn he hq
    simp only [run] at h
    split at h
    · exact region_ok hct hmix (opG_ok hti hok C hF Q id ops s.nx) h hr (fun s' a' w' h' hr' => hn s' a' w' (by rwa [fSt_eq] at h') hr')
    · rename_i hjs
      split at h
      · simp at h
      · rename_i l hls
        obtain ⟨p, β, G, es, h1, h2, h3, h4, h5⟩ := leave_ok hct h hr
        obtain ⟨q, g1, g2⟩ := hlt.2 (id + told) l (b, .region id ops draw) p _ r hjs hls (hB (id + told, (b, .region id ops draw)) (by simp [blocks])) h1
        refine wp_mono (g1 C a w β G es ⟨rfl, hF⟩ h2 h3 h4 h5) fun e a' w' hpost => ?_
        obtain ⟨k1, k2, k3, sg, β', F', fs, k4, k5, k6⟩ := hpost
        rw [k4] at g2
        simp only at g2
        split at g2
        · simp at g2
        · rename_i s' hs'
          obtain ⟨m1, m2⟩ := mkSt_ok (rest := []) k5 k6 hs' (by simp) k2 k3
          rcases k1 with ⟨rfl, hq1⟩ | ⟨k1, hq1⟩
          · rw [hq1] at g2
            simp only [Nat.beq_refl] at g2
            exact hn s' a' w' g2 m2
          · cases hq2 : q.1 with
            | zero => rw [hq2] at k1 g2; subst k1; exact hq s' a' w' g2 m2
            | succ i =>
              rw [hq2] at k1 g2 hq1
              subst k1
              simp only at g2
              split at g2
              · rename_i hi'
                have := Nat.eq_of_beq_eq_true hi'
                exact absurd (by rw [this]) hq1
              · exact he i s' a' w' g2 m2
  | cond c x y ihx ihy =>
    intro b s kn ke kr r a w Q hl hB h hr hn he hq
    simp only [run] at h
    obtain ⟨v, rd, h1, h2⟩ := rdRun_ev hct h
    have hr' := hr
    obtain ⟨E, F, hm, ht⟩ := hr
    obtain ⟨X, h3, h4⟩ := ev_ok ⟨rd, h1⟩ ht
    have := h4.ret
    subst this
    split at h2
    · rename_i t
      have hb := of_boo h3
      split at h2
      · exact wp_cond_true hb (ihx b s kn ke kr r a w Q hl.1 (fun p hp => hB p (by simp [blocks, hp])) h2 hr' hn he hq)
      · exact wp_cond_false hb (ihy b s kn ke kr r a w Q hl.2 (fun p hp => hB p (by simp [blocks, hp])) h2 hr' hn he hq)
    · simp at h2
  | block id x ih =>
    intro b s kn ke kr r a w Q hl hB h hr hn he hq
    simp only [run] at h
    split at h
    · refine wp_block (ih id s kn _ kr r a w _ hl (fun p hp => hB p (by simp [blocks, hp])) h hr hn (fun i s' a' w' h' hr' => ?_) hq)
      simp only [Exit.inBlock]
      split at h'
      · rename_i hi'
        rw [if_pos (Nat.eq_of_beq_eq_true hi')]
        exact hn s' a' w' h' hr'
      · rename_i hi'
        rw [if_neg (fun e => by subst e; simp at hi')]
        exact he i s' a' w' h' hr'
    · rename_i hjs
      split at h
      · simp at h
      · rename_i l hls
        obtain ⟨p, β, G, es, h1, h2, h3, h4, h5⟩ := leave_ok hct h hr
        obtain ⟨q, g1, g2⟩ := hlt.2 id l (b, .block id x) p _ r hjs hls (hB (id, (b, .block id x)) (by simp [blocks])) h1
        refine wp_mono (g1 C a w β G es ⟨rfl, hF⟩ h2 h3 h4 h5) fun e a' w' hpost => ?_
        obtain ⟨k1, k2, k3, sg, β', F', fs, k4, k5, k6⟩ := hpost
        rw [k4] at g2
        simp only at g2
        split at g2
        · simp at g2
        · rename_i s' hs'
          obtain ⟨m1, m2⟩ := mkSt_ok (rest := []) k5 k6 hs' (by simp) k2 k3
          rcases k1 with ⟨rfl, hq1⟩ | ⟨k1, hq1⟩
          · rw [hq1] at g2
            simp only [Nat.beq_refl] at g2
            exact hn s' a' w' g2 m2
          · cases hq2 : q.1 with
            | zero => rw [hq2] at k1 g2; subst k1; exact hq s' a' w' g2 m2
            | succ i =>
              rw [hq2] at k1 g2 hq1
              subst k1
              simp only at g2
              split at g2
              · rename_i hi'
                have := Nat.eq_of_beq_eq_true hi'
                exact absurd (by rw [this]) hq1
              · exact he i s' a' w' g2 m2
  | loop x ih =>
    intro b s kn ke kr r a w Q hl hB h hr hn he hq
    simp only [run] at h
    split at h
    · simp at h
    rename_i hjs
    split at h
    · simp at h
    · rename_i l hls
      obtain ⟨p, β, G, es, h1, h2, h3, h4, h5⟩ := leave_ok hct h hr
      obtain ⟨q, g1, g2⟩ := hlt.1 b l x p _ r hjs hls hl h1
      refine wp_mono (g1 C a w β G es ⟨rfl, hF⟩ h2 h3 h4 h5) fun e a' w' hpost => ?_
      obtain ⟨k1, k2, k3, sg, β', F', fs, k4, k5, k6⟩ := hpost
      rw [k4] at g2
      simp only at g2
      split at g2
      · simp at g2
      · rename_i s' hs'
        obtain ⟨m1, m2⟩ := mkSt_ok (rest := []) k5 k6 hs' (by simp) k2 k3
        cases hq1 : q.1 with
        | zero => rw [hq1] at k1 g2; subst k1; exact hq s' a' w' g2 m2
        | succ i => rw [hq1] at k1 g2; subst k1; exact he i s' a' w' g2 m2
  | exit id => intro b s kn ke kr r a w Q hl hB h hr hn he hq; exact wp_exit (he id s a w h hr)
  | ret => intro b s kn ke kr r a w Q hl hB h hr hn he hq; exact wp_ret (hq s a w h hr)
  | _ => intro b s kn ke kr r a w Q hl hB h hr hn he hq; simp [run] at h

/-- A loop by its rounds. -/
theorem iter_ok (hct : CTok ok ct) (hti : TIok P cx) (hok : ∀ rg ix c, look2 hi.cs rg ix = some c → ∀ p q, ok c.id p q → CallOK P c p q) (hmix : P.follows .mixedOrders = true) {nb : Nat} (hlt : LTok P hi bod nt nb lt)
    {b : Nat} {l : LS} {body : Code} (hls : lookN hi.ls b = some l) (hb : LoopsIn bod.lp b body) (hB : BlksIn bod.bk b body) {n : Nat} {p : List DV} {q : Rs} (h : iter (round cx hi ct lt nt nb b l body) n p = some q) : LoopOK P nt nb l body p q := by
  intro C a w β F es hC hs he hsz hd
  obtain ⟨hC, hF⟩ := hC
  subst hC
  refine wp_loop_fuel (fun n a w => ∃ p β F es, iter (round cx hi ct lt nt C.nb b l body) n p = some q ∧ SigIn l.h β F w p es a.tmps.toList ∧ Enter C F w l.h.bx.length β es ∧ a.tmps.size = nt ∧ a.defers = [])
    (n := n) ⟨p, β, F, es, h, hs, he, hsz, hd⟩ ?_
  rintro n a w ⟨p, β, F, es, h, hs, he, hsz, hd⟩
  cases n with
  | zero => simp [iter] at h
  | succ n =>
    simp only [iter, round] at h
    split at h
    · simp at h
    · rename_i s0 hs0
      obtain ⟨m1, m2⟩ := mkSt_ok (rest := []) hs he hs0 (by simp) hsz hd
      refine run_ok hct hti hok hmix hlt hF body b s0 _ _ _ q a w _ hb hB h m2 (fun s' a' w' h' hr' => ?_) (fun i s' a' w' h' hr' => ?_) (fun s' a' w' h' hr' => ?_)
      · obtain ⟨p', β', G', es', k1, k2, k3, k4, k5⟩ := leave_ok hct h' hr'
        exact ⟨n, Nat.lt_succ_self n, p', β', G', es', k1, k2, k3, k4, k5⟩
      · split at h'
        · simp at h'
        · rename_i sg hsg
          obtain ⟨p', β', G', es', k1, k2, k3, k4, k5⟩ := leave_ok hct h' hr'
          simp only [Option.some.injEq] at k1
          subst k1
          exact ⟨rfl, k4, k5, sg, β', G', es', hsg, k2, k3⟩
      · split at h'
        · simp at h'
        · rename_i sg hsg
          obtain ⟨p', β', G', es', k1, k2, k3, k4, k5⟩ := leave_ok hct h' hr'
          simp only [Option.some.injEq] at k1
          subst k1
          exact ⟨rfl, k4, k5, sg, β', G', es', hsg, k2, k3⟩

/-- A block that is told. -/
theorem blockR_ok (hct : CTok ok ct) (hti : TIok P cx) (hok : ∀ rg ix c, look2 hi.cs rg ix = some c → ∀ p q, ok c.id p q → CallOK P c p q) (hmix : P.follows .mixedOrders = true) {nb : Nat} (hlt : LTok P hi bod nt nb lt)
    {b0 b : Nat} {l : LS} {body : Code} (hb : LoopsIn bod.lp b0 body) (hB : BlksIn bod.bk b0 body) {p : List DV} {q : Rs} (h : blockR cx hi ct lt nt nb b0 b l body p = some q) : BlockOK P nt nb l b body p q := by
  intro C a w β F es hC hs he hsz hd
  obtain ⟨hC, hF⟩ := hC
  subst hC
  unfold blockR at h
  split at h
  · simp at h
  · rename_i s0 hs0
    obtain ⟨m1, m2⟩ := mkSt_ok (rest := []) hs he hs0 (by simp) hsz hd
    have key : ∀ i s' a' w', blockX nt C.nb ct l i s' = some q → Rel C (fun k => k < s'.nx) s' a' w' → q.1 = i + 1 ∧ a'.tmps.size = nt ∧ a'.defers = [] ∧
        ∃ sg β F fs, lookN l.x q.1 = some sg ∧ SigIn sg β F w' q.2 fs a'.tmps.toList ∧ Enter C F w' sg.bx.length β fs := by
      intro i s' a' w' h' hr'
      unfold blockX at h'
      split at h'
      · simp at h'
      · rename_i sg hsg
        obtain ⟨p', β', G', es', k1, k2, k3, k4, k5⟩ := leave_ok hct h' hr'
        simp only [Option.some.injEq] at k1
        subst k1
        exact ⟨rfl, k4, k5, sg, β', G', es', hsg, k2, k3⟩
    split at h
    · rename_i id x
      refine wp_block (run_ok hct hti hok hmix hlt hF x id s0 _ _ _ q a w _ hb (fun p hp => hB p (by simp [blocks, hp])) h m2 (fun s' a' w' h' hr' => ?_) (fun i s' a' w' h' hr' => ?_) (fun s' a' w' h' hr' => ?_))
      · obtain ⟨g1, g2⟩ := key b s' a' w' h' hr'
        exact ⟨.inl ⟨rfl, g1⟩, g2⟩
      · simp only [Exit.inBlock]
        split at h'
        · rename_i hi'
          rw [if_pos (Nat.eq_of_beq_eq_true hi')]
          obtain ⟨g1, g2⟩ := key b s' a' w' h' hr'
          exact ⟨.inl ⟨rfl, g1⟩, g2⟩
        · rename_i hi'
          rw [if_neg (fun e => by subst e; simp at hi')]
          unfold blockE at h'
          split at h'
          · simp at h'
          · rename_i hk
            obtain ⟨g1, g2⟩ := key i s' a' w' h' hr'
            exact ⟨.inr ⟨by rw [g1], by rw [g1]; intro e; have e2 := Nat.succ.inj e; subst e2; simp at hk⟩, g2⟩
      · split at h'
        · simp at h'
        · rename_i sg hsg
          obtain ⟨p', β', G', es', k1, k2, k3, k4, k5⟩ := leave_ok hct h' hr'
          simp only [Option.some.injEq] at k1
          subst k1
          exact ⟨.inr ⟨rfl, by simp⟩, k4, k5, sg, β', G', es', hsg, k2, k3⟩
    · rename_i id ops draw
      refine region_ok hct hmix (opG_ok hti hok C hF _ id ops s0.nx) h m2 (fun s' a' w' h' hr' => ?_)
      rw [fSt_eq] at h'
      obtain ⟨g1, g2⟩ := key b s' a' w' h' hr'
      exact ⟨.inl ⟨rfl, g1⟩, g2⟩
    · rename_i x y
      have hE : ∀ i s' a' w', blockE nt C.nb ct l b i s' = some q → Rel C (fun k => k < s'.nx) s' a' w' → BlkPost C l nt b q (.exit i) a' w' := by
        intro i s' a' w' h' hr'
        unfold blockE at h'
        split at h'
        · simp at h'
        · rename_i hk
          obtain ⟨g1, g2⟩ := key i s' a' w' h' hr'
          exact ⟨.inr ⟨by rw [g1], by rw [g1]; intro e; have e2 := Nat.succ.inj e; subst e2; simp at hk⟩, g2⟩
      have hR : ∀ s' a' w', (match lookN l.x 0 with | none => none | some sg => leave nt C.nb ct sg s' fun pay => some (0, pay)) = some q → Rel C (fun k => k < s'.nx) s' a' w' → BlkPost C l nt b q .ret a' w' := by
        intro s' a' w' h' hr'
        split at h'
        · simp at h'
        · rename_i sg hsg
          obtain ⟨p', β', G', es', k1, k2, k3, k4, k5⟩ := leave_ok hct h' hr'
          simp only [Option.some.injEq] at k1
          subst k1
          exact ⟨.inr ⟨rfl, by simp⟩, k4, k5, sg, β', G', es', hsg, k2, k3⟩
      refine wp_seq (run_ok hct hti hok hmix hlt hF x b0 s0 _ _ _ q a w _ hb.1 (fun p hp => hB p (blocks_seq (.inl hp))) h m2 (fun s' a' w' h' hr' => ?_) hE hR)
      refine run_ok hct hti hok hmix hlt hF y b0 s' _ _ _ q a' w' _ hb.2 (fun p hp => hB p (blocks_seq (.inr hp))) h' hr' (fun s' a' w' h' hr' => ?_) hE hR
      obtain ⟨g1, g2⟩ := key b s' a' w' h' hr'
      exact ⟨.inl ⟨rfl, g1⟩, g2⟩
    · simp at h
end
end Go.Proofs.Zs
/- A function's run is what its calls leave. -/
set_option linter.unusedVariables false
set_option linter.unusedSimpArgs false
namespace Go.Proofs.Zs
open Go

section
variable {P : Program} {ok : Nat → List DV → List DV → Prop} {cx : Cx} {hi : Hi} {ct : CT} {lt : LT} {bod : Bod} {C : Frm} {A : Nat → Prop} {E : Env} {F : Nat → Prop} {s : St} {a : Act} {w : World} {α : Type} {r : α}
def getR (tmps : Array Value) : ResultVar → Sem Value
  | .tmp t => pure (tmps.getD t undef)
  | .cell b t => do loadVar t (← asAddr (tmps.getD b undef))
theorem results_ok (hti : TIok P cx) (hm : Mem C A E F s.ob w) (ht : Tms E F s.tm a w) : ∀ {rv : List ResultVar} {k : List V → Rd α}, Ev ok (results cx rv k) s r →
    ∃ (xs : List V) (vs : List Value), All2 (RepV E F w) xs vs ∧ Ev ok (k xs) s r ∧ (rv.mapM (getR a.tmps)).run P w = .ok vs w ∧ vs.length = rv.length
  | [], k, h => ⟨[], [], trivial, h, by simp, rfl⟩
  | .tmp t :: rv, k, h => by
    simp only [results] at h
    have h := h.get
    simp only [look] at h
    obtain ⟨xs, vs, h1, h2, h3, h4⟩ := results_ok hti hm ht h
    refine ⟨_ :: xs, _ :: vs, ⟨ht.at_ t, h1⟩, h2, ?_, by simp [h4]⟩
    simp only [List.mapM_cons, getR, Sem.run_bind, Sem.run_pure, Result.andThen_ok, h3]
  | .cell b t :: rv, k, h => by
    simp only [results] at h
    obtain ⟨i, hi', h⟩ := Cx.t_ev h
    have hT := hti t i hi'
    have h := h.get
    simp only [look] at h
    split at h
    · rename_i n l y hb
      simp only [Cn.v.injEq] at hb
      have hv := ht.at_ b
      rw [hb] at hv
      obtain ⟨_, p1, p2, p3⟩ := hv
      simp only [List.cons.injEq, and_true] at p2
      obtain ⟨ls, g1, g2, g3⟩ := rdLs_ok _ _ h
      split at g2
      · rename_i v hz hv
        obtain ⟨c, q1, q2⟩ := box_seg hm g1 g3
        obtain ⟨x, k1, k2⟩ := load_ok (P := P) hT q1 q2 hz hv
        obtain ⟨xs, vs, h1, h2, h3, h4⟩ := results_ok hti hm ht g2
        refine ⟨_ :: xs, x :: vs, ⟨k2, h1⟩, h2, ?_, by simp [h4]⟩
        have k1' : (loadVar t ⟨(E.e n).blk, (E.e n).loff l, none⟩).run P w = .ok x w := by
          simpa [Instr.loadAt, Instr.sureAddr] using k1
        simp only [List.mapM_cons, getR, Sem.run_bind, Sem.run_pure, Result.andThen_ok, h3, p2, asAddr, k1']
      · exact g2.fail.elim
    · exact h.fail.elim
theorem RepBs.nf {β : Nat → EI} {G : Nat → Prop} : ∀ {kss : List (List LK)} {j : Nat} {p : List DV} {es : List EI}, RepBs β G w kss j p es → ∀ i, i < kss.length → ¬ G (β (j + i)).blk
  | [], j, p, es, h, i, hi => by simp at hi
  | ks :: r, j, p, es, h, i, hi => by
    obtain ⟨p1, p2, e1, e2, cs, t, _, _, _, _, h3, _, h5⟩ := h.inv
    cases i with
    | zero => exact h3
    | succ i =>
      have := RepBs.nf h5 i (by simpa using hi)
      rwa [show j + 1 + i = j + (i + 1) by omega] at this
theorem results_eq (fn : Func) (tmps : Array Value) : Go.results fn tmps = (do
    let vs ← fn.results.mapM (getR tmps)
    pure (if h : vs.size = 1 then vs[0] else .tuple vs)) := by
  unfold Go.results
  congr 1
theorem run_results {fn : Func} {tmps : Array Value} {vs : List Value} (h : (fn.results.toList.mapM (getR tmps)).run P w = .ok vs w) :
    (Go.results fn tmps).run P w = .ok (match Nat.beq vs.length 1 with | true => vs.headD undef | false => .tuple vs.toArray) w := by
  rw [results_eq, Array.mapM_eq_mapM_toList]
  simp only [Sem.run_bind, Sem.run_map, h, Result.andThen_ok, Sem.run_pure]
  match vs with
  | [] => simp
  | [v] => simp
  | u :: v :: r => simp; rfl
theorem finish_ok (hct : CTok ok ct) (hti : TIok P cx) {cs : CS} {fn : Func} {r0 q : List DV} {β : Nat → EI} {es : List EI} (hcl : cs.ob.length = cs.i.bx.length) (hone : cs.one = Nat.beq fn.results.size 1) (hrl : cs.r.length = fn.results.size) {n0 : Nat}
    (hC : C = ⟨ownB cs.i.bx.length β es, F, w, cs.i.bx.length, β⟩) {s' : St} {a' : Act} {w' : World}
    (h : finish cx ct fn.results.toList cs.i.bx.length cs.r cs.ob s' = some (n0, q)) (hr : Rel C (fun k => k < s'.nx) s' a' w') :
    a'.defers = [] ∧ ∃ v, (Go.results fn a'.tmps).run P w' = .ok v w' ∧ ∃ F' fs, SigOut cs β F w es q v w' F' fs := by
  unfold finish at h
  obtain ⟨x, rd, h1, h2⟩ := rdRun_ev hct h
  simp only [Option.some.injEq, Prod.mk.injEq] at h2
  obtain ⟨_, rfl⟩ := h2
  obtain ⟨E', F', hm, ht⟩ := hr
  obtain ⟨xs, vs, k1, k2, k3, k4⟩ := results_ok hti hm ht ⟨rd, h1⟩
  have hnb : C.nb = cs.i.bx.length := by rw [hC]
  obtain ⟨p, es', bs, tk, bw, g1, g2⟩ := mtSg_ok k2 hm ((boxKeys_ok hm cs.i.bx.length (by rw [hnb]; exact Nat.le_refl _)).append k1)
  obtain ⟨rfl, g3, g4⟩ := kept_ok g1
  have he := g2.enter hm (by rw [hnb]; exact g3) (fun j hj => g4 j (by rw [← hnb]; exact hj))
  have hs := SigIn.strip (sg := ⟨cs.r, cs.ob⟩) (nb := cs.i.bx.length) g2.sig (by simp [upto_len])
  have hβ : ∀ j, j < cs.i.bx.length → E'.e (nthD 0 bs j) = β j := fun j hj => by
    have := he.e0 j (by rw [hnb]; exact hj)
    rw [hC] at this
    exact this
  have hvl : vs.length = cs.r.length := by rw [k4, hrl]; simp
  obtain ⟨p1, p2, e1, e2, rfl, rfl, hA, hB⟩ := hs.ex
  have hO : ∀ b, C.O b ↔ ownB cs.i.bx.length β es b := fun b => by rw [hC]
  have hw0 : C.w0 = w := by rw [hC]
  have hF0 : C.F0 = F := by rw [hC]
  refine ⟨ht.df, (match cs.one with | true => vs.headD undef | false => .tuple vs.toArray), ?_, _, e1 ++ e2, ⟨⟨_, p1, p2, e1, e2, vs, hβ, rfl, rfl, hA, hvl, ?_, hB⟩, ?_, ?_, ?_, ?_, ?_, he.fb, ?_, ?_, ?_, hs.ed, ?_, hs.ef, ?_⟩⟩
  · have hsz : fn.results.size = vs.length := by rw [k4]; simp
    rw [hone, hsz]
    exact run_results k3
  · cases h1 : cs.one with
    | true =>
      rw [hone] at h1
      have := Nat.eq_of_beq_eq_true h1
      rw [← hrl, ← hvl] at this
      match vs, this with
      | [v], _ => rfl
    | false => rfl
  · have := he.sz; rw [hw0] at this; exact this
  · have := he.os; rw [hw0] at this; exact this
  · have := he.tape; rw [hw0] at this; exact this
  · have := he.output; rw [hw0] at this; exact this
  · intro b hb; exact he.f0 b (by rw [hF0]; exact hb)
  · intro b hb
    have := he.uf b hb
    rw [hO, hw0, hF0] at this; exact this
  · intro b hb ho
    have := he.kp b (by rw [hw0]; exact hb) (by rw [hO]; exact ho)
    rw [hw0] at this; exact this
  · intro j hj
    have := RepBs.nf hB j (by rw [hcl]; exact hj)
    rw [Nat.zero_add, hβ j hj] at this; exact this
  · intro j hj e h1 h2
    have := hs.be j (by rw [hcl]; exact hj) e h1 h2
    rw [hβ j hj] at this; exact this
  · intro e h1 h2
    have := he.uo e.blk (.inr ⟨e, h1, h2, rfl⟩)
    rw [hO, hw0] at this; exact this
theorem den_ok (hct : CTok ok ct) (hti : TIok P cx) (hok : ∀ rg ix c, look2 hi.cs rg ix = some c → ∀ p q, ok c.id p q → CallOK P c p q) (hmix : P.follows .mixedOrders = true) {cs : CS} {fn : Func} {code : Code} (hf : P.funcs[cs.fn]? = some fn) (hb : fn.body = some code)
    (hcf : ∀ args w, (callFunc cs.fn args).run P w = .ok (.enter cs.fn args) w) (hone : cs.one = Nat.beq fn.results.size 1) (hrl : cs.r.length = fn.results.size)
    (hlt : LTok P hi bod fn.ntmps cs.i.bx.length lt) (hl : LoopsIn bod.lp 0 code) (hB : BlksIn bod.bk 0 code) {p q : List DV} {n0 : Nat} (h : den cx hi ct lt fn code cs.i cs.r cs.ob p = some (n0, q)) : CallOK P cs p q := by
  refine ⟨hcf, fun β F w es vs hfb hvl hs hld => ?_, fun t ht => ?_⟩
  rotate_left
  · unfold den at h
    have hn : mkSt cs.i fn.ntmps p = none := by
      unfold mkSt
      rw [ht]
      rfl
    rw [hn] at h
    simp at h
  unfold den at h
  split at h
  · rename_i s0 hs0 hck
    simp only [Bool.and_eq_true, Nat.ble_eq, Nat.beq_eq] at hck
    have he : Enter ⟨ownB cs.i.bx.length β es, F, w, cs.i.bx.length, β⟩ F w cs.i.bx.length β es :=
      ⟨hfb, fun _ h => h, fun _ _ _ => rfl, fun _ h => .inl h, fun _ h => .inl h, Nat.le_refl _, rfl, rfl, rfl, Nat.le_refl _, fun _ _ => rfl⟩
    have hsz : (vs.toArray ++ Array.replicate (fn.ntmps - vs.toArray.size) undef).size = fn.ntmps := by simp; omega
    obtain ⟨m1, m2⟩ := mkSt_ok (rest := List.replicate (fn.ntmps - vs.toArray.size) undef) hs he hs0 (a := { tmps := vs.toArray ++ Array.replicate (fn.ntmps - vs.toArray.size) undef, defers := [] }) (by simp) hsz rfl
    refine calls_of_wp hf hb ?_
    refine run_ok (C := ⟨ownB cs.i.bx.length β es, F, w, cs.i.bx.length, β⟩) hct hti hok hmix hlt (FrmOk.of hfb hs hld) code 0 s0 _ _ _ (n0, q) _ w _ hl hB h m2 (fun s' a' w' h' hr' => ?_) (fun i s' a' w' h' hr' => by simp at h') (fun s' a' w' h' hr' => ?_)
    · obtain ⟨g1, v, g2, F', fs, g3⟩ := finish_ok (r0 := p) hct hti hck.2 hone hrl rfl h' hr'
      exact ⟨g1, v, g2, v, F', fs, rfl, g3⟩
    · obtain ⟨g1, v, g2, F', fs, g3⟩ := finish_ok (r0 := p) hct hti hck.2 hone hrl rfl h' hr'
      exact ⟨g1, v, g2, v, F', fs, rfl, g3⟩
  · simp at h
end
end Go.Proofs.Zs
