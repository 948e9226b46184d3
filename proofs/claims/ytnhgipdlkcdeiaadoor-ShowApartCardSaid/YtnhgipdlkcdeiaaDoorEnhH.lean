import Derived.Test.YtnhgipdlkcdeiaaDoorEnhF
set_option linter.unusedSimpArgs false
set_option linter.unusedVariables false
/- Tables: of types, of calls, of loops. -/
set_option linter.unusedVariables false
set_option linter.unusedSimpArgs false
namespace Go.Proofs.Zs
open Go

noncomputable def chkAll (P : Program) : List (Option TI) → Nat → Bool
  | [], _ => true
  | some i :: r, n => match tchk P n i with
    | true => chkAll P r (n + 1)
    | false => false
  | none :: r, n => chkAll P r (n + 1)
theorem chkAll_ok {P : Program} : ∀ {l : List (Option TI)} {n : Nat}, chkAll P l n = true → ∀ t i, nthD none l t = some i → TOk P (n + t) i
  | [], n, _, t, i, h => by simp [nthD] at h
  | none :: r, n, hc, 0, i, h => by simp [nthD] at h
  | some j :: r, n, hc, 0, i, h => by
    simp only [nthD, Option.some.injEq] at h
    subst h
    simp only [chkAll] at hc
    split at hc
    · rename_i hj; exact tchk_spec hj
    · simp at hc
  | none :: r, n, hc, t + 1, i, h => by
    have := chkAll_ok (n := n + 1) (l := r) (by simpa [chkAll] using hc) t i (by simpa [nthD] using h)
    rwa [show n + 1 + t = n + (t + 1) by omega] at this
  | some j :: r, n, hc, t + 1, i, h => by
    simp only [chkAll] at hc
    split at hc
    · have := chkAll_ok (n := n + 1) (l := r) hc t i (by simpa [nthD] using h)
      rwa [show n + 1 + t = n + (t + 1) by omega] at this
    · simp at hc
theorem TIok_of {P : Program} {l : List (Option TI)} (h : chkAll P l 0 = true) : TIok P { ti := fun t => nthD none l t } := fun t i hi => by
  have := chkAll_ok h t i hi
  rwa [Nat.zero_add] at this

/-- What is told of calls: by the callee's number in the table. -/
def okOf (P : Program) (tab : List CS) (id : Nat) (p q : List DV) : Prop := ∃ c, tab[id]? = some c ∧ CallOK P c p q
theorem okOf_hok {P : Program} {tab : List CS} {hi : Hi} (h : ∀ rg ix c, look2 hi.cs rg ix = some c → tab[c.id]? = some c) : ∀ rg ix c, look2 hi.cs rg ix = some c → ∀ p q, okOf P tab c.id p q → CallOK P c p q := by
  intro rg ix c hc p q ⟨c', h1, h2⟩
  rw [h rg ix c hc] at h1
  simp only [Option.some.injEq] at h1
  subst h1
  exact h2
theorem callFunc_ok {P : Program} {f : FuncId} {fn : Func} (hf : P.funcs[f]? = some fn) (hn : (fn.name == "runtime.NumGoroutine") = false) (hb : fn.body.isNone = false) (args : Array Value) (w : World) :
    (callFunc f args).run P w = .ok (.enter f args) w := by
  have hp : (program).run P w = .ok P w := rfl
  unfold callFunc
  simp only [Sem.run_bind, hp, Result.andThen_ok, hf, hn, hb, Bool.false_eq_true, if_false, Sem.run_pure]

/-- The loops of a code, by the blocks they lie in. -/
def loops : Nat → Code → List (Nat × Code)
  | b, .seq x y => loops b x ++ loops b y
  | b, .cond _ x y => loops b x ++ loops b y
  | _, .block id x => loops id x
  | b, .loop x => (b, x) :: loops b x
  | _, _ => []
theorem loops_in {bod : Nat → Option Code} : ∀ (code : Code) (b : Nat), (∀ p ∈ loops b code, bod p.1 = some p.2) → LoopsIn bod b code := by
  intro code
  induction code with
  | seq x y ihx ihy => intro b h; exact ⟨ihx b fun p hp => h p (by simp [loops, hp]), ihy b fun p hp => h p (by simp [loops, hp])⟩
  | cond c x y ihx ihy => intro b h; exact ⟨ihx b fun p hp => h p (by simp [loops, hp]), ihy b fun p hp => h p (by simp [loops, hp])⟩
  | block id x ih => intro b h; exact ih id fun p hp => h p (by simpa [loops] using hp)
  | loop x ih => intro b h; exact h (b, x) (by simp [loops])
  | _ => intro b h; trivial
def fsts {α : Type} : List (Nat × α) → List Nat
  | [] => []
  | p :: r => p.1 :: fsts r
theorem lookN_dist {α : Type} : ∀ {l : List (Nat × α)}, distinct (fsts l) = true → ∀ p ∈ l, lookN l p.1 = some p.2
  | [], _, p, h => by simp at h
  | q :: r, hd, p, h => by
    simp only [fsts, distinct] at hd
    split at hd
    · simp at hd
    · rename_i hm
      have hm := memN_false.1 hm
      simp only [lookN]
      rcases List.mem_cons.1 h with rfl | h
      · simp
      · have hne : q.1 ≠ p.1 := by
          intro e
          apply hm
          rw [e]
          have key : ∀ (l : List (Nat × α)) (p : Nat × α), p ∈ l → p.1 ∈ fsts l := by
            intro l
            induction l with
            | nil => intro p h; simp at h
            | cons x y ih =>
              intro p h
              rcases List.mem_cons.1 h with rfl | h
              · simp [fsts]
              · simp [fsts, ih p h]
          exact key r p h
        split
        · rename_i e; exact (hne (Nat.eq_of_beq_eq_true e)).elim
        · exact lookN_dist hd p h
theorem LoopsIn_of {code : Code} (h : distinct (fsts (loops 0 code)) = true) : LoopsIn (fun b => lookN (loops 0 code) b) 0 code := loops_in code 0 (lookN_dist h)
/-- What lies in a loop. -/
theorem loops_sub : ∀ (code : Code) (b : Nat) (q : Nat × Code), q ∈ loops b code → ∀ p ∈ loops q.1 q.2, p ∈ loops b code := by
  intro code
  induction code with
  | seq x y ihx ihy =>
    intro b q hq p hp
    simp only [loops, List.mem_append] at hq ⊢
    exact hq.imp (fun h => ihx b q h p hp) (fun h => ihy b q h p hp)
  | cond c x y ihx ihy =>
    intro b q hq p hp
    simp only [loops, List.mem_append] at hq ⊢
    exact hq.imp (fun h => ihx b q h p hp) (fun h => ihy b q h p hp)
  | block id x ih => intro b q hq p hp; exact ih id q hq p hp
  | loop x ih =>
    intro b q hq p hp
    simp only [loops, List.mem_cons] at hq ⊢
    rcases hq with rfl | hq
    · exact .inr hp
    · exact .inr (ih b q hq p hp)
  | _ => intro b q hq; simp [loops] at hq
theorem LoopsIn_body {code : Code} (h : distinct (fsts (loops 0 code)) = true) {b : Nat} {x : Code} (hb : lookN (loops 0 code) b = some x) : LoopsIn (fun b => lookN (loops 0 code) b) b x := by
  have hm : (b, x) ∈ loops 0 code := by
    have key : ∀ l : List (Nat × Code), lookN l b = some x → (b, x) ∈ l := by
      intro l
      induction l with
      | nil => intro h; simp [lookN] at h
      | cons p r ih =>
        intro h
        simp only [lookN] at h
        split at h
        · rename_i e
          simp only [Option.some.injEq] at h
          have := Nat.eq_of_beq_eq_true e
          subst this; subst h
          simp
        · simp [ih h]
    exact key _ hb
  exact loops_in x b fun p hp => lookN_dist h p (loops_sub code 0 (b, x) hm p hp)

theorem lookN_mem {α : Type} {b : Nat} {x : α} : ∀ l : List (Nat × α), lookN l b = some x → (b, x) ∈ l := by
  intro l
  induction l with
  | nil => intro h; simp [lookN] at h
  | cons p r ih =>
    intro h
    simp only [lookN] at h
    split at h
    · rename_i e
      simp only [Option.some.injEq] at h
      have := Nat.eq_of_beq_eq_true e
      subst this; subst h
      simp
    · simp [ih h]
theorem blocks_loop : ∀ (code : Code) (b : Nat) (q : Nat × Code), q ∈ loops b code → ∀ p ∈ blocks q.1 q.2, p ∈ blocks b code := by
  intro code
  induction code with
  | seq x y ihx ihy =>
    intro b q hq p hp
    simp only [loops, List.mem_append] at hq
    exact blocks_seq (hq.imp (fun h => ihx b q h p hp) (fun h => ihy b q h p hp))
  | cond c x y ihx ihy =>
    intro b q hq p hp
    simp only [loops, blocks, List.mem_append] at hq ⊢
    exact hq.imp (fun h => ihx b q h p hp) (fun h => ihy b q h p hp)
  | block id x ih => intro b q hq p hp; exact List.mem_cons_of_mem _ (ih id q hq p hp)
  | loop x ih =>
    intro b q hq p hp
    simp only [loops, List.mem_cons] at hq
    simp only [blocks]
    rcases hq with rfl | hq
    · exact hp
    · exact ih b q hq p hp
  | _ => intro b q hq; simp [loops] at hq
theorem blocks_sub : ∀ (code : Code) (b : Nat) (q : Nat × (Nat × Code)), q ∈ blocks b code → ∀ p ∈ blocks q.2.1 q.2.2, p ∈ blocks b code := by
  intro code
  induction code with
  | seq x y ihx ihy =>
    intro b q hq p hp
    rcases blocks_of_seq hq with ⟨id, ops, draw, hx, rfl⟩ | hq | hq
    · exact hp
    · exact blocks_seq (.inl (ihx b q hq p hp))
    · exact blocks_seq (.inr (ihy b q hq p hp))
  | cond c x y ihx ihy =>
    intro b q hq p hp
    simp only [blocks, List.mem_append] at hq ⊢
    exact hq.imp (fun h => ihx b q h p hp) (fun h => ihy b q h p hp)
  | block id x ih =>
    intro b q hq p hp
    simp only [blocks, List.mem_cons] at hq ⊢
    rcases hq with rfl | hq
    · simpa [blocks] using hp
    · exact .inr (ih id q hq p hp)
  | region id ops draw =>
    intro b q hq p hp
    simp only [blocks, List.mem_singleton] at hq
    subst hq
    exact hp
  | loop x ih => intro b q hq p hp; exact ih b q hq p hp
  | _ => intro b q hq; simp [blocks] at hq
theorem loops_block : ∀ (code : Code) (b : Nat) (q : Nat × (Nat × Code)), q ∈ blocks b code → ∀ p ∈ loops q.2.1 q.2.2, p ∈ loops b code := by
  intro code
  induction code with
  | seq x y ihx ihy =>
    intro b q hq p hp
    rcases blocks_of_seq hq with ⟨id, ops, draw, hx, rfl⟩ | hq | hq
    · exact hp
    · simp only [loops, List.mem_append]; exact .inl (ihx b q hq p hp)
    · simp only [loops, List.mem_append]; exact .inr (ihy b q hq p hp)
  | cond c x y ihx ihy =>
    intro b q hq p hp
    simp only [blocks, loops, List.mem_append] at hq ⊢
    exact hq.imp (fun h => ihx b q h p hp) (fun h => ihy b q h p hp)
  | block id x ih =>
    intro b q hq p hp
    simp only [blocks, List.mem_cons] at hq
    rcases hq with rfl | hq
    · exact hp
    · exact ih id q hq p hp
  | loop x ih => intro b q hq p hp; exact List.mem_cons_of_mem _ (ih b q hq p hp)
  | region id ops draw =>
    intro b q hq p hp
    simp only [blocks, List.mem_singleton] at hq
    subst hq
    exact hp
  | _ => intro b q hq; simp [blocks] at hq
theorem BlksIn_of {code : Code} (h : distinct (fsts (blocks 0 code)) = true) : BlksIn (fun b => lookN (blocks 0 code) b) 0 code := fun p hp => lookN_dist h p hp
theorem BlksIn_loop {code : Code} (h : distinct (fsts (blocks 0 code)) = true) {b : Nat} {x : Code} (hb : lookN (loops 0 code) b = some x) : BlksIn (fun b => lookN (blocks 0 code) b) b x :=
  fun p hp => lookN_dist h p (blocks_loop code 0 (b, x) (lookN_mem _ hb) p hp)
theorem BlksIn_block {code : Code} (h : distinct (fsts (blocks 0 code)) = true) {b : Nat} {x : Nat × Code} (hb : lookN (blocks 0 code) b = some x) : BlksIn (fun b => lookN (blocks 0 code) b) x.1 x.2 :=
  fun p hp => lookN_dist h p (blocks_sub code 0 (b, x) (lookN_mem _ hb) p hp)
theorem LoopsIn_block {code : Code} (h : distinct (fsts (loops 0 code)) = true) {b : Nat} {x : Nat × Code} (hb : lookN (blocks 0 code) b = some x) : LoopsIn (fun b => lookN (loops 0 code) b) x.1 x.2 :=
  loops_in x.2 x.1 fun p hp => lookN_dist h p (loops_block code 0 (b, x) (lookN_mem _ hb) p hp)

/-- Payloads taken apart. -/
noncomputable def un {R : Type} (t : Ty) (p : List DV) (k : Den t → List DV → Option R) : Option R :=
  match p with
  | ⟨u, v⟩ :: r => tyc u t (fun h => k (h ▸ v) r) none
  | [] => none
def un0 {R : Type} (p : List DV) (x : Option R) : Option R :=
  match p with
  | [] => x
  | _ => none
theorem un_some {R : Type} {t : Ty} {p : List DV} {k : Den t → List DV → Option R} {r : R} (h : un t p k = some r) : ∃ v q, p = ⟨t, v⟩ :: q ∧ k v q = some r := by
  unfold un at h
  split at h
  · rename_i u v q
    rcases tyc_or (t := u) (u := t) (k := fun h => k (h ▸ v) q) (e := none) with ⟨e, h'⟩ | e
    · rw [h'] at h
      subst e
      exact ⟨v, q, rfl, h⟩
    · rw [e] at h; simp at h
  · simp at h
theorem un0_some {R : Type} {p : List DV} {x : Option R} {r : R} (h : un0 p x = some r) : p = [] ∧ x = some r := by
  unfold un0 at h
  split at h
  · exact ⟨rfl, h⟩
  · simp at h
end Go.Proofs.Zs
/- Tables as lists; slices cloned; loops by plain functions. -/
set_option linter.unusedVariables false
set_option linter.unusedSimpArgs false
namespace Go.Proofs.Zs
open Go

def AllP {α : Type} (R : α → Prop) : List α → Prop
  | [] => True
  | x :: r => R x ∧ AllP R r
abbrev CE := CS × (List DV → (List DV → Option Rs) → Option Rs)
def ctL : List CE → CT
  | [] => fun _ _ _ => none
  | e :: r => fun f p K => match Nat.beq f e.1.id with
    | true => e.2 p K
    | false => ctL r f p K
def lookC : List CE → Nat → Option CS
  | [], _ => none
  | e :: r, f => match Nat.beq f e.1.id with
    | true => some e.1
    | false => lookC r f
def okC (P : Program) (l : List CE) (f : Nat) (p q : List DV) : Prop := ∃ c, lookC l f = some c ∧ CallOK P c p q
def CEok (P : Program) (e : CE) : Prop := ∀ p K r, e.2 p K = some r → ∃ q, CallOK P e.1 p q ∧ K q = some r
theorem ctL_ok {P : Program} : ∀ {l : List CE}, AllP (CEok P) l → CTok (okC P l) (ctL l)
  | [], _, f, p, K, r, h => by simp [ctL] at h
  | e :: l, ha, f, p, K, r, h => by
    simp only [ctL] at h
    split at h
    · rename_i hf
      obtain ⟨q, h1, h2⟩ := ha.1 p K r h
      exact ⟨q, ⟨e.1, by simp [lookC, hf], h1⟩, h2⟩
    · rename_i hf
      obtain ⟨q, ⟨c, h0, h1⟩, h2⟩ := ctL_ok ha.2 f p K r h
      exact ⟨q, ⟨c, by simp [lookC, hf, h0], h1⟩, h2⟩
theorem okC_hok {P : Program} {l : List CE} {cs : List ((Nat × Nat) × CS)} (h : AllP (fun e => lookC l e.2.id = some e.2) cs) : ∀ rg ix c, look2 cs rg ix = some c → ∀ p q, okC P l c.id p q → CallOK P c p q := by
  intro rg ix c hc p q ⟨c', h1, h2⟩
  have key : ∀ cs : List ((Nat × Nat) × CS), AllP (fun e => lookC l e.2.id = some e.2) cs → look2 cs rg ix = some c → lookC l c.id = some c := by
    intro cs
    induction cs with
    | nil => intro _ h; simp [look2] at h
    | cons x r ih =>
      intro ha h
      simp only [look2] at h
      split at h
      · simp only [Option.some.injEq] at h; subst h; exact ha.1
      · exact ih ha.2 h
  rw [key cs h hc] at h1
  simp only [Option.some.injEq] at h1
  subst h1
  exact h2
abbrev LE := Nat × (List DV → (Rs → Option Rs) → Option Rs)
def ltL : List LE → LT
  | [] => fun _ _ _ => none
  | e :: r => fun b p K => match Nat.beq b e.1 with
    | true => e.2 p K
    | false => ltL r b p K
def LEok (P : Program) (hi : Hi) (bod : Bod) (nt nb : Nat) (e : LE) : Prop :=
  (memN e.1 hi.js = false → ∀ l body, lookN hi.ls e.1 = some l → bod.lp e.1 = some body → ∀ p K r, e.2 p K = some r → ∃ q, LoopOK P nt nb l body p q ∧ K q = some r) ∧
  (memN e.1 hi.js = true → ∀ l body, lookN hi.ls e.1 = some l → bod.bk e.1 = some body → ∀ p K r, e.2 p K = some r → ∃ q, BlockOK P nt nb l e.1 body.2 p q ∧ K q = some r)
theorem ltL_ok {P : Program} {hi : Hi} {bod : Bod} {nt nb : Nat} : ∀ {l : List LE}, AllP (LEok P hi bod nt nb) l → LTok P hi bod nt nb (ltL l)
  | [], _ => ⟨fun b l body p K r h0 h1 h2 h => by simp [ltL] at h, fun b l body p K r h0 h1 h2 h => by simp [ltL] at h⟩
  | e :: t, ha => ⟨fun b l body p K r h0 h1 h2 h => by
      simp only [ltL] at h
      split at h
      · rename_i hb
        have := Nat.eq_of_beq_eq_true hb
        subst this
        exact ha.1.1 h0 l body h1 h2 p K r h
      · exact (ltL_ok ha.2).1 b l body p K r h0 h1 h2 h,
    fun b l body p K r h0 h1 h2 h => by
      simp only [ltL] at h
      split at h
      · rename_i hb
        have := Nat.eq_of_beq_eq_true hb
        subst this
        exact ha.1.2 h0 l body h1 h2 p K r h
      · exact (ltL_ok ha.2).2 b l body p K r h0 h1 h2 h⟩
/-- What the translation is asked: the orders of mixed operations. -/
structure Fn (P : Program) (f : FuncId) (fn : Func) (code : Code) : Prop where
  at_ : P.funcs[f]? = some fn
  body : fn.body = some code
  name : (fn.name == "runtime.NumGoroutine") = false
  loops : distinct (fsts (loops 0 code)) = true
  blks : distinct (fsts (blocks 0 code)) = true
noncomputable def codeOf (f : Func) : Code := match f.body with | some c => c | none => .skip
noncomputable def bodOf (f : Func) : Bod := ⟨fun b => lookN (Zs.loops 0 (codeOf f)) b, fun b => lookN (Zs.blocks 0 (codeOf f)) b⟩
noncomputable def bodyAt (f : Func) (b : Nat) : Code := match (bodOf f).lp b with | some c => c | none => .skip
noncomputable def blkAt (f : Func) (b : Nat) : Nat × Code := match (bodOf f).bk b with | some c => c | none => (0, .skip)
section
variable {P : Program} {cx : Cx} {hi : Hi} {l : List CE} {t : List LE}
theorem fn_ok (hti : TIok P cx) (hmix : P.follows .mixedOrders = true) (hct : AllP (CEok P) l) (hcs : AllP (fun e => lookC l e.2.id = some e.2) hi.cs) {cs : CS} {fn : Func} (hf : Fn P cs.fn fn (codeOf fn))
    (hone : cs.one = Nat.beq fn.results.size 1) (hrl : cs.r.length = fn.results.size) (hlt : AllP (LEok P hi (bodOf fn) fn.ntmps cs.i.bx.length) t) {p q : List DV} {n0 : Nat}
    (h : den cx hi (ctL l) (ltL t) fn (codeOf fn) cs.i cs.r cs.ob p = some (n0, q)) : CallOK P cs p q :=
  den_ok (ctL_ok hct) hti (okC_hok hcs) hmix hf.at_ hf.body (callFunc_ok hf.at_ hf.name (by rw [hf.body]; rfl)) hone hrl (ltL_ok hlt) (LoopsIn_of hf.loops) (BlksIn_of hf.blks) h
theorem loop_ok (hti : TIok P cx) (hmix : P.follows .mixedOrders = true) (hct : AllP (CEok P) l) (hcs : AllP (fun e => lookC l e.2.id = some e.2) hi.cs) {f : FuncId} {fn : Func} (hf : Fn P f fn (codeOf fn)) {nb b : Nat}
    (hlt : AllP (LEok P hi (bodOf fn) fn.ntmps nb) t) {ls : LS} {body : Code} (h1 : lookN hi.ls b = some ls) (h2 : (bodOf fn).lp b = some body) {n : Nat} {p : List DV} {q : Rs}
    (h : iter (round cx hi (ctL l) (ltL t) fn.ntmps nb b ls body) n p = some q) : LoopOK P fn.ntmps nb ls body p q :=
  iter_ok (ctL_ok hct) hti (okC_hok hcs) hmix (ltL_ok hlt) h1 (LoopsIn_body hf.loops h2) (BlksIn_loop hf.blks h2) h
theorem block_ok (hti : TIok P cx) (hmix : P.follows .mixedOrders = true) (hct : AllP (CEok P) l) (hcs : AllP (fun e => lookC l e.2.id = some e.2) hi.cs) {f : FuncId} {fn : Func} (hf : Fn P f fn (codeOf fn)) {nb b : Nat}
    (hlt : AllP (LEok P hi (bodOf fn) fn.ntmps nb) t) {ls : LS} {body : Nat × Code} (h2 : (bodOf fn).bk b = some body) {p : List DV} {q : Rs}
    (h : blockR cx hi (ctL l) (ltL t) fn.ntmps nb body.1 b ls body.2 p = some q) : BlockOK P fn.ntmps nb ls b body.2 p q :=
  blockR_ok (ctL_ok hct) hti (okC_hok hcs) hmix (ltL_ok hlt) (LoopsIn_block hf.loops h2) (BlksIn_block hf.blks h2) h
theorem noLoops {bod : Bod} {nt nb : Nat} : AllP (LEok P hi bod nt nb) [] := trivial
end

/-! A slice, cloned: by its code, for what is no nil slice, and for what is. -/
def clS (x : L) (n : Nat) : St := { tm := .one x :: bads (n - 1), ob := [], nx := 0 }
def denC (cx : Cx) (hi : Hi) (ct : CT) (lt : LT) (fn : Func) (c : Code) (t : Ty) (x : L) : Option Rs :=
  run cx hi ct lt fn.ntmps 0 0 c (clS x fn.ntmps) (finish cx ct fn.results.toList 0 [.one (.o t)] []) (fun _ _ => none) (finish cx ct fn.results.toList 0 [.one (.o t)] [])
section
variable {P : Program} {cx : Cx} {hi : Hi}
theorem clone_ok (hti : TIok P cx) (hmix : P.follows .mixedOrders = true) {cs : CS} {t : Ty} (hi0 : hi.cs = []) (hci : cs.i = { av := [.one (.d (.sl t))], bx := [] }) (hcr : cs.r = [.one (.o t)]) (hco : cs.ob = []) (hcn : cs.one = true) {fn : Func} (hf : Fn P cs.fn fn (codeOf fn))
    (hrl : fn.results.size = 1) (hnt : Nat.ble 1 fn.ntmps = true) (hnl : loops 0 (codeOf fn) = []) {xs : List (Den t)} {q : List DV} {n0 : Nat}
    (hz : xs = [] → denC cx hi (ctL []) (ltL []) fn (codeOf fn) t .nl = some (n0, q)) (hn : denC cx hi (ctL []) (ltL []) fn (codeOf fn) t (.nn t xs) = some (n0, q)) : CallOK P cs [⟨.sl t, xs⟩] q := by
  refine ⟨callFunc_ok hf.at_ hf.name (by rw [hf.body]; rfl), fun β F w es vs hfb hvl hs hld => ?_, fun u hu => by rw [hci] at hu; simp at hu⟩
  have hcx : CTok (okC P []) (ctL []) := ctL_ok (l := []) trivial
  have hok : ∀ rg ix c, look2 hi.cs rg ix = some c → ∀ p q, okC P [] c.id p q → CallOK P c p q := okC_hok (l := []) (by rw [hi0]; trivial)
  have he : Enter ⟨ownB cs.i.bx.length β es, F, w, cs.i.bx.length, β⟩ F w cs.i.bx.length β es :=
    ⟨hfb, fun _ h => h, fun _ _ _ => rfl, fun _ h => .inl h, fun _ h => .inl h, Nat.le_refl _, rfl, rfl, rfl, Nat.le_refl _, fun _ _ => rfl⟩
  have hnt' : 1 ≤ fn.ntmps := by simpa using hnt
  have hvl' : vs.length = 1 := by rw [hvl, hci]; rfl
  have hsz : (vs.toArray ++ Array.replicate (fn.ntmps - vs.toArray.size) undef).size = fn.ntmps := by simp; omega
  have hs0 : mkSt cs.i fn.ntmps [⟨.sl t, xs⟩] = some (clS (.dat (.sl t) xs) fn.ntmps) := by
    rw [hci]
    simp [mkSt, blAs, blA, blL, blBs, unpk, clS, boxes, tyc_same, hasHd, tmsOf]
  obtain ⟨m1, m2⟩ := mkSt_ok (rest := List.replicate (fn.ntmps - vs.toArray.size) undef) hs he hs0 (a := { tmps := vs.toArray ++ Array.replicate (fn.ntmps - vs.toArray.size) undef, defers := [] }) (by simp) hsz rfl
  have key : ∀ x : L, denC cx hi (ctL []) (ltL []) fn (codeOf fn) t x = some (n0, q) →
      Rel ⟨ownB cs.i.bx.length β es, F, w, cs.i.bx.length, β⟩ (fun k => k < (clS x fn.ntmps).nx) (clS x fn.ntmps) { tmps := vs.toArray ++ Array.replicate (fn.ntmps - vs.toArray.size) undef, defers := [] } w →
      Calls P cs.fn vs.toArray w fun out w' => ∃ v F' fs, out = .returned v ∧ SigOut cs β F w es q v w' F' fs := by
    intro x hx hr
    refine calls_of_wp hf.at_ hf.body ?_
    have hnb : cs.i.bx.length = 0 := by rw [hci]; rfl
    have hrun : run cx hi (ctL []) (ltL []) fn.ntmps cs.i.bx.length 0 (codeOf fn) (clS x fn.ntmps) (finish cx (ctL []) fn.results.toList cs.i.bx.length cs.r cs.ob) (fun _ _ => none) (finish cx (ctL []) fn.results.toList cs.i.bx.length cs.r cs.ob) = some (n0, q) := by
      rw [hcr, hco, hnb]; exact hx
    refine run_ok (C := ⟨ownB cs.i.bx.length β es, F, w, cs.i.bx.length, β⟩) (bod := bodOf fn) hcx hti hok hmix (ltL_ok (l := []) trivial) (FrmOk.of hfb hs hld) (codeOf fn) 0 _ _ _ _ (n0, q) _ w _ (loops_in _ 0 (by rw [hnl]; simp)) (BlksIn_of hf.blks) hrun hr (fun s' a' w' h' hr' => ?_) (fun i s' a' w' h' hr' => by simp at h') (fun s' a' w' h' hr' => ?_)
    · obtain ⟨g1, v, g2, F', fs, g3⟩ := finish_ok (r0 := []) hcx hti (by rw [hci, hco] <;> rfl) (by rw [hcn, hrl] <;> rfl) (by rw [hcr, hrl] <;> rfl) rfl h' hr'
      exact ⟨g1, v, g2, v, F', fs, rfl, g3⟩
    · obtain ⟨g1, v, g2, F', fs, g3⟩ := finish_ok (r0 := []) hcx hti (by rw [hci, hco] <;> rfl) (by rw [hcn, hrl] <;> rfl) (by rw [hcr, hrl] <;> rfl) rfl h' hr'
      exact ⟨g1, v, g2, v, F', fs, rfl, g3⟩
  obtain ⟨E, G, hm, ht⟩ := m2
  have h0 : RepV E G w (.one (.dat (.sl t) xs)) ((vs.toArray ++ Array.replicate (fn.ntmps - vs.toArray.size) undef).getD 0 undef) := by
    have := ht.at_ 0
    exact this
  have set : ∀ x : L, RepV E G w (.one x) ((vs.toArray ++ Array.replicate (fn.ntmps - vs.toArray.size) undef).getD 0 undef) →
      Rel ⟨ownB cs.i.bx.length β es, F, w, cs.i.bx.length, β⟩ (fun k => k < (clS x fn.ntmps).nx) (clS x fn.ntmps) { tmps := vs.toArray ++ Array.replicate (fn.ntmps - vs.toArray.size) undef, defers := [] } w := by
    intro x hx
    refine ⟨E, G, hm, fun k => ?_, ht.tl, ht.df⟩
    cases k with
    | zero => exact hx
    | succ k => exact ht.at_ (k + 1)
  obtain ⟨hc, hd⟩ := h0
  have hd' := hd
  rw [RepL, RepD] at hd
  obtain ⟨ad, cap, e, hl, hh⟩ := hd
  simp only [List.cons.injEq, and_true] at e
  cases ad with
  | none =>
    have hx : xs = [] := by
      rcases hh with h | ⟨b, o, ds, h, _⟩
      · exact h
      · simp at h
    refine key .nl (hz hx) (set .nl ⟨hc, cap, ?_⟩)
    rw [e, hx]; rfl
  | some b =>
    exact key (.nn t xs) hn (set (.nn t xs) ⟨hc, hd', b, List.length xs, cap, by rw [e]⟩)
end
end Go.Proofs.Zs
/- Payloads taken apart, for any number of parts. -/
set_option linter.unusedVariables false
set_option linter.unusedSimpArgs false
namespace Go.Proofs.Zs
open Go

@[reducible] def Cur (X : Type) : List Ty → Type
  | [] => X
  | t :: ts => Den t → Cur X ts
@[reducible] def Tup : List Ty → Type
  | [] => Unit
  | t :: ts => Den t × Tup ts
def ofT : (ts : List Ty) → Tup ts → List DV
  | [], _ => []
  | t :: ts, y => ⟨t, y.1⟩ :: ofT ts y.2
def appT {X : Type} : (ts : List Ty) → Cur X ts → Tup ts → X
  | [], e, _ => e
  | _ :: ts, e, y => appT ts (e y.1) y.2
def mapC {X Y : Type} (g : X → Y) : (ts : List Ty) → Cur X ts → Cur Y ts
  | [], e => g e
  | _ :: ts, e => fun y => mapC g ts (e y)
noncomputable def onG {X : Type} : (ts : List Ty) → List DV → Cur (Option X) ts → Option X
  | [], p, k => un0 p k
  | t :: ts, p, k => un t p fun y p => onG ts p (k y)
def curK {X : Type} : (ts : List Ty) → (List DV → X) → Cur X ts
  | [], K => K []
  | t :: ts, K => fun y => curK ts fun q => K (⟨t, y⟩ :: q)
theorem onG_K {X : Type} : ∀ {ts : List Ty} {p : List DV} {K : List DV → Option X} {x : X}, onG ts p (curK ts K) = some x → K p = some x
  | [], p, K, x, h => by
    simp only [onG, curK] at h
    obtain ⟨rfl, h⟩ := un0_some h
    exact h
  | t :: ts, p, K, x, h => by
    simp only [onG, curK] at h
    obtain ⟨y, q, rfl, h'⟩ := un_some h
    exact onG_K (K := fun q => K (⟨t, y⟩ :: q)) h'
theorem onG_app {X : Type} : ∀ {ts : List Ty} {p : List DV} {k : Cur (Option X) ts} {x : X}, onG ts p k = some x → ∃ ys : Tup ts, p = ofT ts ys ∧ appT ts k ys = some x
  | [], p, k, x, h => by
    simp only [onG] at h
    obtain ⟨rfl, h⟩ := un0_some h
    exact ⟨(), rfl, h⟩
  | t :: ts, p, k, x, h => by
    simp only [onG] at h
    obtain ⟨y, q, rfl, h'⟩ := un_some h
    obtain ⟨ys, rfl, h''⟩ := onG_app h'
    exact ⟨(y, ys), rfl, h''⟩
theorem appT_map {X Y : Type} {g : X → Y} : ∀ {ts : List Ty} {e : Cur X ts} {ys : Tup ts}, appT ts (mapC g ts e) ys = g (appT ts e ys)
  | [], _, _ => rfl
  | _ :: ts, e, ys => appT_map (ts := ts)
/-- An answer taken apart. -/
noncomputable def onR {X : Type} (us : List Ty) (r : Option Rs) (k : Cur (Option X) us) : Option X :=
  match r with
  | some (n, p) => match n with
    | 0 => onG us p k
    | _ + 1 => none
  | none => none
theorem onR_K {us : List Ty} {r : Option Rs} {K : List DV → Option Rs} {x : Rs} (h : onR us r (curK us K) = some x) : ∃ n q, r = some (n, q) ∧ K q = some x := by
  unfold onR at h
  split at h
  · split at h
    · exact ⟨_, _, rfl, onG_K h⟩
    · simp at h
  · simp at h
noncomputable def mkX (ts us : List Ty) (e : Cur (Option Rs) ts) : List DV → (List DV → Option Rs) → Option Rs := fun p K => onG ts p (mapC (fun r => onR us r (curK us K)) ts e)
theorem mkX_ok {P : Program} {c : CS} {ts us : List Ty} {e : Cur (Option Rs) ts} (h : ∀ ys n q, appT ts e ys = some (n, q) → CallOK P c (ofT ts ys) q) : CEok P (c, mkX ts us e) := by
  intro p K r hr
  have hr1 : mkX ts us e p K = some r := hr
  unfold mkX at hr1
  obtain ⟨ys, rfl, hr2⟩ := onG_app hr1
  rw [appT_map] at hr2
  obtain ⟨n, q, h1, h2⟩ := onR_K hr2
  exact ⟨q, h ys n q h1, h2⟩
/-- A loop's answer. -/
noncomputable def mkL (ts : List Ty) (l : Cur (Option Rs) ts) (g : Option Rs → (Rs → Option Rs) → Option Rs) : List DV → (Rs → Option Rs) → Option Rs := fun p K => onG ts p (mapC (fun r => g r K) ts l)
theorem mkL_ok {P : Program} {hi : Hi} {bod : Bod} {nt nb b : Nat} {ts : List Ty} {l : Cur (Option Rs) ts} {g : Option Rs → (Rs → Option Rs) → Option Rs} (hg : ∀ r K x, g r K = some x → ∃ q, r = some q ∧ K q = some x)
    {ls : LS} {body : Code} (h1 : lookN hi.ls b = some ls) (h2 : bod.lp b = some body) (h : ∀ ys q, appT ts l ys = some q → LoopOK P nt nb ls body (ofT ts ys) q) (h0 : memN b hi.js = false := by rfl) : LEok P hi bod nt nb (b, mkL ts l g) := by
  refine ⟨fun _ => ?_, fun h3 => absurd (h0.symm.trans h3) (by simp)⟩
  intro ls' body' hl hb p K r hr
  have hl : lookN hi.ls b = some ls' := hl
  have hb : bod.lp b = some body' := hb
  rw [h1] at hl
  rw [h2] at hb
  simp only [Option.some.injEq] at hl hb
  subst hl; subst hb
  have hr1 : mkL ts l g p K = some r := hr
  unfold mkL at hr1
  obtain ⟨ys, rfl, hr2⟩ := onG_app hr1
  rw [appT_map] at hr2
  obtain ⟨q, h3, h4⟩ := hg _ _ _ hr2
  exact ⟨q, h ys q h3, h4⟩
/-! Short forms, by tuples -/
def nos : Nat → List AK
  | 0 => []
  | n + 1 => .no :: nos n
def conC {X : Type} (x : X) : (ts : List Ty) → Cur X ts
  | [] => x
  | _ :: ts => fun _ => conC x ts
theorem appT_con {X : Type} (x : X) : ∀ (ts : List Ty) (ys : Tup ts), appT ts (conC x ts) ys = x
  | [], _ => rfl
  | _ :: ts, ys => appT_con x ts ys.2
theorem appT_curK {X : Type} : ∀ (ts : List Ty) (K : List DV → X) (ys : Tup ts), appT ts (curK ts K) ys = K (ofT ts ys)
  | [], _, _ => rfl
  | t :: ts, K, ys => appT_curK ts (fun q => K (⟨t, ys.1⟩ :: q)) ys.2
theorem cur_ext {X : Type} : ∀ {ts : List Ty} {f g : Cur X ts}, (∀ ys, appT ts f ys = appT ts g ys) → f = g
  | [], _, _, h => h ()
  | _ :: ts, _, _, h => funext fun y => cur_ext (ts := ts) fun ys => h (y, ys)
theorem lp_eq {ts : List Ty} {R : (List DV → Option Rs) → List DV → Option Rs} {r : Cur (Option Rs) ts → Cur (Option Rs) ts} {l : Nat → Cur (Option Rs) ts} (h0 : l 0 = conC none ts) (hs : ∀ n, l (n + 1) = r (l n))
    (hr : ∀ A ys, R A (ofT ts ys) = appT ts (r (curK ts A)) ys) : ∀ n ys, iter R n (ofT ts ys) = appT ts (l n) ys
  | 0, ys => by rw [h0, appT_con]; rfl
  | n + 1, ys => by
    have e : curK ts (iter R n) = l n := cur_ext fun ys => (appT_curK ts (iter R n) ys).trans (lp_eq h0 hs hr n ys)
    show R (iter R n) (ofT ts ys) = _
    rw [hr, e, hs]
section
variable {P : Program} {cx : Cx} {hi : Hi} {l : List CE} {t : List LE}
theorem fnX (hti : TIok P cx) (hmix : P.follows .mixedOrders = true) (hct : AllP (CEok P) l) (hcs : AllP (fun e => lookC l e.2.id = some e.2) hi.cs) {cs : CS} {fn : Func} (hf : Fn P cs.fn fn (codeOf fn))
    (hone : cs.one = Nat.beq fn.results.size 1) (hrl : cs.r.length = fn.results.size) (hlt : AllP (LEok P hi (bodOf fn) fn.ntmps cs.i.bx.length) t) {ts us : List Ty} {e : Cur (Option Rs) ts}
    (hk : ∀ ys : Tup ts, den cx hi (ctL l) (ltL t) fn (codeOf fn) cs.i cs.r cs.ob (ofT ts ys) = appT ts e ys) : CEok P (cs, mkX ts us e) :=
  mkX_ok fun ys _ _ h => fn_ok hti hmix hct hcs hf hone hrl hlt ((hk ys).trans h)
theorem loopX (hti : TIok P cx) (hmix : P.follows .mixedOrders = true) (hct : AllP (CEok P) l) (hcs : AllP (fun e => lookC l e.2.id = some e.2) hi.cs) {f : FuncId} {fn : Func} (hf : Fn P f fn (codeOf fn)) {nb b : Nat}
    (hlt : AllP (LEok P hi (bodOf fn) fn.ntmps nb) t) {ls : LS} {body : Code} (h1 : lookN hi.ls b = some ls) (h2 : (bodOf fn).lp b = some body) {ts : List Ty} {g : Option Rs → (Rs → Option Rs) → Option Rs}
    (hg : ∀ r K x, g r K = some x → ∃ q, r = some q ∧ K q = some x) {r : Cur (Option Rs) ts → Cur (Option Rs) ts} {lp : Nat → Cur (Option Rs) ts} {n : Nat} (h0 : lp 0 = conC none ts) (hs : ∀ n, lp (n + 1) = r (lp n))
    (hr : ∀ A ys, round cx hi (ctL l) (ltL t) fn.ntmps nb b ls body A (ofT ts ys) = appT ts (r (curK ts A)) ys) (h3 : memN b hi.js = false := by rfl) : LEok P hi (bodOf fn) fn.ntmps nb (b, mkL ts (lp n) g) :=
  mkL_ok hg h1 h2 (fun ys _ h => loop_ok hti hmix hct hcs hf hlt h1 h2 ((lp_eq h0 hs hr n ys).trans h)) h3
end
end Go.Proofs.Zs
