/- Tables as lists; slices cloned; loops by plain functions. -/
import Derived.Test.YtpplgkggclddiaaEnhH
set_option linter.unusedVariables false
set_option linter.unusedSimpArgs false
namespace Go.Proofs.Zz
open Go

def AllP {α : Type} (R : α → Prop) : List α → Prop
  | [] => True
  | x :: r => R x ∧ AllP R r
abbrev CE := CS × (List DV → (List DV → Option Rs) → Option Rs)
def ctL : List CE → CT
  | [] => fun _ _ _ => none
  | e :: r => fun f p K => match Nat.beq f e.1.id with
    | true => e.2 p K
    | false => ctL r f p K
def lookC : List CE → Nat → Option CS
  | [], _ => none
  | e :: r, f => match Nat.beq f e.1.id with
    | true => some e.1
    | false => lookC r f
def okC (P : Program) (l : List CE) (f : Nat) (p q : List DV) : Prop := ∃ c, lookC l f = some c ∧ CallOK P c p q
def CEok (P : Program) (e : CE) : Prop := ∀ p K r, e.2 p K = some r → ∃ q, CallOK P e.1 p q ∧ K q = some r
theorem ctL_ok {P : Program} : ∀ {l : List CE}, AllP (CEok P) l → CTok (okC P l) (ctL l)
  | [], _, f, p, K, r, h => by simp [ctL] at h
  | e :: l, ha, f, p, K, r, h => by
    simp only [ctL] at h
    split at h
    · rename_i hf
      obtain ⟨q, h1, h2⟩ := ha.1 p K r h
      exact ⟨q, ⟨e.1, by simp [lookC, hf], h1⟩, h2⟩
    · rename_i hf
      obtain ⟨q, ⟨c, h0, h1⟩, h2⟩ := ctL_ok ha.2 f p K r h
      exact ⟨q, ⟨c, by simp [lookC, hf, h0], h1⟩, h2⟩
theorem okC_hok {P : Program} {l : List CE} {cs : List ((Nat × Nat) × CS)} (h : AllP (fun e => lookC l e.2.id = some e.2) cs) : ∀ rg ix c, look2 cs rg ix = some c → ∀ p q, okC P l c.id p q → CallOK P c p q := by
  intro rg ix c hc p q ⟨c', h1, h2⟩
  have key : ∀ cs : List ((Nat × Nat) × CS), AllP (fun e => lookC l e.2.id = some e.2) cs → look2 cs rg ix = some c → lookC l c.id = some c := by
    intro cs
    induction cs with
    | nil => intro _ h; simp [look2] at h
    | cons x r ih =>
      intro ha h
      simp only [look2] at h
      split at h
      · simp only [Option.some.injEq] at h; subst h; exact ha.1
      · exact ih ha.2 h
  rw [key cs h hc] at h1
  simp only [Option.some.injEq] at h1
  subst h1
  exact h2
abbrev LE := Nat × (List DV → (Rs → Option Rs) → Option Rs)
def ltL : List LE → LT
  | [] => fun _ _ _ => none
  | e :: r => fun b p K => match Nat.beq b e.1 with
    | true => e.2 p K
    | false => ltL r b p K
def LEok (P : Program) (hi : Hi) (bod : Nat → Option Code) (nt nb : Nat) (e : LE) : Prop := ∀ l body, lookN hi.ls e.1 = some l → bod e.1 = some body → ∀ p K r, e.2 p K = some r → ∃ q, LoopOK P nt nb l body p q ∧ K q = some r
theorem ltL_ok {P : Program} {hi : Hi} {bod : Nat → Option Code} {nt nb : Nat} : ∀ {l : List LE}, AllP (LEok P hi bod nt nb) l → LTok P hi bod nt nb (ltL l)
  | [], _, b, l, body, p, K, r, h1, h2, h => by simp [ltL] at h
  | e :: t, ha, b, l, body, p, K, r, h1, h2, h => by
    simp only [ltL] at h
    split at h
    · rename_i hb
      have := Nat.eq_of_beq_eq_true hb
      subst this
      exact ha.1 l body h1 h2 p K r h
    · exact ltL_ok ha.2 b l body p K r h1 h2 h
/-- What the translation is asked: the orders of mixed operations. -/
structure Fn (P : Program) (f : FuncId) (fn : Func) (code : Code) : Prop where
  at_ : P.funcs[f]? = some fn
  body : fn.body = some code
  name : (fn.name == "runtime.NumGoroutine") = false
  loops : distinct (fsts (loops 0 code)) = true
noncomputable def codeOf (f : Func) : Code := match f.body with | some c => c | none => .skip
noncomputable def bodOf (f : Func) (b : Nat) : Option Code := lookN (Zz.loops 0 (codeOf f)) b
noncomputable def bodyAt (f : Func) (b : Nat) : Code := match bodOf f b with | some c => c | none => .skip
section
variable {P : Program} {cx : Cx} {hi : Hi} {l : List CE} {t : List LE}
theorem fn_ok (hti : TIok P cx) (hmix : P.follows .mixedOrders = true) (hct : AllP (CEok P) l) (hcs : AllP (fun e => lookC l e.2.id = some e.2) hi.cs) {cs : CS} {fn : Func} (hf : Fn P cs.fn fn (codeOf fn))
    (hone : cs.one = Nat.beq fn.results.size 1) (hrl : cs.r.length = fn.results.size) (hlt : AllP (LEok P hi (bodOf fn) fn.ntmps cs.i.bx.length) t) {p q : List DV} {n0 : Nat}
    (h : den cx hi (ctL l) (ltL t) fn (codeOf fn) cs.i cs.r cs.ob p = some (n0, q)) : CallOK P cs p q :=
  den_ok (ctL_ok hct) hti (okC_hok hcs) hmix hf.at_ hf.body (callFunc_ok hf.at_ hf.name (by rw [hf.body]; rfl)) hone hrl (ltL_ok hlt) (LoopsIn_of hf.loops) h
theorem loop_ok (hti : TIok P cx) (hmix : P.follows .mixedOrders = true) (hct : AllP (CEok P) l) (hcs : AllP (fun e => lookC l e.2.id = some e.2) hi.cs) {f : FuncId} {fn : Func} (hf : Fn P f fn (codeOf fn)) {nb b : Nat}
    (hlt : AllP (LEok P hi (bodOf fn) fn.ntmps nb) t) {ls : LS} {body : Code} (h1 : lookN hi.ls b = some ls) (h2 : bodOf fn b = some body) {n : Nat} {p : List DV} {q : Rs}
    (h : iter (round cx hi (ctL l) (ltL t) fn.ntmps nb b ls body) n p = some q) : LoopOK P fn.ntmps nb ls body p q :=
  iter_ok (ctL_ok hct) hti (okC_hok hcs) hmix (ltL_ok hlt) h1 (LoopsIn_body hf.loops h2) h
theorem noLoops {bod : Nat → Option Code} {nt nb : Nat} : AllP (LEok P hi bod nt nb) [] := trivial
end

/-! A slice, cloned: by its code, for what is no nil slice, and for what is. -/
def clS (x : L) (n : Nat) : St := { tm := .one x :: bads (n - 1), ob := [], nx := 0 }
def denC (cx : Cx) (hi : Hi) (ct : CT) (lt : LT) (fn : Func) (c : Code) (t : Ty) (x : L) : Option Rs :=
  run cx hi ct lt fn.ntmps 0 0 c (clS x fn.ntmps) (finish cx ct fn.results.toList 0 [.one (.o t)] []) (fun _ _ => none) (finish cx ct fn.results.toList 0 [.one (.o t)] [])
section
variable {P : Program} {cx : Cx} {hi : Hi}
theorem clone_ok (hti : TIok P cx) (hmix : P.follows .mixedOrders = true) {cs : CS} {t : Ty} (hi0 : hi.cs = []) (hci : cs.i = { av := [.one (.d (.sl t))], bx := [] }) (hcr : cs.r = [.one (.o t)]) (hco : cs.ob = []) (hcn : cs.one = true) {fn : Func} (hf : Fn P cs.fn fn (codeOf fn))
    (hrl : fn.results.size = 1) (hnt : Nat.ble 1 fn.ntmps = true) (hnl : loops 0 (codeOf fn) = []) {xs : List (Den t)} {q : List DV} {n0 : Nat}
    (hz : xs = [] → denC cx hi (ctL []) (ltL []) fn (codeOf fn) t .nl = some (n0, q)) (hn : denC cx hi (ctL []) (ltL []) fn (codeOf fn) t (.nn t xs) = some (n0, q)) : CallOK P cs [⟨.sl t, xs⟩] q := by
  refine ⟨callFunc_ok hf.at_ hf.name (by rw [hf.body]; rfl), fun β F w es vs hfb hvl hs => ?_⟩
  have hcx : CTok (okC P []) (ctL []) := ctL_ok (l := []) trivial
  have hok : ∀ rg ix c, look2 hi.cs rg ix = some c → ∀ p q, okC P [] c.id p q → CallOK P c p q := okC_hok (l := []) (by rw [hi0]; trivial)
  have he : Enter ⟨ownB cs.i.bx.length β es, F, w, cs.i.bx.length, β⟩ F w cs.i.bx.length β es :=
    ⟨hfb, fun _ h => h, fun _ _ _ => rfl, fun _ h => .inl h, fun _ h => .inl h, Nat.le_refl _, rfl, rfl, rfl, Nat.le_refl _, fun _ _ => rfl⟩
  have hnt' : 1 ≤ fn.ntmps := by simpa using hnt
  have hvl' : vs.length = 1 := by rw [hvl, hci]; rfl
  have hsz : (vs.toArray ++ Array.replicate (fn.ntmps - vs.toArray.size) undef).size = fn.ntmps := by simp; omega
  have hs0 : mkSt cs.i fn.ntmps [⟨.sl t, xs⟩] = some (clS (.dat (.sl t) xs) fn.ntmps) := by
    rw [hci]
    simp [mkSt, blAs, blA, blL, blBs, unpk, clS, boxes, tyc_same]
  obtain ⟨m1, m2⟩ := mkSt_ok (rest := List.replicate (fn.ntmps - vs.toArray.size) undef) hs he hs0 (a := { tmps := vs.toArray ++ Array.replicate (fn.ntmps - vs.toArray.size) undef, defers := [] }) (by simp) hsz rfl
  have key : ∀ x : L, denC cx hi (ctL []) (ltL []) fn (codeOf fn) t x = some (n0, q) →
      Rel ⟨ownB cs.i.bx.length β es, F, w, cs.i.bx.length, β⟩ (fun k => k < (clS x fn.ntmps).nx) (clS x fn.ntmps) { tmps := vs.toArray ++ Array.replicate (fn.ntmps - vs.toArray.size) undef, defers := [] } w →
      Calls P cs.fn vs.toArray w fun out w' => ∃ v F' fs, out = .returned v ∧ SigOut cs β F w es q v w' F' fs := by
    intro x hx hr
    refine calls_of_wp hf.at_ hf.body ?_
    have hnb : cs.i.bx.length = 0 := by rw [hci]; rfl
    have hrun : run cx hi (ctL []) (ltL []) fn.ntmps cs.i.bx.length 0 (codeOf fn) (clS x fn.ntmps) (finish cx (ctL []) fn.results.toList cs.i.bx.length cs.r cs.ob) (fun _ _ => none) (finish cx (ctL []) fn.results.toList cs.i.bx.length cs.r cs.ob) = some (n0, q) := by
      rw [hcr, hco, hnb]; exact hx
    refine run_ok (C := ⟨ownB cs.i.bx.length β es, F, w, cs.i.bx.length, β⟩) (bod := bodOf fn) hcx hti hok hmix (ltL_ok (l := []) trivial) (codeOf fn) 0 _ _ _ _ (n0, q) _ w _ (loops_in _ 0 (by rw [hnl]; simp)) hrun hr (fun s' a' w' h' hr' => ?_) (fun i s' a' w' h' hr' => by simp at h') (fun s' a' w' h' hr' => ?_)
    · obtain ⟨g1, v, g2, F', fs, g3⟩ := finish_ok (r0 := []) hcx hti (by rw [hci, hco] <;> rfl) (by rw [hcn, hrl] <;> rfl) (by rw [hcr, hrl] <;> rfl) rfl h' hr'
      exact ⟨g1, v, g2, v, F', fs, rfl, g3⟩
    · obtain ⟨g1, v, g2, F', fs, g3⟩ := finish_ok (r0 := []) hcx hti (by rw [hci, hco] <;> rfl) (by rw [hcn, hrl] <;> rfl) (by rw [hcr, hrl] <;> rfl) rfl h' hr'
      exact ⟨g1, v, g2, v, F', fs, rfl, g3⟩
  obtain ⟨E, G, hm, ht⟩ := m2
  have h0 : RepV E G w (.one (.dat (.sl t) xs)) ((vs.toArray ++ Array.replicate (fn.ntmps - vs.toArray.size) undef).getD 0 undef) := by
    have := ht.at_ 0
    exact this
  have set : ∀ x : L, RepV E G w (.one x) ((vs.toArray ++ Array.replicate (fn.ntmps - vs.toArray.size) undef).getD 0 undef) →
      Rel ⟨ownB cs.i.bx.length β es, F, w, cs.i.bx.length, β⟩ (fun k => k < (clS x fn.ntmps).nx) (clS x fn.ntmps) { tmps := vs.toArray ++ Array.replicate (fn.ntmps - vs.toArray.size) undef, defers := [] } w := by
    intro x hx
    refine ⟨E, G, hm, fun k => ?_, ht.tl, ht.df⟩
    cases k with
    | zero => exact hx
    | succ k => exact ht.at_ (k + 1)
  obtain ⟨hc, hd⟩ := h0
  have hd' := hd
  rw [RepL, RepD] at hd
  obtain ⟨ad, cap, e, hl, hh⟩ := hd
  simp only [List.cons.injEq, and_true] at e
  cases ad with
  | none =>
    have hx : xs = [] := by
      rcases hh with h | ⟨b, o, ds, h, _⟩
      · exact h
      · simp at h
    refine key .nl (hz hx) (set .nl ⟨hc, cap, ?_⟩)
    rw [e, hx]; rfl
  | some b =>
    exact key (.nn t xs) hn (set (.nn t xs) ⟨hc, hd', b, List.length xs, cap, by rw [e]⟩)
end
end Go.Proofs.Zz
