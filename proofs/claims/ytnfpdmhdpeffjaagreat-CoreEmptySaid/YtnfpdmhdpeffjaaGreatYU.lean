import Derived.Test.YtnfpdmhdpeffjaaGreatYT
import Derived.Test.YtnfpdmhdpeffjaaGreatPB
set_option linter.unusedSimpArgs false
set_option linter.unusedVariables false
/- Traps that are noted stay; nothing is left when it is over: the two laws' answers. -/
set_option maxRecDepth 100000
namespace Go.Proofs.Zz
open Go
variable {N:Nat}
def TrLess (a b:a1X):Prop:=b = a∨(b.Kind≠0∧(a.Kind≠0→b.Step < a.Step))
theorem TrLess.trans {a b c:a1X} (h:TrLess a b) (g:TrLess b c):TrLess a c:=by
 rcases g with rfl | ⟨g1,g2⟩
 · exact h
 ·
  rcases h with rfl | ⟨h1,h2⟩
  · exact .inr ⟨g1,g2⟩
  · exact .inr ⟨g1,fun hk=>by have:=g2 h1; have:=h2 hk; omega⟩
theorem g8i (x:a0b) {k:Int} (hk:k≠0) (st pc:Int):TrLess x.Trap (noteM x k st pc).Trap:=by
 unfold noteM;split
 ·
  rename_i h;refine .inr ⟨hk,fun h0=>?_⟩
  show st < x.Trap.Step;rcases h with h | h
  · exact absurd h h0
  · exact h
 · exact .inl rfl
theorem h0f (c:a0f) (s:a0g) (x:a0b):TrLess x.Trap (turnE c s x).Trap:=by
 have ha:TrLess x.Trap (atE s x).2.2.2.Trap:=by
  unfold atE;split
  · exact .inl rfl
  ·
   simp only [];split
   · exact g8i { x with E:={ x.E with Pos:=(settleM s true x.E.Pos).1 } } (by omega) _ _
   · exact .inl rfl
 unfold turnE;split
 · exact ha
 ·
  rcases h0K c s (atE s x).1 (atE s x).2.1 (atE s x).2.2.2 with e | e
  · rw [e]; exact ha
  · rw [e]; exact ha.trans (g8i _ (by omega) _ _)
theorem h0E (c:a0f) (s:a0g) (k:a0h) (st:Int) (x:a0b):TrLess x.Trap (actA c s k st x).Trap:=by
 unfold actA;split
 ·
  unfold doA;split
  · exact .inl rfl
  · exact g8i _ (by omega) _ _
 split
 ·
  unfold loadM;split
  · rename_i h; exact g8i _ h _ _
  ·
   split
   ·
    split
    ·
     unfold takeM resM
     repeat' split
     all_goals exact .inl rfl
    · exact .inl rfl
   ·
    split
    ·
     unfold askM resM
     repeat' split
     all_goals exact .inl rfl
    · exact .inl rfl
 split
 ·
  unfold storeM;split
  · rename_i h; exact g8i _ h _ _
  · split <;> exact .inl rfl
 split
 · split <;> exact .inl rfl
 split
 ·
  unfold branchA;split <;> exact .inl rfl
 split
 ·
  unfold followA;split <;> exact .inl rfl
 split
 · exact .inl rfl
 split <;> exact .inl rfl
theorem h0g (c:a0f) (s:a0g) (x:a0b):TrLess x.Trap (turnA c s x).Trap:=by
 have ha:TrLess x.Trap (atA s x).2.2.2.Trap:=by
  unfold atA;split
  · exact .inl rfl
  ·
   simp only [];split
   · exact g8i { x with A:={ x.A with Pos:=(settleM s false x.A.Pos).1 } } (by omega) _ _
   · exact .inl rfl
 unfold turnA;split
 · exact ha
 · exact ha.trans (h0E _ _ _ _ _)
theorem g8Z:∀ (T:List a0e) (x:a0b),(∀ q∈T,q.1 = false)→(endsM T x).Writes = x.Writes
 | [],_,_=>rfl
 | q::r,x,h=>by
  rw [endsM,g8Z r _ (fun a ha=>h a (List.mem_cons_of_mem _ ha))];split
  ·
   unfold doneM;rw [if_neg (show ¬ (downQ q).1 = true by rw [show (downQ q).1 = q.1 from rfl,h q (List.mem_cons_self ..)]; simp),e4b]
  · rfl
theorem h0F {p:a0s} {o:List Int} {s:a0g} {m0:List Int} {x:a0b} {c:a0f} {n j m i ka ke k:Nat} (t:a0w) (h:Spl p o s) (hR:RI k c s x) (hk:k≤12000) (hl:s.Blocks.length≤100000) (g:Cos p o s m0 (stripped x) x n j ka m i ke) :
  TrLess x.Trap (stepM c s t x).Trap∧(len (stepM c s t x).Writes > len x.Writes→x.Trap.Kind≠0→x.Saq.length≠0∧(headM x).2.2.1 < x.Trap.Step):=by
 obtain ⟨hr,hL,hM,hr2,hr3,e⟩:=g9l t h.next.2 hR hk hl
 have hb:=g7y t (Bnd.of hr).la c.Banks.toNat 0 { endsM x.Table x with Table:=x.Table.filterMap keepQ };have fe:=g9s x.Table x;have fb:moveM c t x = { ({ endsM x.Table x with Table:=x.Table.filterMap keepQ }:a0b) with Table:=(moveM c t x).Table,Lats:=(moveM c t x).Lats,Picks:=(moveM c t x).Picks }:=hb.fr;have t1:(moveM c t x).Trap = x.Trap:=by rw [fb]; show (endsM x.Table x).Trap = _; rw [fe]
 have w1:(moveM c t x).Writes = (endsM x.Table x).Writes:=by rw [fb]
 have t2:(sendM c (moveM c t x)).Trap = (moveM c t x).Trap:=by unfold sendM; split <;> rfl
 have w2:(sendM c (moveM c t x)).Writes = (moveM c t x).Writes:=by unfold sendM; split <;> rfl
 have tE:=h0f c s (sendM c (moveM c t x));have tA:=h0g c s (turnE c s (sendM c (moveM c t x)));have wE:(turnE c s (sendM c (moveM c t x))).Writes = (sendM c (moveM c t x)).Writes:=by rw [(d9F c s (sendM c (moveM c t x))).fr]
 have wA:(turnA c s (turnE c s (sendM c (moveM c t x)))).Writes = (turnE c s (sendM c (moveM c t x))).Writes:=by rw [(d3T c s (turnE c s (sendM c (moveM c t x)))).fr]
 rw [e];refine ⟨?_,fun hw hk=>?_⟩
 ·
  show TrLess x.Trap (turnA c s (turnE c s (sendM c (moveM c t x)))).Trap;rw [t2,t1] at tE;exact tE.trans tA
 ·
  have hw:len (turnA c s (turnE c s (sendM c (moveM c t x)))).Writes > len x.Writes:=hw;rw [wA,wE,w2,w1] at hw;have hst:∃ q∈x.Table,q.1 = true:=Classical.byContradiction fun hn=>by
   have:∀ q∈x.Table,q.1 = false:=fun q hq=>by
    cases hq1:q.1 with
    | false=>rfl
    | true=>exact absurd ⟨q,hq,hq1⟩ hn
   rw [g8Z _ _ this] at hw;omega
  obtain ⟨q,hq,hq1⟩:=hst;obtain ⟨dn,rest,_,_,w3⟩:=g.mc.wr;have hkn:=(w3.st (stripQ q) (List.mem_map.2 ⟨q,hq,rfl⟩) hq1).1;obtain ⟨u,u1,u2,u3⟩:=h0n g.mc hkn;obtain ⟨v,v1,v2,_⟩:=g.tr hk;have:=g9p g.pa g.pe v2 hk;have:=g8u hkn;exact ⟨by omega,by omega⟩
theorem h0k {p:a0s} {o:List Int} (c:a0f) (t:a0w) (s:a0g) (m0:List Int) (m:Nat) (hm:m≤200) (h:Spl p o s) (hlp:p.Code.length≤2000) (hl:s.Blocks.length≤100000) (hN:s.Blocks.length < N) (hN2:1001 < N):∀ (n i:Nat) (x:a0b),i≤m→m - i < n→RI i c s x→(∃ a b d e,Cos p o s m0 (stripped x) x a b i d e i) →
    g7V N n (m:Int) (i:Int) c t s x = some (1,[]):=by
  intro n;induction n with
  | zero=>intro i x h1 h2; omega
  | succ n ih =>
    intro i x h1 h2 hR hC;show g8b N (g7V N n) (m:Int) (i:Int) c t s x = _;unfold g8b;by_cases hi:i < m
    · obtain ⟨ry,_⟩:=e4R t h.next.2 hR (by omega) hl
      obtain ⟨a,b,d,e,hC⟩:=hC;have hpl:p.Code.length*(i+1)≤1000000000:=by
        have:=Nat.mul_le_mul hlp (show i+1≤201 by omega);omega
      obtain ⟨a',b',d',e',_,_,hC'⟩:=hC.step t h hR (by omega) hl hpl hpl;obtain ⟨l1,l2⟩:=h0F t h hR (by omega) hl hC;rw [dt (show (i:Int) < (m:Int) by omega),g7k,b5W c s t x hR.inv (by omega) hl hN hN2 (NextOk.of h.next.2),g7j,g7m,g7l];have again:=ih (i+1) _ (by omega) (by omega) ry ⟨a',b',d',e',hC'⟩;generalize stepM c s t x = y at *;rw [wS (show i≤100000000 by omega)];have hwr:bi (decide (len y.Writes > len x.Writes)) (
         bi (x.Trap.Kind != 0) (
          bi (len x.Saq == 0) (some (0,gB.dv false [])) <|
          gd (idx 0 (List.length x.Saq)) <|
          bi (decide ((List.getD x.Saq 0 a0a.z).2.2.1≥x.Trap.Step)) (some (0,gB.dv false [])) <|
          g7V N n (m:Int) ((i+1:Nat):Int) c t s y) <|
         g7V N n (m:Int) ((i+1:Nat):Int) c t s y) (g7V N n (m:Int) ((i+1:Nat):Int) c t s y) = (some (1,[]):Option Rs):=by
        rw [again];by_cases hw:len y.Writes > len x.Writes
        · rw [dt hw,g7k]
          by_cases hk:x.Trap.Kind = 0
          · rw [show (x.Trap.Kind != 0) = false by rw [hk]; rfl,g7i]
          · obtain ⟨g1,g2⟩:=l2 hw hk
            rw [show (x.Trap.Kind != 0) = true from bne_iff_ne.2 hk,g7k,len0,df g1,g7i,a1l (i:=0) (by omega) (by omega),g7n,df (show ¬ ((x.Saq.getD 0 a0a.z).2.2.1≥x.Trap.Step) by unfold headM at g2; omega),g7i]
        · rw [df hw,g7i]
      rw [hwr];by_cases hk:x.Trap.Kind = 0
      · rw [show (x.Trap.Kind != 0) = false by rw [hk]; rfl,g7i]
      · rw [show (x.Trap.Kind != 0) = true from bne_iff_ne.2 hk,g7k]
        rcases l1 with e1 | ⟨e1,e2⟩
        · rw [e1,beq_self_eq_true,beq_self_eq_true,beq_self_eq_true]
          rfl
        · have e3:=e2 hk
          rw [show (y.Trap.Kind == 0) = false from bf e1,g7i,df (show ¬ (y.Trap.Step≥x.Trap.Step) by omega),g7i,show (y.Trap.Step == x.Trap.Step) = false from bf (by omega),Bool.false_and,Bool.and_false,Bool.not_false,g7k]
    · have:i = m:=by omega
      subst this;rw [df (show ¬ ((i:Int) < (i:Int)) by omega),g7i]
end Go.Proofs.Zz

/- Traps that are noted stay; nothing is left when it is over: the two laws. -/
set_option maxRecDepth 100000
namespace Go.Proofs.Zz
open Go
variable {N:Nat}
theorem g8N {p:a0s} {o:List Int} (h:closedM p o = true):Spl p o (withS p o)∧rightP p = true∧(withS p o).Blocks.length≤2000∧p.Code.length≤2000∧len (memM p)≤65536:=by
 have hs:=Spl.of h;have hr:=hs.right;have h1:=(f2C p).len;have h2:=(f2e hr).2.1;have h3:=f5u hr;refine ⟨hs,hr,by rw [hs.len]; omega,h2,by simp only [len,g1Z hr]; omega⟩
theorem g9i (c:a0f) (p:a0s) (pick:Int) (t:a0w) (cy:Int):g8l 20000 c p pick t cy = some (0,gB.dv true []):=by
 unfold g8l;obtain ⟨o,ho,hs⟩:=g6V (N:=20000) p pick (by omega);obtain ⟨b,hb,hsm⟩:=g5o (N:=20000) p;simp only [d1G,hs,hb,g7j,g7m,g7l,Bool.not_true,g7i];cases b with
 | false=>rfl
 | true =>
  rw [Bool.not_true,g7i];by_cases h1:len t.Lats > 60
  · rw [dt h1]; rfl
  rw [df h1,g7i];by_cases h2:len t.Picks > 60
  · rw [dt h2]; rfl
  rw [df h2,g7i];cases hcl:closedM p o with
  | false=>rfl
  | true =>
   rw [Bool.not_true,g7i,b9P c (by omega),g7j,g7m,g7l];cases hc:cfgM c with
   | false=>rfl
   | true =>
    rw [Bool.not_true,g7i];by_cases h3:cy < 0
    · rw [dt h3]; rfl
    rw [df h3,g7i];by_cases h4:cy > 200
    · rw [dt h4]; rfl
    rw [df h4,g7i];obtain ⟨hsp,hr,hll,hlp,hm⟩:=g8N hcl;obtain ⟨m,rfl⟩:∃ m:Nat,cy = (m:Int):=⟨cy.toNat,by omega⟩
    have hl:=h0k (N:=20000) c t (withS p o) (memM p) m (by omega) hsp hlp (by omega) (by omega) (by omega) 20000 0 (st0 (memM p)) (by omega) (by omega) (e4P hc hsp.next.2 hm) ⟨0,0,0,0,Cos.first hsp⟩
    rw [g2z hr (by omega),g7j,g7m,g7l,show g7V 20000 20000 (m:Int) 0 c t (withS p o) (st0 (memM p)) = _ from hl,g7t _ _ (by decide),g7l]
theorem h0l {p:a0s} {o:List Int} (c:a0f) (t:a0w) (s:a0g) (m0:List Int) (h:Spl p o s) (hlp:p.Code.length≤2000) (hl:s.Blocks.length≤100000) (hN:s.Blocks.length < N) (hN2:1001 < N):∀ (n i:Nat) (x:a0b),i≤400→400 - i < n→RI i c s x→(∃ a b d e,Cos p o s m0 (stripped x) x a b i d e i) →
  ∃ y k,g7X N n (i:Int) c t s x = some (1,a0D.dv c (a0H.dv s (a0c.dv y [])))∧k≤400∧RI k c s y∧∃ a b d e,Cos p o s m0 (stripped y) y a b k d e k:=by
 intro n;induction n with
 | zero=>intro i x h1 h2; omega
 | succ n ih =>
  intro i x h1 h2 hR hC;show ∃ y k,g8a N (g7X N n) (i:Int) c t s x = _∧_
  unfold g8a;by_cases hi:i < 400
  ·
   rw [dt (show (i:Int) < 400 by omega),g7k,b6r c s x (hR.inv.wf (by omega)) hl hN hN2,g7j,g7m,g7l];cases hov:overS c s x with
   | true=>exact ⟨x,i,rfl,by omega,hR,hC⟩
   | false =>
    obtain ⟨ry,_⟩:=e4R t h.next.2 hR (by omega) hl
    obtain ⟨a,b,d,e,hC⟩:=hC;have hpl:p.Code.length*(i+1)≤1000000000:=by
     have:=Nat.mul_le_mul hlp (show i+1≤401 by omega);omega
    obtain ⟨a',b',d',e',_,_,hC'⟩:=hC.step t h hR (by omega) hl hpl hpl;rw [Bool.not_false,g7k,b5W c s t x hR.inv (by omega) hl hN hN2 (NextOk.of h.next.2),g7j,g7m,g7l,wS (show i≤100000000 by omega)];exact ih (i+1) _ (by omega) (by omega) ry ⟨a',b',d',e',hC'⟩
  ·
   rw [df (show ¬ ((i:Int) < 400) by omega),g7i];exact ⟨x,i,rfl,by omega,hR,hC⟩
theorem g9j (c : a0f) (p : a0s) (pick : Int) (t : a0w) : g8k 20000 c p pick t = some (0, gB.dv true []) := by
  unfold g8k
  obtain ⟨o, ho, hs⟩ := g6V (N := 20000) p pick (by omega)
  obtain ⟨b, hb, hsm⟩ := g5o (N := 20000) p
  simp only [d1G, hs, hb, g7j, g7m, g7l, Bool.not_true, g7i]
  cases b with
  | false => rfl
  | true =>
    rw [Bool.not_true, g7i]
    by_cases h1 : len t.Lats > 60
    · rw [dt h1]; rfl
    rw [df h1, g7i]
    by_cases h2 : len t.Picks > 60
    · rw [dt h2]; rfl
    rw [df h2, g7i]
    cases hcl : closedM p o with
    | false => rfl
    | true =>
      rw [Bool.not_true, g7i, b9P c (by omega), g7j, g7m, g7l]
      cases hc : cfgM c with
      | false => rfl
      | true =>
        obtain ⟨hsp, hr, hll, hlp, hm⟩ := g8N hcl
        obtain ⟨y, k, hl, hk, hR, a, b, d, e, hC⟩ := h0l (N := 20000) c t (withS p o) (memM p) hsp hlp (by omega) (by omega) (by omega) 20000 0 (st0 (memM p)) (by omega) (by omega) (e4P hc hsp.next.2 hm) ⟨0, 0, 0, 0, Cos.first hsp⟩
        rw [Bool.not_true, g7i, g2z hr (by omega), g7j, g7m, g7l, show g7X 20000 20000 0 c t (withS p o) (st0 (memM p)) = _ from hl, g7u, g7m, g7m, g7m, g7l, b6r c _ y (hR.inv.wf (by omega)) (by omega) (by omega) (by omega), g7j, g7m, g7l]
        cases hov : overS c (withS p o) y with
        | false => rfl
        | true =>
          rw [Bool.not_true, g7i]
          by_cases hkd : y.Trap.Kind = 0
          · have hpl : p.Code.length * (k + 1) ≤ 1000000000 := by
              have := Nat.mul_le_mul hlp (show k + 1 ≤ 401 by omega)
              omega
            have hry := hR.right (by omega)
            have hT := (d0S hry hov).1
            obtain ⟨n, j, m, i, g, nn, mm, hA, hE, hS⟩ := g9C hsp hC hry hov hpl hpl
            have hA1 : y.A.Halted = true := hA.elim id fun g => absurd hkd g.1
            have hE1 : y.E.Halted = true := hE.elim id fun g => absurd hkd g.1
            obtain ⟨hnm, _, _, s1, s2, s3, s4, s5, s6, _⟩ := g9A hsp g hA1 hE1 hkd hS
            subst hnm
            have pa := g.pa
            have pe := g.pe
            rw [hA1] at pa
            rw [hE1] at pe
            obtain ⟨b1, c1, c2, c3, c4, c5, _⟩ := g9y hsp pa nn
            obtain ⟨b2, d1, d2, d3, d4, d5, _⟩ := g9y hsp pe nn
            have hbb := h0J hr c1 d1 c2 c3 d2 d3
            subst hbb
            rw [show (y.Trap.Kind != 0) = false by rw [hkd]; rfl, g7i, hA1, g7k, hE1, g7k, s1, s2, s3, s4, s5, s6, hT, c5, d5, c4, d4]
            simp only [beq_self_eq_true, g7k]
            rfl
          · rw [show (y.Trap.Kind != 0) = true from bne_iff_ne.2 hkd, g7k]
end Go.Proofs.Zz
