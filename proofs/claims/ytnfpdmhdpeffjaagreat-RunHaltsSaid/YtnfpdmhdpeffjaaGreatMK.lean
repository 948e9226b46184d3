import Derived.Test.YtnfpdmhdpeffjaaGreatMJ
import Derived.Test.YtnfpdmhdpeffjaaGreatMH
set_option linter.unusedSimpArgs false
set_option linter.unusedVariables false
/- A cycle of the core, word for word: the program's and the document's; whether it is over. -/
set_option maxRecDepth 100000
namespace Go.Proofs.Zz
open Go
variable {N:Nat}
theorem e1R {x y:a0b} (h:(some (0,a0c.dv x []):Option Rs) = some (0,a0c.dv y [])):x = y:=by
 have h1:=(Prod.mk.inj (Option.some.inj h)).2
 have h2:=congrArg (gg [a0d] fun z=>some z) h1
 rw [gg_dv,gg_dv,gg_nil,gg_nil] at h2
 exact Option.some.inj h2
def stepM (c:a0f) (s:a0g) (t:a0w) (x:a0b):a0b :=
 if rightM c s x = true then { issueA c s (issueE c s (sendM c (moveM c t x))) with Cycle:=w.i64 ((issueA c s (issueE c s (sendM c (moveM c t x)))).Cycle+1) } else x
theorem e7X {m:Int} {q:a0e} (h:reqM m q = true):LfOk q:=((b8f m q).1 h).2
theorem c7l {c:a0f} {s:a0g} {t:a0w} {x:a0b} {k:Nat} (h:Inv k x) (hk:k≤900) (hr:rightM c s x = true):MovR x (moveM c t x) (x.Table.countP endsQ) ∧
  ∃ y,y.Table = x.Table.filterMap keepQ∧y.Lats = x.Lats∧y.Picks = x.Picks∧BegR c y (moveM c t x) c.Banks.toNat:=by
 have hb:=Bnd.of hr
 have ht:=hb.tab
 have hlq:=h.ldq
 have hwr:=h.wri
 obtain ⟨y,z,h1,m1,t1,t2,t3,bg⟩:=e3I (N:=1002) c t x hb.bk hb.la (by omega) (Lefts.of hr) h.mem (by omega) (by omega) (by omega)
 rw [e3w (N:=1002) c t x hb.bk hb.la (by omega) (Lefts.of hr) (fun q hq=>e7X (b4n hr q hq)) h.mem (by omega) (by omega) (by omega)] at h1
 have e:=e1R h1
 subst e
 exact ⟨m1,y,t1,t2,t3,bg⟩
theorem e2j (c:a0f) (x:a0b) (h:x.Table.length≤1000):SndR c x (sendM c x):=by
 obtain ⟨y,h1,h2⟩:=e1S (N:=1002) c x h (by omega)
 rw [e4c (N:=1002) c x h (by omega)] at h1
 rw [e1R h1]
 exact h2
theorem SndR.refl (c:a0f) (x:a0b):SndR c x x:=⟨.inl rfl,rfl,Nat.le_refl _,rfl,by omega,fun _ h=>h,fun h=>h⟩
theorem c6B {c:a0f} {s:a0g} {t:a0w} {x:a0b} {k:Nat} (h:Inv k x) (hk:k≤890) (hr:rightM c s x = true):Inv (k+1) (sendM c (moveM c t x))∧Inv (k+1) (moveM c t x):=by
 obtain ⟨m1,_⟩:=c7l (t:=t) h (by omega) hr
 have hb:=Bnd.of hr
 have ht:=m1.tab
 have ht2:=hb.tab
 exact ⟨(invM h hr m1 (d7o hr) (e2j c _ (by omega))).1,(invM h hr m1 (d7o hr) (SndR.refl c _)).1⟩
theorem b5W (c:a0f) (s:a0g) (t:a0w) (x:a0b) {k:Nat} (h:Inv k x) (hk:k≤800) (hl:s.Blocks.length≤100000) (hN:s.Blocks.length < N) (hN2:1001 < N) (hn:NextOk s) :
  a7h N c s t x = some (0,a0c.dv (stepM c s t x) []):=by
 unfold a7h stepM
 have hw:=h.wf (by omega)
 rw [b4e c s x hw.toStOk hN2,on1_some,gg_dv,gg_nil,d9c x hw,on1_some,gg_dv,gg_nil]
 cases hr:rightM c s x with
 | false=>rw [Bool.not_false,bi_true,if_neg (by simp)]
 | true =>
  have hb:=Bnd.of hr
  have ht:=hb.tab
  have hlq:=h.ldq
  have hwr:=h.wri
  obtain ⟨i2,i1⟩:=c6B (t:=t) h (by omega) hr
  have hw2:=i2.wf (by omega)
  have ht1:=i1.tab
  rw [Bool.not_true,bi_false,if_pos rfl,e3w (N:=N) c t x hb.bk hb.la (by omega) (Lefts.of hr) (fun q hq=>e7X (b4n hr q hq)) h.mem (by omega) (by omega) hN2,on1_some,gg_dv,gg_nil,e4c c _ (by omega) hN2,on1_some,gg_dv,gg_nil]
  generalize sendM c (moveM c t x) = x2 at *
  simp only [b4e c s x2 hw2.toStOk hN2,on1_some,gg_dv,gg_nil]
  unfold issueE
  cases hr2:rightM c s x2 with
  | false =>
   simp only [bi_false,Bool.false_eq_true,if_false]
   unfold issueA
   rw [if_neg (by rw [hr2]; simp)]
  | true =>
   obtain ⟨i3,e1,e2⟩:=invE i2 hr2
   have hw3:=i3.wf (by omega)
   simp only [bi_true,if_true,d3Y c s x2 hw2 hl hN hN2 hn (a6O (b1P hr2)),on1_some,gg_dv,gg_nil,b4e c s (turnE c s x2) hw3.toStOk hN2]
   unfold issueA
   cases hr3:rightM c s (turnE c s x2) with
   | false=>simp only [bi_false,Bool.false_eq_true,if_false]
   | true=>simp only [bi_true,if_true,d4f c s (turnE c s x2) i3.wfa hl hN hN2 hn (a6O (b7L hr3)),on1_some,gg_dv,gg_nil]
/-! Over -/
def restM (s:a0g) (e:Bool) (d:a0v) (x:a0b):Bool:=d.Halted || stoppedM x (nextM s e d.Pos).2.1
def leadQ (x:a0b) (e:a0a):Bool:=decide (x.Trap.Kind = 0) || decide (e.2.2.1 < x.Trap.Step)
def overS (c:a0f) (s:a0g) (x:a0b):Bool :=
 !rightM c s x || (decide (x.Table.length = 0) && (restM s false x.A x && (restM s true x.E x && !x.Saq.any (leadQ x))))
theorem d8Q (s:a0g) (x:a0b) (d:a0v) (e:Bool) (hl:s.Blocks.length≤100000) (hN:s.Blocks.length < N):b3l N s x d e = some (0,gB.dv (restM s e d x) []):=by
 unfold b3l restM
 rw [a6W s e _ hl hN,on1_some,gg_dv,gg_dv,gg_dv,gg_nil,b8F,on1_some,gg_dv,gg_nil]
 cases d.Halted <;> rfl
theorem e3O (l:List a0a) (x:a0b) (hT:l.length≤1000):∀ (n i:Nat),i≤l.length→l.length - i < n →
  (l.drop i |>.any (leadQ x)) = true∧(∃ r:Int,0≤r∧a0V N n l (len l) (i:Int) x = some (0,gI.dv r (a1t.dv x []))) ∨
  (l.drop i |>.any (leadQ x)) = false∧a0V N n l (len l) (i:Int) x = some (1,a1t.dv x []):=by
 intro n
 induction n with
 | zero=>intro i h1 h2; omega
 | succ n ih =>
  intro i h1 h2
  show _∧(∃ r:Int,0≤r∧a1p N (a0V N n) l (len l) (i:Int) x = _)∨_∧a1p N (a0V N n) l (len l) (i:Int) x = _
  unfold a1p
  by_cases hi:i < l.length
  ·
   have again:=ih (i+1) (by omega) (by omega)
   have hdrop:l.drop i = l.getD i a0a.z::l.drop (i+1):=by
    rw [List.drop_eq_getElem_cons hi,List.getD_eq_getElem?_getD,List.getElem?_eq_getElem hi]; rfl
   rw [a1f hi,bi_true,a1Q hi,gd_true,Int.toNat_natCast,hdrop,List.any_cons]
   have hb:b1W N (l.getD i a0a.z) x = some (0,gB.dv (leadQ x (l.getD i a0a.z)) (a1t.dv x [])):=by
    unfold b1W leadQ
    by_cases hk:x.Trap.Kind = 0
    · rw [bt hk,bi_true,decide_eq_true hk]; rfl
    · rw [bf hk,bi_false,decide_eq_false hk]; rfl
   rw [hb,on1_some,gg_dv,gg_dv,gg_nil,wS (show i≤100000000 by omega)]
   cases leadQ x (l.getD i a0a.z) with
   | true=>rw [bi_true,Bool.true_or]; exact .inl ⟨rfl,_,Int.natCast_nonneg _,rfl⟩
   | false=>rw [bi_false,Bool.false_or]; exact again
  ·
   have:i = l.length:=by omega
   subst this
   rw [a1e (by omega),bi_false,List.drop_length]
   exact .inr ⟨rfl,rfl⟩
theorem e5R (l:List a0a) (x:a0b) (hT:l.length≤1000) (hN:1001 < N):a1N N l x = some (0,gB.dv (l.any (leadQ x)) (a1t.dv x [])):=by
 unfold a1N a3Z
 rcases e3O (N:=N) l x hT N 0 (by omega) (by omega) with ⟨h1,r,hr,h⟩ | ⟨h1,h⟩
 ·
  rw [List.drop_zero] at h1
  rw [show a0V N N l (len l) 0 x = _ from h,onB_fst,gg_dv,gg_dv,gg_nil,on1_some,gg_dv,gg_dv,gg_nil,h1,dt (show r≥0 from hr)]
 ·
  rw [List.drop_zero] at h1
  rw [show a0V N N l (len l) 0 x = _ from h,onB_snd _ _ (by decide),h1]
  rfl
end Go.Proofs.Zz

/- What a cycle does to any state, and whether it is over: the reference law's answer. -/
set_option maxRecDepth 100000
namespace Go.Proofs.Zz
open Go
variable {N:Nat}
end Go.Proofs.Zz

/- From a program's beginning on each state may be, and what is over stays: the reference law's answer. -/
set_option maxRecDepth 100000
namespace Go.Proofs.Zz
open Go
variable {N:Nat}
theorem e4R {c:a0f} {s:a0g} (t:a0w) {x:a0b} {k:Nat} (hs:SplitOk s.Blocks) (h:RI k c s x) (hk:k≤400) (hl:s.Blocks.length≤100000):RI (k+1) c s (stepM c s t x)∧Adds c x (stepM c s t x):=by
 obtain ⟨y,h1,h2,h3⟩:=e7x (N:=s.Blocks.length+1002) c s t x hs h hk hl (by omega) (by omega)
 rw [b5W c s t x h.inv (by omega) hl (by omega) (by omega) (NextOk.of hs)] at h1
 have e:=e1R h1
 subst e
 exact ⟨h2,h3⟩
theorem RI.right {k:Nat} {c:a0f} {s:a0g} {x:a0b} (h:RI k c s x) (hk:k≤401):rightM c s x = true:=h.rp.right (by omega) (by omega) (by omega)
/-! What is over stays over -/
structure Calm (s:a0g) (x y:a0b):Prop where
 fr:y = { x with A:={ x.A with Pos:=y.A.Pos },E:={ x.E with Pos:=y.E.Pos } }
 nA:nextM s false y.A.Pos = nextM s false x.A.Pos
 nE:nextM s true y.E.Pos = nextM s true x.E.Pos
theorem Calm.refl (s:a0g) (x:a0b):Calm s x x:=⟨rfl,rfl,rfl⟩
theorem c5E (c:a0f) (t:a0w):∀ (n i:Nat) (x:a0b),x.Table = []→beginsM c t n i x = x
 | 0,_,x,_=>rfl
 | n+1,i,x,h=>by
  unfold beginsM
  have e:beginM c t (i:Int) x = x:=by
   unfold beginM
   rw [h]
   rfl
  rw [e]
  exact c5E c t n (i+1) x h
theorem e1q {c:a0f} {t:a0w} {x:a0b} (h:x.Table = []):moveM c t x = x:=by
 unfold moveM
 have e:({ endsM x.Table x with Table:=x.Table.filterMap keepQ }:a0b) = x:=by
  rw [h]
  show ({ x with Table:=[] }:a0b) = x
  rw [← h]
 rw [e]
 exact c5E c t _ _ x h
theorem e3d {c:a0f} {x:a0b} (h:x.Saq.any (leadQ x) = false):sendM c x = x:=by
 unfold sendM
 rw [if_neg]
 intro hc
 have h0:=(d8A hc).1
 unfold canM at hc
 simp only [Bool.and_eq_true] at hc
 have h1:leadQ x (headM x) = true:=hc.2.2.2.2.1
 have h2:headM x∈x.Saq:=by
  unfold headM
  rw [List.getD_eq_getElem?_getD,List.getElem?_eq_getElem (by omega)]
  exact List.getElem_mem _
 have h3:x.Saq.any (leadQ x) = true:=List.any_eq_true.2 ⟨_,h2,h1⟩
 rw [h] at h3
 cases h3
end Go.Proofs.Zz
