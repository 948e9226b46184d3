import Derived.Test.YtnfpdmhdpeffjaaGreatMJ
import Derived.Test.YtnfpdmhdpeffjaaGreatMH
set_option linter.unusedSimpArgs false
set_option linter.unusedVariables false
/- A cycle of the core, word for word: the program's and the document's; whether it is over. -/
set_option maxRecDepth 100000
namespace Go.Proofs.Zz
open Go
variable {N:Nat}
theorem e1R {x y:a0b} (h:(some (0,a0c.dv x []):Option Rs) = some (0,a0c.dv y [])):x = y:=by
 have h1:=(Prod.mk.inj (Option.some.inj h)).2
 have h2:=congrArg (gg [a0d] fun z=>some z) h1
 rw [gg_dv,gg_dv,gg_nil,gg_nil] at h2
 exact Option.some.inj h2
def stepM (c:a0f) (s:a0g) (t:a0w) (x:a0b):a0b :=
 if rightM c s x = true then { issueA c s (issueE c s (sendM c (moveM c t x))) with Cycle:=w.i64 ((issueA c s (issueE c s (sendM c (moveM c t x)))).Cycle+1) } else x
theorem e7X {m:Int} {q:a0e} (h:reqM m q = true):LfOk q:=((b8f m q).1 h).2
theorem c7l {c:a0f} {s:a0g} {t:a0w} {x:a0b} {k:Nat} (h:Inv k x) (hk:k≤900) (hr:rightM c s x = true):MovR x (moveM c t x) (x.Table.countP endsQ) ∧
  ∃ y,y.Table = x.Table.filterMap keepQ∧y.Lats = x.Lats∧y.Picks = x.Picks∧BegR c y (moveM c t x) c.Banks.toNat:=by
 have hb:=Bnd.of hr
 have ht:=hb.tab
 have hlq:=h.ldq
 have hwr:=h.wri
 obtain ⟨y,z,h1,m1,t1,t2,t3,bg⟩:=e3I (N:=1002) c t x hb.bk hb.la (by omega) (Lefts.of hr) h.mem (by omega) (by omega) (by omega)
 rw [e3w (N:=1002) c t x hb.bk hb.la (by omega) (Lefts.of hr) (fun q hq=>e7X (b4n hr q hq)) h.mem (by omega) (by omega) (by omega)] at h1
 have e:=e1R h1
 subst e
 exact ⟨m1,y,t1,t2,t3,bg⟩
theorem e2j (c:a0f) (x:a0b) (h:x.Table.length≤1000):SndR c x (sendM c x):=by
 obtain ⟨y,h1,h2⟩:=e1S (N:=1002) c x h (by omega)
 rw [e4c (N:=1002) c x h (by omega)] at h1
 rw [e1R h1]
 exact h2
theorem e5L {c:a0f} {s:a0g} {t:a0w} {x:a0b} {k:Nat} (h:Inv k x) (hk:k≤900) (hr:rightM c s x = true):∀ q∈(moveM c t x).Table,(0≤q.2.2.1∧q.2.2.1≤100000)∧(1≤q.2.2.2.1∧q.2.2.2.1≤4):=by
 obtain ⟨_,y,hy,_,_,bg⟩:=c7l (t:=t) h hk hr
 intro q hq
 have h1:stripQ q∈y.Table.map stripQ:=by
  rw [← bg.tab]; exact List.mem_map_of_mem hq
 obtain ⟨q1,hq1,e1⟩:=List.mem_map.1 h1
 rw [hy] at hq1
 obtain ⟨q2,hq2,e2⟩:=List.mem_filterMap.1 hq1
 have e3:=b2B e2
 have e4:=b7Z (e1.symm.trans e3)
 have hreq:=b4n hr q2 hq2
 have hm:=b8A hr
 unfold reqM at hreq
 simp only [Bool.and_eq_true] at hreq
 have hl:=hreq.2.2.1
 unfold liesM at hl
 have hl:=of_decide_eq_true hl
 rw [e4.2.1,e4.2.2]
 omega
theorem SndR.refl (c:a0f) (x:a0b):SndR c x x:=⟨.inl rfl,rfl,Nat.le_refl _,rfl,by omega,fun _ h=>h,fun h=>h⟩
theorem c6B {c:a0f} {s:a0g} {t:a0w} {x:a0b} {k:Nat} (h:Inv k x) (hk:k≤890) (hr:rightM c s x = true):Inv (k+1) (sendM c (moveM c t x))∧Inv (k+1) (moveM c t x):=by
 obtain ⟨m1,_⟩:=c7l (t:=t) h (by omega) hr
 have hb:=Bnd.of hr
 have ht:=m1.tab
 have ht2:=hb.tab
 exact ⟨(invM h hr m1 (d7o hr) (e2j c _ (by omega))).1,(invM h hr m1 (d7o hr) (SndR.refl c _)).1⟩
theorem b5W (c:a0f) (s:a0g) (t:a0w) (x:a0b) {k:Nat} (h:Inv k x) (hk:k≤800) (hl:s.Blocks.length≤100000) (hN:s.Blocks.length < N) (hN2:1001 < N) (hn:NextOk s) :
  a7h N c s t x = some (0,a0c.dv (stepM c s t x) []):=by
 unfold a7h stepM
 have hw:=h.wf (by omega)
 rw [b4e c s x hw.toStOk hN2,on1_some,gg_dv,gg_nil,d9c x hw,on1_some,gg_dv,gg_nil]
 cases hr:rightM c s x with
 | false=>rw [Bool.not_false,bi_true,if_neg (by simp)]
 | true =>
  have hb:=Bnd.of hr
  have ht:=hb.tab
  have hlq:=h.ldq
  have hwr:=h.wri
  obtain ⟨i2,i1⟩:=c6B (t:=t) h (by omega) hr
  have hw2:=i2.wf (by omega)
  have ht1:=i1.tab
  rw [Bool.not_true,bi_false,if_pos rfl,e3w (N:=N) c t x hb.bk hb.la (by omega) (Lefts.of hr) (fun q hq=>e7X (b4n hr q hq)) h.mem (by omega) (by omega) hN2,on1_some,gg_dv,gg_nil,e4c c _ (by omega) hN2,on1_some,gg_dv,gg_nil]
  generalize sendM c (moveM c t x) = x2 at *
  simp only [b4e c s x2 hw2.toStOk hN2,on1_some,gg_dv,gg_nil]
  unfold issueE
  cases hr2:rightM c s x2 with
  | false =>
   simp only [bi_false,Bool.false_eq_true,if_false]
   unfold issueA
   rw [if_neg (by rw [hr2]; simp)]
  | true =>
   obtain ⟨i3,e1,e2⟩:=invE i2 hr2
   have hw3:=i3.wf (by omega)
   simp only [bi_true,if_true,d3Y c s x2 hw2 hl hN hN2 hn (a6O (b1P hr2)),on1_some,gg_dv,gg_nil,b4e c s (turnE c s x2) hw3.toStOk hN2]
   unfold issueA
   cases hr3:rightM c s (turnE c s x2) with
   | false=>simp only [bi_false,Bool.false_eq_true,if_false]
   | true=>simp only [bi_true,if_true,d4f c s (turnE c s x2) i3.wfa hl hN hN2 hn (a6O (b7L hr3)),on1_some,gg_dv,gg_nil]
theorem e0r {c:a0f} {s:a0g} {t:a0w} {x:a0b} {k:Nat} (h:Inv k x) (hk:k≤800) (hr:rightM c s x = true) (hN:1001 < N):c2d N c (moveM c t x) = some (0,a0c.dv (sendM c (moveM c t x)) []):=by
 obtain ⟨i2,i1⟩:=c6B (t:=t) h (by omega) hr
 obtain ⟨m1,_⟩:=c7l (t:=t) h (by omega) hr
 have hL:=c9l (m:=len x.Mem) (b8A hr) x.Saq true (c9r hr)
 exact e6i c _ (i1.wf (by omega)) (fun e he=>by rw [m1.saq] at he; exact hL e (List.mem_of_mem_drop he)) (e5L h (by omega) hr) hN
theorem c7R (c:a0f) (s:a0g) (t:a0w) (x:a0b) {k:Nat} (h:Inv k x) (hk:k≤800) (hs:SplitOk s.Blocks) (hl:s.Blocks.length≤100000) (hN:s.Blocks.length < N) (hN2:1001 < N) :
  c2v N c s t x = some (0,a0c.dv (stepM c s t x) []):=by
 unfold c2v stepM
 have hn:=NextOk.of hs
 have hw:=h.wf (by omega)
 rw [a6E c s x hw.toStOk hN2,on1_some,gg_dv,gg_nil,b6Q x hw,on1_some,gg_dv,gg_nil]
 cases hr:rightM c s x with
 | false=>rw [Bool.not_false,bi_true,if_neg (by simp)]
 | true =>
  have hb:=Bnd.of hr
  have ht:=hb.tab
  obtain ⟨i2,i1⟩:=c6B (t:=t) h (by omega) hr
  rw [Bool.not_true,bi_false,if_pos rfl,e1m c t x hw hb.bk hb.la (by omega) (Lefts.of hr) (fun q hq=>e7X (b4n hr q hq)) h.mem hN2,on1_some,gg_dv,gg_nil,e0r h hk hr hN2,on1_some,gg_dv,gg_nil]
  generalize sendM c (moveM c t x) = x2 at *
  have i3:Inv (k+1) (issueE c s x2):=by
   unfold issueE
   split
   · rename_i hr2; exact (invE i2 hr2).1
   · exact i2
  rw [e1M c s x2 (i2.wf (by omega)) hl hN hN2 hn,on1_some,gg_dv,gg_nil,e2o c s _ (i3.wf (by omega)) i3.wfa hs hl hN hN2,on1_some,gg_dv,gg_nil]
theorem e4M {c:a0f} {s:a0g} (t:a0w) {x:a0b} {k:Nat} (h:Inv k x) (hk:k≤800):Inv (k+1) (stepM c s t x):=by
 unfold stepM
 split
 ·
  rename_i hr
  obtain ⟨i2,_⟩:=c6B (t:=t) h (by omega) hr
  refine Inv.cyc ?_ _
  have i3:Inv (k+1) (issueE c s (sendM c (moveM c t x))):=by
   unfold issueE
   split
   · rename_i hr2; exact (invE i2 hr2).1
   · exact i2
  unfold issueA
  split
  · rename_i hr3; exact (invA i3 hr3).1
  · exact i3
 · exact h.mono (by omega)
/-! Over -/
def restM (s:a0g) (e:Bool) (d:a0v) (x:a0b):Bool:=d.Halted || stoppedM x (nextM s e d.Pos).2.1
def leadQ (x:a0b) (e:a0a):Bool:=decide (x.Trap.Kind = 0) || decide (e.2.2.1 < x.Trap.Step)
def overS (c:a0f) (s:a0g) (x:a0b):Bool :=
 !rightM c s x || (decide (x.Table.length = 0) && (restM s false x.A x && (restM s true x.E x && !x.Saq.any (leadQ x))))
theorem d8Q (s:a0g) (x:a0b) (d:a0v) (e:Bool) (hl:s.Blocks.length≤100000) (hN:s.Blocks.length < N):b3l N s x d e = some (0,gB.dv (restM s e d x) []):=by
 unfold b3l restM
 rw [a6W s e _ hl hN,on1_some,gg_dv,gg_dv,gg_dv,gg_nil,b8F,on1_some,gg_dv,gg_nil]
 cases d.Halted <;> rfl
theorem d3I (s:a0g) (x:a0b) (d:a0v) (e:Bool) (hb:I64 d.Pos.Base) (hl:s.Blocks.length≤100000) (hN:s.Blocks.length < N):b5L N s e d x = some (0,gB.dv (restM s e d x) []):=by
 unfold b5L restM
 rw [b0A s e _ hb hl hN,on1_some,gg_dv,gg_dv,gg_dv,gg_nil,b6W,on1_some,gg_dv,gg_nil]
 cases d.Halted <;> rfl
theorem e3O (l:List a0a) (x:a0b) (hT:l.length≤1000):∀ (n i:Nat),i≤l.length→l.length - i < n →
  (l.drop i |>.any (leadQ x)) = true∧(∃ r:Int,0≤r∧a0V N n l (len l) (i:Int) x = some (0,gI.dv r (a1t.dv x []))) ∨
  (l.drop i |>.any (leadQ x)) = false∧a0V N n l (len l) (i:Int) x = some (1,a1t.dv x []):=by
 intro n
 induction n with
 | zero=>intro i h1 h2; omega
 | succ n ih =>
  intro i h1 h2
  show _∧(∃ r:Int,0≤r∧a1p N (a0V N n) l (len l) (i:Int) x = _)∨_∧a1p N (a0V N n) l (len l) (i:Int) x = _
  unfold a1p
  by_cases hi:i < l.length
  ·
   have again:=ih (i+1) (by omega) (by omega)
   have hdrop:l.drop i = l.getD i a0a.z::l.drop (i+1):=by
    rw [List.drop_eq_getElem_cons hi,List.getD_eq_getElem?_getD,List.getElem?_eq_getElem hi]; rfl
   rw [a1f hi,bi_true,a1Q hi,gd_true,Int.toNat_natCast,hdrop,List.any_cons]
   have hb:b1W N (l.getD i a0a.z) x = some (0,gB.dv (leadQ x (l.getD i a0a.z)) (a1t.dv x [])):=by
    unfold b1W leadQ
    by_cases hk:x.Trap.Kind = 0
    · rw [bt hk,bi_true,decide_eq_true hk]; rfl
    · rw [bf hk,bi_false,decide_eq_false hk]; rfl
   rw [hb,on1_some,gg_dv,gg_dv,gg_nil,wS (show i≤100000000 by omega)]
   cases leadQ x (l.getD i a0a.z) with
   | true=>rw [bi_true,Bool.true_or]; exact .inl ⟨rfl,_,Int.natCast_nonneg _,rfl⟩
   | false=>rw [bi_false,Bool.false_or]; exact again
  ·
   have:i = l.length:=by omega
   subst this
   rw [a1e (by omega),bi_false,List.drop_length]
   exact .inr ⟨rfl,rfl⟩
theorem e5R (l:List a0a) (x:a0b) (hT:l.length≤1000) (hN:1001 < N):a1N N l x = some (0,gB.dv (l.any (leadQ x)) (a1t.dv x [])):=by
 unfold a1N a3Z
 rcases e3O (N:=N) l x hT N 0 (by omega) (by omega) with ⟨h1,r,hr,h⟩ | ⟨h1,h⟩
 ·
  rw [List.drop_zero] at h1
  rw [show a0V N N l (len l) 0 x = _ from h,onB_fst,gg_dv,gg_dv,gg_nil,on1_some,gg_dv,gg_dv,gg_nil,h1,dt (show r≥0 from hr)]
 ·
  rw [List.drop_zero] at h1
  rw [show a0V N N l (len l) 0 x = _ from h,onB_snd _ _ (by decide),h1]
  rfl
theorem b6r (c:a0f) (s:a0g) (x:a0b) (hx:Wf x) (hl:s.Blocks.length≤100000) (hN:s.Blocks.length < N) (hN2:1001 < N):a7a N c s x = some (0,gB.dv (overS c s x) []):=by
 unfold a7a c3l overS
 rw [b4e c s x hx.toStOk hN2,on1_some,gg_dv,gg_nil]
 cases rightM c s x with
 | false=>rfl
 | true =>
  rw [Bool.not_true,bi_false,Bool.false_or,d8Q s x x.A false hl hN,on1_some,gg_dv,gg_nil,d8Q s x x.E true hl hN,on1_some,gg_dv,gg_nil,e5R _ _ hx.saq hN2,on1_some,gg_dv,gg_dv,gg_nil]
  by_cases h0:x.Table.length = 0
  ·
   rw [df (show ¬ len x.Table > 0 by simp only [len]; omega),bi_false,decide_eq_true h0,Bool.true_and]
   cases restM s false x.A x <;> cases restM s true x.E x <;> rfl
  · rw [dt (show len x.Table > 0 by simp only [len]; omega),bi_true,decide_eq_false h0]; rfl
theorem d9X (x:a0b) (hT:x.Saq.length≤1000):∀ (n i:Nat),i≤x.Saq.length→x.Saq.length - i < n →
  b0S N n (i:Int) x = if (x.Saq.drop i).any (leadQ x) = true then some (0,gB.dv false []) else some (1,[]):=by
 intro n
 induction n with
 | zero=>intro i h1 h2; omega
 | succ n ih =>
  intro i h1 h2
  show b4m N (b0S N n) (i:Int) x = _
  unfold b4m
  by_cases hi:i < x.Saq.length
  ·
   have again:=ih (i+1) (by omega) (by omega)
   have hdrop:x.Saq.drop i = x.Saq.getD i a0a.z::x.Saq.drop (i+1):=by
    rw [List.drop_eq_getElem_cons hi,List.getD_eq_getElem?_getD,List.getElem?_eq_getElem hi]; rfl
   rw [a1f hi,bi_true,a1Q hi,gd_true,Int.toNat_natCast,hdrop,List.any_cons,wS (show i≤100000000 by omega)]
   unfold leadQ
   by_cases hk:x.Trap.Kind = 0
   · rw [bt hk,bi_true,decide_eq_true hk,Bool.true_or,Bool.true_or]; rfl
   ·
    rw [bf hk,bi_false,decide_eq_false hk,Bool.false_or]
    by_cases hs:(x.Saq.getD i a0a.z).2.2.1 < x.Trap.Step
    · rw [dt hs,bi_true,Bool.true_or]; rfl
    ·
     rw [df hs,bi_false,Bool.false_or]
     rw [again]
     unfold leadQ
     rw [decide_eq_false hk]
  ·
   have:i = x.Saq.length:=by omega
   subst this
   rw [a1e (by omega),bi_false,List.drop_length]
   rfl
theorem d8D (c:a0f) (s:a0g) (x:a0b) (hx:Wf x) (hl:s.Blocks.length≤100000) (hN:s.Blocks.length < N) (hN2:1001 < N):c6s N c s x = some (0,gB.dv (overS c s x) []):=by
 unfold c6s overS
 rw [a6E c s x hx.toStOk hN2,on1_some,gg_dv,gg_nil]
 cases hr:rightM c s x with
 | false=>rfl
 | true =>
  have bA:=c5q hr
  have bE:=c5x hr
  have hsq:=hx.saq
  have h:=d9X (N:=N) x hx.saq N 0 (by omega) (by omega)
  rw [List.drop_zero] at h
  rw [Bool.not_true,bi_false,Bool.false_or,d3I s x x.A false (by unfold I64; omega) hl hN,on1_some,gg_dv,gg_nil,d3I s x x.E true (by unfold I64; omega) hl hN,on1_some,gg_dv,gg_nil,show b0S N N 0 x = _ from h]
  by_cases h0:x.Table.length = 0
  ·
   rw [df (show ¬ len x.Table > 0 by simp only [len]; omega),bi_false,decide_eq_true h0,Bool.true_and]
   cases restM s false x.A x <;> cases restM s true x.E x <;> cases x.Saq.any (leadQ x) <;> rfl
  ·
   rw [dt (show len x.Table > 0 by simp only [len]; omega),bi_true,decide_eq_false h0]
   cases restM s false x.A x <;> cases restM s true x.E x <;> rfl
end Go.Proofs.Zz

/- What a cycle does to any state, and whether it is over: the reference law's answer. -/
set_option maxRecDepth 100000
namespace Go.Proofs.Zz
open Go
variable {N:Nat}
theorem Inv.few {x:a0b} (h:Wd x) (f:FewS x):Inv 100 x:=by
 obtain ⟨f1,f2,f3,f4,f5,f6,f7,f8,f9⟩:=f
 exact { wd:=h,mem:=by simp only [len]; omega,ldq:=by omega,sdq:=by omega,aeq:=by omega,abq:=by omega,ebq:=by omega,saq:=by omega,tab:=by omega,wri:=by omega }
theorem Inv.sml {k:Nat} {x:a0b} (h:Inv k x) (hk:k≤900):Sml x:=by
 obtain ⟨_,_,f1,f2,f3,f4,f5,f6,f7,f8⟩:=h
 exact ⟨by omega,by omega,by omega,by omega,by omega,by omega,by omega,by omega⟩
theorem c9T (c:a0f) (p:a0s) (pick:Int) (t:a0w) (x:a0b) (h:Wd x):b5m 20000 c p pick t x = some (0,gB.dv true []):=by
 unfold b5m
 obtain ⟨s,ok,hs,hlen,hok⟩:=d5p (N:=20000) p pick (by omega)
 obtain ⟨b,hb,hfew⟩:=e7Y (N:=20000) x
 simp only [d1G,hs,e6F,hb,on1_some,gg_dv,gg_nil,Bool.not_true,bi_false]
 generalize decide (p.Code.length≤200∧p.Data.length≤500) = fp
 cases fp with
 | false=>rfl
 | true =>
  cases b with
  | false=>rfl
  | true =>
   rw [Bool.not_true,bi_false,bi_false]
   by_cases h1:len t.Lats > 60
   · rw [dt h1]; rfl
   rw [df h1,bi_false]
   by_cases h2:len t.Picks > 60
   · rw [dt h2]; rfl
   rw [df h2,bi_false]
   cases ok with
   | false=>rfl
   | true =>
    have hI:=Inv.few h (hfew rfl)
    have hw:=hI.wf (by omega)
    have hs2:=hok rfl
    have hn:=NextOk.of hs2
    have hl:s.Blocks.length≤100000:=by omega
    have hl2:s.Blocks.length < 20000:=by omega
    have i2:=e4M (c:=c) (s:=s) t hI (by omega)
    rw [Bool.not_true,bi_false,b6Q x hw,on1_some,gg_dv,gg_nil,b5W c s t x hI (by omega) hl hl2 (by omega) hn,on1_some,gg_dv,gg_nil,c7R c s t x hI (by omega) hs2 hl hl2 (by omega),on1_some,gg_dv,gg_nil,c1S _ (i2.sml (by omega)) (by omega),on1_some,gg_dv,gg_nil,bi_true,b6r c s x hw hl hl2 (by omega),on1_some,gg_dv,gg_nil,d8D c s x hw hl hl2 (by omega),on1_some,gg_dv,gg_nil,beq_self_eq_true]
end Go.Proofs.Zz

/- From a program's beginning on each state may be, and what is over stays: the reference law's answer. -/
set_option maxRecDepth 100000
namespace Go.Proofs.Zz
open Go
variable {N:Nat}
theorem e4R {c:a0f} {s:a0g} (t:a0w) {x:a0b} {k:Nat} (hs:SplitOk s.Blocks) (h:RI k c s x) (hk:k≤400) (hl:s.Blocks.length≤100000):RI (k+1) c s (stepM c s t x)∧Adds c x (stepM c s t x):=by
 obtain ⟨y,h1,h2,h3⟩:=e7x (N:=s.Blocks.length+1002) c s t x hs h hk hl (by omega) (by omega)
 rw [b5W c s t x h.inv (by omega) hl (by omega) (by omega) (NextOk.of hs)] at h1
 have e:=e1R h1
 subst e
 exact ⟨h2,h3⟩
theorem RI.right {k:Nat} {c:a0f} {s:a0g} {x:a0b} (h:RI k c s x) (hk:k≤401):rightM c s x = true:=h.rp.right (by omega) (by omega) (by omega)
/-! What is over stays over -/
theorem c4u {x:a0b} {k st pc:Int} (h:stoppedM x st = true):noteM x k st pc = x:=by
 unfold stoppedM at h
 have h:=of_decide_eq_true h
 unfold noteM
 rw [if_neg (by omega)]
structure Calm (s:a0g) (x y:a0b):Prop where
 fr:y = { x with A:={ x.A with Pos:=y.A.Pos },E:={ x.E with Pos:=y.E.Pos } }
 nA:nextM s false y.A.Pos = nextM s false x.A.Pos
 nE:nextM s true y.E.Pos = nextM s true x.E.Pos
theorem Calm.refl (s:a0g) (x:a0b):Calm s x x:=⟨rfl,rfl,rfl⟩
theorem e0R {c:a0f} {s:a0g} {x:a0b} (hn:NextOk s) (hb:hasM s x.E.Pos.Block = true) (h:restM s true x.E x = true):Calm s x (turnE c s x):=by
 unfold turnE
 by_cases hw:x.E.Halted = true∨x.E.Wait > x.Cycle
 ·
  rw [d8k hw,if_pos (.inl rfl)]
  exact Calm.refl s x
 ·
  unfold restM at h
  rw [Bool.or_eq_true] at h
  have hst:stoppedM x (nextM s true x.E.Pos).2.1 = true:=by
   rcases h with h | h
   · exact absurd (.inl h) hw
   · exact h
  cases hf:(settleM s true x.E.Pos).2 with
  | true =>
   obtain ⟨e1,e2⟩:=d8m hn hb hw hf
   rw [if_pos (.inl e1),e2,c4u (by exact hst)]
   exact ⟨rfl,rfl,a1r hn true _ hb⟩
  | false =>
   rw [d6M hn hb hw hf,if_pos (.inl (by rw [hst]; simp))]
   exact ⟨rfl,rfl,a1r hn true _ hb⟩
theorem e5o {s:a0g} {x:a0b} (h:x.A.Halted = true∨x.A.Wait > x.Cycle):atA s x = (a0h.z,0,false,x):=if_pos h
theorem e1A {c:a0f} {s:a0g} {x:a0b} (hn:NextOk s) (hb:hasM s x.A.Pos.Block = true) (h:restM s false x.A x = true):Calm s x (turnA c s x):=by
 unfold turnA
 by_cases hw:x.A.Halted = true∨x.A.Wait > x.Cycle
 ·
  rw [e5o hw,if_pos (.inl rfl)]
  exact Calm.refl s x
 ·
  unfold restM at h
  rw [Bool.or_eq_true] at h
  have hst:stoppedM x (nextM s false x.A.Pos).2.1 = true:=by
   rcases h with h | h
   · exact absurd (.inl h) hw
   · exact h
  cases hf:(settleM s false x.A.Pos).2 with
  | true =>
   obtain ⟨e1,e2⟩:=d9H hn hb hw hf
   rw [if_pos (.inl e1),e2,c4u (by exact hst)]
   exact ⟨rfl,a1r hn false _ hb,rfl⟩
  | false =>
   rw [d9t hn hb hw hf,if_pos (.inl (by rw [hst]; simp))]
   exact ⟨rfl,a1r hn false _ hb,rfl⟩
theorem c5E (c:a0f) (t:a0w):∀ (n i:Nat) (x:a0b),x.Table = []→beginsM c t n i x = x
 | 0,_,x,_=>rfl
 | n+1,i,x,h=>by
  unfold beginsM
  have e:beginM c t (i:Int) x = x:=by
   unfold beginM
   rw [h]
   rfl
  rw [e]
  exact c5E c t n (i+1) x h
theorem e1q {c:a0f} {t:a0w} {x:a0b} (h:x.Table = []):moveM c t x = x:=by
 unfold moveM
 have e:({ endsM x.Table x with Table:=x.Table.filterMap keepQ }:a0b) = x:=by
  rw [h]
  show ({ x with Table:=[] }:a0b) = x
  rw [← h]
 rw [e]
 exact c5E c t _ _ x h
theorem e3d {c:a0f} {x:a0b} (h:x.Saq.any (leadQ x) = false):sendM c x = x:=by
 unfold sendM
 rw [if_neg]
 intro hc
 have h0:=(d8A hc).1
 unfold canM at hc
 simp only [Bool.and_eq_true] at hc
 have h1:leadQ x (headM x) = true:=hc.2.2.2.2.1
 have h2:headM x∈x.Saq:=by
  unfold headM
  rw [List.getD_eq_getElem?_getD,List.getElem?_eq_getElem (by omega)]
  exact List.getElem_mem _
 have h3:x.Saq.any (leadQ x) = true:=List.any_eq_true.2 ⟨_,h2,h1⟩
 rw [h] at h3
 cases h3
theorem d6l {s:a0g} {x y:a0b} (h:Calm s x y):restM s false y.A y = restM s false x.A x∧restM s true y.E y = restM s true x.E x:=by
 obtain ⟨fr,nA,nE⟩:=h
 unfold restM
 rw [nA,nE]
 generalize y.A.Pos = p at *
 generalize y.E.Pos = q at *
 subst fr
 exact ⟨rfl,rfl⟩
theorem d0S {c:a0f} {s:a0g} {x:a0b} (hr:rightM c s x = true) (h:overS c s x = true):x.Table = []∧restM s false x.A x = true∧restM s true x.E x = true∧x.Saq.any (leadQ x) = false:=by
 unfold overS at h
 rw [hr,Bool.not_true,Bool.false_or] at h
 simp only [Bool.and_eq_true,decide_eq_true_eq,Bool.not_eq_true'] at h
 exact ⟨List.length_eq_zero_iff.1 h.1,h.2.1,h.2.2.1,h.2.2.2⟩
theorem e1Z {c:a0f} {s:a0g} {t:a0w} {x:a0b} (hn:NextOk s) (hr:rightM c s x = true) (h:overS c s x = true):∃ y,Calm s x y∧stepM c s t x = { y with Cycle:=w.i64 (y.Cycle+1) }:=by
 obtain ⟨h1,h2,h3,h4⟩:=d0S hr h
 unfold stepM
 rw [if_pos hr,e1q h1,e3d h4]
 have eE:issueE c s x = turnE c s x:=by unfold issueE; rw [if_pos hr]
 rw [eE]
 have c1:=e0R (c:=c) hn (a6O (b1P hr)) h3
 have r1:=d6l c1
 generalize turnE c s x = z at *
 unfold issueA
 split
 ·
  rename_i hr2
  have c2:=e1A (c:=c) hn (a6O (b7L hr2)) (r1.1.trans h2)
  refine ⟨turnA c s z,?_,rfl⟩
  generalize turnA c s z = y at *
  obtain ⟨f1,a1,b1⟩:=c1
  obtain ⟨f2,a2,b2⟩:=c2
  refine ⟨?_,a2.trans a1,b2.trans b1⟩
  rw [f2,f1]
 · exact ⟨z,c1,rfl⟩
theorem e0K {c:a0f} {s:a0g} {t:a0w} {x:a0b} (hn:NextOk s) (hr:rightM c s x = true) (hr2:rightM c s (stepM c s t x) = true) (h:overS c s x = true) :
  overS c s (stepM c s t x) = true∧(stepM c s t x).Writes = x.Writes∧(stepM c s t x).A.Done = x.A.Done∧(stepM c s t x).E.Done = x.E.Done:=by
 obtain ⟨y,hy,e⟩:=e1Z (t:=t) hn hr h
 obtain ⟨h1,h2,h3,h4⟩:=d0S hr h
 obtain ⟨r1,r2⟩:=d6l hy
 rw [e] at hr2 ⊢
 have ft:y.Table = x.Table:=by rw [hy.fr]
 have fw:y.Writes = x.Writes:=by rw [hy.fr]
 have fq:y.Saq = x.Saq:=by rw [hy.fr]
 have fp:y.Trap = x.Trap:=by rw [hy.fr]
 have fa:y.A.Done = x.A.Done:=by rw [hy.fr]
 have fe:y.E.Done = x.E.Done:=by rw [hy.fr]
 refine ⟨?_,fw,fa,fe⟩
 unfold overS
 rw [hr2,Bool.not_true,Bool.false_or]
 simp only [Bool.and_eq_true,decide_eq_true_eq,Bool.not_eq_true']
 refine ⟨by rw [ft,h1]; rfl,r1.trans h2,r2.trans h3,?_⟩
 have:leadQ ({ y with Cycle:=w.i64 (y.Cycle+1) }:a0b) = leadQ x:=by
  funext q
  unfold leadQ
  show (decide (y.Trap.Kind = 0) || decide (q.2.2.1 < y.Trap.Step)) = _
  rw [fp]
 show y.Saq.any (leadQ ({ y with Cycle:=w.i64 (y.Cycle+1) }:a0b)) = false
 rw [this,fq]
 exact h4
theorem d3M (c:a0f) (t:a0w) (s:a0g) (m:Nat) (hm:m≤150) (hs:SplitOk s.Blocks) (hl:s.Blocks.length≤100000) (hN:s.Blocks.length < N) (hN2:1001 < N):∀ (n i:Nat) (x:a0b) (ov:Bool),i≤m→m - i < n→RI i c s x→(ov = true→overS c s x = true) →
  a2T N n (m:Int) ov (i:Int) c t s x = some (1,[]):=by
 have hn:=NextOk.of hs
 intro n
 induction n with
 | zero=>intro i x ov h1 h2; omega
 | succ n ih =>
  intro i x ov h1 h2 hR ho
  show a4f N (a2T N n) (m:Int) ov (i:Int) c t s x = _
  unfold a4f
  by_cases hi:i < m
  ·
   obtain ⟨ry,_⟩:=e4R t hs hR (by omega) hl
   have hI:=hR.inv
   have iy:=ry.inv
   have hw:=hI.wf (by omega)
   have hwy:=iy.wf (by omega)
   have hr:=hR.right (by omega)
   have hry:=ry.right (by omega)
   have c1:=hR.cyc
   have c2:=ry.cyc
   have ec:w.i64 (x.Cycle+1) = x.Cycle+1:=wI (by omega) (by omega)
   have st:=e0K (t:=t) hn hr hry
   rw [dt (show (i:Int) < (m:Int) by omega),bi_true,b6Q x hw,on1_some,gg_dv,gg_nil,b5W c s t x hI (by omega) hl hN hN2 hn,on1_some,gg_dv,gg_nil,c7R c s t x hI (by omega) hs hl hN hN2,on1_some,gg_dv,gg_nil]
   generalize stepM c s t x = y at *
   rw [c1S _ (iy.sml (by omega)) hN2,on1_some,gg_dv,gg_nil,Bool.not_true,bi_false,a6E c s y hwy.toStOk hN2,on1_some,gg_dv,gg_nil,hry,Bool.not_true,bi_false,ec,show (y.Cycle != x.Cycle+1) = false by rw [bne_eq_false_iff_eq]; omega,bi_false,wS (show i≤100000000 by omega)]
   cases ov with
   | false =>
    rw [bi_false,b6r c s y hwy hl hN hN2,on1_some,gg_dv,gg_nil]
    exact ih (i+1) y _ (by omega) (by omega) ry (fun h=>h)
   | true =>
    obtain ⟨s1,s2,s3,s4⟩:=st (ho rfl)
    rw [bi_true]
    simp only [b6r c s y hwy hl hN hN2,on1_some,gg_dv,gg_nil,s1,s2,s3,s4,bne_self_eq_false,Bool.not_true,bi_false]
    exact ih (i+1) y true (by omega) (by omega) ry (fun _=>s1)
  ·
   have:i = m:=by omega
   subst this
   rw [df (show ¬ ((i:Int) < (i:Int)) by omega),bi_false]
theorem c6a (c:a0f) (p:a0s) (pick:Int) (t:a0w) (cy:Int):b0x 20000 c p pick t cy = some (0,gB.dv true []):=by
 unfold b0x
 obtain ⟨s,ok,hs,hlen,hok⟩:=d5p (N:=20000) p pick (by omega)
 unfold c8s
 simp only [d1G,hs,e6F,on1_some,gg_dv,gg_nil,Bool.not_true,bi_false]
 have small:∃ b,bi (decide (p.Code.length≤200∧p.Data.length≤500)) (some (0,gB.dv (decide (p.Size≤300)) [])) (some (0,gB.dv false [])) = (some (0,gB.dv b []):Option Rs):=by
  cases decide (p.Code.length≤200∧p.Data.length≤500) <;> exact ⟨_,rfl⟩
 obtain ⟨b,hb⟩:=small
 rw [hb,on1_some,gg_dv,gg_nil]
 cases b with
 | false=>rfl
 | true =>
  rw [Bool.not_true,bi_false]
  by_cases h1:len t.Lats > 60
  · rw [dt h1]; rfl
  rw [df h1,bi_false]
  by_cases h2:len t.Picks > 60
  · rw [dt h2]; rfl
  rw [df h2,bi_false]
  cases ok with
  | false=>rfl
  | true =>
   rw [Bool.not_true,bi_false,b9P c (by omega),on1_some,gg_dv,gg_nil]
   cases hc:cfgM c with
   | false=>rfl
   | true =>
    rw [Bool.not_true,bi_false]
    by_cases h3:cy < 0
    · rw [dt h3]; rfl
    rw [df h3,bi_false]
    by_cases h4:cy > 150
    · rw [dt h4]; rfl
    rw [df h4,bi_false]
    obtain ⟨mem,hf,hm⟩:=e4Q (N:=20000) p (by omega)
    obtain ⟨m,rfl⟩:∃ m:Nat,cy = (m:Int):=⟨cy.toNat,by omega⟩
    have hl:=d3M (N:=20000) c t s m (by omega) (hok rfl) (by omega) (by omega) (by omega) 20000 0 (st0 mem) false (by omega) (by omega) (e4P hc (hok rfl) hm) (fun h=>by cases h)
    rw [hf,on1_some,gg_dv,gg_nil,show a2T 20000 20000 (m:Int) false 0 c t s (st0 mem) = _ from hl,onB_snd _ _ (by decide),gg_nil]
end Go.Proofs.Zz
