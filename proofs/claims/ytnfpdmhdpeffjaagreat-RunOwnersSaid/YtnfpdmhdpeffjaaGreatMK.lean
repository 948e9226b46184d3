import Derived.Test.YtnfpdmhdpeffjaaGreatMJ
import Derived.Test.YtnfpdmhdpeffjaaGreatMH
set_option linter.unusedSimpArgs false
set_option linter.unusedVariables false
/- A cycle of the core, word for word: the program's and the document's; whether it is over. -/
set_option maxRecDepth 100000
namespace Go.Proofs.Zz
open Go
variable {N:Nat}
def stepM (c:a0f) (s:a0g) (t:a0w) (x:a0b):a0b :=
 if rightM c s x = true then { issueA c s (issueE c s (sendM c (moveM c t x))) with Cycle:=w.i64 ((issueA c s (issueE c s (sendM c (moveM c t x)))).Cycle+1) } else x
theorem e7X {m:Int} {q:a0e} (h:reqM m q = true):LfOk q:=((b8f m q).1 h).2
/-! What the memory's cycle turns -/
theorem g7L (a:Int) (m:List Int):∀ n,U32 (rdB a m n)
 | 0=>⟨by show (0:Int)≤0; omega,by show (0:Int)≤4294967295; omega⟩
 | n+1=>a5x _
theorem g7E (m:List Int) (op a:Int):U32 (loadV m op a):=by
 unfold loadV;split
 ·
  split
  · exact d8Y op (g7L _ _ _)
  · exact ⟨by show (0:Int)≤0; omega,by show (0:Int)≤4294967295; omega⟩
 · exact ⟨by show (0:Int)≤0; omega,by show (0:Int)≤4294967295; omega⟩
theorem g7I (q:a0e) (x:a0b) {v:Int} (hv:U32 v):EndR x (ldS q x v) 0:=by
 unfold ldS;split
 · exact ⟨⟨[],by simp,by simp,rfl,by simp⟩,rfl,rfl,rfl,c2A _ _ _,rfl,fun h=>d8S h _ hv,fun _ h _=>h,rfl,fun h=>h⟩
 ·
  split
  · exact ⟨⟨[],by simp,by simp,rfl,by simp⟩,rfl,rfl,rfl,rfl,rfl,fun h=>h,fun P hp hq r hr=>(List.mem_or_eq_of_mem_set hr).elim (hp r) (fun e=>by rw [e]; exact hq),by simp,fun h=>e3s h _ hv⟩
  · exact EndR.refl x
theorem g7F (q:a0e) (x:a0b) (h:keepQ q = none) (hL:q.1 = true→LieW (wrQ q) (len x.Mem)):EndR x (doneM (downQ q) x) (if endsQ q = true then 1 else 0):=by
 have hk:q.2.2.2.2.2.1 > 0∧w.i64 (q.2.2.2.2.2.1 - 1) = 0:=by
  unfold keepQ at h;split at h
  ·
   split at h
   · rename_i h1 h2; exact ⟨h1,h2⟩
   · cases h
  · cases h
 unfold doneM endsQ;rw [decide_eq_true hk.1,decide_eq_true hk.2];cases hq:q.1 with
 | true =>
  have hl:=hL hq;rw [if_pos (show (downQ q).1 = true from hq),if_pos (by rfl)];exact ⟨⟨[wrQ q],by simp,rfl,rfl,by intro p hp; simp only [List.mem_singleton] at hp; rw [hp]; exact hl⟩,rfl,rfl,c3A _ _ _ _,rfl,rfl,fun h=>h,fun _ h _=>h,rfl,fun h=>h⟩
 | false =>
  rw [if_neg (show ¬ (downQ q).1 = true by rw [show (downQ q).1 = q.1 from rfl,hq]; simp)];refine g7I _ _ ?_;split
  · exact g7E _ _ _
  · exact ⟨by show (0:Int)≤0; omega,by show (0:Int)≤4294967295; omega⟩
theorem g7A:∀ (T:List a0e) (x:a0b),Lefts T (len x.Mem)→EndR x (endsM T x) (T.countP endsQ)
 | [],x,_=>EndR.refl x
 | q::r,x,h=>by
  rw [endsM,List.countP_cons,Nat.add_comm];have st:EndR x (if (keepQ q).isNone = true then doneM (downQ q) x else x) (if endsQ q = true then 1 else 0):=by
   cases hk:keepQ q with
   | none=>exact g7F q x hk (fun hq=>h q (by simp) hq)
   | some a =>
    have:endsQ q = false:=by
     unfold keepQ at hk;unfold endsQ;split at hk
     ·
      split at hk
      · cases hk
      · rename_i _ h2; rw [decide_eq_false h2]; simp
     · rename_i h1; rw [decide_eq_false h1]; simp
    rw [this];exact EndR.refl x
  refine st.trans (g7A r _ fun p hp hq=>?_);rw [show len (if (keepQ q).isNone = true then doneM (downQ q) x else x).Mem = len x.Mem by simp only [len,st.mem]];exact h p (List.mem_cons_of_mem _ hp) hq
theorem g7z (n b:Int):∀ (l:List a0e) (i:Nat),∀ r∈waitsM n b l i,bankM (l.getD (r.toNat - i) a0e.z).2.2.1 n = b
 | [],i=>by simp [waitsM]
 | q::l,i=>by
  intro r hr;rw [waitsM] at hr;rcases List.mem_append.1 hr with h | h
  ·
   split at h
   ·
    rename_i hb;rw [List.mem_singleton.1 h,Int.toNat_natCast,Nat.sub_self];exact hb.1
   · simp at h
  ·
   have h1:=g7z n b l (i+1) r h;have h2:=(d2M n b l (i+1)).2 r h;rw [show r.toNat - i = (r.toNat - (i+1))+1 by omega];exact h1
theorem g7D {c:a0f} (t:a0w) (b:Int) (x:a0b) (hc:1≤c.Lat∧c.Lat≤1000):BegR c x (beginM c t b x) 1:=by
 have r0:=(BegR.refl c x).mono (show 0≤1 by omega);have hl:=d8o t.Lats x.Lats hc.1;have hb:=g7z c.Banks b x.Table 0;have hi:=(d2M c.Banks b x.Table 0).2;unfold beginM;split
 · exact r0
 rename_i hw;have hw:∀ q∈x.Table,workQ c.Banks b q = false:=by simpa using hw
 dsimp only
 generalize waitsM c.Banks b x.Table 0 = wt at *;have key:∀ k:Nat,k < wt.length→0≤wt.getD k 0∧wt.getD k 0 < len x.Table∧bankM (x.Table.getD (wt.getD k 0).toNat a0e.z).2.2.1 c.Banks = b:=by
  intro k hk;have hm:=a1E (0:Int) hk;have h1:=hi _ hm;have h2:=hb _ hm;rw [Nat.sub_zero] at h2;exact ⟨by omega,by simp only [len]; omega,h2⟩
 split
 · exact r0
 split
 ·
  obtain ⟨p0,p1⟩:=d8o t.Picks x.Picks (m:=len wt) (by simp only [len]; omega);exact e2Y hc (key _ (by have:len wt = (wt.length:Int):=rfl; omega)) hw hl (.inr rfl)
 · exact e2Y hc (key 0 (by omega)) hw hl (.inl rfl)
theorem g7y {c:a0f} (t:a0w) (hc:1≤c.Lat∧c.Lat≤1000):∀ (n i:Nat) (x:a0b),BegR c x (beginsM c t n i x) n
 | 0,_,x=>BegR.refl c x
 | n+1,i,x=>by
  rw [beginsM];exact ((g7D t _ x hc).trans (g7y t hc n (i+1) _)).mono (by omega)
theorem c7l {c:a0f} {s:a0g} {t:a0w} {x:a0b} {k:Nat} (h:Inv k x) (hk:k≤14000) (hr:rightM c s x = true):MovR x (moveM c t x) (x.Table.countP endsQ) ∧
  ∃ y,y.Table = x.Table.filterMap keepQ∧y.Lats = x.Lats∧y.Picks = x.Picks∧BegR c y (moveM c t x) c.Banks.toNat:=by
 have g:=g7A x.Table x (Lefts.of hr);have hb:=g7y t (Bnd.of hr).la c.Banks.toNat 0 { endsM x.Table x with Table:=x.Table.filterMap keepQ };have hf:=g.fr;refine ⟨?_,_,rfl,by show (endsM x.Table x).Lats = _; rw [hf],by show (endsM x.Table x).Picks = _; rw [hf],hb⟩
 have e:moveM c t x = { ({ endsM x.Table x with Table:=x.Table.filterMap keepQ }:a0b) with Table:=(moveM c t x).Table,Lats:=(moveM c t x).Lats,Picks:=(moveM c t x).Picks }:=hb.fr;have e1:(moveM c t x).Writes = (endsM x.Table x).Writes:=by rw [e]
 have e2:(moveM c t x).Mem = (endsM x.Table x).Mem:=by rw [e]
 have e3:(moveM c t x).A = (endsM x.Table x).A:=by rw [e]
 have e4:(moveM c t x).Ldq = (endsM x.Table x).Ldq:=by rw [e]
 have e5:(moveM c t x).Saq = (endsM x.Table x).Saq:=by rw [e]
 have hl:(moveM c t x).Table.length≤x.Table.length:=by
  have h1:=congrArg List.length hb.tab;simp only [List.length_map] at h1;show (beginsM _ _ _ _ _).Table.length≤_;rw [h1];exact List.length_filterMap_le _ _
 refine ⟨by rw [e1,e2]; exact g.wr,?_,by rw [e3]; exact g.afr,by rw [e2]; exact g.mem,by rw [e4]; exact g.ldq,by rw [e5]; exact g.saq,fun hu=>by unfold UL; rw [e4]; exact g.ul hu,hl,by rw [e3]; exact g.rdp,by rw [e3]; exact g.rdy,by rw [e3]; exact g.regs⟩
 rw [e,hf]
theorem g7M (v n:Int) (h:U32 v):U32 (maskM v n):=by
 unfold maskM;split
 · exact a5x _
 split
 · exact a5x _
 split
 · exact h
 · exact ⟨by show (0:Int)≤0; omega,by show (0:Int)≤4294967295; omega⟩
theorem e2j (c:a0f) (x:a0b) (h:x.Table.length≤1000):SndR c x (sendM c x):=by
 unfold sendM;cases hc:canM c x with
 | false=>exact ⟨.inl rfl,rfl,Nat.le_refl _,rfl,by simp,fun _ h=>h,fun h=>h⟩
 | true =>
  unfold canM at hc;simp only [Bool.and_eq_true,decide_eq_true_eq,Bool.not_eq_true'] at hc;obtain ⟨h0,h1,h2,h3,_⟩:=hc;rw [if_pos rfl];refine ⟨.inr ⟨h0,h1,h3,maskM (x.Sdq.getD 0 0) (headM x).2.1,stOp (headM x).2.1,?_,rfl,rfl⟩,rfl,by simp,by simp,by simp,fun hs hq e he=>?_,fun hs v hv=>hs v (List.mem_of_mem_drop hv)⟩
  ·
   show _∧(headM x).2.1 = 1∨_∧(headM x).2.1 = 2∨_∧(headM x).2.1≠1∧(headM x).2.1≠2;unfold stOp
   repeat' split
   all_goals omega
  ·
   rcases List.mem_or_eq_of_mem_set he with h4 | h4
   · exact hq e h4
   ·
    rw [h4];exact g7M _ _ (hs _ (a1E 0 (by omega)))
theorem SndR.refl (c:a0f) (x:a0b):SndR c x x:=⟨.inl rfl,rfl,Nat.le_refl _,rfl,by omega,fun _ h=>h,fun h=>h⟩
theorem c6B {c:a0f} {s:a0g} {t:a0w} {x:a0b} {k:Nat} (h:Inv k x) (hk:k≤13900) (hr:rightM c s x = true):Inv (k+1) (sendM c (moveM c t x))∧Inv (k+1) (moveM c t x):=by
 obtain ⟨m1,_⟩:=c7l (t:=t) h (by omega) hr;have hb:=Bnd.of hr;have ht:=m1.tab;have ht2:=hb.tab;exact ⟨(invM h hr m1 (d7o hr) (e2j c _ (by omega))).1,(invM h hr m1 (d7o hr) (SndR.refl c _)).1⟩
/-! Over -/
def restM (s:a0g) (e:Bool) (d:a0v) (x:a0b):Bool:=d.Halted || stoppedM x (nextM s e d.Pos).2.1
def leadQ (x:a0b) (e:a0a):Bool:=decide (x.Trap.Kind = 0) || decide (e.2.2.1 < x.Trap.Step)
def overS (c:a0f) (s:a0g) (x:a0b):Bool :=
 !rightM c s x || (decide (x.Table.length = 0) && (restM s false x.A x && (restM s true x.E x && !x.Saq.any (leadQ x))))
theorem d8Q (s:a0g) (x:a0b) (d:a0v) (e:Bool) (hl:s.Blocks.length≤100000) (hN:s.Blocks.length < N):b3l N s x d e = some (0,gB.dv (restM s e d x) []):=by
 unfold b3l restM;rw [a6W s e _ hl hN,g7j,g7m,g7m,g7m,g7l,b8F,g7j,g7m,g7l];cases d.Halted <;> rfl
theorem e3O (l:List a0a) (x:a0b) (hT:l.length≤1000):∀ (n i:Nat),i≤l.length→l.length - i < n →
  (l.drop i |>.any (leadQ x)) = true∧(∃ r:Int,0≤r∧a0V N n l (len l) (i:Int) x = some (0,gI.dv r (a1t.dv x []))) ∨
  (l.drop i |>.any (leadQ x)) = false∧a0V N n l (len l) (i:Int) x = some (1,a1t.dv x []):=by
 intro n;induction n with
 | zero=>intro i h1 h2; omega
 | succ n ih =>
  intro i h1 h2;show _∧(∃ r:Int,0≤r∧a1p N (a0V N n) l (len l) (i:Int) x = _)∨_∧a1p N (a0V N n) l (len l) (i:Int) x = _;unfold a1p;by_cases hi:i < l.length
  ·
   have again:=ih (i+1) (by omega) (by omega);have hdrop:l.drop i = l.getD i a0a.z::l.drop (i+1):=by
    rw [List.drop_eq_getElem_cons hi,List.getD_eq_getElem?_getD,List.getElem?_eq_getElem hi]; rfl
   rw [a1f hi,g7k,a1Q hi,g7n,Int.toNat_natCast,hdrop,List.any_cons];have hb:b1W N (l.getD i a0a.z) x = some (0,gB.dv (leadQ x (l.getD i a0a.z)) (a1t.dv x [])):=by
    unfold b1W leadQ;by_cases hk:x.Trap.Kind = 0
    · rw [bt hk,g7k,decide_eq_true hk]; rfl
    · rw [bf hk,g7i,decide_eq_false hk]; rfl
   rw [hb,g7j,g7m,g7m,g7l,wS (show i≤100000000 by omega)];cases leadQ x (l.getD i a0a.z) with
   | true=>rw [g7k,Bool.true_or]; exact .inl ⟨rfl,_,Int.natCast_nonneg _,rfl⟩
   | false=>rw [g7i,Bool.false_or]; exact again
  ·
   have:i = l.length:=by omega
   subst this;rw [a1e (by omega),g7i,List.drop_length];exact .inr ⟨rfl,rfl⟩
theorem e5R (l:List a0a) (x:a0b) (hT:l.length≤1000) (hN:1001 < N):a1N N l x = some (0,gB.dv (l.any (leadQ x)) (a1t.dv x [])):=by
 unfold a1N a3Z;rcases e3O (N:=N) l x hT N 0 (by omega) (by omega) with ⟨h1,r,hr,h⟩ | ⟨h1,h⟩
 ·
  rw [List.drop_zero] at h1;rw [show a0V N N l (len l) 0 x = _ from h,g7v,g7m,g7m,g7l,g7j,g7m,g7m,g7l,h1,dt (show r≥0 from hr)]
 ·
  rw [List.drop_zero] at h1;rw [show a0V N N l (len l) 0 x = _ from h,g7t _ _ (by decide),h1];rfl
end Go.Proofs.Zz

/- What a cycle does to any state, and whether it is over: the reference law's answer. -/
set_option maxRecDepth 100000
namespace Go.Proofs.Zz
open Go
variable {N:Nat}
end Go.Proofs.Zz

/- From a program's beginning on each state may be, and what is over stays: the reference law's answer. -/
set_option maxRecDepth 100000
namespace Go.Proofs.Zz
open Go
variable {N:Nat}
theorem e4R {c:a0f} {s:a0g} (t:a0w) {x:a0b} {k:Nat} (hs:SplitOk s.Blocks) (h:RI k c s x) (hk:k≤12000) (hl:s.Blocks.length≤100000):RI (k+1) c s (stepM c s t x)∧Adds c x (stepM c s t x):=by
 have hn:=NextOk.of hs;have hI:=h.inv;have hw:=hI.wf (by omega);have hr:=h.rp.right (by omega) (by omega) (by omega);have hb:=Bnd.of hr;have hcy:=h.cyc;have hlat:=h.lat
 have hpck:=h.pck;have htag:=h.tag;obtain ⟨m1,x0,t1,t2,t3,bg⟩:=c7l (t:=t) hI (by omega) hr;have m2:=e2j c (moveM c t x) (by have:=m1.tab; have:=hb.tab; omega);have stp:∀ y,rightM c s (sendM c (moveM c t x)) = true→rightM c s (turnE c s (sendM c (moveM c t x))) = true→y = ({ (turnA c s (turnE c s (sendM c (moveM c t x)))) with Cycle:=w.i64 ((turnA c s (turnE c s (sendM c (moveM c t x)))).Cycle+1) }:a0b)→stepM c s t x = y:=by
  intro y g1 g2 e;rw [e];unfold stepM issueE;rw [if_pos hr,if_pos g1];unfold issueA;rw [if_pos g2]
 generalize sendM c (moveM c t x) = x2 at *;generalize moveM c t x = x1 at *;obtain ⟨i2,_⟩:=invM hI hr m1 (d7o hr) m2;obtain ⟨r1,adds,w1⟩:=e7m h.rp m1 t1 t2 t3 bg hb.bk (by omega) (by omega) (by omega) (by omega);obtain ⟨r2,w2⟩:=e7S r1 m2;have hw2:=i2.wf (by omega);have hr2:=r2.right (by omega) (by omega) (by omega);have fr1:=m1.fr;have fr2:=m2.fr;have c2:x2.Cycle = x.Cycle:=by rw [fr2,fr1]
 have g2:x2.Tags = x.Tags:=by rw [fr2,fr1]
 have l2:x2.Lats = x1.Lats:=by rw [fr2]
 have p2:x2.Picks = x1.Picks:=by rw [fr2]
 have e2:x2.E = x.E:=by rw [fr2,fr1]
 have a2:x2.A.Done = x.A.Done:=by
  rw [show x2.A = x1.A by rw [fr2],m1.afr]
 obtain ⟨i3,_⟩:=invE i2 hr2;have r3:=e5T hs r2 (by omega) (by omega) (by rw [c2]; omega) (by omega);have hw3:=i3.wf (by omega);have hr3:=r3.right (by omega) (by omega) (by omega);have o3:=d9F c s x2;have ht3:(turnE c s x2).Table = x2.Table:=by rw [o3.fr]
 have c3:(turnE c s x2).Cycle = x2.Cycle:=by rw [o3.fr]
 have g3:(turnE c s x2).Tags = x2.Tags:=by rw [o3.fr]
 have l3:(turnE c s x2).Lats = x2.Lats:=by rw [o3.fr]
 have p3:(turnE c s x2).Picks = x2.Picks:=by rw [o3.fr]
 have a3:(turnE c s x2).A = x2.A:=by rw [o3.fr]
 obtain ⟨i4,_⟩:=invA i3 hr3;have r4:=e4y hs r3 (by omega) (by omega) (by rw [c3,c2]; omega) (by rw [g3,g2]; omega) (by omega);have o4:=d3T c s (turnE c s x2);have w4:=e6j (c:=c) (s:=s) (x:=turnE c s x2) (by rw [ht3]; exact w2 (w1 h.wk));have c4:(turnA c s (turnE c s x2)).Cycle = (turnE c s x2).Cycle:=by rw [o4.fr]
 have l4:(turnA c s (turnE c s x2)).Lats = (turnE c s x2).Lats:=by rw [o4.fr]
 have p4:(turnA c s (turnE c s x2)).Picks = (turnE c s x2).Picks:=by rw [o4.fr]
 have e4:(turnA c s (turnE c s x2)).E = (turnE c s x2).E:=by rw [o4.fr]
 have dA0:=h.dA;have dE0:=h.dE;have dA1:=h.rp.sA.done;have dE1:=h.rp.sE.done;have dE:(turnE c s x2).E.Done = x.E.Done∨(turnE c s x2).E.Done = x.E.Done+1:=by
  rcases o3.on with ⟨g,_⟩ | ⟨g,_⟩
  · exact .inl (by rw [g,e2])
  · exact .inr (by rw [g,e2,wI (by omega) (by omega)])
 have dA:(turnA c s (turnE c s x2)).A.Done = x.A.Done∨(turnA c s (turnE c s x2)).A.Done = x.A.Done+1:=by
  rcases o4.on with ⟨g,_⟩ | ⟨g,_⟩
  · exact .inl (by rw [g,a3,a2])
  · exact .inr (by rw [g,a3,a2,wI (by omega) (by omega)])
 have tg:(turnA c s (turnE c s x2)).Tags≤x.Tags+1:=by
  have h0:=h.rp.num.2.2.2;rcases o4.tg with ⟨g,_⟩ | ⟨g,_⟩
  · rw [g,g3,g2]; omega
  · rw [g,g3,g2,wI (by omega) (by omega)]; omega
 have hc4:w.i64 ((turnA c s (turnE c s x2)).Cycle+1) = ((k+1:Nat):Int):=by
  rw [c4,c3,c2,hcy,wI (by omega) (by omega)]; omega
 obtain ⟨a,b,ab,ac,al,bl⟩:=adds;have hbk:=hb.bk;rw [stp _ hr2 hr3 rfl];refine ⟨?_,⟨dA,by show (turnA c s (turnE c s x2)).E.Done = _∨(turnA c s (turnE c s x2)).E.Done = _; rw [e4]; exact dE,a,b,ab,ac,by show (turnA c s (turnE c s x2)).Lats = _; rw [l4,l3,l2]; exact al,by show (turnA c s (turnE c s x2)).Picks = _; rw [p4,p3,p2]; exact bl⟩⟩
 rw [hc4];have r5:=r4.mono (show _≤8100000*((k+1:Nat):Int) by omega) (show _≤2*((k+1:Nat):Int) by omega) (show _≤1000+20*((k+1:Nat):Int) by omega);generalize turnA c s (turnE c s x2) = z at *;exact { rp:=⟨r5.cfg,r5.sA,r5.sE,⟨by show 0≤((k+1:Nat):Int)∧((k+1:Nat):Int)≤_; omega,r5.num.2⟩,r5.q,r5.ent,r5.req,a2A r5.snt rfl rfl,r5.trp⟩,inv:=i4.cyc _,cyc:=rfl,lat:=by show z.Lats≤_; rw [l4,l3,l2,al]; omega,pck:=by show z.Picks≤_; rw [p4,p3,p2,bl]; omega,tag:=by show z.Tags≤_; omega,dA:=by show z.A.Done≤_; omega,dE:=by show z.E.Done≤_; rw [e4]; omega,wk:=w4 }
theorem RI.right {k:Nat} {c:a0f} {s:a0g} {x:a0b} (h:RI k c s x) (hk:k≤12001):rightM c s x = true:=h.rp.right (by omega) (by omega) (by omega)
/-! What is over stays over -/
structure Calm (s:a0g) (x y:a0b):Prop where
 fr:y = { x with A:={ x.A with Pos:=y.A.Pos },E:={ x.E with Pos:=y.E.Pos } }
 nA:nextM s false y.A.Pos = nextM s false x.A.Pos
 nE:nextM s true y.E.Pos = nextM s true x.E.Pos
theorem Calm.refl (s:a0g) (x:a0b):Calm s x x:=⟨rfl,rfl,rfl⟩
theorem e5o {s:a0g} {x:a0b} (h:x.A.Halted = true∨x.A.Wait > x.Cycle):atA s x = (a0h.z,0,false,x):=if_pos h
theorem d0S {c:a0f} {s:a0g} {x:a0b} (hr:rightM c s x = true) (h:overS c s x = true):x.Table = []∧restM s false x.A x = true∧restM s true x.E x = true∧x.Saq.any (leadQ x) = false:=by
 unfold overS at h;rw [hr,Bool.not_true,Bool.false_or] at h;simp only [Bool.and_eq_true,decide_eq_true_eq,Bool.not_eq_true'] at h;exact ⟨List.length_eq_zero_iff.1 h.1,h.2.1,h.2.2.1,h.2.2.2⟩
end Go.Proofs.Zz
