import Derived.Test.YtnfpdmhdpeffjaaGreatMI
set_option linter.unusedSimpArgs false
set_option linter.unusedVariables false
/- A store that is sent: the program's and the document's, alike. -/
set_option maxRecDepth 100000
namespace Go.Proofs.Zz
open Go
variable {N:Nat}
def maskM (v n:Int):Int:=if n = 1 then bitAnd .u32 v 255 else if n = 2 then bitAnd .u32 v 65535 else if n = 4 then v else 0
theorem e3D (v n:Int):b1j N v n = some (0,gW.dv (maskM v n) []):=by
 unfold b1j maskM;simp only [a1u,beq_iff_eq]
 repeat' split
 all_goals rfl
theorem e5W (v n:Int):d7w N v n = some (0,gW.dv (maskM v n) []):=e3D (N:=N) v n
def stOp (n:Int):Int:=if n = 1 then 33 else if n = 2 then 32 else 31
theorem e9J (n:Int):b3i N n = some (0,gI.dv (stOp n) []):=by
 unfold b3i stOp;simp only [a1u,beq_iff_eq]
 repeat' split
 all_goals rfl
def clashQ (e:a0a) (q:a0e):Bool:=!q.1 && overM q.2.2.1 q.2.2.2.1 e.1 e.2.1
theorem e0s (T:List a0e) (e:a0a) (hT:T.length≤1000):∀ (n i:Nat),i≤T.length→T.length - i < n →
  ((T.drop i).any (clashQ e) = true→∃ r:Int,0≤r∧a0A N n T (len T) (i:Int) e = some (0,gI.dv r (a0M.dv e []))) ∧
  ((T.drop i).any (clashQ e) = false→a0A N n T (len T) (i:Int) e = some (1,a0M.dv e [])):=by
 intro n;induction n with
 | zero=>intro i h1 h2; omega
 | succ n ih =>
  intro i h1 h2;show (_→∃ r:Int,0≤r∧a0N N (a0A N n) T (len T) (i:Int) e = _)∧(_→a0N N (a0A N n) T (len T) (i:Int) e = _);unfold a0N;by_cases hi:i < T.length
  ·
   have again:=ih (i+1) (by omega) (by omega);have hdrop:T.drop i = T.getD i a0e.z::T.drop (i+1):=by
    rw [List.drop_eq_getElem_cons hi,List.getD_eq_getElem?_getD,List.getElem?_eq_getElem hi]; rfl
   rw [a1f hi,g7k,a1Q hi,g7n,Int.toNat_natCast,hdrop,List.any_cons];have hb:a6s N (T.getD i a0e.z) e = some (0,gB.dv (clashQ e (T.getD i a0e.z)) (a0M.dv e [])):=by
    unfold a6s clashQ;rw [c3b,g7j,g7m,g7l];cases (T.getD i a0e.z).1 with
    | true=>rfl
    | false=>rfl
   rw [hb,g7j,g7m,g7m,g7l,wS (show i≤100000000 by omega)];cases clashQ e (T.getD i a0e.z) with
   | true =>
    rw [g7k,Bool.true_or];exact ⟨fun _=>⟨_,Int.natCast_nonneg _,rfl⟩,fun h=>Bool.noConfusion h⟩
   | false=>rw [g7i,Bool.false_or]; exact again
  ·
   have:i = T.length:=by omega
   subst this;rw [a1e (by omega),g7i,List.drop_length];exact ⟨fun h=>by simp at h,fun _=>rfl⟩
theorem d7Z (T:List a0e) (e:a0a) (hT:T.length≤1000) (hN:1001 < N):a0U N T e = some (0,gB.dv (T.any (clashQ e)) (a0M.dv e [])):=by
 unfold a0U a1F;obtain ⟨h1,h2⟩:=e0s (N:=N) T e hT N 0 (by omega) (by omega);rw [List.drop_zero] at h1 h2;cases h:T.any (clashQ e) with
 | true =>
  obtain ⟨r,hr,h⟩:=h1 h;rw [show a0A N N T (len T) 0 e = _ from h,g7v,g7m,g7m,g7l,g7j,g7m,g7m,g7l,dt (show r≥0 from hr)]
 | false =>
  rw [show a0A N N T (len T) 0 e = _ from h2 h,g7t _ _ (by decide)];rfl
def canM (c:a0f) (x:a0b):Bool :=
 decide (x.Saq.length≠0) && (!(headM x).2.2.2.1 && (decide (x.Sdq.length≠0) && (decide (len x.Table < c.Flight) && ((decide (x.Trap.Kind = 0) || decide ((headM x).2.2.1 < x.Trap.Step)) && !x.Table.any (clashQ (headM x))))))
theorem e9r (c:a0f) (x:a0b) (hT:x.Table.length≤1000) (hN:1001 < N):b0a N c x = some (0,gB.dv (canM c x) []):=by
 unfold b0a canM headM;by_cases h0:x.Saq.length = 0
 · rw [len0,dt h0,g7k,decide_eq_false (show ¬ x.Saq.length≠0 by omega)]; rfl
 rw [len0,df h0,g7i,a1l (i:=0) (n:=x.Saq.length) (by omega) (by omega),g7n,decide_eq_true (show x.Saq.length≠0 from h0),Bool.true_and];cases hkn:(x.Saq.getD 0 a0a.z).2.2.2.1 with
 | true=>rfl
 | false =>
  rw [g7i,Bool.not_false,Bool.true_and];by_cases h1:x.Sdq.length = 0
  · rw [len0,dt h1,g7k,decide_eq_false (show ¬ x.Sdq.length≠0 by omega)]; rfl
  rw [len0,df h1,g7i,decide_eq_true (show x.Sdq.length≠0 from h1),Bool.true_and];by_cases hfl:len x.Table < c.Flight
  ·
   rw [df (show ¬ len x.Table≥c.Flight by omega),decide_eq_true hfl,Bool.true_and,g7i,g7n,d7Z (N:=N) x.Table (x.Saq.getD 0 a0a.z) hT hN,g7j,g7m,g7m,g7l];by_cases hk:x.Trap.Kind = 0
   · rw [show (x.Trap.Kind != 0) = false by simp [hk],g7i,decide_eq_true hk,Bool.true_or,Bool.true_and]
   ·
    rw [show (x.Trap.Kind != 0) = true by simp [hk],g7k,decide_eq_false hk,Bool.false_or];by_cases hs:(x.Saq.getD 0 a0a.z).2.2.1≥x.Trap.Step
    · rw [dt hs,g7k,decide_eq_false (by omega)]; rfl
    · rw [df hs,g7i,decide_eq_true (by omega),Bool.true_and]
  · rw [dt (show len x.Table≥c.Flight by omega),g7k,decide_eq_false hfl]; rfl
theorem e3c (x:a0b) (e:a0a) (he:(0≤e.1∧e.1≤100000)∧(1≤e.2.1∧e.2.1≤4)) (hq:∀ q∈x.Table,(0≤q.2.2.1∧q.2.2.1≤100000)∧(1≤q.2.2.2.1∧q.2.2.2.1≤4)) (hT:x.Table.length≤1000):∀ (n i:Nat),i≤x.Table.length→x.Table.length - i < n →
  b0c N n (i:Int) x e = if (x.Table.drop i).any (clashQ e) = true then some (0,gB.dv false []) else some (1,[]):=by
 intro n;induction n with
 | zero=>intro i h1 h2; omega
 | succ n ih =>
  intro i h1 h2;show b7I N (b0c N n) (i:Int) x e = _;unfold b7I;by_cases hi:i < x.Table.length
  ·
   have again:=ih (i+1) (by omega) (by omega);have hdrop:x.Table.drop i = x.Table.getD i a0e.z::x.Table.drop (i+1):=by
    rw [List.drop_eq_getElem_cons hi,List.getD_eq_getElem?_getD,List.getElem?_eq_getElem hi]; rfl
   obtain ⟨q1,q2⟩:=hq _ (a1E a0e.z hi);rw [a1f hi,g7k,a1Q hi,g7n,Int.toNat_natCast,hdrop,List.any_cons,wS (show i≤100000000 by omega)];generalize x.Table.getD i a0e.z = q at *;unfold clashQ;cases q.1 with
   | true=>simp only [Bool.not_true,g7i,Bool.false_and,Bool.false_or]; exact again
   | false =>
    simp only [Bool.not_false,g7k,Bool.true_and];rw [d8Z q1 q2 he.1 he.2,g7j,g7m,g7l];cases overM q.2.2.1 q.2.2.2.1 e.1 e.2.1 with
    | true=>rfl
    | false=>rw [g7i,Bool.false_or]; exact again
  ·
   have:i = x.Table.length:=by omega
   subst this;rw [a1e (by omega),g7i,List.drop_length];rfl
theorem e7D (c:a0f) (x:a0b) (he:∀ e∈x.Saq,(0≤e.1∧e.1≤100000)∧(1≤e.2.1∧e.2.1≤4)) (hq:∀ q∈x.Table,(0≤q.2.2.1∧q.2.2.1≤100000)∧(1≤q.2.2.2.1∧q.2.2.2.1≤4)) (hT:x.Table.length≤1000) (hN:1001 < N):d2D N c x = some (0,gB.dv (canM c x) []):=by
 unfold d2D canM headM;by_cases h0:x.Saq.length = 0
 · rw [len0,dt h0,g7k,decide_eq_false (show ¬ x.Saq.length≠0 by omega)]; rfl
 have hh:=he _ (a1E a0a.z (show 0 < x.Saq.length by omega));have hl:=e3c (N:=N) x (x.Saq.getD 0 a0a.z) hh hq hT N 0 (by omega) (by omega);rw [List.drop_zero] at hl;rw [len0,df h0,g7i,a1l (i:=0) (n:=x.Saq.length) (by omega) (by omega),g7n,decide_eq_true (show x.Saq.length≠0 from h0),Bool.true_and];cases hkn:(x.Saq.getD 0 a0a.z).2.2.2.1 with
 | true=>rfl
 | false =>
  rw [g7i,Bool.not_false,Bool.true_and];by_cases h1:x.Sdq.length = 0
  · rw [len0,dt h1,g7k,decide_eq_false (show ¬ x.Sdq.length≠0 by omega)]; rfl
  rw [len0,df h1,g7i,decide_eq_true (show x.Sdq.length≠0 from h1),Bool.true_and];by_cases hfl:len x.Table < c.Flight
  ·
   rw [df (show ¬ len x.Table≥c.Flight by omega),decide_eq_true hfl,Bool.true_and,g7i,show b0c N N 0 x (x.Saq.getD 0 a0a.z) = _ from hl];have fin:∀ k:Option Rs,(onB 0 1 (if (x.Table.any (clashQ (x.Saq.getD 0 a0a.z))) = true then some (0,gB.dv false []) else some (1,[])) (gg [pB] fun (x2:Bool)=>some (0,gB.dv x2 [])) (gg [] (some (0,gB.dv true [])))) = some (0,gB.dv (!x.Table.any (clashQ (x.Saq.getD 0 a0a.z))) []):=by
    intro k;cases x.Table.any (clashQ (x.Saq.getD 0 a0a.z)) <;> rfl
   by_cases hk:x.Trap.Kind = 0
   ·
    rw [show (x.Trap.Kind != 0) = false by simp [hk],g7i,decide_eq_true hk,Bool.true_or,Bool.true_and,g7n];exact fin none
   ·
    rw [show (x.Trap.Kind != 0) = true by simp [hk],g7k,decide_eq_false hk,Bool.false_or,g7n,g7n];by_cases hs:(x.Saq.getD 0 a0a.z).2.2.1≥x.Trap.Step
    · rw [dt hs,g7k,decide_eq_false (by omega)]; rfl
    ·
     rw [df hs,g7i,decide_eq_true (by omega),Bool.true_and];exact fin none
  · rw [dt (show len x.Table≥c.Flight by omega),g7k,decide_eq_false hfl]; rfl
def sentE (x:a0b):a0a:=((headM x).1,((headM x).2.1,((headM x).2.2.1,(true,(maskM (x.Sdq.getD 0 0) (headM x).2.1,())))))
def sentQ (x:a0b):a0e:=(true,(stOp (headM x).2.1,((headM x).1,((headM x).2.1,(maskM (x.Sdq.getD 0 0) (headM x).2.1,(0,(0,(0,()))))))))
def sendM (c:a0f) (x:a0b):a0b :=
 if canM c x = true then { x with Sdq:=x.Sdq.drop 1,Saq:=x.Saq.set 0 (sentE x),Table:=x.Table++[sentQ x] } else x
theorem d8A {c:a0f} {x:a0b} (h:canM c x = true):x.Saq.length≠0∧x.Sdq.length≠0:=by
 unfold canM at h;simp only [Bool.and_eq_true,decide_eq_true_eq] at h;exact ⟨h.1,h.2.2.1⟩
theorem e4c (c:a0f) (x:a0b) (hT:x.Table.length≤1000) (hN:1001 < N):a7V N c x = some (0,a0c.dv (sendM c x) []):=by
 unfold a7V g7P g7R sendM;rw [e9r c x hT hN,g7j,g7m,g7l];cases hc:canM c x with
 | false=>rfl
 | true =>
  obtain ⟨h0,h1⟩:=d8A hc;rw [Bool.not_true,g7i,a1l (by omega) (by omega),g7n,a1l (by omega) (by omega),g7n,e3D,g7j,g7m,g7l,sb_1 h1,g7n];have head:∀ (e:a0a) (h:0 < x.Saq.length),(x.Saq.set 0 e).getD 0 a0a.z = e:=by
   intro e h;rw [List.getD_eq_getElem?_getD,List.getElem?_set_self (by omega)]; rfl
  simp only [head _ (show 0 < x.Saq.length by omega),List.set_set];rw [e9J,g7j,g7m,g7l,rmT (by simp; omega),g7n];rfl
theorem e6i (c:a0f) (x:a0b) (hx:Wf x) (he:∀ e∈x.Saq,(0≤e.1∧e.1≤100000)∧(1≤e.2.1∧e.2.1≤4)) (hq:∀ q∈x.Table,(0≤q.2.2.1∧q.2.2.1≤100000)∧(1≤q.2.2.2.1∧q.2.2.2.1≤4)) (hN:1001 < N):c2d N c x = some (0,a0c.dv (sendM c x) []):=by
 have hT:=hx.tab;unfold c2d g7T g7Q g7S sendM;rw [b6Q x hx,g7j,g7m,g7l,e7D c x he hq hT hN,g7j,g7m,g7l];cases hc:canM c x with
 | false=>rfl
 | true =>
  obtain ⟨h0,h1⟩:=d8A hc;have head:∀ (e:a0a) (h:0 < x.Saq.length),(x.Saq.set 0 e).getD 0 a0a.z = e:=by
   intro e h;rw [List.getD_eq_getElem?_getD,List.getElem?_set_self (by omega)]; rfl
  simp only [head _ (show 0 < x.Saq.length by omega),List.set_set];rw [Bool.not_true,g7i,a1l (by omega) (by omega),g7n,a1l (by omega) (by omega),g7n,e5W,g7j,g7m,g7l,sb_1 h1,g7n];have hrm:∀ q:a0e,rm x.Table [q] 64 = true:=fun q=>rmT (by simp; omega)
  simp only [hrm,g7n];unfold sentQ sentE stOp headM;by_cases s2:(x.Saq.getD 0 a0a.z).2.1 = 2
  · rw [s2]; rfl
  ·
   rw [bf s2,g7i,if_neg s2];by_cases s1:(x.Saq.getD 0 a0a.z).2.1 = 1
   · rw [s1]; rfl
   · rw [bf s1,g7i,if_neg s1]; rfl
end Go.Proofs.Zz

/- Loads and stores on A: the document's, as the program's. -/
set_option maxRecDepth 100000
namespace Go.Proofs.Zz
open Go
variable {N:Nat}
theorem c4I (r v ready:Int) (x:a0b):b0w N r v ready x = some (0,a0c.dv { x with A:=setM x.A r v ready } []):=b2z (N:=N) r v ready x
theorem a7F (x:a0b):a0O N x = some (0,a0c.dv { x with A:=behindM x.A } []):=rfl
theorem d3m (s:a0g) (t:Bool) (cy:Int) (x:a0b) (hb:I64 x.A.Pos.Base):a7J N s t cy x = some (0,a0c.dv { x with A:=goD s cy x.A t } []):=by
 unfold a7J goD;rw [d5x _ _ hb,g7j,g7m,g7l];cases t <;> rfl
theorem b9S (k:a0h) (x:a0b):b0L N x k.2.1 = some (0,gW.dv (addrM k x) []):=by
 unfold b0L;rw [b7l,g7j,g7m,g7l];rfl
theorem c7U (l:List a0q) (n t:Int) (h:l.length≤1000):a5Y N l n t = some (0,(gD (.sl a0k)).dv (if len l < n then l++[(t,(false,(0,())))] else l) (gB.dv (decide (len l < n)) [])):=by
 unfold a5Y;rw [c1D _ h,g7j,g7m,g7l];by_cases hq:len l < n
 · rw [df (show ¬ len l≥n by omega),g7i,rmT (by simp; omega),g7n,if_pos hq,dt hq]
 · rw [dt (show len l≥n by omega),g7k,if_neg hq,df hq]
theorem e5D (l:List a0a) (n:Int) (e:a0a) (h:l.length≤1000):a9R N l n e = some (0,(gD (.sl a0t)).dv (if len l < n then l++[e] else l) (gB.dv (decide (len l < n)) [])):=by
 unfold a9R;rw [rmT (by simp; omega),g7n,List.nil_append];by_cases hq:len l < n
 · rw [df (show ¬ len l≥n by omega),g7i,rmT (by simp; omega),g7n,if_pos hq,dt hq]
 · rw [dt (show len l≥n by omega),g7k,if_neg hq,df hq]
theorem e4K (c:a0f) (k:a0h) (st:Int) (x:a0b) (hx:Wf x) (hA:WfA x) (hm:len x.Mem≤65536) (hL:Lies x.Saq) (hk:InsK k.1 k.2.1) (hkk:k.1 = 2∨k.1 = 3) (hN:1001 < N):c1U N c x k st = some (0,a0c.dv (loadM c k st x) []):=by
 obtain ⟨o1,o2,d1,d2⟩:=hk.1 hkk;have hz:=d8t ⟨o1,o2⟩;have ha:U32 (addrM k x):=a5x _;have hck:chkM k x = checkM (sizeM k.2.1.1) (addrM k x) (len x.Mem):=by
  unfold chkM checkX;rw [if_neg (by omega)]
 have hrm:∀ (y:a0b) (q:a0e),y.Table.length≤900→rm y.Table [q] 64 = true:=fun y q h=>rmT (by simp; omega)
 have ht:=hA.tab;unfold c1U loadM;rw [b3L,g7j,g7m,g7l,b9S,g7j,g7m,g7l,show a5K N (sizeM k.2.1.1) (addrM k x) (len x.Mem) = _ from a9V (N:=N) hz ha (by simp only [len] at hm ⊢; omega),g7j,g7m,g7l,← hck];by_cases h0:chkM k x = 0
 ·
  rw [h0,show ((0:Int) != 0) = false from rfl,g7i,if_neg (show ¬ ((0:Int)≠0) by omega)];have hle:=d2q (hck ▸ h0);simp only [U32] at ha;rw [wI (x:=addrM k x) (by omega) (by omega),e1j x.Saq hA.saq hL (by omega) (by omega) hN,g7j,g7m,g7m,g7l];generalize searchM x.Saq (addrM k x) (sizeM k.2.1.1) x.Saq.length = sr;obtain ⟨e,th⟩:=sr;simp only [];rw [e0l ⟨o1,o2⟩,g7j,g7m,g7m,g7l];generalize bypM e k.2.1.1 (addrM k x) = br;obtain ⟨v,ok⟩:=br;simp only [];cases th with
  | true =>
   rw [if_pos rfl];simp only [g7k,Bool.not_true,g7i];cases ok with
   | false=>rw [if_neg (show ¬ (false = true) by simp)]; rfl
   | true =>
    rw [if_pos rfl];simp only [Bool.not_true,g7i];unfold takeM resM;rcases hkk with h2 | h3
    ·
     rw [h2,if_pos rfl];rw [show ((2:Int) == 3) = false from rfl,g7i,c4I,g7j,g7m,g7l,a7F,g7j,g7m,g7l]
    ·
     rw [h3,if_neg (show ¬ ((3:Int) = 2) by omega),show ((3:Int) == 3) = true from rfl,g7k,c7U _ _ _ hx.ldq,g7j,g7m,g7m,g7l];by_cases hq:len x.Ldq < c.Ldq
     ·
      simp only [if_pos hq,dt hq,Bool.not_true,g7i];rw [d8X _ _ _ (by have:=hA.ldq; simp; omega) hN,g7j,g7m,g7m,g7l,a7F,g7j,g7m,g7l]
     · simp only [if_neg hq,df hq,Bool.not_false,g7k]
  | false =>
   rw [if_neg (show ¬ (false = true) by simp)];simp only [g7i,Bool.not_false,g7k];by_cases hf:len x.Table < c.Flight
   ·
    rw [df (show ¬ len x.Table≥c.Flight by omega),g7i,if_pos hf];unfold askM resM;rcases hkk with h2 | h3
    ·
     rw [h2,if_neg (show ¬ ((2:Int) = 3) by omega),show ((2:Int) == 3) = false from rfl,g7i];by_cases hd:k.2.1.2.1 = 0
     ·
      rw [hd,if_neg (by omega),show ((0:Int) != 0) = false from rfl,g7i,hrm x _ ht,g7n,a7F,g7j,g7m,g7l];unfold reqOf;rfl
     ·
      rw [if_pos (show 0 < k.2.1.2.1∧k.2.1.2.1 < 16 by omega),show (k.2.1.2.1 != 0) = true from bne_iff_ne.2 hd,g7k,a1l (by omega) (by omega),g7n,hrm x _ ht,g7n,a7F,g7j,g7m,g7l];rfl
    ·
     rw [h3,if_pos rfl,show ((3:Int) == 3) = true from rfl,g7k,c7U _ _ _ hx.ldq,g7j,g7m,g7m,g7l];by_cases hq:len x.Ldq < c.Ldq
     ·
      simp only [if_pos hq,dt hq,Bool.not_true,g7i];rw [hrm x _ ht,g7n,a7F,g7j,g7m,g7l];rfl
     · simp only [if_neg hq,df hq,Bool.not_false,g7k]
   · rw [dt (show len x.Table≥c.Flight by omega),g7k,if_neg hf]
 · rw [show (chkM k x != 0) = true from bne_iff_ne.2 h0,g7k,if_pos h0,b6a x hx,g7j,g7m,g7l]
end Go.Proofs.Zz

/- What A does in a cycle: the document's, as the program's. -/
set_option maxRecDepth 100000
namespace Go.Proofs.Zz
open Go
variable {N:Nat}
theorem b8A {c:a0f} {s:a0g} {x:a0b} (h:rightM c s x = true):len x.Mem≤65536:=by
 unfold rightM queuesM at h;simp only [Bool.and_eq_true,decide_eq_true_eq] at h;exact h.2.2.2.2.1.2.2.2.2.2.2.2
theorem c9r {c:a0f} {s:a0g} {x:a0b} (h:rightM c s x = true):entsM (len x.Mem) true x.Saq = true:=by
 unfold rightM at h;simp only [Bool.and_eq_true] at h;exact h.2.2.2.2.2.1.1
theorem b4n {c:a0f} {s:a0g} {x:a0b} (h:rightM c s x = true):∀ q∈x.Table,reqM (len x.Mem) q = true:=by
 unfold rightM at h;simp only [Bool.and_eq_true] at h;exact List.all_eq_true.1 h.2.2.2.2.2.1.2.1
theorem d9H {s:a0g} {x:a0b} (hn:NextOk s) (hb:hasM s x.A.Pos.Block = true) (h:¬ (x.A.Halted = true∨x.A.Wait > x.Cycle)) (hf:(settleM s false x.A.Pos).2 = true) :
  (atA s x).2.2.1 = false∧(atA s x).2.2.2 = noteM { x with A:={ x.A with Pos:=(settleM s false x.A.Pos).1 } } 4 (nextM s false x.A.Pos).2.1 (blockM s (settleM s false x.A.Pos).1.Block).2.1:=by
 unfold atA;rw [if_neg h];simp only [a1r hn false _ hb,c1H hf,hf,if_true,Bool.false_and,and_self]
theorem d9t {s:a0g} {x:a0b} (hn:NextOk s) (hb:hasM s x.A.Pos.Block = true) (h:¬ (x.A.Halted = true∨x.A.Wait > x.Cycle)) (hf:(settleM s false x.A.Pos).2 = false) :
  atA s x = ((nextM s false x.A.Pos).1,(nextM s false x.A.Pos).2.1,(nextM s false x.A.Pos).2.2 && !stoppedM x (nextM s false x.A.Pos).2.1,{ x with A:={ x.A with Pos:=(settleM s false x.A.Pos).1 } }):=by
 unfold atA;rw [if_neg h];simp only [a1r hn false _ hb,hf];rfl
theorem Wf.posA {x:a0b} (h:Wf x) (p:a0C):Wf { x with A:={ x.A with Pos:=p } } :=
 { rA:=h.rA,rE:=h.rE,mem:=h.mem,saq:=h.saq,tab:=h.tab,ldq:=h.ldq,sdq:=h.sdq,aeq:=h.aeq,abq:=h.abq,ebq:=h.ebq,wri:=h.wri,gA:=h.gA,gE:=h.gE }
theorem WfA.posA {x:a0b} (h:WfA x) (p:a0C):WfA { x with A:={ x.A with Pos:=p } } :=
 ⟨h.mem,h.ldq,h.tab,h.saq,h.aeq,h.abq,h.gA⟩
theorem waitA {c:a0f} {s:a0g} {x:a0b} (h:x.A.Halted = true∨x.A.Wait > x.Cycle):turnA c s x = x:=by
 unfold turnA;rw [show atA s x = (a0h.z,0,false,x) from if_pos h,if_pos (.inl rfl)]
theorem d1V {c:a0f} {s:a0g} {x:a0b} (h:rightM c s x = true):0≤x.A.Pos.Index:=by
 have:=b7L h;unfold sideM at this;simp only [Bool.and_eq_true,allB,List.all_cons,List.all_nil,decide_eq_true_eq] at this;exact this.2.1.1.1
theorem e4l (c:a0f) (s:a0g) (x:a0b) (hA:I64 x.A.Pos.Base) (hE:I64 x.E.Pos.Base) (ha:0≤(nextM s false x.A.Pos).2.1∧(nextM s false x.A.Pos).2.1≤2000000000000) (he:0≤(nextM s true x.E.Pos).2.1∧(nextM s true x.E.Pos).2.1≤2000000000000) (hsl:1≤c.Slip∧c.Slip≤64) (hl:s.Blocks.length≤100000) (hN:s.Blocks.length < N) :
  c2B N c s x = some (0,gB.dv (aheadM c s x) []):=by
 unfold c2B aheadM;rw [b0A s false _ hA hl hN,g7j,g7m,g7m,g7m,g7l,b0A s true _ hE hl hN,g7j,g7m,g7m,g7m,g7l,e4s ha he hsl];rw [wI (x:=(nextM s true x.E.Pos).2.1+c.Slip) (by omega) (by omega),wI (x:=(nextM s false x.A.Pos).2.1 - (nextM s true x.E.Pos).2.1) (by omega) (by omega)];rw [show decide ((nextM s false x.A.Pos).2.1 - (nextM s true x.E.Pos).2.1≥c.Slip) = decide ((nextM s false x.A.Pos).2.1≥(nextM s true x.E.Pos).2.1+c.Slip) by rw [decide_eq_decide]; omega];cases x.E.Halted with
 | true=>rfl
 | false =>
  cases (nextM s false x.A.Pos).2.2 with
  | false=>simp [g7i,g7k]
  | true =>
   cases (nextM s true x.E.Pos).2.2 with
   | false=>rfl
   | true=>rfl
theorem e5n {s:a0g} (hs:SplitOk s.Blocks) (e:Bool) {p:a0C} (hb:hasM s p.Block = true):InsK (nextM s e p).1.1 (nextM s e p).1.2.1:=by
 unfold nextM;split
 ·
  show InsK a0h.z.1 a0h.z.2.1;exact d7F (by decide) (by decide) (by decide)
 · exact d8V hs e (a3G (NextOk.of hs) e s.Blocks.length p hb)
theorem e2o (c:a0f) (s:a0g) (x:a0b) (h:Wf x) (hA:WfA x) (hs:SplitOk s.Blocks) (hl:s.Blocks.length≤100000) (hN:s.Blocks.length < N) (hN2:1001 < N) :
  b7R N c s x = some (0,a0c.dv (issueA c s x) []):=by
 have hn:=NextOk.of hs;unfold b7R;simp only [b6Q x h,a6E c s x h.toStOk hN2,g7j,g7m,g7l];cases hr:rightM c s x with
 | false=>rw [show issueA c s x = x from if_neg (by rw [hr]; simp)]; rfl
 | true =>
  rw [show issueA c s x = turnA c s x from if_pos hr,Bool.not_true,g7i];have hb:=a6O (b7L hr);have hbE:=a6O (b1P hr);have bA:=c5q hr;have bE:=c5x hr;have hIA:I64 x.A.Pos.Base:=by unfold I64; omega
  have hIE:I64 x.E.Pos.Base:=by unfold I64; omega
  have hL:Lies x.Saq:=c9l (m:=len x.Mem) (b8A hr) x.Saq true (c9r hr);have hmm:=b8A hr;have hk:=b4S (s:=s) false s.Blocks.length x.A.Pos hIA (d1V hr);rw [show settleN s false s.Blocks.length x.A.Pos = settleM s false x.A.Pos from rfl] at hk;have bif0:∀ {X:Type} {b:Bool} (A B:X),b = false→bi b A B = B:=by rintro X b A B rfl; rfl
  have bit0:∀ {X:Type} {b:Bool} (A B:X),b = true→bi b A B = A:=by rintro X b A B rfl; rfl
  rcases Bool.eq_false_or_eq_true x.A.Halted with hh | hh
  · rw [waitA (.inl hh),bit0 _ _ hh]
  ·
   rw [bif0 _ _ hh];by_cases hw2:x.A.Wait > x.Cycle
   · rw [waitA (.inr hw2),dt hw2,g7k]
   rw [df hw2,g7i];have hw:¬ (x.A.Halted = true∨x.A.Wait > x.Cycle):=by rw [hh]; simp [hw2]
   simp only [b4k s false x.A.Pos hIA hl hN,g7j,g7m,g7l,b0A s false _ hk.1 hl hN,a1r hn false _ hb];cases hf:(settleM s false x.A.Pos).2 with
   | true =>
    obtain ⟨h1,h2⟩:=d9H hn hb hw hf;have hs2:=a3G hn false s.Blocks.length x.A.Pos hb;rw [show settleN s false s.Blocks.length x.A.Pos = settleM s false x.A.Pos from rfl] at hs2;have e:turnA c s x = (atA s x).2.2.2:=by
     unfold turnA;rw [if_pos (.inl h1)]
    rw [e,h2,g7k,d0m s _ hs2];simp only [g7j,g7m,g7l,b6a _ (h.posA _)]
   | false =>
    have hi:=d5j hf hk.2;have ha:=d9t hn hb hw hf;have hx:=h.posA (settleM s false x.A.Pos).1;have hxA:=hA.posA (settleM s false x.A.Pos).1;have hins:=e5n hs false hb;have hah:=e4l (N:=N) c s { x with A:={ x.A with Pos:=(settleM s false x.A.Pos).1 } } hk.1 hIE (by
      show 0≤(nextM s false (settleM s false x.A.Pos).1).2.1∧(nextM s false (settleM s false x.A.Pos).1).2.1≤2000000000000;rw [a1r hn false _ hb]; exact d0h hs false hb bA.1 bA.2) (d0h hs true hbE bE.1 bE.2) (d8B hr) hl hN
    unfold turnA;rw [ha,g7i];have hk1:=hk.1;generalize (settleM s false x.A.Pos).1 = q at *;generalize nextM s false x.A.Pos = nx at *;obtain ⟨k,st,is⟩:=nx;simp only at hi hins;subst hi;simp only [b6W,c9p _ _ _ hN2,g7j,g7m,g7l];rw [show stoppedM { x with A:={ x.A with Pos:=q } } st = stoppedM x st from rfl];cases stoppedM x st with
    | true=>rw [g7k,if_pos (.inl rfl)]
    | false =>
     rw [g7i,hah,g7j,g7m,g7l];cases aheadM c s { x with A:={ x.A with Pos:=q } } with
     | true=>rw [g7k,if_pos (.inr (.inl rfl))]
     | false =>
     rw [g7i];cases hfr:freeM { x.A with Pos:=q } k x.Cycle with
     | false=>rw [if_pos (.inr (.inr rfl))]; rfl
     | true =>
      rw [if_neg (by simp),Bool.not_true,g7i];have hg:∀ r,U32 (getM { x.A with Pos:=q } r):=fun r=>b1T h.gA r
      simp only [b7l,g7j,g7m,g7l,d9l k.2.1 (hg _) (hg _),b6a _ hx,c2C,c4I,a7F,c9m _ (hg _) (hg _)];have ht:∀ (t:Bool) (cy:Int) (y:a0b),y.A.Pos = q→a7J N s t cy y = some (0,a0c.dv { y with A:=goD s cy y.A t } []):=fun t cy y e=>d3m s t cy y (by rw [e]; exact hk1)
      have hwi:∀ a:Int,U32 a→w.i64 a = a:=fun a ha=>by simp only [U32] at ha; exact wI (by omega) (by omega)
      unfold actA;by_cases h1:k.1 = 1
      ·
       rw [bt h1,g7k,if_pos h1];unfold doA;cases (doM k.2.1 (getM { x.A with Pos:=q } k.2.1.2.2.1) (getM { x.A with Pos:=q } k.2.1.2.2.2.1)).2 <;> rfl
      rw [bf h1,g7i,if_neg h1];by_cases h5:k.1 = 5
      ·
       rw [bt h5,g7k,if_neg (by omega),if_neg (by omega),if_pos h5];by_cases hq:len x.Aeq < c.Aeq
       · rw [dt hq,if_pos hq,g7k,rmT (show (x.Aeq.length+[getM { x.A with Pos:=q } k.2.2.1].length)*4≤35184372088832 by have:=h.aeq; simp; omega),g7n]
       · rw [df hq,if_neg hq]; rfl
      rw [bf h5,g7i];by_cases h23:k.1 = 2∨k.1 = 3
      ·
       rw [if_pos h23];have hload:=e4K (N:=N) c k st { x with A:={ x.A with Pos:=q } } hx hxA hmm hL hins h23 hN2;rcases h23 with h2 | h3
       · rw [bt h2,g7k,hload,g7j,g7m,g7l]
       · rw [bf (show ¬ k.1 = 2 by omega),g7i,bt h3,g7k,hload,g7j,g7m,g7l]
      rw [bf (show ¬ k.1 = 2 by omega),g7i,bf (show ¬ k.1 = 3 by omega),g7i,if_neg h23];by_cases h4:k.1 = 4
      ·
       rw [bt h4,g7k,if_pos h4];obtain ⟨o1,o2⟩:=hins.2 h4;have hz:=d6S (op:=k.2.1.1) ⟨by omega,o2⟩
       have hck:chkM k { x with A:={ x.A with Pos:=q } } = checkM (sizeM k.2.1.1) (addrM k { x with A:={ x.A with Pos:=q } }) (len x.Mem):=by
        unfold chkM checkX;rw [if_neg (by omega)]
       have hU:U32 (addrM k { x with A:={ x.A with Pos:=q } }):=a5x _;unfold storeM;rw [b3L,g7j,g7m,g7l,b9S,g7j,g7m,g7l,show a5K N (sizeM k.2.1.1) (addrM k { x with A:={ x.A with Pos:=q } }) (len x.Mem) = _ from a9V (N:=N) hz hU (by simp only [len] at hmm ⊢; omega),g7j,g7m,g7l,← hck];rw [hwi _ hU];by_cases h0:chkM k { x with A:={ x.A with Pos:=q } } = 0
       ·
        rw [show (chkM k { x with A:={ x.A with Pos:=q } } != 0) = false by simpa using h0,g7i,if_neg (fun g=>g h0),e5D _ _ _ h.saq,g7j,g7m,g7m,g7l];by_cases hq:len x.Saq < c.Saq
        · simp only [dt hq,if_pos hq,g7k]
        · simp only [df hq,if_neg hq,g7i]
       · rw [show (chkM k { x with A:={ x.A with Pos:=q } } != 0) = true from bne_iff_ne.2 h0,g7k,if_pos h0]
      rw [bf h4,g7i,if_neg h4,if_neg h5];by_cases h9:k.1 = 9
      ·
       rw [bt h9,g7k,if_pos h9];unfold branchA;by_cases hq:len x.Abq < c.Abq
       · rw [dt hq,if_neg (show ¬ len x.Abq≥c.Abq by omega),g7k,rmT (show (x.Abq.length+[takenM k.2.1.1 (getM { x.A with Pos:=q } k.2.1.2.2.1) (getM { x.A with Pos:=q } k.2.1.2.2.2.1)].length)*1≤35184372088832 by have:=h.abq; simp; omega),g7n,ht _ _ _ rfl] <;> rfl
       · rw [df hq,if_pos (show len x.Abq≥c.Abq by omega)]; rfl
      rw [bf h9,g7i,if_neg h9];by_cases h10:k.1 = 10
      ·
       rw [bt h10,g7k,if_pos h10];unfold followA;by_cases hq:x.Ebq.length = 0
       · rw [df (show ¬ len x.Ebq > 0 by simp only [len]; omega),if_pos hq]; rfl
       · rw [dt (show len x.Ebq > 0 by simp only [len]; omega),if_neg hq,g7k,a1l (i:=0) (by omega) (by omega),g7n,sb_1 hq,g7n,ht _ _ _ rfl] <;> rfl
      rw [bf h10,g7i,if_neg h10];by_cases h11:k.1 = 11
      · rw [bt h11,g7k,if_pos h11,ht _ _ _ rfl] <;> rfl
      rw [bf h11,g7i,if_neg h11];by_cases h12:k.1 = 12
      ·
       rw [bt h12,g7k,if_pos h12];rfl
      · rw [bf h12,g7i,if_neg h12]
end Go.Proofs.Zz
