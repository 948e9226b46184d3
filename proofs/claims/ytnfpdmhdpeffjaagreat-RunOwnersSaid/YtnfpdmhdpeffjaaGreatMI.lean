import Derived.Test.YtnfpdmhdpeffjaaGreatMG
import Derived.Test.YtnfpdmhdpeffjaaGreatMH
import Derived.Test.YtnfpdmhdpeffjaaGreatK9
set_option linter.unusedSimpArgs false
set_option linter.unusedVariables false
/- Loads and stores that end, word for word: the program's and the document's. -/
set_option maxRecDepth 100000
namespace Go.Proofs.Zz
open Go
variable {N:Nat}
/-! Words read -/
def rdB (a:Int) (m:List Int):Nat→Int
 | 0=>0
 | n+1=>bitOr .u32 (rdB a m n) (shl .u32 (w.u32 (m.getD (a+(n:Int)).toNat 0)) (8*(n:Int)))
def loadV (m:List Int) (op a:Int):Int:=if 26≤op∧op≤30 then (if checkM (sizeM op) a (len m) = 0 then signM op (rdB a m (sizeM op).toNat) else 0) else 0
theorem e0S (m:List Int) (op a:Int) (sz:Nat) (hs:sz≤4) (ha:U32 a) (hn:a+sz≤m.length) (hm:m.length≤100000):∀ (n j:Nat),j≤sz→sz - j < n →
  a2H N n m op a (rdB a m j) (sz:Int) (j:Int) = some (1,gI.dv op (gW.dv (rdB a m sz) [])):=by
 intro n;induction n with
 | zero=>intro j h1 h2; omega
 | succ n ih =>
  intro j h1 h2;show a4V N (a2H N n) m op a (rdB a m j) (sz:Int) (j:Int) = _;unfold a4V;simp only [U32] at ha;by_cases hj:j < sz
  ·
   have e0:w.i64 a = a:=wI (by omega) (by omega);have e1:w.i64 (8*(j:Int)) = 8*(j:Int):=wI (by omega) (by omega);have e2:w.i64 (a+(j:Int)) = a+(j:Int):=wI (by omega) (by omega);rw [dt (show (j:Int) < (sz:Int) by omega),g7k,e0,e2,a1l (by omega) (by omega),g7n,e1,df (show ¬ (8*(j:Int) < 0) by omega),g7w,wS (show j≤100000000 by omega)];exact ih (j+1) (by omega) (by omega)
  ·
   have:j = sz:=by omega
   subst this;rw [df (by omega),g7i]
theorem d8t {op:Int} (h:26≤op∧op≤30):sizeM op = 1∨sizeM op = 2∨sizeM op = 4:=by
 have:op = 26∨op = 27∨op = 28∨op = 29∨op = 30:=by omega
 rcases this with rfl | rfl | rfl | rfl | rfl <;> decide
theorem d2q {size a n:Int} (hc:checkM size a n = 0):a+size≤n:=by
 unfold checkM at hc;split at hc
 · omega
 ·
  split at hc
  · omega
  · rename_i h; omega
theorem e7H (m:List Int) (op:Int) {a:Int} (ha:U32 a) (hm:m.length≤100000) (hN:10 < N):a9Z N m op a = some (0,gW.dv (loadV m op a) []):=by
 unfold a9Z b4O loadV;rw [b5j,g7j,g7m,g7l];by_cases h1:op≥26
 ·
  rw [dt h1,g7k,g7j,g7m,g7l];by_cases h2:op≤30
  ·
   rw [dt h2,Bool.not_true,g7i,if_pos ⟨h1,h2⟩];have hs:=d8t ⟨h1,h2⟩;rw [a9V hs ha (by simp only [len]; omega),g7j,g7m,g7l];by_cases hc:checkM (sizeM op) a (len m) = 0
   ·
    rw [if_pos hc,hc,show ((0:Int) != 0) = false from rfl,g7i];have hle:=d2q hc;have e:sizeM op = (((sizeM op).toNat:Nat):Int):=by omega
    have hv:=e0S (N:=N) m op a (sizeM op).toNat (by omega) ha (by simp only [len] at hle; omega) hm N 0 (by omega) (by omega);rw [← e] at hv;rw [show a2H N N m op a 0 (sizeM op) 0 = _ from hv,g7u,g7m,g7m,g7l,d8a,g7j,g7m,g7l]
   · rw [if_neg hc,show (checkM (sizeM op) a (len m) != 0) = true by simp [hc],g7k]
  · rw [df h2,Bool.not_false,g7k,if_neg (by omega)]
 · rw [df h1,g7i,g7j,g7m,g7l,Bool.not_false,g7k,if_neg (by omega)]
/-! Words written -/
/-! A request that ends -/
def ldS (q:a0e) (x:a0b) (v:Int):a0b :=
 if q.2.2.2.2.2.2.1 < 0 then { x with Ldq:=fillM x.Ldq q.2.2.2.2.2.2.2.1 v } else
 if q.2.2.2.2.2.2.1≤15∧1≤q.2.2.2.2.2.2.1 then { x with A:={ x.A with Regs:=(List.set x.A.Regs q.2.2.2.2.2.2.1.toNat v),Ready:=(List.set x.A.Ready q.2.2.2.2.2.2.1.toNat (w.i64 (x.Cycle+1))) } } else x
def doneM (q:a0e) (x:a0b):a0b :=
 if q.1 = true then { x with Mem:=wrOf x.Mem (wrQ q),Saq:=x.Saq.drop 1,Writes:=x.Writes++[wrQ q] } else
 ldS q x (if 0≤q.2.2.1∧q.2.2.1≤4294967295 then loadV x.Mem q.2.1 (w.u32 q.2.2.1) else 0)
theorem e5w (q:a0e) (x:a0b) (hq:q.1 = false) (hm:x.Mem.length≤100000) (hl:x.Ldq.length≤1000) (hN:1001 < N):b0b N q x = some (0,a0c.dv (doneM q x) []):=by
  have key:∀ v:Int,
      (bi (decide (q.2.2.2.2.2.2.1 < 0)) (
        on1 (a4T N x.Ldq q.2.2.2.2.2.2.2.1 v)<|gg [pD (.sl a0k),pB]<|fun (x3:List a0q) (x4:Bool) =>
        some (0,a0c.dv ({ x with Ldq:=x3 }:a0b) [])) <|
       bi (decide (q.2.2.2.2.2.2.1≥1)) (
        bi (decide (q.2.2.2.2.2.2.1≤15)) (
         gd (idx q.2.2.2.2.2.2.1 16) <|
         gd (idx q.2.2.2.2.2.2.1 16) <|
         some (0,a0c.dv ({ x with A:={ x.A with Regs:=(List.set x.A.Regs q.2.2.2.2.2.2.1.toNat v),Ready:=(List.set x.A.Ready q.2.2.2.2.2.2.1.toNat (w.i64 (x.Cycle+1))) } }:a0b) [])) <|
        some (0,a0c.dv x [])) <|
       some (0,a0c.dv x [])) = some (0,a0c.dv (ldS q x v) []):=by
    intro v;unfold ldS;by_cases h1:q.2.2.2.2.2.2.1 < 0
    · rw [dt h1,g7k,d7f _ _ _ hl hN,g7j,g7m,g7m,g7l,if_pos h1]
    · rw [df h1,g7i,if_neg h1]
      by_cases h2:q.2.2.2.2.2.2.1≥1
      · rw [dt h2,g7k]
        by_cases h3:q.2.2.2.2.2.2.1≤15
        · rw [dt h3,g7k,a1l (by omega) (by omega),g7n,g7n,if_pos ⟨h3,h2⟩]
        · rw [df h3,g7i,if_neg (by omega)]
      · rw [df h2,g7i,if_neg (by omega)]
  unfold b0b doneM;rw [if_neg (by simp [hq])];by_cases h1:q.2.2.1≥0
  · rw [dt h1,g7k]
    by_cases h2:q.2.2.1≤4294967295
    · rw [dt h2,g7k,e7H (N:=N) x.Mem q.2.1 (a5x q.2.2.1) hm (by omega),g7j,g7m,g7l,if_pos ⟨h1,h2⟩]
      exact key _
    · rw [df h2,g7i,if_neg (by omega)]
      exact key 0
  · rw [df h1,g7i,if_neg (by omega)]
    exact key 0
end Go.Proofs.Zz

/- The requests that end: the program's and the document's, alike. -/
set_option maxRecDepth 100000
namespace Go.Proofs.Zz
open Go
variable {N:Nat}
/-! All requests -/
def endsM:List a0e→a0b→a0b
 | [],x=>x
 | q::r,x=>endsM r (if (keepQ q).isNone = true then doneM (downQ q) x else x)
theorem e4b (q:a0e) (x:a0b) (v:Int):ldS q x v = { x with A:=(ldS q x v).A,Ldq:=(ldS q x v).Ldq }:=by
 unfold ldS; repeat' split
 all_goals rfl
theorem e7f (q:a0e) (x:a0b) (v:Int):(ldS q x v).Ldq.length = x.Ldq.length:=by
 unfold ldS;split
 · exact c2A _ _ _
 · split <;> rfl
theorem d8L (q:a0e) (x:a0b):(doneM q x).Mem.length = x.Mem.length∧(doneM q x).Ldq.length = x.Ldq.length∧(doneM q x).Writes.length≤x.Writes.length+1∧(doneM q x).Saq.length≤x.Saq.length:=by
 unfold doneM;split
 · exact ⟨c3A _ _ _ _,rfl,by simp,by simp⟩
 ·
  refine ⟨?_,e7f _ _ _,?_,?_⟩
  · rw [e4b]
  · rw [e4b]; simp
  · rw [e4b]; simp
theorem e3q (T:List a0e) (hT:T.length≤1000) (n0:Int) (hL:Lefts T n0) (hn0:n0≤65536) (hN:1001 < N):∀ (n i:Nat) (acc:List a0e) (x:a0b),i≤T.length→T.length - i < n→len x.Mem = n0→x.Ldq.length≤1000→x.Writes.length+(T.length - i)≤500000→acc.length≤i →
  a2j N n acc T (len T) (i:Int) x = some (1,(gD (.sl a0j)).dv (acc++(T.drop i).filterMap keepQ) (a0c.dv (endsM (T.drop i) x) [])):=by
 intro n;induction n with
 | zero=>intro i acc x h1 h2; omega
 | succ n ih =>
  intro i acc x h1 h2 hm hl hw ha;show a6p N (a2j N n) acc T (len T) (i:Int) x = _;unfold a6p;by_cases hi:i < T.length
  ·
   have hq:=a1E a0e.z hi;have hdrop:T.drop i = T.getD i a0e.z::T.drop (i+1):=by
    rw [List.drop_eq_getElem_cons hi,List.getD_eq_getElem?_getD,List.getElem?_eq_getElem hi]; rfl
   rw [a1f hi,g7k,a1Q hi,g7n,Int.toNat_natCast,hdrop];generalize T.getD i a0e.z = q at *;rw [endsM];have keep:∀ q':a0e,keepQ q = some q'→(gd (rm acc [q'] 64)<|a2j N n (acc++[q']) T (len T) (w.i64 ((i:Int)+1)) x) = some (1,(gD (.sl a0j)).dv (acc++(q::T.drop (i+1)).filterMap keepQ) (a0c.dv (endsM (T.drop (i+1)) (if (keepQ q).isNone = true then doneM (downQ q) x else x)) [])):=by
    intro q' hk;rw [rmT (by simp; omega),g7n,wS (show i≤100000000 by omega)];have:=ih (i+1) (acc++[q']) x (by omega) (by omega) hm hl (by omega) (by simp; omega);rw [List.append_assoc] at this;rw [List.filterMap_cons_some hk,hk];exact this
   by_cases h0:q.2.2.2.2.2.1 > 0
   ·
    rw [dt h0,g7k];by_cases h3:w.i64 (q.2.2.2.2.2.1 - 1) = 0
    ·
     rw [bt h3,g7k];have hkq:keepQ q = none:=by unfold keepQ; rw [if_pos h0,if_pos h3]
     rw [List.filterMap_cons_none hkq,hkq,if_pos (show (none:Option a0e).isNone = true from rfl)];obtain ⟨b1,b2,b3,b4⟩:=d8L (downQ q) x;have hh:=ih (i+1) acc (doneM (downQ q) x) (by omega) (by omega) (by simp only [len,b1] at hm ⊢; exact hm) (by omega) (by omega) (by omega);cases hst:q.1 with
     | true =>
      rw [g7k];have hlie:=hL q hq hst;have hs:=d6r (N:=N) (downQ q) x (by rw [hm]; exact hlie) (by omega) (by omega) (by omega);have e:({ x with Mem:=wrOf x.Mem (wrQ (downQ q)),Saq:=x.Saq.drop 1,Writes:=x.Writes++[wrQ (downQ q)] }:a0b) = doneM (downQ q) x:=by
       unfold doneM; rw [if_pos (show (downQ q).1 = true from hst)]
      have e2:(true,(q.2.1,(q.2.2.1,(q.2.2.2.1,(q.2.2.2.2.1,((w.i64 (q.2.2.2.2.2.1 - 1)),q.2.2.2.2.2.2)))))) = downQ q:=by unfold downQ; rw [hst]
      rw [e2,hs,e,g7j,g7m,g7l,wS (show i≤100000000 by omega)];exact hh
     | false =>
      have e2:(false,(q.2.1,(q.2.2.1,(q.2.2.2.1,(q.2.2.2.2.1,((w.i64 (q.2.2.2.2.2.1 - 1)),q.2.2.2.2.2.2)))))) = downQ q:=by unfold downQ; rw [hst]
      rw [g7i,e2,e5w (N:=N) (downQ q) x hst (by simp only [len] at hm; omega) hl hN,g7j,g7m,g7l,wS (show i≤100000000 by omega)];exact hh
    ·
     rw [bf h3,g7i];exact keep (downQ q) (by unfold keepQ; rw [if_pos h0,if_neg h3])
   ·
    rw [df h0,g7i];exact keep q (by unfold keepQ; rw [if_neg h0])
  ·
   have:i = T.length:=by omega
   subst this;rw [a1e (by omega),g7i,List.drop_length];simp [endsM]
end Go.Proofs.Zz

/- The requests that begin: the program's and the document's, alike; the memory's cycle. -/
set_option maxRecDepth 100000
namespace Go.Proofs.Zz
open Go
variable {N:Nat}
def nthM (l:List Int) (i m:Int):Int:=if l.length = 0∨i < 0∨m < 1 then 0 else Int.tmod (bitAnd .i64 (l.getD (Int.toNat (Int.tmod i (len l))) 0) 1073741823) m
theorem e8K (l:List Int) (i m:Int):b0h N l i m = some (0,gI.dv (nthM l i m) []):=by
 unfold b0h nthM;by_cases h0:l.length = 0
 · rw [len0,dt h0,g7k,if_pos (.inl h0)]
 rw [len0,df h0,g7i];by_cases h1:i < 0
 · rw [dt h1,g7k,if_pos (.inr (.inl h1))]
 rw [df h1,g7i];by_cases h2:m < 1
 · rw [dt h2,g7k,if_pos (.inr (.inr h2))]
 have hl:0 < len l:=by simp only [len]; omega
 have ht:Int.tmod i (len l) = i % len l:=c0B (by omega);have hr:=Int.emod_nonneg i (show len l≠0 by omega);have hr2:=Int.emod_lt_of_pos i hl;rw [df h2,g7i,df (show ¬ (len l = 0) by omega),g7w,a1l (by rw [ht]; exact hr) (by rw [ht]; simp only [len] at hr2 ⊢; omega),g7n,df (show ¬ (m = 0) by omega),g7w,if_neg (by omega)]
theorem d8o (l:List Int) (i:Int) {m:Int} (hm:1≤m):0≤nthM l i m∧nthM l i m < m:=by
 unfold nthM;split
 · omega
 ·
  have hb:=d0F (l.getD (Int.toNat (Int.tmod i (len l))) 0);generalize bitAnd .i64 (l.getD (Int.toNat (Int.tmod i (len l))) 0) 1073741823 = b at hb;rw [show Int.tmod b m = b % m from c0B hb.1];exact ⟨Int.emod_nonneg _ (by omega),Int.emod_lt_of_pos _ (by omega)⟩
/-! What waits at a bank -/
def waitsM (n b:Int):List a0e→Nat→List Int
 | [],_=>[]
 | q::r,i=>(if bankM q.2.2.1 n = b∧q.2.2.2.2.2.1 = 0 then [(i:Int)] else [])++waitsM n b r (i+1)
theorem d2M (n b:Int):∀ (l:List a0e) (i:Nat),(waitsM n b l i).length≤l.length∧∀ r∈waitsM n b l i,(i:Int)≤r∧r < i+l.length
 | [],i=>⟨by simp [waitsM],by simp [waitsM]⟩
 | q::l,i=>by
  obtain ⟨h1,h2⟩:=d2M n b l (i+1);rw [waitsM];constructor
  ·
   rw [List.length_append,List.length_cons];split <;> simp <;> omega
  ·
   intro r hr;rw [List.length_cons];rcases List.mem_append.1 hr with hr | hr
   ·
    split at hr
    · simp only [List.mem_singleton] at hr; omega
    · simp at hr
   ·
    have:=h2 r hr;omega
def leftQ (lt:Int) (q:a0e):a0e:=(q.1,(q.2.1,(q.2.2.1,(q.2.2.2.1,(q.2.2.2.2.1,(lt,q.2.2.2.2.2.2))))))
def putL (x:a0b) (r lt:Int):List a0e:=x.Table.set r.toNat (leftQ lt (x.Table.getD r.toNat a0e.z))
def beginM (c:a0f) (t:a0w) (b:Int) (x:a0b):a0b :=
 if x.Table.any (workQ c.Banks b) = true then x else
 let wt:=waitsM c.Banks b x.Table 0
 if wt.length = 0 then x else
 if 1 < wt.length then { x with Table:=putL x (wt.getD (nthM t.Picks x.Picks (len wt)).toNat 0) (w.i64 (1+nthM t.Lats x.Lats c.Lat)),Lats:=w.i64 (x.Lats+1),Picks:=w.i64 (x.Picks+1) } else
 { x with Table:=putL x (wt.getD 0 0) (w.i64 (1+nthM t.Lats x.Lats c.Lat)),Lats:=w.i64 (x.Lats+1) }
theorem d6L (x:a0b) (c:a0f) (t:a0w) (b:Int) (hT:x.Table.length≤1000) (hl:∀ q∈x.Table,LfOk q):∀ (n i:Nat) (wt:List Int),i≤x.Table.length→x.Table.length - i < n→wt.length≤i →
  a1q N n b wt (len x.Table) (i:Int) x c t = if (x.Table.drop i).any (workQ c.Banks b) = true then some (0,a0c.dv x []) else some (1,(gD (.sl tI)).dv (wt++waitsM c.Banks b (x.Table.drop i) i) (a0c.dv x (a0D.dv c (a1P.dv t [])))):=by
 intro n;induction n with
 | zero=>intro i wt h1 h2; omega
 | succ n ih =>
  intro i wt h1 h2 h3;show a2V N (a1q N n) b wt (len x.Table) (i:Int) x c t = _;unfold a2V;by_cases hi:i < x.Table.length
  ·
   have hq:=a1E a0e.z hi;have hdrop:x.Table.drop i = x.Table.getD i a0e.z::x.Table.drop (i+1):=by
    rw [List.drop_eq_getElem_cons hi,List.getD_eq_getElem?_getD,List.getElem?_eq_getElem hi]; rfl
   rw [a1f hi,g7k,a1Q hi,g7n,Int.toNat_natCast,hdrop,List.any_cons,waitsM];generalize x.Table.getD i a0e.z = q at *;have hlq:=(hl q hq).1;rw [d7S,g7j,g7m,g7l,wS (show i≤100000000 by omega)];by_cases hb:bankM q.2.2.1 c.Banks = b
   ·
    rw [show (bankM q.2.2.1 c.Banks != b) = false by simp [hb],g7i];by_cases hl:q.2.2.2.2.2.1 > 0
    · rw [dt hl,g7k,if_pos (by unfold workQ; rw [decide_eq_true hb,decide_eq_true hl]; rfl)]
    ·
     have hwq:workQ c.Banks b q = false:=by unfold workQ; rw [decide_eq_false hl,Bool.and_false]
     rw [df hl,g7i,bt (show q.2.2.2.2.2.1 = 0 by omega),g7k,rmT (by simp; omega),g7n,hwq,Bool.false_or,if_pos (show bankM q.2.2.1 c.Banks = b∧q.2.2.2.2.2.1 = 0 from ⟨hb,by omega⟩),← List.append_assoc];exact ih (i+1) _ (by omega) (by omega) (by simp; omega)
   ·
    have hwq:workQ c.Banks b q = false:=by unfold workQ; rw [decide_eq_false hb,Bool.false_and]
    rw [show (bankM q.2.2.1 c.Banks != b) = true by simp [hb],g7k,hwq,Bool.false_or,if_neg (show ¬ (bankM q.2.2.1 c.Banks = b∧q.2.2.2.2.2.1 = 0) from fun h=>hb h.1),List.nil_append];exact ih (i+1) wt (by omega) (by omega) (by omega)
  ·
   have:i = x.Table.length:=by omega
   subst this;rw [a1e (by omega),g7i,List.drop_length];simp [waitsM]
theorem e5Q (x:a0b) (c:a0f) (t:a0w) (b:Int) (hT:x.Table.length≤1000) (hl:∀ q∈x.Table,LfOk q) (hN:1001 < N):a7K N c t b x = some (0,a0c.dv (beginM c t b x) []):=by
 unfold a7K beginM;have h:=d6L (N:=N) x c t b hT hl N 0 [] (by omega) (by omega) (by simp);rw [List.drop_zero,List.nil_append] at h;rw [show a1q N N b ([]:List Int) (len x.Table) 0 x c t = _ from h];by_cases hw:x.Table.any (workQ c.Banks b) = true
 · rw [if_pos hw,if_pos hw,g7v,g7m,g7l]
 rw [if_neg hw,if_neg hw,g7t _ _ (by decide)];simp only [g7m,g7l];obtain ⟨w1,w2⟩:=d2M c.Banks b x.Table 0;generalize waitsM c.Banks b x.Table 0 = wt at *;by_cases h0:wt.length = 0
 · rw [len0,dt h0,g7k,if_pos h0]
 rw [len0,df h0,g7i,if_neg h0];unfold b7n b8G;have hidx:∀ i:Nat,i < wt.length→_:=fun i hi=>w2 _ (a1E 0 hi)
 simp only [e8K,g7j,g7m,g7l];by_cases h1:1 < wt.length
 ·
  obtain ⟨r0,r1⟩:=d8o t.Picks x.Picks (m:=len wt) (by simp only [len]; omega);have hb:=hidx (nthM t.Picks x.Picks (len wt)).toNat (by simp only [len] at r1 ⊢; omega);rw [dt (show len wt > 1 by simp only [len]; omega),g7k,if_pos h1,a1l r0 (by simp only [len] at r1 ⊢; omega),g7n,a1l (by omega) (by omega),g7n];rfl
 ·
  have hb:=hidx 0 (by omega);rw [df (show ¬ len wt > 1 by simp only [len]; omega),g7i,if_neg h1,a1l (by omega) (by omega),g7n,a1l (by omega) (by omega),g7n];rfl
end Go.Proofs.Zz

/- The memory's cycle: the program's and the document's, alike. -/
set_option maxRecDepth 100000
namespace Go.Proofs.Zz
open Go
variable {N:Nat}
theorem d5h {c:a0f} {t:a0w} {b:Int} {x:a0b} (hc:1≤c.Lat∧c.Lat≤1000) (hl:∀ q∈x.Table,LfOk q):(∀ q∈(beginM c t b x).Table,LfOk q)∧(beginM c t b x).Table.length = x.Table.length:=by
 have hr:0≤w.i64 (1+nthM t.Lats x.Lats c.Lat)∧w.i64 (1+nthM t.Lats x.Lats c.Lat)≤1000:=by
  have:=d8o t.Lats x.Lats hc.1;rw [show w.i64 (1+nthM t.Lats x.Lats c.Lat) = 1+nthM t.Lats x.Lats c.Lat from wI (by omega) (by omega)];omega
 have key:∀ r:Int,∀ q∈putL x r (w.i64 (1+nthM t.Lats x.Lats c.Lat)),LfOk q:=by
  intro r q hq;unfold putL at hq;rcases List.mem_or_eq_of_mem_set hq with h1 | h1
  · exact hl q h1
  · rw [h1]; exact hr
 unfold beginM;simp only []
 repeat' split
 · exact ⟨hl,rfl⟩
 · exact ⟨hl,rfl⟩
 · exact ⟨key _,List.length_set⟩
 · exact ⟨key _,List.length_set⟩
def beginsM (c:a0f) (t:a0w):Nat→Nat→a0b→a0b
 | 0,_,x=>x
 | n+1,i,x=>beginsM c t n (i+1) (beginM c t (i:Int) x)
theorem e0T (c:a0f) (t:a0w) (m:Nat) (hc:1≤c.Lat∧c.Lat≤1000) (hN:1001 < N) (hm:m≤16):∀ (n i:Nat) (x:a0b),i≤m→m - i < n→x.Table.length≤1000→(∀ q∈x.Table,LfOk q) →
  a2N N n (m:Int) (i:Int) x c t = some (1,a0c.dv (beginsM c t (m - i) i x) []):=by
 intro n;induction n with
 | zero=>intro i x h1 h2; omega
 | succ n ih =>
  intro i x h1 h2 hT hl;show a5a N (a2N N n) (m:Int) (i:Int) x c t = _;unfold a5a;by_cases hi:i < m
  ·
   obtain ⟨g1,g2⟩:=d5h (t:=t) (b:=(i:Int)) hc hl;rw [dt (show (i:Int) < (m:Int) by omega),g7k,e5Q (N:=N) x c t (i:Int) hT hl hN,g7j,g7m,g7l,wS (show i≤100000000 by omega),show m - i = (m - (i+1))+1 by omega,beginsM];exact ih (i+1) _ (by omega) (by omega) (by omega) g1
  ·
   have:i = m:=by omega
   subst this;rw [df (by omega),g7i,Nat.sub_self];rfl
def moveM (c:a0f) (t:a0w) (x:a0b):a0b:=beginsM c t c.Banks.toNat 0 { endsM x.Table x with Table:=x.Table.filterMap keepQ }
theorem d9C {l:List a0e} (h:∀ q∈l,LfOk q):∀ q∈l.filterMap keepQ,LfOk q:=by
 intro q hq;obtain ⟨a,ha,hk⟩:=List.mem_filterMap.1 hq;exact d4x hk (h a ha)
theorem e3w (c:a0f) (t:a0w) (x:a0b) (hc:1≤c.Banks∧c.Banks≤16) (hla:1≤c.Lat∧c.Lat≤1000) (hT:x.Table.length≤1000) (hL:Lefts x.Table (len x.Mem)) (hf:∀ q∈x.Table,LfOk q) (hm:len x.Mem≤65536) (hl:x.Ldq.length≤1000) (hw:x.Writes.length≤200000) (hN:1001 < N) :
  a9Y N c t x = some (0,a0c.dv (moveM c t x) []):=by
 unfold a9Y b7x moveM;obtain ⟨m,hcm⟩:∃ m:Nat,c.Banks = (m:Int):=⟨c.Banks.toNat,by omega⟩
 have h1:=e3q (N:=N) x.Table hT (len x.Mem) hL hm hN N 0 [] x (by omega) (by omega) rfl hl (by omega) (by simp);rw [List.drop_zero,List.nil_append] at h1;rw [df (show ¬ (c.Banks < 1) by omega),g7i,df (show ¬ (c.Banks > 16) by omega),g7i,df (show ¬ (c.Lat < 1) by omega),g7i,df (show ¬ (c.Lat > 1000) by omega),g7i,show a2j N N ([]:List a0e) x.Table (len x.Table) 0 x = _ from h1,g7u,g7m,g7m,g7l,g7j,g7m,g7l];have h2:=e0T (N:=N) c t m hla hN (by omega) N 0 { endsM x.Table x with Table:=x.Table.filterMap keepQ } (by omega) (by omega) (Nat.le_trans (List.length_filterMap_le _ _) hT) (d9C hf);rw [hcm,show a2N N N (m:Int) 0 { endsM x.Table x with Table:=x.Table.filterMap keepQ } c t = _ from h2,g7u,g7m,g7l,Int.toNat_natCast,Nat.sub_zero]
end Go.Proofs.Zz
