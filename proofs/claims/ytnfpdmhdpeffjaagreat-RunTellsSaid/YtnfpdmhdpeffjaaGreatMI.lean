import Derived.Test.YtnfpdmhdpeffjaaGreatMG
import Derived.Test.YtnfpdmhdpeffjaaGreatMH
import Derived.Test.YtnfpdmhdpeffjaaGreatK9
set_option linter.unusedSimpArgs false
set_option linter.unusedVariables false
/- Loads and stores that end, word for word: the program's and the document's. -/
set_option maxRecDepth 100000
namespace Go.Proofs.Zz
open Go
variable {N:Nat}
/-! Words read -/
def rdB (a:Int) (m:List Int):Nat→Int
 | 0=>0
 | n+1=>bitOr .u32 (rdB a m n) (shl .u32 (w.u32 (m.getD (a+(n:Int)).toNat 0)) (8*(n:Int)))
def loadV (m:List Int) (op a:Int):Int:=if 26≤op∧op≤30 then (if checkM (sizeM op) a (len m) = 0 then signM op (rdB a m (sizeM op).toNat) else 0) else 0
theorem e0S (m:List Int) (op a:Int) (sz:Nat) (hs:sz≤4) (ha:U32 a) (hn:a+sz≤m.length) (hm:m.length≤100000):∀ (n j:Nat),j≤sz→sz - j < n →
  a2H N n m op a (rdB a m j) (sz:Int) (j:Int) = some (1,gI.dv op (gW.dv (rdB a m sz) [])):=by
 intro n;induction n with
 | zero=>intro j h1 h2; omega
 | succ n ih =>
  intro j h1 h2;show a4V N (a2H N n) m op a (rdB a m j) (sz:Int) (j:Int) = _;unfold a4V;simp only [U32] at ha;by_cases hj:j < sz
  ·
   have e0:w.i64 a = a:=wI (by omega) (by omega);have e1:w.i64 (8*(j:Int)) = 8*(j:Int):=wI (by omega) (by omega);have e2:w.i64 (a+(j:Int)) = a+(j:Int):=wI (by omega) (by omega);rw [dt (show (j:Int) < (sz:Int) by omega),g7k,e0,e2,a1l (by omega) (by omega),g7n,e1,df (show ¬ (8*(j:Int) < 0) by omega),g7w,wS (show j≤100000000 by omega)];exact ih (j+1) (by omega) (by omega)
  ·
   have:j = sz:=by omega
   subst this;rw [df (by omega),g7i]
theorem e0o (m:List Int) (op a:Int) (sz:Nat) (hs:sz≤4) (ha:U32 a) (hn:a+sz≤m.length) (hm:m.length≤100000):∀ (n j:Nat),j≤sz→sz - j < n →
  b2C N n m op a (sz:Int) (rdB a m j) (j:Int) = some (1,gI.dv op (gW.dv (rdB a m sz) [])):=by
 intro n;induction n with
 | zero=>intro j h1 h2; omega
 | succ n ih =>
  intro j h1 h2;show b8C N (b2C N n) m op a (sz:Int) (rdB a m j) (j:Int) = _;unfold b8C;simp only [U32] at ha;by_cases hj:j < sz
  ·
   have e0:w.i64 a = a:=wI (by omega) (by omega);have e1:w.i64 (8*(j:Int)) = 8*(j:Int):=wI (by omega) (by omega);have e2:w.i64 (a+(j:Int)) = a+(j:Int):=wI (by omega) (by omega);have e3:w.u64 (8*(j:Int)) = 8*(j:Int):=by simp only [w.u64,IntKind.wrap_u64]; omega
   rw [dt (show (j:Int) < (sz:Int) by omega),g7k,e0,e2,a1l (by omega) (by omega),g7n,e1,e3,df (show ¬ (8*(j:Int) < 0) by omega),g7w,wS (show j≤100000000 by omega)];exact ih (j+1) (by omega) (by omega)
  ·
   have:j = sz:=by omega
   subst this;rw [df (by omega),g7i]
theorem d8t {op:Int} (h:26≤op∧op≤30):sizeM op = 1∨sizeM op = 2∨sizeM op = 4:=by
 have:op = 26∨op = 27∨op = 28∨op = 29∨op = 30:=by omega
 rcases this with rfl | rfl | rfl | rfl | rfl <;> decide
theorem d2q {size a n:Int} (hc:checkM size a n = 0):a+size≤n:=by
 unfold checkM at hc;split at hc
 · omega
 ·
  split at hc
  · omega
  · rename_i h; omega
theorem e7H (m:List Int) (op:Int) {a:Int} (ha:U32 a) (hm:m.length≤100000) (hN:10 < N):a9Z N m op a = some (0,gW.dv (loadV m op a) []):=by
 unfold a9Z b4O loadV;rw [b5j,g7j,g7m,g7l];by_cases h1:op≥26
 ·
  rw [dt h1,g7k,g7j,g7m,g7l];by_cases h2:op≤30
  ·
   rw [dt h2,Bool.not_true,g7i,if_pos ⟨h1,h2⟩];have hs:=d8t ⟨h1,h2⟩;rw [a9V hs ha (by simp only [len]; omega),g7j,g7m,g7l];by_cases hc:checkM (sizeM op) a (len m) = 0
   ·
    rw [if_pos hc,hc,show ((0:Int) != 0) = false from rfl,g7i];have hle:=d2q hc;have e:sizeM op = (((sizeM op).toNat:Nat):Int):=by omega
    have hv:=e0S (N:=N) m op a (sizeM op).toNat (by omega) ha (by simp only [len] at hle; omega) hm N 0 (by omega) (by omega);rw [← e] at hv;rw [show a2H N N m op a 0 (sizeM op) 0 = _ from hv,g7u,g7m,g7m,g7l,d8a,g7j,g7m,g7l]
   · rw [if_neg hc,show (checkM (sizeM op) a (len m) != 0) = true by simp [hc],g7k]
  · rw [df h2,Bool.not_false,g7k,if_neg (by omega)]
 · rw [df h1,g7i,g7j,g7m,g7l,Bool.not_false,g7k,if_neg (by omega)]
theorem form4 (op:Int):formM op = 4↔26≤op∧op≤30:=by
 unfold formM; repeat' split
 all_goals omega
theorem e4G (m:List Int) (op:Int) {a:Int} (ha:U32 a) (hm:m.length≤100000) (hN:10 < N):d3q N m op a = some (0,gW.dv (loadV m op a) []):=by
 unfold d3q loadV;rw [b3L,g7j,g7m,g7l,a1T,g7j,g7m,g7l];by_cases h1:26≤op∧op≤30
 ·
  rw [if_pos h1,(form4 op).2 h1,show ((4:Int) != 4) = false from rfl,g7i];have hs:=d8t h1;rw [show a5K N (sizeM op) a (len m) = _ from a9V (N:=N) hs ha (by simp only [len]; omega),g7j,g7m,g7l];by_cases hc:checkM (sizeM op) a (len m) = 0
  ·
   rw [if_pos hc,hc,show ((0:Int) != 0) = false from rfl,g7i];have hle:=d2q hc;have e:sizeM op = (((sizeM op).toNat:Nat):Int):=by omega
   have hv:=e0o (N:=N) m op a (sizeM op).toNat (by omega) ha (by simp only [len] at hle; omega) hm N 0 (by omega) (by omega);rw [← e] at hv;rw [show b2C N N m op a (sizeM op) 0 0 = _ from hv,g7u,g7m,g7m,g7l,d0G,g7j,g7m,g7l]
  · rw [if_neg hc,show (checkM (sizeM op) a (len m) != 0) = true by simp [hc],g7k]
 · rw [if_neg h1,show (formM op != 4) = true by simp [form4]; omega,g7k]
/-! Words written -/
theorem d7k (q:a0K) (m:List Int) (sz:Nat) (hq:q.2.1 = (sz:Int)) (hs:sz≤4) (ha:0≤q.1) (hn:q.1+sz≤len m) (hm:len m≤65536):∀ n j:Nat,j≤sz→sz - j < n →
  a6a N n (wrB q.1 q.2.2.1 m j) (j:Int) q = some (1,(gD (.sl tU)).dv (wrB q.1 q.2.2.1 m sz) []):=by
 intro n;induction n with
 | zero=>intro j h1 h2; omega
 | succ n ih =>
  intro j h1 h2;show b4L N (a6a N n) (wrB q.1 q.2.2.1 m j) (j:Int) q = _;unfold b4L;simp only [len] at hn hm;by_cases hj:j < sz
  ·
   have e1:w.i64 (8*(j:Int)) = 8*(j:Int):=wI (by omega) (by omega);have e3:w.u64 (8*(j:Int)) = 8*(j:Int):=by simp only [w.u64,IntKind.wrap_u64]; omega
   have e2:w.i64 (q.1+(j:Int)) = q.1+(j:Int):=wI (by omega) (by omega);rw [dt (show (j:Int) < q.2.1 by omega),g7k,e1,e3,df (show ¬ (8*(j:Int) < 0) by omega),g7w,e2,a1l (by omega) (by rw [c3A]; omega),g7n,wS (show j≤100000000 by omega)];exact ih (j+1) (by omega) (by omega)
  ·
   have:j = sz:=by omega
   subst this;rw [df (by omega),g7i]
theorem e3G (q:a0K) (m:List Int) (h:LieW q (len m)) (hm:len m≤65536) (hN:10 < N):c1p N m q = some (0,(gD (.sl tU)).dv (wrOf m q) []):=by
 obtain ⟨h1,h2,h3,h4⟩:=h;have hu:w.u32 q.1 = q.1:=by simp only [w.u32,IntKind.wrap_u32]; omega
 have hc:a5K N q.2.1 (w.u32 q.1) (len m) = some (0,gI.dv 0 []):=by
  rw [hu,show a5K N q.2.1 q.1 (len m) = _ from a9V (N:=N) h1 (by unfold U32; omega) (by simp only [len] at hm ⊢; omega)];unfold checkM;rw [if_neg (by omega),if_neg (by omega)]
 have hl:a6a N N m 0 q = some (1,(gD (.sl tU)).dv (wrOf m q) []):=d7k (N:=N) q m q.2.1.toNat (by omega) (by omega) h2 (by omega) hm N 0 (by omega) (by omega);unfold c1p;simp only [List.nil_append,hc,hl,g7j,g7m,g7l,g7u];rw [df (show ¬ (q.1 < 0) by omega),df (show ¬ (q.1 > 4294967295) by omega),rmT (by simp only [len] at hm; simp; omega)];rcases h1 with h | h | h <;> rw [h] <;> rfl
/-! A request that ends -/
def ldS (q:a0e) (x:a0b) (v:Int):a0b :=
 if q.2.2.2.2.2.2.1 < 0 then { x with Ldq:=fillM x.Ldq q.2.2.2.2.2.2.2.1 v } else
 if q.2.2.2.2.2.2.1≤15∧1≤q.2.2.2.2.2.2.1 then { x with A:={ x.A with Regs:=(List.set x.A.Regs q.2.2.2.2.2.2.1.toNat v),Ready:=(List.set x.A.Ready q.2.2.2.2.2.2.1.toNat (w.i64 (x.Cycle+1))) } } else x
def doneM (q:a0e) (x:a0b):a0b :=
 if q.1 = true then { x with Mem:=wrOf x.Mem (wrQ q),Saq:=x.Saq.drop 1,Writes:=x.Writes++[wrQ q] } else
 ldS q x (if 0≤q.2.2.1∧q.2.2.1≤4294967295 then loadV x.Mem q.2.1 (w.u32 q.2.2.1) else 0)
theorem e5w (q:a0e) (x:a0b) (hq:q.1 = false) (hm:x.Mem.length≤100000) (hl:x.Ldq.length≤1000) (hN:1001 < N):b0b N q x = some (0,a0c.dv (doneM q x) []):=by
  have key:∀ v:Int,
      (bi (decide (q.2.2.2.2.2.2.1 < 0)) (
        on1 (a4T N x.Ldq q.2.2.2.2.2.2.2.1 v)<|gg [pD (.sl a0k),pB]<|fun (x3:List a0q) (x4:Bool) =>
        some (0,a0c.dv ({ x with Ldq:=x3 }:a0b) [])) <|
       bi (decide (q.2.2.2.2.2.2.1≥1)) (
        bi (decide (q.2.2.2.2.2.2.1≤15)) (
         gd (idx q.2.2.2.2.2.2.1 16) <|
         gd (idx q.2.2.2.2.2.2.1 16) <|
         some (0,a0c.dv ({ x with A:={ x.A with Regs:=(List.set x.A.Regs q.2.2.2.2.2.2.1.toNat v),Ready:=(List.set x.A.Ready q.2.2.2.2.2.2.1.toNat (w.i64 (x.Cycle+1))) } }:a0b) [])) <|
        some (0,a0c.dv x [])) <|
       some (0,a0c.dv x [])) = some (0,a0c.dv (ldS q x v) []):=by
    intro v;unfold ldS;by_cases h1:q.2.2.2.2.2.2.1 < 0
    · rw [dt h1,g7k,d7f _ _ _ hl hN,g7j,g7m,g7m,g7l,if_pos h1]
    · rw [df h1,g7i,if_neg h1]
      by_cases h2:q.2.2.2.2.2.2.1≥1
      · rw [dt h2,g7k]
        by_cases h3:q.2.2.2.2.2.2.1≤15
        · rw [dt h3,g7k,a1l (by omega) (by omega),g7n,g7n,if_pos ⟨h3,h2⟩]
        · rw [df h3,g7i,if_neg (by omega)]
      · rw [df h2,g7i,if_neg (by omega)]
  unfold b0b doneM;rw [if_neg (by simp [hq])];by_cases h1:q.2.2.1≥0
  · rw [dt h1,g7k]
    by_cases h2:q.2.2.1≤4294967295
    · rw [dt h2,g7k,e7H (N:=N) x.Mem q.2.1 (a5x q.2.2.1) hm (by omega),g7j,g7m,g7l,if_pos ⟨h1,h2⟩]
      exact key _
    · rw [df h2,g7i,if_neg (by omega)]
      exact key 0
  · rw [df h1,g7i,if_neg (by omega)]
    exact key 0
end Go.Proofs.Zz

/- The requests that end: the program's and the document's, alike. -/
set_option maxRecDepth 100000
namespace Go.Proofs.Zz
open Go
variable {N:Nat}
def fillK (l:List a0q) (v r:Int):List a0q:=if r < 0 then l else l.set r.toNat ((l.getD r.toNat a0q.z).1,(true,(v,())))
theorem e1z (l:List a0q) (hl:l.length≤1000) (t v:Int):∀ (n i:Nat),i≤l.length→l.length - i < n →
  onB 0 1 (b4V N n l t v (i:Int)) (gg [pD (.sl a0k),pB] fun (x4:List a0q) (x5:Bool)=>some (0,(gD (.sl a0k)).dv x4 (gB.dv x5 []))) (gg [pD (.sl a0k)] fun (x6:List a0q)=>some (0,(gD (.sl a0k)).dv x6 (gB.dv false [])))
   = some (0,(gD (.sl a0k)).dv (fillK l v (findM l t (l.length - i) i)) (gB.dv (decide (0≤findM l t (l.length - i) i)) [])):=by
 intro n;induction n with
 | zero=>intro i h0 h1; omega
 | succ n ih =>
  intro i h0 h1;show onB 0 1 (b3X N (b4V N n) l t v (i:Int)) _ _ = _;unfold b3X;by_cases hi:i < l.length
  ·
   have next:=ih (i+1) (by omega) (by omega)
   rw [a1f hi,show l.length - i = (l.length - (i+1))+1 by omega,findM];simp only [g7k,a1Q hi,g7n,Int.toNat_natCast,wS (show i≤100000000 by omega)];cases h1:((l.getD i a0q.z).1 == t) with
   | true =>
    rw [g7k];cases h2:(l.getD i a0q.z).2.1 with
    | false =>
     simp only [Bool.not_false,g7k,Bool.and_self,if_true];simp only [List.length_set,a1Q hi,g7n,List.set_set,List.getD_eq_getElem?_getD,List.getElem?_set_self hi,Option.getD_some];rw [g7v,g7m,g7m,g7l,dt (show (0:Int)≤i by omega)];unfold fillK;rw [if_neg (by omega),Int.toNat_natCast,List.getD_eq_getElem?_getD]
    | true =>
     simp only [Bool.not_true,g7i,Bool.and_false,Bool.false_eq_true,if_false];exact next
   | false =>
    simp only [Bool.false_and,g7i,Bool.false_eq_true,if_false];exact next
  ·
   rw [a1e (by omega),show l.length - i = 0 by omega];rfl
theorem d8X (l:List a0q) (t v:Int) (hl:l.length≤1000) (hN:1001 < N):a7r N l t v = some (0,(gD (.sl a0k)).dv (fillM l t v) (gB.dv (decide (0≤findM l t l.length 0)) [])):=by
 unfold a7r;rw [c1D _ hl,g7j,g7m,g7l];exact e1z (N:=N) l hl t v N 0 (by omega) (by omega)
theorem e6M (q:a0e) (x:a0b) (h:q.1 = true→LieW (wrQ q) (len x.Mem)) (hm:len x.Mem≤65536) (hw:x.Writes.length≤500000) (hs:x.Saq.length≤1000) (hl:x.Ldq.length≤1000) (hN:1001 < N) :
    c1u N x q = some (0,a0c.dv (doneM q x) []):=by
  have key:∀ v:Int,
      (bi (decide (q.2.2.2.2.2.2.1 < 0)) (
        on1 (a7r N x.Ldq q.2.2.2.2.2.2.2.1 v)<|gg [pD (.sl a0k),pB]<|fun (x3:List a0q) (x4:Bool) =>
        some (0,a0c.dv ({ x with Ldq:=x3 }:a0b) [])) <|
       bi (decide (q.2.2.2.2.2.2.1≥1)) (
        bi (decide (q.2.2.2.2.2.2.1≤15)) (
         gd (idx q.2.2.2.2.2.2.1 16) <|
         gd (idx q.2.2.2.2.2.2.1 16) <|
         some (0,a0c.dv ({ x with A:={ x.A with Regs:=(List.set x.A.Regs q.2.2.2.2.2.2.1.toNat v),Ready:=(List.set x.A.Ready q.2.2.2.2.2.2.1.toNat (w.i64 (x.Cycle+1))) } }:a0b) [])) <|
        some (0,a0c.dv x [])) <|
       some (0,a0c.dv x [])) = some (0,a0c.dv (ldS q x v) []):=by
    intro v;unfold ldS;by_cases h1:q.2.2.2.2.2.2.1 < 0
    · rw [dt h1,g7k,d8X _ _ _ hl hN,g7j,g7m,g7m,g7l,if_pos h1]
    · rw [df h1,g7i,if_neg h1]
      by_cases h2:q.2.2.2.2.2.2.1≥1
      · rw [dt h2,g7k]
        by_cases h3:q.2.2.2.2.2.2.1≤15
        · rw [dt h3,g7k,a1l (by omega) (by omega),g7n,g7n,if_pos ⟨h3,h2⟩]
        · rw [df h3,g7i,if_neg (by omega)]
      · rw [df h2,g7i,if_neg (by omega)]
  unfold c1u doneM;cases hq:q.1 with
  | true =>
    rw [g7k,if_pos rfl];rw [show c1p N x.Mem (q.2.2.1,(q.2.2.2.1,(q.2.2.2.2.1,()))) = _ from e3G (wrQ q) x.Mem (h hq) hm (by omega),g7j,g7m,g7l,rmT (by simp; omega),g7n];by_cases h0:x.Saq.length = 0
    · have:x.Saq = []:=List.length_eq_zero_iff.1 h0
      rw [df (show ¬ (len x.Saq > 0) by simp only [len]; omega),g7i,this];cases x;simp only at this;subst this;rfl
    · rw [dt (show len x.Saq > 0 by simp only [len]; omega),g7k,sb_1 h0,g7n,rmT (by simp; omega),g7n,List.nil_append]
      rfl
  | false =>
    rw [g7i,if_neg (by simp)];by_cases h1:q.2.2.1≥0
    · rw [dt h1,g7k]
      by_cases h2:q.2.2.1≤4294967295
      · rw [dt (show q.2.2.1 < 4294967296 by omega),g7k,e4G (N:=N) x.Mem q.2.1 (a5x q.2.2.1) (by simp only [len] at hm; omega) (by omega),g7j,g7m,g7l,if_pos ⟨h1,h2⟩]
        exact key _
      · rw [df (show ¬ q.2.2.1 < 4294967296 by omega),g7i,if_neg (by omega)]
        exact key 0
    · rw [df h1,g7i,if_neg (by omega)]
      exact key 0
/-! All requests -/
def endsM:List a0e→a0b→a0b
 | [],x=>x
 | q::r,x=>endsM r (if (keepQ q).isNone = true then doneM (downQ q) x else x)
theorem e4b (q:a0e) (x:a0b) (v:Int):ldS q x v = { x with A:=(ldS q x v).A,Ldq:=(ldS q x v).Ldq }:=by
 unfold ldS; repeat' split
 all_goals rfl
theorem e7f (q:a0e) (x:a0b) (v:Int):(ldS q x v).Ldq.length = x.Ldq.length:=by
 unfold ldS;split
 · exact c2A _ _ _
 · split <;> rfl
theorem d8L (q:a0e) (x:a0b):(doneM q x).Mem.length = x.Mem.length∧(doneM q x).Ldq.length = x.Ldq.length∧(doneM q x).Writes.length≤x.Writes.length+1∧(doneM q x).Saq.length≤x.Saq.length:=by
 unfold doneM;split
 · exact ⟨c3A _ _ _ _,rfl,by simp,by simp⟩
 ·
  refine ⟨?_,e7f _ _ _,?_,?_⟩
  · rw [e4b]
  · rw [e4b]; simp
  · rw [e4b]; simp
theorem e3q (T:List a0e) (hT:T.length≤1000) (n0:Int) (hL:Lefts T n0) (hn0:n0≤65536) (hN:1001 < N):∀ (n i:Nat) (acc:List a0e) (x:a0b),i≤T.length→T.length - i < n→len x.Mem = n0→x.Ldq.length≤1000→x.Writes.length+(T.length - i)≤500000→acc.length≤i →
  a2j N n acc T (len T) (i:Int) x = some (1,(gD (.sl a0j)).dv (acc++(T.drop i).filterMap keepQ) (a0c.dv (endsM (T.drop i) x) [])):=by
 intro n;induction n with
 | zero=>intro i acc x h1 h2; omega
 | succ n ih =>
  intro i acc x h1 h2 hm hl hw ha;show a6p N (a2j N n) acc T (len T) (i:Int) x = _;unfold a6p;by_cases hi:i < T.length
  ·
   have hq:=a1E a0e.z hi;have hdrop:T.drop i = T.getD i a0e.z::T.drop (i+1):=by
    rw [List.drop_eq_getElem_cons hi,List.getD_eq_getElem?_getD,List.getElem?_eq_getElem hi]; rfl
   rw [a1f hi,g7k,a1Q hi,g7n,Int.toNat_natCast,hdrop];generalize T.getD i a0e.z = q at *;rw [endsM];have keep:∀ q':a0e,keepQ q = some q'→(gd (rm acc [q'] 64)<|a2j N n (acc++[q']) T (len T) (w.i64 ((i:Int)+1)) x) = some (1,(gD (.sl a0j)).dv (acc++(q::T.drop (i+1)).filterMap keepQ) (a0c.dv (endsM (T.drop (i+1)) (if (keepQ q).isNone = true then doneM (downQ q) x else x)) [])):=by
    intro q' hk;rw [rmT (by simp; omega),g7n,wS (show i≤100000000 by omega)];have:=ih (i+1) (acc++[q']) x (by omega) (by omega) hm hl (by omega) (by simp; omega);rw [List.append_assoc] at this;rw [List.filterMap_cons_some hk,hk];exact this
   by_cases h0:q.2.2.2.2.2.1 > 0
   ·
    rw [dt h0,g7k];by_cases h3:w.i64 (q.2.2.2.2.2.1 - 1) = 0
    ·
     rw [bt h3,g7k];have hkq:keepQ q = none:=by unfold keepQ; rw [if_pos h0,if_pos h3]
     rw [List.filterMap_cons_none hkq,hkq,if_pos (show (none:Option a0e).isNone = true from rfl)];obtain ⟨b1,b2,b3,b4⟩:=d8L (downQ q) x;have hh:=ih (i+1) acc (doneM (downQ q) x) (by omega) (by omega) (by simp only [len,b1] at hm ⊢; exact hm) (by omega) (by omega) (by omega);cases hst:q.1 with
     | true =>
      rw [g7k];have hlie:=hL q hq hst;have hs:=d6r (N:=N) (downQ q) x (by rw [hm]; exact hlie) (by omega) (by omega) (by omega);have e:({ x with Mem:=wrOf x.Mem (wrQ (downQ q)),Saq:=x.Saq.drop 1,Writes:=x.Writes++[wrQ (downQ q)] }:a0b) = doneM (downQ q) x:=by
       unfold doneM; rw [if_pos (show (downQ q).1 = true from hst)]
      have e2:(true,(q.2.1,(q.2.2.1,(q.2.2.2.1,(q.2.2.2.2.1,((w.i64 (q.2.2.2.2.2.1 - 1)),q.2.2.2.2.2.2)))))) = downQ q:=by unfold downQ; rw [hst]
      rw [e2,hs,e,g7j,g7m,g7l,wS (show i≤100000000 by omega)];exact hh
     | false =>
      have e2:(false,(q.2.1,(q.2.2.1,(q.2.2.2.1,(q.2.2.2.2.1,((w.i64 (q.2.2.2.2.2.1 - 1)),q.2.2.2.2.2.2)))))) = downQ q:=by unfold downQ; rw [hst]
      rw [g7i,e2,e5w (N:=N) (downQ q) x hst (by simp only [len] at hm; omega) hl hN,g7j,g7m,g7l,wS (show i≤100000000 by omega)];exact hh
    ·
     rw [bf h3,g7i];exact keep (downQ q) (by unfold keepQ; rw [if_pos h0,if_neg h3])
   ·
    rw [df h0,g7i];exact keep q (by unfold keepQ; rw [if_neg h0])
  ·
   have:i = T.length:=by omega
   subst this;rw [a1e (by omega),g7i,List.drop_length];simp [endsM]
theorem e2S (T:List a0e) (c:a0f) (t:a0w) (z:a0b) (hT:T.length≤1000) (n0:Int) (hL:Lefts T n0) (hn0:n0≤65536) (hN:1001 < N):∀ (n i:Nat) (acc:List a0e) (x:a0b),i≤T.length→T.length - i < n→len x.Mem = n0→x.Ldq.length≤1000→x.Saq.length≤1000→x.Writes.length+(T.length - i)≤500000→acc.length≤i →
  a3Y N n acc T (i:Int) c t x z = some (1,(gD (.sl a0j)).dv (acc++(T.drop i).filterMap keepQ) (a0D.dv c (a1P.dv t (a0c.dv (endsM (T.drop i) x) (a0c.dv z []))))):=by
 intro n;induction n with
 | zero=>intro i acc x h1 h2; omega
 | succ n ih =>
  intro i acc x h1 h2 hm hl hsa hw ha;show a8j N (a3Y N n) acc T (i:Int) c t x z = _;unfold a8j;by_cases hi:i < T.length
  ·
   have hq:=a1E a0e.z hi;have hdrop:T.drop i = T.getD i a0e.z::T.drop (i+1):=by
    rw [List.drop_eq_getElem_cons hi,List.getD_eq_getElem?_getD,List.getElem?_eq_getElem hi]; rfl
   rw [a1f hi,g7k,a1Q hi,g7n,Int.toNat_natCast,hdrop];generalize T.getD i a0e.z = q at *;rw [endsM];have keep:∀ q':a0e,keepQ q = some q'→(gd (rm acc [q'] 64)<|a3Y N n (acc++[q']) T (w.i64 ((i:Int)+1)) c t x z) = some (1,(gD (.sl a0j)).dv (acc++(q::T.drop (i+1)).filterMap keepQ) (a0D.dv c (a1P.dv t (a0c.dv (endsM (T.drop (i+1)) (if (keepQ q).isNone = true then doneM (downQ q) x else x)) (a0c.dv z []))))):=by
    intro q' hk;rw [rmT (by simp; omega),g7n,wS (show i≤100000000 by omega)];have:=ih (i+1) (acc++[q']) x (by omega) (by omega) hm hl hsa (by omega) (by simp; omega);rw [List.append_assoc] at this;rw [List.filterMap_cons_some hk,hk];exact this
   by_cases h0:q.2.2.2.2.2.1 > 0
   ·
    rw [dt h0,g7k];by_cases h3:w.i64 (q.2.2.2.2.2.1 - 1) = 0
    ·
     rw [bt h3,g7k];have hkq:keepQ q = none:=by unfold keepQ; rw [if_pos h0,if_pos h3]
     rw [List.filterMap_cons_none hkq,hkq,if_pos (show (none:Option a0e).isNone = true from rfl)];obtain ⟨b1,b2,b3,b4⟩:=d8L (downQ q) x;have hh:=ih (i+1) acc (doneM (downQ q) x) (by omega) (by omega) (by simp only [len,b1] at hm ⊢; exact hm) (by omega) (by omega) (by omega) (by omega);have hd:=e6M (N:=N) (downQ q) x (fun hst=>by rw [hm]; exact hL q hq hst) (by omega) (by omega) hsa hl hN;rw [show c1u N x (q.1,(q.2.1,(q.2.2.1,(q.2.2.2.1,(q.2.2.2.2.1,((w.i64 (q.2.2.2.2.2.1 - 1)),q.2.2.2.2.2.2)))))) = _ from hd,g7j,g7m,g7l,wS (show i≤100000000 by omega)];exact hh
    ·
     rw [bf h3,g7i];exact keep (downQ q) (by unfold keepQ; rw [if_pos h0,if_neg h3])
   ·
    rw [df h0,g7i];exact keep q (by unfold keepQ; rw [if_neg h0])
  ·
   have:i = T.length:=by omega
   subst this;rw [a1e (by omega),g7i,List.drop_length];simp [endsM]
end Go.Proofs.Zz

/- The requests that begin: the program's and the document's, alike; the memory's cycle. -/
set_option maxRecDepth 100000
namespace Go.Proofs.Zz
open Go
variable {N:Nat}
def nthM (l:List Int) (i m:Int):Int:=if l.length = 0∨i < 0∨m < 1 then 0 else Int.tmod (bitAnd .i64 (l.getD (Int.toNat (Int.tmod i (len l))) 0) 1073741823) m
theorem e8K (l:List Int) (i m:Int):b0h N l i m = some (0,gI.dv (nthM l i m) []):=by
 unfold b0h nthM;by_cases h0:l.length = 0
 · rw [len0,dt h0,g7k,if_pos (.inl h0)]
 rw [len0,df h0,g7i];by_cases h1:i < 0
 · rw [dt h1,g7k,if_pos (.inr (.inl h1))]
 rw [df h1,g7i];by_cases h2:m < 1
 · rw [dt h2,g7k,if_pos (.inr (.inr h2))]
 have hl:0 < len l:=by simp only [len]; omega
 have ht:Int.tmod i (len l) = i % len l:=c0B (by omega);have hr:=Int.emod_nonneg i (show len l≠0 by omega);have hr2:=Int.emod_lt_of_pos i hl;rw [df h2,g7i,df (show ¬ (len l = 0) by omega),g7w,a1l (by rw [ht]; exact hr) (by rw [ht]; simp only [len] at hr2 ⊢; omega),g7n,df (show ¬ (m = 0) by omega),g7w,if_neg (by omega)]
theorem e6I (l:List Int) (i m:Int) (hm:1≤m):∃ v,c8a N l i = some (0,gI.dv v [])∧Int.tmod v m = nthM l i m:=by
 unfold c8a nthM;by_cases h0:l.length = 0
 · rw [len0,dt h0,g7k,if_pos (.inl h0)]; exact ⟨0,rfl,by simp⟩
 rw [len0,df h0,g7i];by_cases h1:i < 0
 · rw [dt h1,g7k,if_pos (.inr (.inl h1))]; exact ⟨0,rfl,by simp⟩
 rw [df h1,g7i];have hl:0 < len l:=by simp only [len]; omega
 have ht:Int.tmod i (len l) = i % len l:=c0B (by omega);have hr:=Int.emod_nonneg i (show len l≠0 by omega);have hr2:=Int.emod_lt_of_pos i hl;rw [df (show ¬ (len l = 0) by omega),g7w,a1l (by rw [ht]; exact hr) (by rw [ht]; simp only [len] at hr2 ⊢; omega),g7n,if_neg (by omega)];exact ⟨_,rfl,rfl⟩
theorem e5M (t:a0w) (i m:Int):c6x N t i m = some (0,gI.dv (nthM t.Picks i m) []):=by
 unfold c6x;by_cases h:m < 1
 ·
  rw [dt h,g7k];unfold nthM;rw [if_pos (.inr (.inr h))]
 ·
  obtain ⟨v,h1,h2⟩:=e6I (N:=N) t.Picks i m (by omega);rw [df h,g7i,h1,g7j,g7m,g7l,df (show ¬ m = 0 by omega),g7w,h2]
theorem e3k (t:a0w) (i m:Int):c8V N t i m = some (0,gI.dv (w.i64 (1+nthM t.Lats i m)) []):=by
 unfold c8V;by_cases h:m < 1
 ·
  rw [dt h,g7k];unfold nthM;rw [if_pos (.inr (.inr h))];rfl
 ·
  obtain ⟨v,h1,h2⟩:=e6I (N:=N) t.Lats i m (by omega);rw [df h,g7i,h1,g7j,g7m,g7l,df (show ¬ m = 0 by omega),g7w,h2]
theorem d8o (l:List Int) (i:Int) {m:Int} (hm:1≤m):0≤nthM l i m∧nthM l i m < m:=by
 unfold nthM;split
 · omega
 ·
  have hb:=d0F (l.getD (Int.toNat (Int.tmod i (len l))) 0);generalize bitAnd .i64 (l.getD (Int.toNat (Int.tmod i (len l))) 0) 1073741823 = b at hb;rw [show Int.tmod b m = b % m from c0B hb.1];exact ⟨Int.emod_nonneg _ (by omega),Int.emod_lt_of_pos _ (by omega)⟩
/-! What waits at a bank -/
def waitsM (n b:Int):List a0e→Nat→List Int
 | [],_=>[]
 | q::r,i=>(if bankM q.2.2.1 n = b∧q.2.2.2.2.2.1 = 0 then [(i:Int)] else [])++waitsM n b r (i+1)
theorem d2M (n b:Int):∀ (l:List a0e) (i:Nat),(waitsM n b l i).length≤l.length∧∀ r∈waitsM n b l i,(i:Int)≤r∧r < i+l.length
 | [],i=>⟨by simp [waitsM],by simp [waitsM]⟩
 | q::l,i=>by
  obtain ⟨h1,h2⟩:=d2M n b l (i+1);rw [waitsM];constructor
  ·
   rw [List.length_append,List.length_cons];split <;> simp <;> omega
  ·
   intro r hr;rw [List.length_cons];rcases List.mem_append.1 hr with hr | hr
   ·
    split at hr
    · simp only [List.mem_singleton] at hr; omega
    · simp at hr
   ·
    have:=h2 r hr;omega
def leftQ (lt:Int) (q:a0e):a0e:=(q.1,(q.2.1,(q.2.2.1,(q.2.2.2.1,(q.2.2.2.2.1,(lt,q.2.2.2.2.2.2))))))
def putL (x:a0b) (r lt:Int):List a0e:=x.Table.set r.toNat (leftQ lt (x.Table.getD r.toNat a0e.z))
def beginM (c:a0f) (t:a0w) (b:Int) (x:a0b):a0b :=
 if x.Table.any (workQ c.Banks b) = true then x else
 let wt:=waitsM c.Banks b x.Table 0
 if wt.length = 0 then x else
 if 1 < wt.length then { x with Table:=putL x (wt.getD (nthM t.Picks x.Picks (len wt)).toNat 0) (w.i64 (1+nthM t.Lats x.Lats c.Lat)),Lats:=w.i64 (x.Lats+1),Picks:=w.i64 (x.Picks+1) } else
 { x with Table:=putL x (wt.getD 0 0) (w.i64 (1+nthM t.Lats x.Lats c.Lat)),Lats:=w.i64 (x.Lats+1) }
theorem d6L (x:a0b) (c:a0f) (t:a0w) (b:Int) (hT:x.Table.length≤1000) (hl:∀ q∈x.Table,LfOk q):∀ (n i:Nat) (wt:List Int),i≤x.Table.length→x.Table.length - i < n→wt.length≤i →
  a1q N n b wt (len x.Table) (i:Int) x c t = if (x.Table.drop i).any (workQ c.Banks b) = true then some (0,a0c.dv x []) else some (1,(gD (.sl tI)).dv (wt++waitsM c.Banks b (x.Table.drop i) i) (a0c.dv x (a0D.dv c (a1P.dv t [])))):=by
 intro n;induction n with
 | zero=>intro i wt h1 h2; omega
 | succ n ih =>
  intro i wt h1 h2 h3;show a2V N (a1q N n) b wt (len x.Table) (i:Int) x c t = _;unfold a2V;by_cases hi:i < x.Table.length
  ·
   have hq:=a1E a0e.z hi;have hdrop:x.Table.drop i = x.Table.getD i a0e.z::x.Table.drop (i+1):=by
    rw [List.drop_eq_getElem_cons hi,List.getD_eq_getElem?_getD,List.getElem?_eq_getElem hi]; rfl
   rw [a1f hi,g7k,a1Q hi,g7n,Int.toNat_natCast,hdrop,List.any_cons,waitsM];generalize x.Table.getD i a0e.z = q at *;have hlq:=(hl q hq).1;rw [d7S,g7j,g7m,g7l,wS (show i≤100000000 by omega)];by_cases hb:bankM q.2.2.1 c.Banks = b
   ·
    rw [show (bankM q.2.2.1 c.Banks != b) = false by simp [hb],g7i];by_cases hl:q.2.2.2.2.2.1 > 0
    · rw [dt hl,g7k,if_pos (by unfold workQ; rw [decide_eq_true hb,decide_eq_true hl]; rfl)]
    ·
     have hwq:workQ c.Banks b q = false:=by unfold workQ; rw [decide_eq_false hl,Bool.and_false]
     rw [df hl,g7i,bt (show q.2.2.2.2.2.1 = 0 by omega),g7k,rmT (by simp; omega),g7n,hwq,Bool.false_or,if_pos (show bankM q.2.2.1 c.Banks = b∧q.2.2.2.2.2.1 = 0 from ⟨hb,by omega⟩),← List.append_assoc];exact ih (i+1) _ (by omega) (by omega) (by simp; omega)
   ·
    have hwq:workQ c.Banks b q = false:=by unfold workQ; rw [decide_eq_false hb,Bool.false_and]
    rw [show (bankM q.2.2.1 c.Banks != b) = true by simp [hb],g7k,hwq,Bool.false_or,if_neg (show ¬ (bankM q.2.2.1 c.Banks = b∧q.2.2.2.2.2.1 = 0) from fun h=>hb h.1),List.nil_append];exact ih (i+1) wt (by omega) (by omega) (by omega)
  ·
   have:i = x.Table.length:=by omega
   subst this;rw [a1e (by omega),g7i,List.drop_length];simp [waitsM]
theorem e5Q (x:a0b) (c:a0f) (t:a0w) (b:Int) (hT:x.Table.length≤1000) (hl:∀ q∈x.Table,LfOk q) (hN:1001 < N):a7K N c t b x = some (0,a0c.dv (beginM c t b x) []):=by
 unfold a7K beginM;have h:=d6L (N:=N) x c t b hT hl N 0 [] (by omega) (by omega) (by simp);rw [List.drop_zero,List.nil_append] at h;rw [show a1q N N b ([]:List Int) (len x.Table) 0 x c t = _ from h];by_cases hw:x.Table.any (workQ c.Banks b) = true
 · rw [if_pos hw,if_pos hw,g7v,g7m,g7l]
 rw [if_neg hw,if_neg hw,g7t _ _ (by decide)];simp only [g7m,g7l];obtain ⟨w1,w2⟩:=d2M c.Banks b x.Table 0;generalize waitsM c.Banks b x.Table 0 = wt at *;by_cases h0:wt.length = 0
 · rw [len0,dt h0,g7k,if_pos h0]
 rw [len0,df h0,g7i,if_neg h0];unfold b7n b8G;have hidx:∀ i:Nat,i < wt.length→_:=fun i hi=>w2 _ (a1E 0 hi)
 simp only [e8K,g7j,g7m,g7l];by_cases h1:1 < wt.length
 ·
  obtain ⟨r0,r1⟩:=d8o t.Picks x.Picks (m:=len wt) (by simp only [len]; omega);have hb:=hidx (nthM t.Picks x.Picks (len wt)).toNat (by simp only [len] at r1 ⊢; omega);rw [dt (show len wt > 1 by simp only [len]; omega),g7k,if_pos h1,a1l r0 (by simp only [len] at r1 ⊢; omega),g7n,a1l (by omega) (by omega),g7n];rfl
 ·
  have hb:=hidx 0 (by omega);rw [df (show ¬ len wt > 1 by simp only [len]; omega),g7i,if_neg h1,a1l (by omega) (by omega),g7n,a1l (by omega) (by omega),g7n];rfl
end Go.Proofs.Zz

/- The memory's cycle: the program's and the document's, alike. -/
set_option maxRecDepth 100000
namespace Go.Proofs.Zz
open Go
variable {N:Nat}
theorem e5z (a n:Int):d1X N a n = some (0,gI.dv (bankM a n) []):=d7S (N:=N) a n
theorem e0p (l:List a0e) (c:a0f) (t:a0w) (b:Int) (y z:a0b) (hT:l.length≤1000) (hl:∀ q∈l,LfOk q):∀ (n i:Nat) (u:Bool) (wt:List Int),i≤l.length→l.length - i < n→wt.length≤i →
  a5C N n l b u wt (i:Int) c t y z = some (5,(gD (.sl a0j)).dv l (gI.dv b (gB.dv (u || (l.drop i).any (workQ c.Banks b)) ((gD (.sl tI)).dv (wt++waitsM c.Banks b (l.drop i) i) (a0D.dv c (a1P.dv t (a0c.dv y (a0c.dv z [])))))))):=by
 intro n;induction n with
 | zero=>intro i u wt h1 h2; omega
 | succ n ih =>
  intro i u wt h1 h2 h3;show a8p N (a5C N n) l b u wt (i:Int) c t y z = _;unfold a8p;by_cases hi:i < l.length
  ·
   have hq:=a1E a0e.z hi;have hdrop:l.drop i = l.getD i a0e.z::l.drop (i+1):=by
    rw [List.drop_eq_getElem_cons hi,List.getD_eq_getElem?_getD,List.getElem?_eq_getElem hi]; rfl
   rw [a1f hi,g7k,a1Q hi,g7n,Int.toNat_natCast,hdrop,List.any_cons,waitsM];generalize l.getD i a0e.z = q at *;have hlq:=(hl q hq).1;rw [e5z,g7j,g7m,g7l,wS (show i≤100000000 by omega)];simp only [g7n];by_cases hb:bankM q.2.2.1 c.Banks = b
   ·
    rw [show (bankM q.2.2.1 c.Banks != b) = false by simp [hb],g7i];by_cases hl:q.2.2.2.2.2.1 > 0
    ·
     have hwq:workQ c.Banks b q = true:=by unfold workQ; rw [decide_eq_true hb,decide_eq_true hl]; rfl
     rw [dt hl,g7k,bf (show ¬ q.2.2.2.2.2.1 = 0 by omega),g7i,hwq,if_neg (show ¬ (bankM q.2.2.1 c.Banks = b∧q.2.2.2.2.2.1 = 0) from fun h=>by omega),List.nil_append,Bool.true_or,Bool.or_true];have:=ih (i+1) true wt (by omega) (by omega) (by omega);rw [Bool.true_or] at this;exact this
    ·
     have hwq:workQ c.Banks b q = false:=by unfold workQ; rw [decide_eq_false hl,Bool.and_false]
     rw [df hl,g7i,bt (show q.2.2.2.2.2.1 = 0 by omega),g7k,rmT (by simp; omega),g7n,hwq,Bool.false_or,if_pos (show bankM q.2.2.1 c.Banks = b∧q.2.2.2.2.2.1 = 0 from ⟨hb,by omega⟩),← List.append_assoc];exact ih (i+1) u _ (by omega) (by omega) (by simp; omega)
   ·
    have hwq:workQ c.Banks b q = false:=by unfold workQ; rw [decide_eq_false hb,Bool.false_and]
    rw [show (bankM q.2.2.1 c.Banks != b) = true by simp [hb],g7k,hwq,Bool.false_or,if_neg (show ¬ (bankM q.2.2.1 c.Banks = b∧q.2.2.2.2.2.1 = 0) from fun h=>hb h.1),List.nil_append];exact ih (i+1) u wt (by omega) (by omega) (by omega)
  ·
   have:i = l.length:=by omega
   subst this;rw [a1e (by omega),g7i,List.drop_length];simp [waitsM]
theorem d5h {c:a0f} {t:a0w} {b:Int} {x:a0b} (hc:1≤c.Lat∧c.Lat≤1000) (hl:∀ q∈x.Table,LfOk q):(∀ q∈(beginM c t b x).Table,LfOk q)∧(beginM c t b x).Table.length = x.Table.length:=by
 have hr:0≤w.i64 (1+nthM t.Lats x.Lats c.Lat)∧w.i64 (1+nthM t.Lats x.Lats c.Lat)≤1000:=by
  have:=d8o t.Lats x.Lats hc.1;rw [show w.i64 (1+nthM t.Lats x.Lats c.Lat) = 1+nthM t.Lats x.Lats c.Lat from wI (by omega) (by omega)];omega
 have key:∀ r:Int,∀ q∈putL x r (w.i64 (1+nthM t.Lats x.Lats c.Lat)),LfOk q:=by
  intro r q hq;unfold putL at hq;rcases List.mem_or_eq_of_mem_set hq with h1 | h1
  · exact hl q h1
  · rw [h1]; exact hr
 unfold beginM;simp only []
 repeat' split
 · exact ⟨hl,rfl⟩
 · exact ⟨hl,rfl⟩
 · exact ⟨key _,List.length_set⟩
 · exact ⟨key _,List.length_set⟩
def beginsM (c:a0f) (t:a0w):Nat→Nat→a0b→a0b
 | 0,_,x=>x
 | n+1,i,x=>beginsM c t n (i+1) (beginM c t (i:Int) x)
theorem e0T (c:a0f) (t:a0w) (m:Nat) (hc:1≤c.Lat∧c.Lat≤1000) (hN:1001 < N) (hm:m≤16):∀ (n i:Nat) (x:a0b),i≤m→m - i < n→x.Table.length≤1000→(∀ q∈x.Table,LfOk q) →
  a2N N n (m:Int) (i:Int) x c t = some (1,a0c.dv (beginsM c t (m - i) i x) []):=by
 intro n;induction n with
 | zero=>intro i x h1 h2; omega
 | succ n ih =>
  intro i x h1 h2 hT hl;show a5a N (a2N N n) (m:Int) (i:Int) x c t = _;unfold a5a;by_cases hi:i < m
  ·
   obtain ⟨g1,g2⟩:=d5h (t:=t) (b:=(i:Int)) hc hl;rw [dt (show (i:Int) < (m:Int) by omega),g7k,e5Q (N:=N) x c t (i:Int) hT hl hN,g7j,g7m,g7l,wS (show i≤100000000 by omega),show m - i = (m - (i+1))+1 by omega,beginsM];exact ih (i+1) _ (by omega) (by omega) (by omega) g1
  ·
   have:i = m:=by omega
   subst this;rw [df (by omega),g7i,Nat.sub_self];rfl
theorem e0w (c:a0f) (t:a0w) (b:Int) (y:a0b) (l:List a0e) (l2:List a0e):{ beginM c t b { y with Table:=l } with Table:=l2 } = { y with Table:=l2,Lats:=(beginM c t b { y with Table:=l }).Lats,Picks:=(beginM c t b { y with Table:=l }).Picks }:=by
 unfold beginM;simp only []
 repeat' split
 all_goals rfl
theorem e1t (c:a0f) (t:a0w) (z:a0b) (m:Nat) (hb:c.Banks = (m:Int)) (hc:1≤c.Lat∧c.Lat≤1000) (hN:1001 < N) (hm:m≤16):∀ (n i:Nat) (l:List a0e) (y:a0b),i≤m→m - i < n→l.length≤1000→(∀ q∈l,LfOk q) →
  a3U N n l (i:Int) c t y z = some (3,(gD (.sl a0j)).dv (beginsM c t (m - i) i { y with Table:=l }).Table (a0c.dv { beginsM c t (m - i) i { y with Table:=l } with Table:=y.Table } (a0c.dv z []))):=by
 intro n;induction n with
 | zero=>intro i l y h1 h2; omega
 | succ n ih =>
  intro i l y h1 h2 hT hl;show a8v N (a3U N n) l (i:Int) c t y z = _;unfold a8v;by_cases hi:i < m
  ·
   obtain ⟨g1,g2⟩:=d5h (t:=t) (b:=(i:Int)) (x:={ y with Table:=l }) hc hl;have e:(m - i) = (m - (i+1))+1:=by omega
   rw [dt (show (i:Int) < c.Banks by omega),g7k,e,beginsM];have h:=e0p (N:=N) l c t (i:Int) y z hT hl N 0 false [] (by omega) (by omega) (by simp);rw [List.drop_zero,List.nil_append,Bool.false_or] at h;rw [show a5C N N l (i:Int) false ([]:List Int) 0 c t y z = _ from h,g7u];simp only [g7m,g7l];rw [wS (show i≤100000000 by omega)]
   -- the rest from what the bank leaves
   have rest:a3U N n (beginM c t (i:Int) { y with Table:=l }).Table ((i+1:Nat):Int) c t { beginM c t (i:Int) { y with Table:=l } with Table:=y.Table } z = some (3,(gD (.sl a0j)).dv (beginsM c t (m - (i+1)) (i+1) (beginM c t (i:Int) { y with Table:=l })).Table (a0c.dv { beginsM c t (m - (i+1)) (i+1) (beginM c t (i:Int) { y with Table:=l }) with Table:=y.Table } (a0c.dv z []))):=by
    have:=ih (i+1) (beginM c t (i:Int) { y with Table:=l }).Table { beginM c t (i:Int) { y with Table:=l } with Table:=y.Table } (by omega) (by omega) (by rw [g2]; exact hT) g1;exact this
   rw [← rest,e0w];have hb0:beginM c t (i:Int) { y with Table:=l } = _:=rfl
   conv at hb0=>rhs; unfold beginM
   simp only [] at hb0;by_cases hw:l.any (workQ c.Banks (i:Int)) = true
   ·
    rw [if_pos hw] at hb0;rw [hw,g7k,hb0]
   rw [if_neg hw] at hb0;rw [show l.any (workQ c.Banks (i:Int)) = false by simpa using hw,g7i];obtain ⟨w1,w2⟩:=d2M c.Banks (i:Int) l 0;generalize waitsM c.Banks (i:Int) l 0 = wt at *;by_cases h0:wt.length = 0
   ·
    rw [if_pos h0] at hb0;rw [len0,dt h0,g7k,hb0]
   rw [if_neg h0] at hb0;rw [len0,df h0,g7i];have hidx:∀ i:Nat,i < wt.length→_:=fun i hi=>w2 _ (a1E 0 hi)
   by_cases h1:1 < wt.length
   ·
    rw [if_pos h1] at hb0;obtain ⟨r0,r1⟩:=d8o t.Picks y.Picks (m:=len wt) (by simp only [len]; omega);have hx:=hidx (nthM t.Picks y.Picks (len wt)).toNat (by simp only [len] at r1 ⊢; omega);rw [dt (show len wt > 1 by simp only [len]; omega),g7k,e5M,g7j,g7m,g7l,a1l r0 (by simp only [len] at r1 ⊢; omega),g7n,e3k,g7j,g7m,g7l,a1l (by omega) (by omega),g7n,hb0];rfl
   ·
    rw [if_neg h1] at hb0;have hx:=hidx 0 (by omega);rw [df (show ¬ len wt > 1 by simp only [len]; omega),g7i,a1l (by omega) (by omega),g7n,e3k,g7j,g7m,g7l,a1l (by omega) (by omega),g7n,hb0];rfl
  ·
   have:i = m:=by omega
   subst this;rw [df (by omega),g7i,Nat.sub_self];rfl
def moveM (c:a0f) (t:a0w) (x:a0b):a0b:=beginsM c t c.Banks.toNat 0 { endsM x.Table x with Table:=x.Table.filterMap keepQ }
theorem d9C {l:List a0e} (h:∀ q∈l,LfOk q):∀ q∈l.filterMap keepQ,LfOk q:=by
 intro q hq;obtain ⟨a,ha,hk⟩:=List.mem_filterMap.1 hq;exact d4x hk (h a ha)
theorem e3w (c:a0f) (t:a0w) (x:a0b) (hc:1≤c.Banks∧c.Banks≤16) (hla:1≤c.Lat∧c.Lat≤1000) (hT:x.Table.length≤1000) (hL:Lefts x.Table (len x.Mem)) (hf:∀ q∈x.Table,LfOk q) (hm:len x.Mem≤65536) (hl:x.Ldq.length≤1000) (hw:x.Writes.length≤200000) (hN:1001 < N) :
  a9Y N c t x = some (0,a0c.dv (moveM c t x) []):=by
 unfold a9Y b7x moveM;obtain ⟨m,hcm⟩:∃ m:Nat,c.Banks = (m:Int):=⟨c.Banks.toNat,by omega⟩
 have h1:=e3q (N:=N) x.Table hT (len x.Mem) hL hm hN N 0 [] x (by omega) (by omega) rfl hl (by omega) (by simp);rw [List.drop_zero,List.nil_append] at h1;rw [df (show ¬ (c.Banks < 1) by omega),g7i,df (show ¬ (c.Banks > 16) by omega),g7i,df (show ¬ (c.Lat < 1) by omega),g7i,df (show ¬ (c.Lat > 1000) by omega),g7i,show a2j N N ([]:List a0e) x.Table (len x.Table) 0 x = _ from h1,g7u,g7m,g7m,g7l,g7j,g7m,g7l];have h2:=e0T (N:=N) c t m hla hN (by omega) N 0 { endsM x.Table x with Table:=x.Table.filterMap keepQ } (by omega) (by omega) (Nat.le_trans (List.length_filterMap_le _ _) hT) (d9C hf);rw [hcm,show a2N N N (m:Int) 0 { endsM x.Table x with Table:=x.Table.filterMap keepQ } c t = _ from h2,g7u,g7m,g7l,Int.toNat_natCast,Nat.sub_zero]
theorem e1m (c:a0f) (t:a0w) (x:a0b) (hx:Wf x) (hc:1≤c.Banks∧c.Banks≤16) (hla:1≤c.Lat∧c.Lat≤1000) (hT:x.Table.length≤1000) (hL:Lefts x.Table (len x.Mem)) (hf:∀ q∈x.Table,LfOk q) (hm:len x.Mem≤65536) (hN:1001 < N) :
  b4R N c t x = some (0,a0c.dv (moveM c t x) []):=by
 unfold b4R moveM;obtain ⟨m,hcm⟩:∃ m:Nat,c.Banks = (m:Int):=⟨c.Banks.toNat,by omega⟩
 have a1:allB 1 16 [c.Banks] = true:=by simp only [allB,List.all_cons,List.all_nil,Bool.and_true,decide_eq_true_eq]; exact hc
 have a2:allB 1 1000 [c.Lat] = true:=by simp only [allB,List.all_cons,List.all_nil,Bool.and_true,decide_eq_true_eq]; exact hla
 rw [b6Q x hx,g7j,g7m,g7l,b4J,a1,g7j,g7m,g7l,Bool.not_true,g7i,b4J,a2,g7j,g7m,g7l,Bool.not_true,g7i];generalize (a0b.mk 0 a0v.z a0v.z ([]:List a0q) ([]:List Int) ([]:List Int) ([]:List Bool) ([]:List Bool) ([]:List a0a) ([]:List a0e) ([]:List Int) ([]:List a0K) a1X.z 0 0 0) = z;have h1:=e2S (N:=N) x.Table c t z hT (len x.Mem) hL hm hN N 0 [] x (by omega) (by omega) rfl hx.ldq hx.saq (by have:=hx.wri; omega) (by simp);rw [List.drop_zero,List.nil_append] at h1;rw [show a3Y N N ([]:List a0e) x.Table 0 c t x z = _ from h1,g7u];simp only [g7m,g7l];have h2:=e1t (N:=N) c t z m hcm hla hN (by omega) N 0 (x.Table.filterMap keepQ) (endsM x.Table x) (by omega) (by omega) (Nat.le_trans (List.length_filterMap_le _ _) hT) (d9C hf);rw [show a3U N N (x.Table.filterMap keepQ) 0 c t (endsM x.Table x) z = _ from h2,g7u];simp only [g7m,g7l];rw [hcm,Int.toNat_natCast,Nat.sub_zero]
end Go.Proofs.Zz
