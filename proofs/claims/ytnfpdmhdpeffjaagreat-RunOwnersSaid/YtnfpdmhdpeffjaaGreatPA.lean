import Derived.Test.YtnfpdmhdpeffjaaGreatXA
import Derived.Test.YtnfpdmhdpeffjaaGreatK9
import Derived.Test.YtnfpdmhdpeffjaaGreatK12
import Derived.Test.YtnfpdmhdpeffjaaGreatVK
set_option linter.unusedSimpArgs false
set_option linter.unusedVariables false
/- The program's checks of programs and owners are the reference's. -/
set_option maxRecDepth 100000
namespace Go.Proofs.Zz
open Go
variable {N:Nat}
theorem f2q {α:Type} {l:List α} {i:Nat} (h:i < l.length) (z:α):l.drop i = l.getD i z::l.drop (i+1):=by
 rw [List.drop_eq_getElem_cons h,List.getD_eq_getElem?_getD,List.getElem?_eq_getElem h]; rfl
/-! Programs that may be -/
theorem g5i (a b c:Int):f6C N a b c = some (0,gB.dv (decide (1≤a∧a≤2000∧0≤b∧b≤65536∧c≤b)) []):=by
 unfold f6C;by_cases h1:a≥1
 ·
  rw [dt h1,g7k];by_cases h2:a≤2000
  ·
   rw [dt h2,g7k];by_cases h3:b≥0
   ·
    rw [dt h3,g7k];by_cases h4:b≤65536
    ·
     rw [dt h4,g7k];refine retB ?_;rw [Bool.eq_iff_iff];simp only [decide_eq_true_eq];omega
    · rw [df h4,g7i,df (by omega)]
   · rw [df h3,g7i,df (by omega)]
  · rw [df h2,g7i,df (by omega)]
 · rw [df h1,g7i,df (by omega)]
theorem g4b (l:List a0o) (hl:l.length≤100000):∀ (n i:Nat),i≤l.length→l.length - i < n →
  ((l.drop i).all rightIns = false∧∃ r:Int,0≤r∧f2d N n l (len l) (i:Int) = some (0,gI.dv r []))∨((l.drop i).all rightIns = true∧f2d N n l (len l) (i:Int) = some (1,[])):=by
 intro n;induction n with
 | zero=>intro i h1 h2; omega
 | succ n ih =>
  intro i h1 h2;show (_∧∃ r:Int,0≤r∧f2p N (f2d N n) l (len l) (i:Int) = _)∨(_∧f2p N (f2d N n) l (len l) (i:Int) = _);unfold f2p f6L;by_cases hi:i < l.length
  ·
   have hrec:=ih (i+1) (by omega) (by omega);rw [a1f hi,g7k,a1Q hi,g7n,Int.toNat_natCast,b6S,g7j,g7m,g7l,g7j,g7m,g7l,f2q hi a0o.z,List.all_cons,wS (show i≤100000000 by omega)];cases rightIns (l.getD i a0o.z) with
   | false=>rw [Bool.not_false,g7k,Bool.false_and]; exact .inl ⟨rfl,_,Int.natCast_nonneg _,rfl⟩
   | true=>rw [Bool.not_true,g7i,Bool.true_and]; exact hrec
  ·
   have:i = l.length:=by omega
   subst this;rw [a1e (by omega),g7i,List.drop_length];exact .inr ⟨rfl,rfl⟩
theorem g5c (l:List a0o) (hl:l.length≤2000) (hN:2000 < N):f2H N l = some (0,gB.dv (!l.all rightIns) []):=by
 unfold f2H f3C;rcases g4b (N:=N) l (by omega) N 0 (by omega) (by omega) with ⟨h1,r,hr,h⟩ | ⟨h1,h⟩
 ·
  rw [List.drop_zero] at h1;rw [show f2d N N l (len l) 0 = _ from h,g7v,g7m,g7l,g7j,g7m,g7l,h1,dt (show r≥0 from hr)];rfl
 ·
  rw [List.drop_zero] at h1;rw [show f2d N N l (len l) 0 = _ from h,g7t _ _ (by decide),g7l,g7j,g7m,g7l,h1];rfl
theorem f5I (p:a0s) (n:Nat) (hn:n < p.Code.length):f2k N p (n:Int) = some (0,gI.dv (w.i64 ((n:Int)+(codeM p n).2.2.2.2.1)) (gB.dv (brM (codeM p n)) [])):=by
 unfold f2k;rw [a1Q hn,g7n,b4v,g7j,g7m,g7l,g7n,Int.toNat_natCast];show bi (formM (codeM p n).1 == 6) (some (0,gI.dv (w.i64 ((n:Int)+(codeM p n).2.2.2.2.1)) (gB.dv true []))) (some (0,gI.dv (w.i64 ((n:Int)+(codeM p n).2.2.2.2.1)) (gB.dv (formM (codeM p n).1 == 7) []))) = _;unfold brM;by_cases h6:formM (codeM p n).1 = 6
 · rw [bt h6,g7k,dt (.inl h6)]
 ·
  rw [bf h6,g7i];by_cases h7:formM (codeM p n).1 = 7
  · rw [bt h7,dt (.inr h7)]
  · rw [bf h7,df (by omega)]
theorem g5p {i:a0o} (h:rightIns i = true) (hb:brM i = true):-8192≤i.2.2.2.2.1∧i.2.2.2.2.1≤8191:=by
 unfold brM at hb;have hb:=of_decide_eq_true hb;unfold rightIns at h;simp only [Bool.and_eq_true] at h;have h5:=h.2;unfold fieldM hasIM loM hiM at h5;have hop:¬ (i.1 = 22∨i.1 = 23∨i.1 = 24):=by
  intro ho;have:formM i.1 = 2:=by
   rcases ho with ho | ho | ho <;> rw [ho] <;> rfl
  omega
 rw [if_pos (decide_eq_true (by omega)),if_neg hop,if_neg hop] at h5;exact of_decide_eq_true h5
theorem g4D {p:a0s} {n:Nat} (hn:n < p.Code.length) (hr:rightIns (codeM p n) = true):tgtOk p n = true↔(brM (codeM p n) = true→-(n:Int)≤(codeM p n).2.2.2.2.1∧(codeM p n).2.2.2.2.1 < (p.Code.length:Int) - n):=by
 unfold tgtOk tgtM;rw [Int.toNat_natCast];cases hb:brM (codeM p n) with
 | false=>simp
 | true =>
  have hi:=g5p hr hb;simp only [Bool.true_and,Bool.not_eq_true',decide_eq_false_iff_not,true_and,forall_const,len];constructor
  ·
   intro h;by_cases hc:-8192≤(codeM p n).2.2.2.2.1∧(codeM p n).2.2.2.2.1≤8191∧0≤(n:Int)+(codeM p n).2.2.2.2.1∧(n:Int)+(codeM p n).2.2.2.2.1 < (p.Code.length:Int)
   · omega
   · rw [if_neg hc] at h; omega
  ·
   intro h;rw [if_pos (by omega)];omega
theorem f9e (p : a0s) (hl : p.Code.length ≤ 2000) (hr : p.Code.all rightIns = true) : ∀ (n i : Nat), i ≤ p.Code.length → p.Code.length - i < n →
    f3l N n p.Code (len p.Code) (i : Int) p = if (List.range' i (p.Code.length - i)).all (tgtOk p) = true then some (1, []) else some (0, gI.dv 4 []) := by
  intro n
  induction n with
  | zero => intro i h1 h2; omega
  | succ n ih =>
    intro i h1 h2
    show f3I N (f3l N n) p.Code (len p.Code) (i : Int) p = _
    unfold f3I
    by_cases hi : i < p.Code.length
    · have hrec := ih (i + 1) (by omega) (by omega)
      have hri : rightIns (codeM p i) = true := List.all_eq_true.1 hr _ (a1E _ hi)
      have hok := g4D hi hri
      rw [show p.Code.length - i = (p.Code.length - (i + 1)) + 1 by omega, List.range'_succ, List.all_cons, a1f hi, g7k, a1Q hi, g7n, f5I p i hi, g7j, g7m, g7m, g7l, wS (show i ≤ 100000000 by omega), Int.toNat_natCast, hrec]
      rw [show p.Code.getD i a0o.z = codeM p i from rfl, wI (x := 0 - (i : Int)) (by omega) (by omega), wI (x := len p.Code - (i : Int)) (by simp only [len]; omega) (by simp only [len]; omega)]
      cases hb : brM (codeM p i) with
      | false =>
        have : tgtOk p i = true := hok.2 (fun h => by rw [hb] at h; cases h)
        rw [g7i, this, Bool.true_and]
      | true =>
        rw [g7k]
        by_cases c1 : (codeM p i).2.2.2.2.1 < 0 - (i : Int)
        · have : tgtOk p i = false := by
            cases ht : tgtOk p i with
            | false => rfl
            | true => have := hok.1 ht hb; omega
          rw [dt c1, g7k, this, Bool.false_and, if_neg (by simp)]
        · rw [df c1, g7i]
          by_cases c2 : (codeM p i).2.2.2.2.1 ≥ len p.Code - (i : Int)
          · have : tgtOk p i = false := by
              cases ht : tgtOk p i with
              | false => rfl
              | true => have := hok.1 ht hb; simp only [len] at c2; omega
            rw [dt c2, g7k, this, Bool.false_and, if_neg (by simp)]
          · have : tgtOk p i = true := hok.2 (fun _ => by simp only [len] at c2; omega)
            rw [df c2, g7i, this, Bool.true_and]
    · have : i = p.Code.length := by omega
      subst this
      rw [a1e (by omega), g7i, Nat.sub_self]
      rfl
theorem f6b (p:a0s) (hN:2000 < N):f4F N p = some (0,gB.dv (rightP p) []):=by
 unfold f4F rightP;rw [g5i,g7j,g7m,g7l];by_cases hs:1≤len p.Code∧len p.Code≤2000∧0≤p.Size∧p.Size≤65536∧len p.Data≤p.Size
 ·
  have hl:p.Code.length≤2000:=by have:=hs.2.1; simp only [len] at this; omega
  rw [dt hs,g7k,dt (show 1≤p.Code.length∧p.Code.length≤2000∧0≤p.Size∧p.Size≤65536∧len p.Data≤p.Size by simp only [len] at hs ⊢; omega),Bool.true_and,g5c _ hl hN,g7j,g7m,g7l,Bool.not_not];cases hr:p.Code.all rightIns with
  | false=>rw [g7i,Bool.false_and]
  | true =>
   have h:=f9e (N:=N) p hl hr N 0 (by omega) (by omega);rw [g7k,Bool.true_and];unfold f6H tgtsOk;rw [show f3l N N p.Code (len p.Code) 0 p = _ from h,Nat.sub_zero];cases (List.range' 0 p.Code.length).all (tgtOk p) with
   | true=>rw [if_pos rfl,g7t _ _ (by decide),g7l,g7j,g7m,g7l]; rfl
   | false=>rw [if_neg (by simp),g7v,g7m,g7l,g7j,g7m,g7l]; rfl
 · rw [df hs,g7i,df (by simp only [len] at hs ⊢; omega),Bool.false_and]
/-! Owners -/
theorem g3q (l:List Int) (hl:l.length≤100):∀ (n i:Nat),i≤l.length→l.length - i < n →
  ((l.drop i).any (fun v=>decide (v≠1∧v≠2)) = true∧∃ r:Int,0≤r∧f2h N n l (len l) (i:Int) = some (0,gI.dv r []))∨((l.drop i).any (fun v=>decide (v≠1∧v≠2)) = false∧f2h N n l (len l) (i:Int) = some (1,[])):=by
 intro n;induction n with
 | zero=>intro i h1 h2; omega
 | succ n ih =>
  intro i h1 h2;show (_∧∃ r:Int,0≤r∧f2y N (f2h N n) l (len l) (i:Int) = _)∨(_∧f2y N (f2h N n) l (len l) (i:Int) = _);unfold f2y;by_cases hi:i < l.length
  ·
   have hrec:=ih (i+1) (by omega) (by omega);have ho:f4L N (l.getD i 0) = some (0,gB.dv (decide (l.getD i 0≠1∧l.getD i 0≠2)) []):=by
    unfold f4L;by_cases h1:l.getD i 0 = 1
    · rw [show (l.getD i 0 != 1) = false by rw [h1]; rfl,g7i,df (by omega)]
    ·
     rw [show (l.getD i 0 != 1) = true from bne_iff_ne.2 h1,g7k];by_cases h2:l.getD i 0 = 2
     · rw [show (l.getD i 0 != 2) = false by rw [h2]; rfl,df (by omega)]
     · rw [show (l.getD i 0 != 2) = true from bne_iff_ne.2 h2,dt ⟨h1,h2⟩]
   rw [a1f hi,g7k,a1Q hi,g7n,Int.toNat_natCast,ho,g7j,g7m,g7l,f2q hi 0,List.any_cons,wS (show i≤100000000 by omega)];cases decide (l.getD i 0≠1∧l.getD i 0≠2) with
   | true=>rw [g7k,Bool.true_or]; exact .inl ⟨rfl,_,Int.natCast_nonneg _,rfl⟩
   | false=>rw [g7i,Bool.false_or]; exact hrec
  ·
   have:i = l.length:=by omega
   subst this;rw [a1e (by omega),g7i,List.drop_length];exact .inr ⟨rfl,rfl⟩
theorem g4K (l:List Int) (hl:l.length≤100) (hN:2000 < N):f2O N l = some (0,gB.dv (l.any fun v=>decide (v≠1∧v≠2)) []):=by
 unfold f2O f4h;rcases g3q (N:=N) l hl N 0 (by omega) (by omega) with ⟨h1,r,hr,h⟩ | ⟨h1,h⟩
 ·
  rw [List.drop_zero] at h1;rw [show f2h N N l (len l) 0 = _ from h,g7v,g7m,g7l,g7j,g7m,g7l,h1,dt (show r≥0 from hr)]
 ·
  rw [List.drop_zero] at h1;rw [show f2h N N l (len l) 0 = _ from h,g7t _ _ (by decide),g7l,g7j,g7m,g7l,h1];rfl
theorem g4O (l o:List Int) (hl:l.length≤100) (hb:∀ x∈l,1≤x∧x≤15):∀ (n i:Nat),i≤l.length→l.length - i < n →
  ((l.drop i).any (onEM o) = true∧∃ r:Int,0≤r∧f2i N n l (len l) (i:Int) o = some (0,gI.dv r ((gD (.ar 16 tI)).dv o [])))∨((l.drop i).any (onEM o) = false∧f2i N n l (len l) (i:Int) o = some (1,(gD (.ar 16 tI)).dv o [])):=by
 intro n;induction n with
 | zero=>intro i h1 h2; omega
 | succ n ih =>
  intro i h1 h2;show (_∧∃ r:Int,0≤r∧f2w N (f2i N n) l (len l) (i:Int) o = _)∨(_∧f2w N (f2i N n) l (len l) (i:Int) o = _);unfold f2w;by_cases hi:i < l.length
  ·
   have hrec:=ih (i+1) (by omega) (by omega);have hm:=hb _ (a1E 0 hi);have ho:f6J N (l.getD i 0) o = some (0,gB.dv (onEM o (l.getD i 0)) ((gD (.ar 16 tI)).dv o [])):=by
    unfold f6J onEM;rw [a1l (by omega) (by omega),g7n,dt (show l.getD i 0 > 0 by omega),Bool.true_and]
   rw [a1f hi,g7k,a1Q hi,g7n,Int.toNat_natCast,ho,g7j,g7m,g7m,g7l,f2q hi 0,List.any_cons,wS (show i≤100000000 by omega)];cases onEM o (l.getD i 0) with
   | true=>rw [g7k,Bool.true_or]; exact .inl ⟨rfl,_,Int.natCast_nonneg _,rfl⟩
   | false=>rw [g7i,Bool.false_or]; exact hrec
  ·
   have:i = l.length:=by omega
   subst this;rw [a1e (by omega),g7i,List.drop_length];exact .inr ⟨rfl,rfl⟩
theorem g0h (i:a0o) (o:List Int) (hN:2000 < N):f6o N i o = some (0,gB.dv (anyEM o (readsM i)) []):=by
 unfold f6o f3q f4p anyEM;have hl:=a6r i;rw [d3B,g7j,g7m,g7l];rcases g4O (N:=N) (readsM i) o (by omega) (b4s i) N 0 (by omega) (by omega) with ⟨h1,r,hr,h⟩ | ⟨h1,h⟩
 ·
  rw [List.drop_zero] at h1;rw [show f2i N N (readsM i) (len (readsM i)) 0 o = _ from h,g7v,g7m,g7m,g7l,g7j,g7m,g7m,g7l,g7j,g7m,g7m,g7l,h1,dt (show r≥0 from hr)]
 ·
  rw [List.drop_zero] at h1;rw [show f2i N N (readsM i) (len (readsM i)) 0 o = _ from h,g7t _ _ (by decide),g7m,g7l,g7j,g7m,g7m,g7l,g7j,g7m,g7m,g7l,h1];rfl
theorem g0y (i:a0o):f5p N i = some (0,gB.dv (decide (formM i.1 = 4∨formM i.1 = 5)) []):=by
 unfold f5p;rw [b4v,g7j,g7m,g7l];by_cases h4:formM i.1 = 4
 · rw [bt h4,g7k,dt (.inl h4)]
 ·
  rw [bf h4,g7i];by_cases h5:formM i.1 = 5
  · rw [bt h5,dt (.inr h5)]
  · rw [bf h5,df (by omega)]
theorem f7k (i:a0o):f3v N i = some (0,gB.dv (decide (1≤formM i.1∧formM i.1≤3)) []):=by
 unfold f3v;rw [b4v,g7j,g7m,g7l];by_cases h1:formM i.1≥1
 ·
  rw [dt h1,g7k];refine retB ?_;rw [Bool.eq_iff_iff];simp only [decide_eq_true_eq];omega
 · rw [df h1,g7i,df (by omega)]
theorem g1E (i : a0o) (o : List Int) (h0 : o.getD 0 0 = 0) (hr : rightIns i = true) (hN : 2000 < N) : f6U N i o = some (0, gB.dv (badI o i) []) := by
  obtain ⟨⟨d0, d1⟩, ⟨a0, a1⟩, _⟩ := a9Q hr
  unfold f6U badI onEM
  simp only [g0y, f7k, g0h i o hN, g7j, g7m, g7l, a1l (i := i.2.2.1) (n := 16) a0 (by omega), a1l (i := i.2.1) (n := 16) d0 (by omega), g7n]
  generalize anyEM o (readsM i) = a
  generalize hf : formM i.1 = f
  have hA : i.2.2.1 = 0 ∨ 0 < i.2.2.1 := by omega
  have hD : i.2.1 = 0 ∨ 0 < i.2.1 := by omega
  have tail : bi (decide (1 ≤ f ∧ f ≤ 3)) (bi (o.getD i.2.1.toNat 0 == 1) (some (0, gB.dv a [])) (some (0, gB.dv false []))) (some (0, gB.dv false [])) = (some (0, gB.dv (decide (1 ≤ f ∧ f ≤ 3 ∧ 0 < i.2.1 ∧ o.getD i.2.1.toNat 0 = 1) && a) []) : Option Rs) := by
    by_cases h1 : 1 ≤ f ∧ f ≤ 3
    · rw [dt h1, g7k]
      by_cases h2 : o.getD i.2.1.toNat 0 = 1
      · have : 0 < i.2.1 := by
          rcases hD with h | h
          · rw [h] at h2; simp only [Int.toNat_zero] at h2; omega
          · exact h
        rw [bt h2, g7k, dt ⟨h1.1, h1.2, this, h2⟩, Bool.true_and]
      · rw [bf h2, g7i, df (by omega), Bool.false_and]
    · rw [df h1, g7i, df (by omega), Bool.false_and]
  rw [tail]
  by_cases h45 : f = 4 ∨ f = 5
  · rw [dt h45, g7k, Bool.true_and, df (show ¬ (1 ≤ f ∧ f ≤ 3 ∧ 0 < i.2.1 ∧ o.getD i.2.1.toNat 0 = 1) by omega), Bool.false_and, Bool.or_false]
    rcases hA with h | h
    · rw [h, Int.toNat_zero, h0, df (show ¬ ((0 : Int) > 0) by omega), Bool.false_and]
      rfl
    · rw [dt (show i.2.2.1 > 0 from h), Bool.true_and]
      cases (o.getD i.2.2.1.toNat 0 == 2) <;> rfl
  · rw [df h45, g7i, Bool.false_and, Bool.false_or]
theorem g4j (p:a0s) (hl:p.Code.length≤2000) (hr:p.Code.all rightIns = true) (o:List Int) (h0:o.getD 0 0 = 0) (hN:2000 < N):∀ (n i:Nat),i≤p.Code.length→p.Code.length - i < n →
  ((p.Code.drop i).any (badI o) = true∧∃ r:Int,0≤r∧f2c N n p.Code (len p.Code) (i:Int) o = some (0,gI.dv r ((gD (.ar 16 tI)).dv o [])))∨((p.Code.drop i).any (badI o) = false∧f2c N n p.Code (len p.Code) (i:Int) o = some (1,(gD (.ar 16 tI)).dv o [])):=by
 intro n;induction n with
 | zero=>intro i h1 h2; omega
 | succ n ih =>
  intro i h1 h2;show (_∧∃ r:Int,0≤r∧f2n N (f2c N n) p.Code (len p.Code) (i:Int) o = _)∨(_∧f2n N (f2c N n) p.Code (len p.Code) (i:Int) o = _);unfold f2n f6g;by_cases hi:i < p.Code.length
  ·
   have hrec:=ih (i+1) (by omega) (by omega);have hri:rightIns (p.Code.getD i a0o.z) = true:=List.all_eq_true.1 hr _ (a1E _ hi);rw [a1f hi,g7k,a1Q hi,g7n,Int.toNat_natCast,g1E _ o h0 hri hN,g7j,g7m,g7l,g7j,g7m,g7m,g7l,f2q hi a0o.z,List.any_cons,wS (show i≤100000000 by omega)];cases badI o (p.Code.getD i a0o.z) with
   | true=>rw [g7k,Bool.true_or]; exact .inl ⟨rfl,_,Int.natCast_nonneg _,rfl⟩
   | false=>rw [g7i,Bool.false_or]; exact hrec
  ·
   have:i = p.Code.length:=by omega
   subst this;rw [a1e (by omega),g7i,List.drop_length];exact .inr ⟨rfl,rfl⟩
theorem g4F (o:List Int) (ho:o.length = 16):(List.range' 1 15).all (okOwn o) = !((List.take (16 - 1) (List.drop 1 o)).any fun v=>decide (v≠1∧v≠2)):=by
 obtain ⟨a0,a1,a2,a3,a4,a5,a6,a7,a8,a9,a10,a11,a12,a13,a14,a15,rfl⟩:∃ a0 a1 a2 a3 a4 a5 a6 a7 a8 a9 a10 a11 a12 a13 a14 a15:Int,o = [a0,a1,a2,a3,a4,a5,a6,a7,a8,a9,a10,a11,a12,a13,a14,a15]:=by
  match o,ho with
  | [a0,a1,a2,a3,a4,a5,a6,a7,a8,a9,a10,a11,a12,a13,a14,a15],_=>exact ⟨a0,a1,a2,a3,a4,a5,a6,a7,a8,a9,a10,a11,a12,a13,a14,a15,rfl⟩
 have hk:∀ v:Int,decide (v = 1∨v = 2) = !decide (v≠1∧v≠2):=fun v=>by
  rw [Bool.eq_iff_iff];simp only [decide_eq_true_eq,Bool.not_eq_true',decide_eq_false_iff_not];omega
 show (okOwn _ 1 && (okOwn _ 2 && (okOwn _ 3 && (okOwn _ 4 && (okOwn _ 5 && (okOwn _ 6 && (okOwn _ 7 && (okOwn _ 8 && (okOwn _ 9 && (okOwn _ 10 && (okOwn _ 11 && (okOwn _ 12 && (okOwn _ 13 && (okOwn _ 14 && (okOwn _ 15 && true))))))))))))))) = !(decide (a1≠1∧a1≠2) || (decide (a2≠1∧a2≠2) || (decide (a3≠1∧a3≠2) || (decide (a4≠1∧a4≠2) || (decide (a5≠1∧a5≠2) || (decide (a6≠1∧a6≠2) || (decide (a7≠1∧a7≠2) || (decide (a8≠1∧a8≠2) || (decide (a9≠1∧a9≠2) || (decide (a10≠1∧a10≠2) || (decide (a11≠1∧a11≠2) || (decide (a12≠1∧a12≠2) || (decide (a13≠1∧a13≠2) || (decide (a14≠1∧a14≠2) || (decide (a15≠1∧a15≠2) || false)))))))))))))));simp only [Bool.not_or,← hk];rfl
theorem g1i (p:a0s) (o:List Int) (ho:o.length = 16) (hN:2000 < N):f5S N p o = some (0,gB.dv (closedM p o) []):=by
 unfold f5S closedM;rw [f6b p hN,g7j,g7m,g7l];cases hr:rightP p with
 | false=>rfl
 | true =>
  have hr2:=hr;unfold rightP at hr2;simp only [Bool.and_eq_true,decide_eq_true_eq] at hr2;rw [Bool.not_true,g7i,a1l (i:=0) (n:=16) (by omega) (by omega),g7n,Bool.true_and];by_cases h0:o.getD 0 0 = 0
  ·
   rw [show (o.getD 0 0 != 0) = false by rw [h0]; rfl,g7i,dt h0,Bool.true_and,show sb 1 16 = true from rfl,g7n,g4K _ (by simp; omega) hN,g7j,g7m,g7l,g4F o ho];cases (List.take (16 - 1) (List.drop 1 o)).any fun v=>decide (v≠1∧v≠2) with
   | true=>rfl
   | false =>
    rw [g7i,Bool.not_false,Bool.true_and];unfold f2T f3n;rcases g4j (N:=N) p hr2.1.2.1 hr2.2.1 o h0 hN N 0 (by omega) (by omega) with ⟨h1,r,hr,h⟩ | ⟨h1,h⟩
    ·
     rw [List.drop_zero] at h1;rw [show f2c N N p.Code (len p.Code) 0 o = _ from h,g7v,g7m,g7m,g7l,g7j,g7m,g7m,g7l,g7j,g7m,g7m,g7l,h1,dt (show r≥0 from hr)]
    ·
     rw [List.drop_zero] at h1;rw [show f2c N N p.Code (len p.Code) 0 o = _ from h,g7t _ _ (by decide),g7m,g7l,g7j,g7m,g7m,g7l,g7j,g7m,g7m,g7l,h1];rfl
  · rw [show (o.getD 0 0 != 0) = true from bne_iff_ne.2 h0,g7k,df h0,Bool.false_and]
end Go.Proofs.Zz

/- The program's leaders and blocks are the reference's. -/
set_option maxRecDepth 100000
namespace Go.Proofs.Zz
open Go
variable {N:Nat}
/-! Leaders -/
def nextA (p:a0s) (i:Nat):List Int:=if endsI (codeM p i) = true∧i+1 < p.Code.length then [((i+1:Nat):Int)] else []
def targA (p:a0s) (i:Nat):List Int:=if brM (codeM p i) = true then [tgtM p (i:Int)] else []
def marksA (p:a0s) (i:Nat):List Int:=0::(List.range i).flatMap fun j=>targA p j++nextA p j
theorem f9D (p:a0s):∀ i,(marksA p i).length≤1+2*i
 | 0=>by simp [marksA]
 | i+1=>by
  have h:=f9D p i;unfold marksA at *;rw [List.range_succ,List.flatMap_append];simp only [List.flatMap_cons,List.flatMap_nil,List.append_nil,List.length_cons,List.length_append] at *;have h1:(targA p i).length≤1:=by unfold targA; split <;> simp
  have h2:(nextA p i).length≤1:=by unfold nextA; split <;> simp
  omega
theorem g3s (p:a0s) (i:Nat):marksA p (i+1) = marksA p i++targA p i++nextA p i:=by
 unfold marksA;rw [List.range_succ,List.flatMap_append];simp
theorem g3J {p:a0s} (hr:rightP p = true) {i:Nat} (hi:i < p.Code.length):rightIns (codeM p i) = true∧tgtOk p i = true:=by
 unfold rightP tgtsOk at hr;simp only [Bool.and_eq_true] at hr;exact ⟨List.all_eq_true.1 hr.2.1 _ (a1E _ hi),List.all_eq_true.1 hr.2.2 i (List.mem_range'.2 ⟨i,hi,by omega⟩)⟩
theorem g3S {p:a0s} (hr:rightP p = true) {i:Nat} (hi:i < p.Code.length) (hb:brM (codeM p i) = true):0≤tgtM p (i:Int)∧tgtM p (i:Int) = (i:Int)+(codeM p i).2.2.2.2.1∧w.i64 ((i:Int)+(codeM p i).2.2.2.2.1) = tgtM p (i:Int):=by
 obtain ⟨h1,h2⟩:=g3J hr hi;have hc:=(f2e hr).2.1;have h3:=g5p h1 hb;unfold tgtOk at h2;rw [hb] at h2;simp only [Bool.true_and,Bool.not_eq_true',decide_eq_false_iff_not] at h2;have h4:tgtM p (i:Int) = (i:Int)+(codeM p i).2.2.2.2.1:=by
  unfold tgtM at h2 ⊢;rw [Int.toNat_natCast] at *;split
  · rfl
  · rename_i h; rw [if_neg h] at h2; omega
 refine ⟨by omega,h4,?_⟩
 rw [h4];exact wI (by omega) (by omega)
theorem g4H (i:a0o):endsI i = (brM i || (i.1 == 41)):=by
 have h8:formM i.1 = 8↔i.1 = 41:=by
  unfold formM
  repeat' split
  all_goals omega
 unfold endsI brM;rw [Bool.eq_iff_iff];simp only [decide_eq_true_eq,Bool.or_eq_true,beq_iff_eq];omega
theorem g4o (p:a0s) (hr:rightP p = true):∀ (n i:Nat),i≤p.Code.length→p.Code.length - i < n →
  f3d N n (marksA p i) p.Code (len p.Code) (i:Int) p = some (1,(gD (.sl tI)).dv (marksA p p.Code.length) []):=by
 have hc:=(f2e hr).2.1;intro n;induction n with
 | zero=>intro i h1 h2; omega
 | succ n ih =>
  intro i h1 h2;show f3x N (f3d N n) (marksA p i) p.Code (len p.Code) (i:Int) p = _;unfold f3x;by_cases hi:i < p.Code.length
  ·
   have hrec:=ih (i+1) (by omega) (by omega);have hl:=f9D p i;have hw:=wS (show i≤100000000 by omega);have e41:=g4H (codeM p i);have r1:∀ x:Int,rm (marksA p i) [x] 8 = true:=fun x=>rmT (by simp; omega)
   have r2:∀ x y:Int,rm (marksA p i++[x]) [y] 8 = true:=fun x y=>rmT (by simp; omega)
   rw [g3s] at hrec;unfold targA nextA at hrec;rw [a1f hi,g7k,a1Q hi,g7n,f5I p i hi,g7j,g7m,g7m,g7l,hw,Int.toNat_natCast];rw [show (p.Code.getD i a0o.z) = codeM p i from rfl];simp only [r1,r2,g7n];cases hb:brM (codeM p i) with
   | true =>
    have ht:=(g3S hr hi hb).2.2;rw [hb] at hrec e41;rw [g7k,g7k,ht];rw [Bool.true_or] at e41;rw [e41,if_pos rfl] at hrec;by_cases hj:i+1 < p.Code.length
    ·
     rw [a1f hj,g7k];rw [if_pos ⟨rfl,hj⟩] at hrec;exact hrec
    ·
     rw [a1e (by omega),g7i];rw [if_neg (by omega),List.append_nil] at hrec;exact hrec
   | false =>
    rw [hb] at hrec e41;rw [g7i,g7i];rw [Bool.false_or] at e41;rw [if_neg (by simp),List.append_nil,e41] at hrec;cases h41:((codeM p i).1 == 41) with
    | true =>
     rw [h41] at hrec;rw [g7k];by_cases hj:i+1 < p.Code.length
     ·
      rw [a1f hj,g7k];rw [if_pos ⟨rfl,hj⟩] at hrec;exact hrec
     ·
      rw [a1e (by omega),g7i];rw [if_neg (by omega),List.append_nil] at hrec;exact hrec
    | false =>
     rw [h41] at hrec;rw [g7i];rw [if_neg (by simp),List.append_nil] at hrec;exact hrec
  ·
   have:i = p.Code.length:=by omega
   subst this;rw [a1e (by omega),g7i]
theorem g4l {p:a0s} {x:Int}:∀ {i:Nat},x∈marksA p i↔x = 0∨∃ j,j < i∧((brM (codeM p j) = true∧x = tgtM p (j:Int))∨(endsI (codeM p j) = true∧j+1 < p.Code.length∧x = ((j+1:Nat):Int))):=by
 intro i;unfold marksA;rw [List.mem_cons,List.mem_flatMap];constructor
 ·
  rintro (h | ⟨j,hj,h⟩)
  · exact .inl h
  ·
   refine .inr ⟨j,List.mem_range.1 hj,?_⟩;rcases List.mem_append.1 h with h | h
   ·
    unfold targA at h;split at h
    · rename_i hb; exact .inl ⟨hb,by simpa using h⟩
    · simp at h
   ·
    unfold nextA at h;split at h
    · rename_i hb; exact .inr ⟨hb.1,hb.2,by simpa using h⟩
    · simp at h
 ·
  rintro (h | ⟨j,hj,h⟩)
  · exact .inl h
  ·
   refine .inr ⟨j,List.mem_range.2 hj,List.mem_append.2 ?_⟩;rcases h with ⟨h1,h2⟩ | ⟨h1,h2,h3⟩
   · left; unfold targA; rw [if_pos h1,h2]; simp
   · right; unfold nextA; rw [if_pos ⟨h1,h2⟩,h3]; simp
theorem g4I {p:a0s} (hr:rightP p = true) {x:Int}:x∈leadI p↔x∈marksA p p.Code.length:=by
 have hc:=f2e hr;rw [g4l];unfold leadI leadM;rw [List.mem_map];constructor
 ·
  rintro ⟨k,hk,rfl⟩
  obtain ⟨hk1,hk2⟩:=List.mem_filter.1 hk;have hk1:=List.mem_range.1 hk1;unfold markM at hk2;rw [Bool.or_eq_true,decide_eq_true_eq,List.any_eq_true] at hk2;rcases hk2 with h | ⟨j,hj,h⟩
  · left; omega
  ·
   right
   have hj:=List.mem_range.1 hj;refine ⟨j,hj,?_⟩;unfold hitM at h;rw [Bool.or_eq_true,decide_eq_true_eq,Bool.and_eq_true,decide_eq_true_eq] at h;rcases h with h | h
   ·
    left
    cases hb:brM (codeM p j) with
    | true=>exact ⟨rfl,h.symm⟩
    | false =>
     exfalso;unfold tgtM at h;rw [Int.toNat_natCast,hb,if_neg (by simp)] at h;omega
   · right; exact ⟨h.1,by omega,by omega⟩
 ·
  rintro (h | ⟨j,hj,h⟩)
  · refine ⟨0,List.mem_filter.2 ⟨List.mem_range.2 (by have:=hc.1; omega),by unfold markM; simp⟩,by omega⟩
  ·
   rcases h with ⟨h1,h2⟩ | ⟨h1,h2,h3⟩
   ·
    have ht:=(g3S hr hj h1).1;have htl:=g3t ht;refine ⟨(tgtM p (j:Int)).toNat,List.mem_filter.2 ⟨List.mem_range.2 (by omega),g2r hj ?_⟩,by omega⟩
    unfold hitM;rw [dt (show tgtM p (j:Int) = (((tgtM p (j:Int)).toNat:Nat):Int) by omega),Bool.true_or]
   ·
    refine ⟨j+1,List.mem_filter.2 ⟨List.mem_range.2 h2,g2r hj ?_⟩,h3.symm⟩;unfold hitM;rw [h1];simp
/-! A sorted list without doubles is told by what is in it -/
theorem g1T:∀ {a b:List Int},a.Pairwise (· < ·)→b.Pairwise (· < ·)→(∀ x,x∈a↔x∈b)→a = b
 | [],[],_,_,_=>rfl
 | [],y::b,_,_,h=>by have:=(h y).2 (by simp); simp at this
 | x::a,[],_,_,h=>by have:=(h x).1 (by simp); simp at this
 | x::a,y::b,ha,hb,h=>by
  obtain ⟨ha1,ha2⟩:=List.pairwise_cons.1 ha;obtain ⟨hb1,hb2⟩:=List.pairwise_cons.1 hb;have hxy:x = y:=by
   have h1:=(h x).1 (by simp);have h2:=(h y).2 (by simp);rcases List.mem_cons.1 h1 with e | e
   · exact e
   ·
    rcases List.mem_cons.1 h2 with e2 | e2
    · exact e2.symm
    · have:=hb1 x e; have:=ha1 y e2; omega
  subst hxy;congr 1;refine g1T ha2 hb2 fun z=>?_
  constructor
  ·
   intro hz;have h1:=(h z).1 (by simp [hz]);rcases List.mem_cons.1 h1 with e | e
   · have:=ha1 z hz; omega
   · exact e
  ·
   intro hz;have h1:=(h z).2 (by simp [hz]);rcases List.mem_cons.1 h1 with e | e
   · have:=hb1 z hz; omega
   · exact e
theorem g1C (l:List Int):(sortL l).Pairwise (·≤·):=by
 unfold sortL;have h:=List.pairwise_mergeSort (le:=fun x y:Int=>decide (x≤y)) (fun a b c h1 h2=>decide_eq_true (Int.le_trans (of_decide_eq_true h1) (of_decide_eq_true h2))) (fun a b=>by rcases Int.le_total a b with h | h <;> simp [h]) l;exact h.imp fun h=>of_decide_eq_true h
theorem g4A (l:List Int) (x:Int):x∈sortL l↔x∈l:=by
 unfold sortL;exact List.mem_mergeSort
theorem g2L (d:List Int) (hs:d.Pairwise (·≤·)):∀ m,m≤d.length→(Lib.compactUpTo d.toArray m).Pairwise (· < ·)∧(∀ x,x∈Lib.compactUpTo d.toArray m↔x∈d.take m):=by
 intro m;induction m with
 | zero=>intro _; exact ⟨by simp [Lib.compactUpTo],by simp [Lib.compactUpTo]⟩
 | succ m ih =>
  intro hm;obtain ⟨h1,h2⟩:=ih (by omega);have hg:d.toArray[m]! = d[m]:=by simp [show m < d.length by omega]
  have htake:d.take (m+1) = d.take m++[d[m]]:=by rw [List.take_add_one,List.getElem?_eq_getElem (by omega)]; rfl
  have hle:∀ x∈d.take m,x≤d[m]:=by
   intro x hx;obtain ⟨j,hj,e⟩:=List.getElem_of_mem hx;rw [List.length_take] at hj;rw [← e,List.getElem_take];exact List.pairwise_iff_getElem.1 hs j m (by omega) (by omega) (by omega)
  rw [Lib.compactUpTo_succ,htake];by_cases hk:Lib.keeps d.toArray m = true
  ·
   rw [if_pos hk,hg];refine ⟨?_,fun x=>by rw [List.mem_append,List.mem_append,h2 x]⟩
   rw [List.pairwise_append];refine ⟨h1,by simp,fun a ha b hb=>?_⟩
   simp only [List.mem_singleton] at hb;subst hb;have ha':=(h2 a).1 ha;have hle':=hle a ha';by_cases e:a = d[m]
   ·
    exfalso;unfold Lib.keeps at hk;have hm0:0 < m:=by
     obtain ⟨j,hj,_⟩:=List.getElem_of_mem ha';rw [List.length_take] at hj;omega
    have hprev:d[m - 1] = d[m]:=by
     obtain ⟨j,hj,e2⟩:=List.getElem_of_mem ha';rw [List.length_take] at hj;rw [List.getElem_take] at e2;have g1:d[j]≤d[m - 1]:=by
      by_cases hjm:j = m - 1
      · subst hjm; omega
      · exact List.pairwise_iff_getElem.1 hs j (m - 1) (by omega) (by omega) (by omega)
     have g2:=List.pairwise_iff_getElem.1 hs (m - 1) m (by omega) (by omega) (by omega);omega
    have hg1:d.toArray[m - 1]! = d[m - 1]:=by simp [show m - 1 < d.length by omega]
    rw [hg,hg1,hprev] at hk;simp at hk;omega
   · omega
  ·
   rw [if_neg hk,List.append_nil];refine ⟨h1,fun x=>?_⟩
   rw [h2 x,List.mem_append,List.mem_singleton];constructor
   · exact .inl
   ·
    rintro (h | h)
    · exact h
    ·
     have hk':¬ Lib.keeps d.toArray m = true:=hk;have hm0:0 < m:=by
      rcases Nat.eq_zero_or_pos m with h0 | h0
      · exfalso; apply hk'; subst h0; exact Lib.keeps_lt_one _ 0 (by omega)
      · exact h0
     have hg1:d.toArray[m - 1]! = d[m - 1]:=by simp [show m - 1 < d.length by omega]
     have:d.toArray[m]! = d.toArray[m - 1]!:=by
      by_cases e:d.toArray[m]! = d.toArray[m - 1]!
      · exact e
      · exact absurd (Lib.keeps_pos e) hk'
     rw [hg,hg1] at this;rw [h,this,List.mem_iff_getElem];exact ⟨m - 1,by rw [List.length_take]; omega,by rw [List.getElem_take]⟩
theorem g1v (d:List Int) (hs:d.Pairwise (·≤·)):(Lib.compact d).Pairwise (· < ·)∧∀ x,x∈Lib.compact d↔x∈d:=by
 obtain ⟨h1,h2⟩:=g2L d hs d.length (Nat.le_refl _);exact ⟨h1,fun x=>by rw [show Lib.compact d = Lib.compactUpTo d.toArray d.length from rfl,h2 x,List.take_length]⟩
theorem g2Q (p:a0s):(leadI p).Pairwise (· < ·):=by
 unfold leadI;rw [List.pairwise_map];exact (g0p p).imp fun h=>by omega
theorem g2M {p:a0s} (hr:rightP p = true):Lib.compact (sortL (marksA p p.Code.length)) = leadI p:=by
 obtain ⟨h1,h2⟩:=g1v _ (g1C (marksA p p.Code.length));exact g1T h1 (g2Q p) fun x=>by rw [h2 x,g4A,g4I hr]
theorem f9C (p:a0s) (hN:2000 < N) (hr:rightP p = true):f4G N p = some (0,(gD (.sl tI)).dv (leadI p) []):=by
 unfold f4G;have hc:=(f2e hr).2.1;have h:=g4o (N:=N) p hr N 0 (by omega) (by omega);have hl:=f9D p p.Code.length;have hsl:(sortL (marksA p p.Code.length)).length = (marksA p p.Code.length).length:=by unfold sortL; simp
 have hne:(marksA p p.Code.length).length≠0:=by unfold marksA; simp
 rw [f6b p hN,g7j,g7m,g7l,hr,Bool.not_true,g7i,show f3d N N [(0:Int)] p.Code (len p.Code) 0 p = _ from h,g7u,g7m,g7l];unfold f5G f3E;rw [if_pos (by omega),g7j,g7m,g7l,if_pos (by omega),g7j,g7m,g7l,g2M hr]
end Go.Proofs.Zz

/- The program's cells and blocks are the reference's. -/
set_option maxRecDepth 100000
namespace Go.Proofs.Zz
open Go
variable {N:Nat}
theorem f8M (o:List Int) (n:Int):f5T N o n = some (0,gI.dv (ownM o n) []):=by
 unfold f5T ownM;by_cases h1:n < 1
 · rw [dt h1,g7k,if_pos h1]
 rw [df h1,g7i,if_neg h1];by_cases h2:n > 15
 · rw [dt (show n≥16 by omega),g7k,if_pos h2]
 rw [df (show ¬ n≥16 by omega),g7i,if_neg h2,a1l (by omega) (by omega),g7n]
theorem f9p (i:a0o) (o:List Int) (hN:2000 < N):f6v N i o = some (0,gI.dv (sideOM i o) []):=by
 unfold f6v sideOM;rw [f7k,g7j,g7m,g7l];by_cases h1:1≤formM i.1∧formM i.1≤3
 ·
  rw [dt h1,Bool.not_true,g7i,if_neg (by omega),f8M,g7j,g7m,g7l];by_cases h3:ownM o i.2.1 = 1
  · rw [bt h3,g7k,if_pos (.inl h3)]
  rw [bf h3,g7i];by_cases h4:i.2.1 = 0
  ·
   rw [bt h4,g7k,g0h i o hN,g7j,g7m,g7l];cases h5:anyEM o (readsM i) with
   | true=>rw [Bool.not_true,g7i,if_neg (by rintro (h | h); exact h3 h; simp at h)]
   | false=>rw [Bool.not_false,g7k,if_pos (.inr ⟨h4,rfl⟩)]
  · rw [bf h4,g7i,if_neg (by rintro (h | h); exact h3 h; exact h4 h.1)]
 · rw [df h1,Bool.not_false,g7k,if_pos (by omega)]
theorem g5a (l o:List Int) (hl:l.length≤100) (hb:∀ x∈l,1≤x∧x≤15):∀ (n i:Nat),i≤l.length→l.length - i < n →
  ((l.drop i).any (onEM o) = true∧∃ r:Int,0≤r∧f2g N n l (len l) (i:Int) o = some (0,gI.dv r ((gD (.ar 16 tI)).dv o [])))∨((l.drop i).any (onEM o) = false∧f2g N n l (len l) (i:Int) o = some (1,(gD (.ar 16 tI)).dv o [])):=by
 intro n;induction n with
 | zero=>intro i h1 h2; omega
 | succ n ih =>
  intro i h1 h2;show (_∧∃ r:Int,0≤r∧f2x N (f2g N n) l (len l) (i:Int) o = _)∨(_∧f2x N (f2g N n) l (len l) (i:Int) o = _);unfold f2x;by_cases hi:i < l.length
  ·
   have hrec:=ih (i+1) (by omega) (by omega);have hm:=hb _ (a1E 0 hi);have ho:f7X N (l.getD i 0) o = some (0,gB.dv (onEM o (l.getD i 0)) ((gD (.ar 16 tI)).dv o [])):=by
    unfold f7X onEM;rw [a1l (by omega) (by omega),g7n,dt (show l.getD i 0 > 0 by omega),Bool.true_and]
   rw [a1f hi,g7k,a1Q hi,g7n,Int.toNat_natCast,ho,g7j,g7m,g7m,g7l,f2q hi 0,List.any_cons,wS (show i≤100000000 by omega)];cases onEM o (l.getD i 0) with
   | true=>rw [g7k,Bool.true_or]; exact .inl ⟨rfl,_,Int.natCast_nonneg _,rfl⟩
   | false=>rw [g7i,Bool.false_or]; exact hrec
  ·
   have:i = l.length:=by omega
   subst this;rw [a1e (by omega),g7i,List.drop_length];exact .inr ⟨rfl,rfl⟩
theorem g0X (i:a0o) (o:List Int) (hN:2000 < N):f9s N i o = some (0,gB.dv (!anyEM o (readsM i)) []):=by
 unfold f9s f3r f4i anyEM;have hl:=a6r i;rw [d3B,g7j,g7m,g7l];rcases g5a (N:=N) (readsM i) o (by omega) (b4s i) N 0 (by omega) (by omega) with ⟨h1,r,hr,h⟩ | ⟨h1,h⟩
 ·
  rw [List.drop_zero] at h1;rw [show f2g N N (readsM i) (len (readsM i)) 0 o = _ from h,g7v,g7m,g7m,g7l,g7j,g7m,g7m,g7l,g7j,g7m,g7m,g7l,h1,dt (show r≥0 from hr)]
 ·
  rw [List.drop_zero] at h1;rw [show f2g N N (readsM i) (len (readsM i)) 0 o = _ from h,g7t _ _ (by decide),g7m,g7l,g7j,g7m,g7m,g7l,g7j,g7m,g7m,g7l,h1];rfl
theorem g4Y (l:List Int) (x:Int) (hl:l.length≤100000):∀ (n i:Nat),i≤l.length→l.length - i < n →
  (x∈l.drop i∧∃ r:Int,0≤r∧f2z N n l x (len l) (i:Int) = some (0,gI.dv r []))∨(x∉l.drop i∧f2z N n l x (len l) (i:Int) = some (1,[])):=by
 intro n;induction n with
 | zero=>intro i h1 h2; omega
 | succ n ih =>
  intro i h1 h2;show (_∧∃ r:Int,0≤r∧f3p N (f2z N n) l x (len l) (i:Int) = _)∨(_∧f3p N (f2z N n) l x (len l) (i:Int) = _);unfold f3p;by_cases hi:i < l.length
  ·
   have hrec:=ih (i+1) (by omega) (by omega);rw [a1f hi,g7k,a1Q hi,g7n,Int.toNat_natCast,f2q hi 0,wS (show i≤100000000 by omega)];by_cases he:x = l.getD i 0
   ·
    rw [bt he,g7k];exact .inl ⟨by rw [he]; simp,_,Int.natCast_nonneg _,rfl⟩
   ·
    rw [bf he,g7i,List.mem_cons];rcases hrec with ⟨h3,h4⟩ | ⟨h3,h4⟩
    · exact .inl ⟨.inr h3,h4⟩
    · exact .inr ⟨by rintro (h | h); exact he h; exact h3 h,h4⟩
  ·
   have:i = l.length:=by omega
   subst this;rw [a1e (by omega),g7i,List.drop_length];exact .inr ⟨by simp,rfl⟩
theorem g2T (l:List Int) (x:Int) (hl:l.length≤2000) (hN:2000 < N):f4g N l x = some (0,gB.dv (decide (x∈l)) []):=by
 unfold f4g f7A;rcases g4Y (N:=N) l x (by omega) N 0 (by omega) (by omega) with ⟨h1,r,hr,h⟩ | ⟨h1,h⟩
 ·
  rw [List.drop_zero] at h1;rw [show f2z N N l x (len l) 0 = _ from h,g7v,g7m,g7l,g7j,g7m,g7l,dt h1,dt (show r≥0 from hr)]
 ·
  rw [List.drop_zero] at h1;rw [show f2z N N l x (len l) 0 = _ from h,g7t _ _ (by decide),g7l,g7j,g7m,g7l,df h1];rfl
theorem g4h (l o:List Int) (hl:l.length≤2) (hb:∀ x∈l,1≤x∧x≤15) (hN:2000 < N):∀ (n i:Nat) (out:List Int),i≤l.length→l.length - i < n→out.length≤i →
  f4W N n out l (len l) (i:Int) o = some (1,(gD (.sl tI)).dv ((l.drop i).foldl (addS o) out) []):=by
 intro n;induction n with
 | zero=>intro i out h1 h2; omega
 | succ n ih =>
  intro i out h1 h2 h3;show f5Q N (f4W N n) out l (len l) (i:Int) o = _;unfold f5Q;by_cases hi:i < l.length
  ·
   have hrec:=fun out h=>ih (i+1) out (by omega) (by omega) h
   have hm:=hb _ (a1E 0 hi);have how:ownM o (l.getD i 0) = o.getD (l.getD i 0).toNat 0:=by
    unfold ownM;rw [if_neg (by omega),if_neg (by omega)]
   rw [a1f hi,g7k,a1Q hi,g7n,Int.toNat_natCast,a1l (i:=l.getD i 0) (n:=16) (by omega) (by omega),g7n,wS (show i≤100000000 by omega),f2q hi 0,List.foldl_cons];unfold addS;rw [how];by_cases ho:o.getD (l.getD i 0).toNat 0 = 1
   ·
    rw [bt ho,g7k,g2T out _ (by omega) hN,g7j,g7m,g7l];by_cases hm:l.getD i 0∈out
    ·
     rw [dt hm,Bool.not_true,g7i,if_neg (by rintro ⟨_,h⟩; exact h hm)];exact hrec _ (by omega)
    ·
     rw [df hm,Bool.not_false,g7k,rmT (by simp; omega),g7n,if_pos ⟨ho,hm⟩];exact hrec _ (by simp; omega)
   ·
    rw [bf ho,g7i,if_neg (by rintro ⟨h,_⟩; exact ho h)];exact hrec _ (by omega)
  ·
   have:i = l.length:=by omega
   subst this;rw [a1e (by omega),g7i,List.drop_length];rfl
theorem g0e (i:a0o) (o:List Int) (hN:2000 < N):f5D N i o = some (0,(gD (.sl tI)).dv (sentOM i o) []):=by
 unfold f5D sentOM;have hl:=a6r i;have h:=g4h (N:=N) (readsM i) o hl (b4s i) hN N 0 [] (by omega) (by omega) (by simp);rw [List.drop_zero] at h;rw [d3B,g7j,g7m,g7l,show f4W N N [] (readsM i) (len (readsM i)) 0 o = _ from h,g7u,g7m,g7l]
theorem g1g (kd:Int) (m:f1W) (h:m.Out.length≤1000):f2f N kd m = some (0,f2j.dv { m with Out:=m.Out++[cellI kd m.I m.Pc m.Off] } []):=by
 unfold f2f;rw [rmT (by simp; omega),g7n];rfl
theorem g2l (kd r:Int) (m:f1W) (h:m.Out.length≤1000):f2u N kd r m = some (0,f2j.dv { m with Out:=m.Out++[cellR kd r m.Pc m.Off] } []):=by
 unfold f2u;rw [rmT (by simp; omega),g7n];rfl
theorem g2n (kd:Int) (m:f1W) (h:m.Out.length≤1000):f2m N kd m = some (0,f2j.dv { m with Out:=m.Out++[cellR kd 0 m.Pc m.Off] } []):=by
 unfold f2m;rw [rmT (by simp; omega),g7n];rfl
theorem g4p (kd:Int) (l:List Int) (hl:l.length≤100):∀ (n i:Nat) (m:f1W),i≤l.length→l.length - i < n→m.Out.length≤500+i →
  f2R N n kd l (len l) (i:Int) m = some (1,f2j.dv { m with Out:=m.Out++(l.drop i).map (fun r=>cellR kd r m.Pc m.Off) } []):=by
 intro n;induction n with
 | zero=>intro i m h1 h2; omega
 | succ n ih =>
  intro i m h1 h2 h3;show f3o N (f2R N n) kd l (len l) (i:Int) m = _;unfold f3o;by_cases hi:i < l.length
  ·
   have hrec:=ih (i+1) { m with Out:=m.Out++[cellR kd (l.getD i 0) m.Pc m.Off] } (by omega) (by omega) (by simp; omega);rw [a1f hi,g7k,a1Q hi,g7n,Int.toNat_natCast,g2l _ _ _ (by omega),g7j,g7m,g7l,wS (show i≤100000000 by omega),hrec,f2q hi 0];simp
  ·
   have:i = l.length:=by omega
   subst this;rw [a1e (by omega),g7i,List.drop_length];simp
theorem g3H (kd:Int) (l:List Int) (hl:l.length≤2) (m:f1W) (h:m.Out.length≤500) (hN:2000 < N):f2J N kd l m = some (0,f2j.dv { m with Out:=m.Out++l.map (fun r=>cellR kd r m.Pc m.Off) } []):=by
 unfold f2J;have h:=g4p (N:=N) kd l (by omega) N 0 m (by omega) (by omega) (by omega);rw [List.drop_zero] at h;rw [show f2R N N kd l (len l) 0 m = _ from h,g7u,g7m,g7l]
theorem f9I {i:a0o} (hr:rightIns i = true):1≤formM i.1∧formM i.1≤8:=by
 have h:formM i.1≠0:=by
  unfold rightIns at hr;simp only [Bool.and_eq_true,decide_eq_true_eq] at hr;exact hr.1.1.1.1
 unfold formM at *
 repeat' split at *
 all_goals omega
theorem g3K (o:List Int) {n:Int} (h:0≤n) (h2:n≤15):(ownM o n == 2) = onEM o n:=by
 unfold ownM onEM;by_cases h0:n < 1
 · rw [if_pos h0,df (by omega),Bool.false_and]; rfl
 · rw [if_neg h0,if_neg (by omega),dt (show n > 0 by omega),Bool.true_and]
theorem g4J (i:a0o) (o:List Int) (pc off:Int) (hN:2000 < N):g3D N i o pc off = some (0,(gD (.sl a0i)).dv (emitM i o pc off).1 []):=by
 unfold g3D emitM;rw [b6S,g7j,g7m,g7l];cases hr:rightIns i with
 | false=>rfl
 | true =>
  have hf:=f9I hr;obtain ⟨⟨d0,d1⟩,⟨a0,a1⟩,b0,b1⟩:=a9Q hr;have hs:=f8h i o;rw [Bool.not_true,g7i,b4v,g7j,g7m,g7l,if_neg (by simp)];simp only [f8M,f9p i o hN,g0X i o hN,g0e i o hN,g7j,g7m,g7l,g1g _ (f1W.mk i pc off []) (by simp),g2l _ _ (f1W.mk i pc off []) (by simp),g2n _ (f1W.mk i pc off []) (by simp),g3H _ _ hs (f1W.mk i pc off []) (by simp) hN,List.nil_append,g3K o d0 d1];have g10:∀ kd,f2m N 10 { f1W.mk i pc off [] with Out:=(sentOM i o).map (fun r=>cellR kd r pc off) } = some (0,f2j.dv { f1W.mk i pc off [] with Out:=(sentOM i o).map (fun r=>cellR kd r pc off)++[cellR 10 0 pc off] } []):=fun kd=>g2n _ _ (by simp; omega)
  have g4:f2f N 4 { f1W.mk i pc off [] with Out:=[cellR 5 i.2.2.2.1 pc off] } = some (0,f2j.dv { f1W.mk i pc off [] with Out:=[cellR 5 i.2.2.2.1 pc off]++[cellI 4 i pc off] } []):=g1g _ _ (by simp);simp only [g10,g4,g7j,g7m,g7l];by_cases f4:formM i.1 = 4
  ·
   rw [bt f4,g7k,if_neg (show ¬ (1≤formM i.1∧formM i.1≤3) by omega),if_pos f4];cases onEM o i.2.1 <;> rfl
  rw [bf f4,g7i];by_cases f5:formM i.1 = 5
  ·
   rw [bt f5,g7k,if_neg (show ¬ (1≤formM i.1∧formM i.1≤3) by omega),if_neg f4,if_pos f5];by_cases h:ownM o i.2.2.2.1 = 1
   · rw [bt h,g7k,if_pos h]; rfl
   · rw [bf h,g7i,if_neg h]
  rw [bf f5,g7i];by_cases f6:formM i.1 = 6
  ·
   rw [bt f6,g7k,if_neg (show ¬ (1≤formM i.1∧formM i.1≤3) by omega),if_neg f4,if_neg f5,if_pos f6];cases anyEM o (readsM i) <;> rfl
  rw [bf f6,g7i];by_cases f7:formM i.1 = 7
  · rw [bt f7,g7k,if_neg (show ¬ (1≤formM i.1∧formM i.1≤3) by omega),if_neg f4,if_neg f5,if_neg f6,if_pos f7]
  rw [bf f7,g7i];by_cases f8:formM i.1 = 8
  · rw [bt f8,g7k,if_neg (show ¬ (1≤formM i.1∧formM i.1≤3) by omega),if_neg f4,if_neg f5,if_neg f6,if_neg f7,if_pos f8]
  rw [bf f8,g7i,if_pos (show 1≤formM i.1∧formM i.1≤3 by omega)];by_cases h:sideOM i o = 1
  · rw [bt h,g7k,if_pos h]
  · rw [bf h,g7i,if_neg h]
theorem g4u (i:a0o) (o:List Int) (pc off:Int) (hN:2000 < N):g3V N i o pc off = some (0,(gD (.sl a0i)).dv (emitM i o pc off).2 []):=by
 unfold g3V emitM;rw [b6S,g7j,g7m,g7l];cases hr:rightIns i with
 | false=>rfl
 | true =>
  have hf:=f9I hr;obtain ⟨⟨d0,d1⟩,⟨a0,a1⟩,b0,b1⟩:=a9Q hr;have hs:=f8h i o;rw [Bool.not_true,g7i,b4v,g7j,g7m,g7l,if_neg (by simp)];simp only [f8M,f9p i o hN,g0X i o hN,g0e i o hN,g7j,g7m,g7l,g1g _ (f1W.mk i pc off []) (by simp),g2l _ _ (f1W.mk i pc off []) (by simp),g2n _ (f1W.mk i pc off []) (by simp),g3H _ _ hs (f1W.mk i pc off []) (by simp) hN,List.nil_append,g3K o d0 d1];have g1:∀ kd,f2f N 1 { f1W.mk i pc off [] with Out:=(sentOM i o).map (fun r=>cellR kd r pc off) } = some (0,f2j.dv { f1W.mk i pc off [] with Out:=(sentOM i o).map (fun r=>cellR kd r pc off)++[cellI 1 i pc off] } []):=fun kd=>g1g _ _ (by simp; omega)
  have g9:∀ kd,f2f N 9 { f1W.mk i pc off [] with Out:=(sentOM i o).map (fun r=>cellR kd r pc off) } = some (0,f2j.dv { f1W.mk i pc off [] with Out:=(sentOM i o).map (fun r=>cellR kd r pc off)++[cellI 9 i pc off] } []):=fun kd=>g1g _ _ (by simp; omega)
  have g8:f2u N 8 i.2.2.2.1 { f1W.mk i pc off [] with Out:=[cellR 6 i.2.2.2.1 pc off] } = some (0,f2j.dv { f1W.mk i pc off [] with Out:=[cellR 6 i.2.2.2.1 pc off]++[cellR 8 i.2.2.2.1 pc off] } []):=g2l _ _ _ (by simp);simp only [g1,g9,g8,g7j,g7m,g7l];by_cases f4:formM i.1 = 4
  ·
   rw [bt f4,g7k,if_neg (show ¬ (1≤formM i.1∧formM i.1≤3) by omega),if_pos f4];cases onEM o i.2.1 <;> rfl
  rw [bf f4,g7i];by_cases f5:formM i.1 = 5
  ·
   rw [bt f5,g7k,if_neg (show ¬ (1≤formM i.1∧formM i.1≤3) by omega),if_neg f4,if_pos f5];by_cases h:ownM o i.2.2.2.1 = 1
   · rw [bt h,g7k,if_pos h]; rfl
   · rw [bf h,g7i,if_neg h]
  rw [bf f5,g7i];by_cases f6:formM i.1 = 6
  ·
   rw [bt f6,g7k,if_neg (show ¬ (1≤formM i.1∧formM i.1≤3) by omega),if_neg f4,if_neg f5,if_pos f6];cases anyEM o (readsM i) <;> rfl
  rw [bf f6,g7i];by_cases f7:formM i.1 = 7
  · rw [bt f7,g7k,if_neg (show ¬ (1≤formM i.1∧formM i.1≤3) by omega),if_neg f4,if_neg f5,if_neg f6,if_pos f7]
  rw [bf f7,g7i];by_cases f8:formM i.1 = 8
  · rw [bt f8,g7k,if_neg (show ¬ (1≤formM i.1∧formM i.1≤3) by omega),if_neg f4,if_neg f5,if_neg f6,if_neg f7,if_pos f8]
  rw [bf f8,g7i,if_pos (show 1≤formM i.1∧formM i.1≤3 by omega)];by_cases h:sideOM i o = 1
  · rw [show (sideOM i o != 1) = false by rw [h]; rfl,g7i,if_pos h]
  · rw [show (sideOM i o != 1) = true from bne_iff_ne.2 h,g7k,if_neg h]
end Go.Proofs.Zz

/- The program's blocks are the reference's. -/
set_option maxRecDepth 100000
namespace Go.Proofs.Zz
open Go
variable {N:Nat}
theorem g5r (a b:Int):f5U N a b = some (0,gB.dv (decide (a < b)) []):=by
 unfold f5U f5n;rw [show (a != a) = false by simp,g7j,g7m,g7l,g7i]
theorem g5X {i j:Nat} (h:i+j≤1000000):w.i64 (shr .u64 (w.u64 (w.i64 ((i:Int)+(j:Int)))) 1) = (((i+j) / 2:Nat):Int):=by
 rw [wI (x:=(i:Int)+(j:Int)) (by omega) (by omega)];have h1:w.u64 ((i:Int)+(j:Int)) = ((i+j:Nat):Int):=by
  simp only [w.u64,IntKind.wrap_u64];omega
 rw [h1];have h2:shr .u64 ((i+j:Nat):Int) 1 = (((i+j) / 2:Nat):Int):=by
  unfold shr;rw [show (2:Int) ^ (min (1:Int).toNat IntKind.u64.bits) = 2 from rfl,Int.fdiv_eq_ediv_of_nonneg _ (by omega)];omega
 rw [h2,wI (by omega) (by omega)]
theorem g5w (l:List Int) (hl:l.length≤2000) (x L:Int) (k:Nat) (hk:∀ m,m < l.length→(l.getD m 0 < x↔m < k)):∀ (n i j:Nat),i≤k→k≤j→j≤l.length→j - i < n →
  f2r N n l x L (i:Int) (j:Int) = some (1,(gD (.sl tI)).dv l (gI.dv x (gI.dv L (gI.dv (k:Int) [])))):=by
 intro n;induction n with
 | zero=>intro i j h1 h2 h3 h4; omega
 | succ n ih =>
  intro i j h1 h2 h3 h4;show f2N N (f2r N n) l x L (i:Int) (j:Int) = _;unfold f2N;by_cases hij:i < j
  ·
   have hm:(i+j) / 2 < l.length:=by omega
   have hk2:=hk _ hm;rw [dt (show (i:Int) < (j:Int) by omega),g7k];simp only [g5X (i:=i) (j:=j) (by omega)];rw [show decide ((1:Int) < 0) = false from rfl,g7w,a1Q hm,g7n,g5r,g7j,g7m,g7l,Int.toNat_natCast];by_cases hx:l.getD ((i+j) / 2) 0 < x
   ·
    rw [dt hx,g7k,wS (by omega)];exact ih _ _ (by have:=hk2.1 hx; omega) h2 h3 (by omega)
   ·
    rw [df hx,g7i];exact ih _ _ h1 (by by_cases h:(i+j) / 2 < k; exact absurd (hk2.2 h) hx; omega) (by omega) (by omega)
  · rw [df (show ¬ (i:Int) < (j:Int) by omega),g7i,show i = k by omega]
theorem g6r (l:List Int) (hl:l.length≤2000) (hs:∀ j k,j < k→k < l.length→l.getD j 0 < l.getD k 0) {x:Int} (hx:x∈l) (hN:2000 < N):f2b N l x = some (0,gI.dv (findL l x) (gB.dv true [])):=by
 have hlt:=List.idxOf_lt_length_of_mem hx;have he:l.getD (List.idxOf x l) 0 = x:=by
  rw [List.getD_eq_getElem?_getD,List.getElem?_eq_getElem hlt,Option.getD_some];exact List.getElem_idxOf hlt
 have hf:findL l x = (List.idxOf x l:Nat):=by unfold findL; rw [if_pos hx]
 have hk:∀ k,k < l.length→l.getD k 0 = x→∀ m,m < l.length→(l.getD m 0 < x↔m < k):=by
  intro k hk e m hm;rw [← e];constructor
  ·
   intro h;rcases Nat.lt_trichotomy m k with c | c | c
   · exact c
   · subst c; omega
   · have:=hs k m c hm; omega
  ·
   intro h;exact hs m k h hk
 have h:=g5w (N:=N) l hl x (len l) (List.idxOf x l) (hk _ hlt he) N 0 l.length (by omega) (by omega) (by omega) (by omega);unfold f2b;rw [show f2r N N l x (len l) 0 (len l) = _ from h,g7u];simp only [g7m,g7l];rw [a1f hlt,g7k,a1Q hlt,g7n,Int.toNat_natCast,he,bt rfl,g7k,hf]
theorem g5m (p:a0s):∀ j k,j < k→k < (leadI p).length→(leadI p).getD j 0 < (leadI p).getD k 0:=(f2C p).up
theorem g5q {p:a0s} (hr:rightP p = true) {j:Nat} (hj:j < p.Code.length) (hb:brM (codeM p j) = true) (hN:2000 < N):f2b N (leadI p) (tgtM p (j:Int)) = some (0,gI.dv (findL (leadI p) (tgtM p (j:Int))) (gB.dv true [])):=by
 have ht:=g3S hr hj hb;have hlt:=g3t ht.1;have hm:markM p p.Code.length (tgtM p (j:Int)).toNat = true:=g2r hj (by unfold hitM; rw [dt (show tgtM p (j:Int) = ((tgtM p (j:Int)).toNat:Int) by omega),Bool.true_or])
 refine g6r _ ?_ (g5m p) ?_ hN
 · have:=(f2C p).len; have:=(f2e hr).2.1; omega
 ·
  unfold leadI leadM;exact List.mem_map.2 ⟨(tgtM p (j:Int)).toNat,List.mem_filter.2 ⟨List.mem_range.2 (by omega),hm⟩,by omega⟩
theorem form78 {i:a0o} (h:rightIns i = true):(formM i.1 = 7↔i.1 = 40)∧(formM i.1 = 8↔i.1 = 41):=by
 have hf:=f9I h;unfold formM at *
 repeat' split at *
 all_goals constructor <;> constructor <;> intro <;> omega
theorem g4C (p:a0s) (hr:rightP p = true) (hN:2000 < N):∀ (n i:Nat),i≤(leadI p).length→(leadI p).length - i < n →
    f3f N n (leadI p) ((List.range i).map (cutB p (leadI p))) (leadI p) (len (leadI p)) (i:Int) p = some (1,(gD (.sl tB0)).dv (cutM p) []):=by
  obtain ⟨hc1,hc2,hc3⟩:=f2e hr;have hl:=f2C p;have hL:=hl.len;intro n;induction n with
  | zero=>intro i h1 h2; omega
  | succ n ih =>
    intro i h1 h2;show f5l N (f3f N n) (leadI p) _ (leadI p) _ (i:Int) p = _;unfold f5l;by_cases hi:i < (leadI p).length
    · have hw:=wS (show i≤100000000 by omega)
      have hfr:=hl.lo i (by omega);have hrec:=ih (i+1) (by omega) (by omega);rw [List.range_succ,List.map_append,List.map_cons,List.map_nil] at hrec;have hfl:=fun (h:i+1 < (leadI p).length)=>g4B (p:=p) h
      have hbs:=fun (j:Nat) hj hb=>g5q (N:=N) hr (j:=j) hj hb hN
      have hfe:=g5j p;unfold frB at hfl;have htb:0≤toM p (leadI p) i - 1∧toM p (leadI p) i - 1 < p.Code.length∧toM p (leadI p) i - 1≤100000:=by
        unfold toM;split
        · rename_i hj
          have hto:=hl.lo (i+1) (by omega);have hup:=hl.up i (i+1) (by omega) (by omega);omega
        · simp only [len]; omega
      generalize hbs':(List.range i).map (cutB p (leadI p)) = bs at *;have hbl:bs.length = i:=by rw [← hbs']; simp
      have hre:∀ x:D0,rm bs [x] 80 = true:=fun x=>rmT (by simp; omega)
      rw [a1f hi];simp only [g7k,a1Q hi,g7n,Int.toNat_natCast,hw]
      -- the branch's target
      have tgt:∀ (T nx:Int),T = toM p (leadI p) i→nx = nxM p (leadI p) T →
          on1 (f2k N p (T - 1)) (gg [pI,pB] fun (x7:Int) (x8:Bool) =>
            bi x8 (
             on1 (f2b N (leadI p) x7)<|gg [pI,pB]<|fun (x9:Int) (x10:Bool) =>
             gd (rm bs [(((leadI p).getD i 0,(T,(nx,(x9,((),((),())))))):D0)] 80) <|
             f3f N n (leadI p) (bs++[(((leadI p).getD i 0,(T,(nx,(x9,((),((),())))))):D0)]) (leadI p) (len (leadI p)) ((i+1:Nat):Int) p) <|
            gd (rm bs [(((leadI p).getD i 0,(T,(nx,((-1:Int),((),((),())))))):D0)] 80) <|
            f3f N n (leadI p) (bs++[(((leadI p).getD i 0,(T,(nx,((-1:Int),((),((),())))))):D0)]) (leadI p) (len (leadI p)) ((i+1:Nat):Int) p) = some (1,(gD (.sl tB0)).dv (cutM p) []):=by
        intro T nx hT hnx;rw [← hT] at htb;obtain ⟨j,hj⟩:∃ j:Nat,T - 1 = (j:Int):=⟨(T - 1).toNat,by omega⟩
        have hjl:j < p.Code.length:=by omega
        rw [← hrec];unfold cutB tkM;rw [← hT,← hnx,hj,f5I p j hjl,g7j,g7m,g7m,g7l];cases hb:brM (codeM p j) with
        | true =>
          have ht:=g3S hr hjl hb;rw [g7k,ht.2.2,hbs j hjl hb,g7j,g7m,g7m,g7l,hre,g7n,if_pos (show tgtM p (j:Int)≥0 from ht.1)]
        | false =>
          have ht:tgtM p (j:Int) = -1:=by
            unfold tgtM;rw [Int.toNat_natCast,hb,if_neg]
            rintro ⟨h,_⟩
            cases h
          rw [g7i,hre,g7n,ht,if_neg (by decide)]
      by_cases hj:i+1 < (leadI p).length
      · have eT:toM p (leadI p) i = (leadI p).getD (i+1) 0:=if_pos hj
        have hw2:w.i64 ((leadI p).getD (i+1) 0 - 1) = (leadI p).getD (i+1) 0 - 1:=wI (by rw [← eT]; omega) (by rw [← eT]; omega);rw [a1f hj];simp only [g7k,a1Q hj,g7n,Int.toNat_natCast,hw2];rw [a1l (i:=(leadI p).getD (i+1) 0 - 1) (n:=p.Code.length) (by rw [← eT]; omega) (by rw [← eT]; omega),g7n];have hri:rightIns (codeM p ((leadI p).getD (i+1) 0 - 1).toNat) = true:=(g3J hr (by omega)).1;have hf:=form78 hri;have hnx:nxM p (leadI p) ((leadI p).getD (i+1) 0) = if (codeM p ((leadI p).getD (i+1) 0 - 1).toNat).1≠40∧(codeM p ((leadI p).getD (i+1) 0 - 1).toNat).1≠41 then ((i+1:Nat):Int) else -1:=by
          unfold nxM;rw [hfl hj]
        rw [b4v,g7j,g7m,g7l,show p.Code.getD ((leadI p).getD (i+1) 0 - 1).toNat a0o.z = codeM p ((leadI p).getD (i+1) 0 - 1).toNat from rfl];by_cases f7:formM (codeM p ((leadI p).getD (i+1) 0 - 1).toNat).1 = 7
        · rw [show (formM (codeM p ((leadI p).getD (i+1) 0 - 1).toNat).1 != 7) = false by rw [f7]; rfl,g7i]
          exact tgt _ _ eT.symm (by rw [hnx,if_neg]; rintro ⟨h,_⟩; exact h (hf.1.1 f7))
        rw [show (formM (codeM p ((leadI p).getD (i+1) 0 - 1).toNat).1 != 7) = true from bne_iff_ne.2 f7,g7k];by_cases f8:formM (codeM p ((leadI p).getD (i+1) 0 - 1).toNat).1 = 8
        · rw [show (formM (codeM p ((leadI p).getD (i+1) 0 - 1).toNat).1 != 8) = false by rw [f8]; rfl,g7i]
          exact tgt _ _ eT.symm (by rw [hnx,if_neg]; rintro ⟨_,h⟩; exact h (hf.2.1 f8))
        rw [show (formM (codeM p ((leadI p).getD (i+1) 0 - 1).toNat).1 != 8) = true from bne_iff_ne.2 f8,g7k];exact tgt _ _ eT.symm (by rw [hnx,if_pos]; exact ⟨fun h=>f7 (hf.1.2 h),fun h=>f8 (hf.2.2 h)⟩)
      · have eT:toM p (leadI p) i = len p.Code:=if_neg hj
        have hw2:w.i64 (len p.Code - 1) = len p.Code - 1:=wI (by rw [← eT]; omega) (by rw [← eT]; omega);rw [a1e (by omega)];simp only [g7i,hw2];rw [a1l (i:=len p.Code - 1) (n:=p.Code.length) (by rw [← eT]; omega) (by rw [← eT]; omega),g7n,b4v,g7j,g7m,g7l];exact tgt _ _ eT.symm (by unfold nxM; rw [hfe]; split <;> rfl)
    · have:i = (leadI p).length:=by omega
      subst this;rw [a1e (by omega)];rfl
theorem g2h (p:a0s) (hN:2000 < N) (hr:rightP p = true):f8g N p = some (0,(gD (.sl tB0)).dv (cutM p) []):=by
 unfold f8g;have hl:=(f2C p).len;have h4:=g4C (N:=N) p hr hN N 0 (by omega) (by have:=(f2e hr).2.1; omega);rw [f9C p hN hr,g7j,g7m,g7l];rw [show f3f N N (leadI p) [] (leadI p) (len (leadI p)) 0 p = _ from h4];rfl
end Go.Proofs.Zz
