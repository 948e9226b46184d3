import Derived.Test.YtnfpdmhdpeffjaaGreatMD
import Derived.KernelRfl
set_option linter.unusedSimpArgs false
set_option linter.unusedVariables false
/- What A comes to in a cycle: the program's place, how far ahead it is, its plain cells. -/
namespace Go.Proofs.Zz
open Go
variable {N:Nat}
def atA (s:a0g) (x:a0b):a0h × Int × Bool × a0b :=
 if x.A.Halted = true∨x.A.Wait > x.Cycle then (a0h.z,0,false,x)
 else
  let p:=settleM s false x.A.Pos
  let x1:a0b:={ x with A:={ x.A with Pos:=p.1 } }
  let x2:=if p.2 = true then noteM x1 4 (nextM s false p.1).2.1 (blockM s p.1.Block).2.1 else x1
  ((nextM s false p.1).1,(nextM s false p.1).2.1,(nextM s false p.1).2.2 && !stoppedM x2 (nextM s false p.1).2.1,x2)
theorem e7B (s:a0g) (x:a0b) (hl:s.Blocks.length≤100000) (hN:s.Blocks.length < N) (hn:NextOk s) (hb:hasM s x.A.Pos.Block = true) :
  b7O N s false x = some (0,a0G.dv (atA s x).1 (gI.dv (atA s x).2.1 (gB.dv (atA s x).2.2.1 (a0c.dv (atA s x).2.2.2 [])))):=by
 unfold b7O atA;cases hh:x.A.Halted with
 | true=>rw [if_pos (.inl rfl)]; rfl
 | false =>
  by_cases hw:x.A.Wait > x.Cycle
  · rw [dt hw,if_pos (.inr hw)]; rfl
  ·
   rw [df hw,if_neg (by simp [hw]),g7i,g7i];have hs:=a3G hn false s.Blocks.length x.A.Pos hb;rw [show settleN s false s.Blocks.length x.A.Pos = settleM s false x.A.Pos from rfl] at hs;simp only [b0l s false x.A.Pos hl hN,g7j,g7m,g7l,a6W s false _ hl hN,c3Q,b8F];generalize settleM s false x.A.Pos = p at *;obtain ⟨p,f⟩:=p;rw [show s.Blocks.getD p.Block.toNat a0x.z = blockM s p.Block from rfl,a7X hs];cases f with
   | true =>
    simp only [g7k,g7n,if_true];cases (nextM s false p).2.2 <;> rfl
   | false =>
    simp only [g7i,Bool.false_eq_true,if_false];cases (nextM s false p).2.2 <;> rfl
def reachM (a b sl:Int):Bool :=
 if a≥b then (if sl≤0 then true else decide (w.u64 (w.u64 a - w.u64 b)≥w.u64 sl)) else (if sl < 0 then decide (w.u64 (w.u64 b - w.u64 a)≤w.u64 (0 - w.u64 sl)) else false)
theorem d9S (a b sl:Int):a9E N a b sl = some (0,gB.dv (reachM a b sl) []):=by
 unfold a9E reachM;by_cases h:a≥b
 ·
  rw [dt h,g7k,if_pos h];by_cases h2:sl≤0
  · rw [dt h2,g7k,if_pos h2]
  · rw [df h2,g7i,if_neg h2]
 ·
  rw [df h,g7i,if_neg h];by_cases h2:sl < 0
  · rw [dt h2,g7k,if_pos h2]
  · rw [df h2,g7i,if_neg h2]
def aheadM (c:a0f) (s:a0g) (x:a0b):Bool :=
 !x.E.Halted && ((nextM s true x.E.Pos).2.2 && ((nextM s false x.A.Pos).2.2 && reachM (nextM s false x.A.Pos).2.1 (nextM s true x.E.Pos).2.1 c.Slip))
theorem e4O (c:a0f) (s:a0g) (x:a0b) (hl:s.Blocks.length≤100000) (hN:s.Blocks.length < N):b5c N c s x = some (0,gB.dv (aheadM c s x) []):=by
 unfold b5c aheadM;simp only [a6W s true _ hl hN,a6W s false _ hl hN,g7j,g7m,g7l,d9S];cases x.E.Halted with
 | true=>rfl
 | false =>
  cases (nextM s true x.E.Pos).2.2 with
  | false=>rfl
  | true=>cases (nextM s false x.A.Pos).2.2 <;> rfl
def doA (c:a0f) (k:a0h) (st:Int) (x:a0b):a0b :=
 if (doM k.2.1 (getM x.A k.2.1.2.2.1) (getM x.A k.2.1.2.2.2.1)).2 = true then
  { x with A:=behindM (setM x.A k.2.1.2.1 (doM k.2.1 (getM x.A k.2.1.2.2.1) (getM x.A k.2.1.2.2.2.1)).1 (w.i64 (x.Cycle+latM c k.2.1.1))) }
 else noteM x 3 st k.2.2.2.1
theorem e6J (c:a0f) (k:a0h) (st:Int) (x:a0b) (h:∀ r∈x.A.Regs,U32 r):b3q N c k st x = some (0,a0c.dv (doA c k st x) []):=by
 unfold b3q doA;simp only [a3A,g7j,g7m,g7l,d6i k.2.1 (b1T h _) (b1T h _),c3Q,b9w,b2z,a3t];cases (doM k.2.1 (getM x.A k.2.1.2.2.1) (getM x.A k.2.1.2.2.2.1)).2 <;> rfl
def branchA (s:a0g) (k:a0h) (n:Int) (x:a0b):a0b :=
 if len x.Abq≥n then x else { x with A:=goD s x.Cycle x.A (takenM k.2.1.1 (getM x.A k.2.1.2.2.1) (getM x.A k.2.1.2.2.2.1)),Abq:=x.Abq++[takenM k.2.1.1 (getM x.A k.2.1.2.2.1) (getM x.A k.2.1.2.2.2.1)] }
theorem d7g (s:a0g) (k:a0h) (n:Int) (x:a0b) (h:x.Abq.length≤1000):a2K N s k n x = some (0,a0c.dv (branchA s k n x) []):=by
 unfold a2K branchA;by_cases hq:len x.Abq≥n
 · rw [dt hq,if_pos hq]; rfl
 ·
  rw [df hq,if_neg hq,g7i];simp only [a3A,g7j,g7m,g7l,c5r,rmT (show (x.Abq.length+[takenM k.2.1.1 (getM x.A k.2.1.2.2.1) (getM x.A k.2.1.2.2.2.1)].length)*1≤35184372088832 by simp; omega),g7n,b4E]
def followA (s:a0g) (x:a0b):a0b :=
 if x.Ebq.length = 0 then x else { x with A:=goD s x.Cycle x.A (x.Ebq.getD 0 false),Ebq:=x.Ebq.drop 1 }
theorem d7p (s:a0g) (x:a0b):a2M N s x = some (0,a0c.dv (followA s x) []):=by
 unfold a2M followA;rw [len0];by_cases hq:x.Ebq.length = 0
 · rw [dt hq,if_pos hq]; rfl
 ·
  rw [df hq,if_neg hq,g7i,a1l (i:=0) (by omega) (by omega),sb_1 hq];simp only [g7n,b4E,g7j,g7m,g7l]
end Go.Proofs.Zz

/- A's queues: reserving, pushing, searching, bypassing. -/
namespace Go.Proofs.Zz
open Go
variable {N:Nat}
theorem d9Q (l:List a0q) (n t:Int) (h:l.length≤1000):a9U N l n t = some (0,(gD (.sl a0k)).dv (if len l < n then l++[(t,(false,(0,())))] else l) (gB.dv (decide (len l < n)) [])):=by
 unfold a9U a1a;rw [rm0 (by omega),g7n,List.nil_append,g7j,g7m,g7l];by_cases hq:len l < n
 · rw [df (show ¬ len l≥n by omega),g7i,rmT (by simp; omega),g7n,if_pos hq,dt hq]
 · rw [dt (show len l≥n by omega),g7k,if_neg hq,df hq]
theorem e7J (l:List a0a) (n:Int) (e:a0a) (h:l.length≤1000):c6E N l n e = some (0,(gD (.sl a0t)).dv (if len l < n then l++[e] else l) (gB.dv (decide (len l < n)) [])):=by
 unfold c6E a1B;rw [rm0 (by omega),g7n,List.nil_append,g7j,g7m,g7l];by_cases hq:len l < n
 · rw [df (show ¬ len l≥n by omega),g7i,rmT (by simp; omega),g7n,if_pos hq,dt hq]
 · rw [dt (show len l≥n by omega),g7k,if_neg hq,df hq]
def beforeM (a n b:Int):Bool:=decide (a≤b) && decide (w.u64 (w.u64 b - w.u64 a) < w.u64 n)
theorem e2N (a n b:Int):a8G N a n b = some (0,gB.dv (beforeM a n b) []):=by
 unfold a8G beforeM;rw [a8H]
def overM (a n b m:Int):Bool:=decide (n≥1) && (decide (m≥1) && (beforeM a n b || beforeM b m a))
theorem c3b (a n b m:Int):a7c N a n b m = some (0,gB.dv (overM a n b m) []):=by
 unfold a7c overM;simp only [e2N,g7j,g7m,g7l];cases decide (n≥1) <;> cases decide (m≥1) <;> cases beforeM a n b <;> rfl
def searchM (l:List a0a) (a n:Int):Nat→a0a × Bool
 | 0=>(a0a.z,false)
 | i+1=>if overM (l.getD i a0a.z).1 (l.getD i a0a.z).2.1 a n = true then (l.getD i a0a.z,true) else searchM l a n i
theorem d8z (l:List a0a) (hl:l.length≤1000) (a m:Int):∀ (n i:Nat),i≤l.length→i < n →
  onB 0 1 (a9s N n l a m ((i:Int) - 1) (a0a.z)) (gg [pB,a0B] fun (x3:Bool) (x4:a0a)=>some (0,a0M.dv x4 (gB.dv x3 []))) (gg [a0B] fun (x5:a0a)=>some (0,a0M.dv (a0a.z) (gB.dv false []))) = some (0,a0M.dv (searchM l a m i).1 (gB.dv (searchM l a m i).2 [])):=by
 intro n;induction n with
 | zero=>intro i h0 h1; omega
 | succ n ih =>
  intro i h0 h1;show onB 0 1 (a9O N (a9s N n) l a m ((i:Int) - 1) (a0a.z)) _ _ = _;unfold a9O;cases i with
  | zero =>
   rw [df (show ¬ ((0:Nat):Int) - 1≥0 by omega),g7i,g7t _ _ (by decide),g7m,g7l];rfl
  | succ i =>
   rw [show ((i+1:Nat):Int) - 1 = (i:Int) by omega,dt (show (i:Int)≥0 by omega),g7k];simp only [a1Q (show i < l.length by omega),g7n,c3b,g7j,g7m,g7l,Int.toNat_natCast];rw [searchM];cases overM (l.getD i a0a.z).1 (l.getD i a0a.z).2.1 a m with
   | true =>
    rw [g7k,g7v,g7m,g7m,g7l,if_pos rfl]
   | false =>
    rw [g7i,if_neg (by simp),wI (x:=(i:Int) - 1) (by omega) (by omega)];exact ih i (by omega) (by omega)
theorem e2I (l:List a0a) (hl:l.length≤1000) (a m:Int) (hN:1001 < N):b8i N l a m = some (0,a0M.dv (searchM l a m l.length).1 (gB.dv (searchM l a m l.length).2 [])):=by
 unfold b8i;rw [show w.i64 (len l - 1) = (l.length:Int) - 1 from wI (by simp only [len]; omega) (by simp only [len]; omega)];exact d8z (N:=N) l hl a m N l.length (Nat.le_refl _) (by omega)
end Go.Proofs.Zz

/- A's loads and stores: bypassing, filling. -/
namespace Go.Proofs.Zz
open Go
variable {N:Nat}
def signM (op v:Int):Int:=if op = 27 then w.u32 (w.i32 (w.i16 v)) else if op = 29 then w.u32 (w.i32 (w.i8 v)) else v
theorem d8a (op v:Int):b3J N op v = some (0,gW.dv (signM op v) []):=by
 unfold b3J signM;simp only [a1u,beq_iff_eq]
 repeat' split
 all_goals rfl
def bypM (e:a0a) (op a:Int):Int × Bool:=if op < 26∨op > 30∨e.2.2.2.1 = false∨e.1≠a∨e.2.1≠sizeM op then (0,false) else (signM op e.2.2.2.2.1,true)
theorem e2h (e : a0a) (op a : Int) : b8E N e op a = some (0, gW.dv (bypM e op a).1 (gB.dv (bypM e op a).2 [])) := by
  unfold b8E
  simp only [b5j, d8a, g7j, g7m, g7l]
  by_cases h : op < 26 ∨ op > 30 ∨ e.2.2.2.1 = false ∨ e.1 ≠ a ∨ e.2.1 ≠ sizeM op
  · rw [show bypM e op a = (0, false) from if_pos h]
    by_cases h1 : op < 26
    · rw [dt h1, g7k]
    rw [df h1, g7i]
    by_cases h2 : op > 30
    · rw [dt h2, g7k]
    rw [df h2, g7i]
    cases h3 : e.2.2.2.1 with
    | false => rfl
    | true =>
      rw [Bool.not_true, g7i]
      by_cases h4 : e.1 ≠ a
      · rw [show (e.1 != a) = true from bne_iff_ne.2 h4, g7k]
      · have h5 : e.2.1 ≠ sizeM op := by
          rcases h with h | h | h | h | h
          · exact absurd h h1
          · exact absurd h h2
          · rw [h3] at h; cases h
          · exact absurd h h4
          · exact h
        rw [show (e.1 != a) = false by simpa using h4, g7i, show (e.2.1 != sizeM op) = true from bne_iff_ne.2 h5, g7k]
  · rw [show bypM e op a = (signM op e.2.2.2.2.1, true) from if_neg h]
    have h3 : e.2.2.2.1 = true := by
      cases h3 : e.2.2.2.1 with
      | false => exact absurd (.inr (.inr (.inl h3))) h
      | true => rfl
    rw [df (show ¬ op < 26 by omega), df (show ¬ op > 30 by omega), h3, show (e.1 != a) = false by simp; omega, show (e.2.1 != sizeM op) = false by simp; omega]
    rfl
theorem e4h (e:a0q) (t:Int):b2q N e t = some (0,gB.dv ((e.1 == t) && !e.2.1) (gI.dv t [])):=by
 unfold b2q;cases (e.1 == t) <;> rfl
def findM (l:List a0q) (t:Int):Nat→Nat→Int
 | 0,_=>-1
 | n+1,i=>if ((l.getD i a0q.z).1 == t && !(l.getD i a0q.z).2.1) = true then i else findM l t n (i+1)
theorem e1G (l:List a0q) (hl:l.length≤1000) (t:Int):∀ (n i:Nat),i≤l.length→l.length - i < n →
  onB 0 1 (a1Y N n l (len l) (i:Int) t) (gg [pI,pI] fun (x2:Int) (x3:Int)=>some (0,gI.dv x2 (gI.dv x3 []))) (gg [pI] fun (x4:Int)=>some (0,gI.dv (-1:Int) (gI.dv x4 []))) = some (0,gI.dv (findM l t (l.length - i) i) (gI.dv t [])):=by
 intro n;induction n with
 | zero=>intro i h0 h1; omega
 | succ n ih =>
  intro i h0 h1;show onB 0 1 (a1W N (a1Y N n) l (len l) (i:Int) t) _ _ = _;unfold a1W;by_cases hi:i < l.length
  ·
   rw [a1f hi,show l.length - i = (l.length - (i+1))+1 by omega];simp only [g7k,a1Q hi,g7n,e4h,g7j,g7m,g7l,Int.toNat_natCast,wS (show i≤100000000 by omega)];rw [findM];cases ((l.getD i a0q.z).1 == t && !(l.getD i a0q.z).2.1) with
   | true=>rw [g7k,g7v,g7m,g7m,g7l,if_pos rfl]
   | false =>
    rw [g7i,if_neg (by simp)];exact ih (i+1) (by omega) (by omega)
  ·
   rw [a1e (by omega),show l.length - i = 0 by omega];rfl
theorem c8b (l:List a0q) (t:Int):∀ (n i:Nat),findM l t n i = -1∨(i≤findM l t n i∧findM l t n i < i+n)
 | 0,_=>.inl rfl
 | n+1,i=>by
  unfold findM;split
  · exact .inr ⟨by omega,by omega⟩
  ·
   rcases c8b l t n (i+1) with h | ⟨h1,h2⟩
   · exact .inl h
   · exact .inr ⟨by omega,by omega⟩
def fillM (l:List a0q) (t v:Int):List a0q :=
 if findM l t l.length 0 < 0 then l else l.set (findM l t l.length 0).toNat ((l.getD (findM l t l.length 0).toNat a0q.z).1,(true,(v,())))
theorem d7f (l:List a0q) (t v:Int) (hl:l.length≤1000) (hN:1001 < N):a4T N l t v = some (0,(gD (.sl a0k)).dv (fillM l t v) (gB.dv (decide (0≤findM l t l.length 0)) [])):=by
 unfold a4T a1a a4z fillM;have h:=e1G (N:=N) l hl t N 0 (Nat.zero_le _) (by omega);simp only [Int.natCast_zero,Nat.sub_zero] at h;rw [rm0 (by omega),g7n,List.nil_append,g7j,g7m,g7l,h,g7j,g7m,g7m,g7l];rcases c8b l t l.length 0 with h1 | ⟨h1,h2⟩
 · rw [h1]; rfl
 ·
  generalize findM l t l.length 0 = r at *;obtain ⟨i,rfl⟩:∃ i:Nat,r = i:=⟨r.toNat,by omega⟩
  have hi:i < l.length:=by omega
  rw [df (show ¬ (i:Int) < 0 by omega),g7i,a1Q hi,g7n,if_neg (show ¬ (i:Int) < 0 by omega),dt (show (0:Int)≤i by omega)];simp only [Int.toNat_natCast,List.length_set,a1Q hi,g7n,List.set_set,List.getD_eq_getElem?_getD,List.getElem?_set_self hi,Option.getD_some]
theorem c2A (l:List a0q) (t v:Int):(fillM l t v).length = l.length:=by
 unfold fillM;split <;> simp
end Go.Proofs.Zz

/- A's loads and stores: the program's steps. -/
namespace Go.Proofs.Zz
open Go
variable {N:Nat}
def checkX (s a n:Int):Int:=if s = 0 then (if a > n then 2 else 0) else checkM s a n
theorem e0n (op:Int):sizeM op = 0∨sizeM op = 1∨sizeM op = 2∨sizeM op = 4:=by
 unfold sizeM
 repeat' split
 all_goals omega
theorem e1W {op a n:Int} (ha:U32 a) (hn:0≤n∧n≤100000):a1s N (sizeM op) a n = some (0,gI.dv (checkX (sizeM op) a n) []):=by
 unfold checkX;rcases e0n op with h | h
 ·
  rw [h,if_pos rfl];simp only [U32] at ha;unfold a1s;rw [wI (x:=a) (by omega) (by omega),wI (x:=a+0) (by omega) (by omega),Int.add_zero,show decide ((0:Int)≥1) = false from rfl,show decide ((0:Int) > 0) = false from rfl,show decide ((0:Int)≤0) = true from rfl];simp only [g7i];rw [g7k];by_cases h2:a > n
  · rw [dt h2,g7k,if_pos h2]
  · rw [df h2,g7i,if_neg h2]
 ·
  rw [if_neg (by omega)];exact a9V (by omega) ha hn
def addrM (k:a0h) (x:a0b):Int:=w.u32 (getM x.A k.2.1.2.2.1+w.u32 k.2.1.2.2.2.2.1)
def chkM (k:a0h) (x:a0b):Int:=checkX (sizeM k.2.1.1) (addrM k x) (len x.Mem)
theorem d0r (c:a0f) (s:a0g) (k:a0h) (st:Int) (x:a0b) (h:x.Mem.length≤100000):a2J N c s k st x = some (0,gI.dv (if chkM k x = 0 then addrM k x else 0) (gB.dv (decide (chkM k x = 0)) (a0D.dv c (a0H.dv s (a0G.dv k (gI.dv st (a0c.dv (if chkM k x = 0 then x else noteM x (chkM k x) st k.2.2.2.1) []))))))):=by
 unfold a2J c2M;have ha:U32 (addrM k x):=a5x _;have hc:=e1W (N:=N) (op:=k.2.1.1) (a:=addrM k x) (n:=len x.Mem) ha (by simp only [len]; omega);simp only [a3A,b5j,g7j,g7m,g7l,c3Q];rw [show w.u32 (getM x.A k.2.1.2.2.1+w.u32 k.2.1.2.2.2.2.1) = addrM k x from rfl,hc,g7j,g7m,g7l,show checkX (sizeM k.2.1.1) (addrM k x) (len x.Mem) = chkM k x from rfl];simp only [U32] at ha;rw [wI (x:=addrM k x) (by omega) (by omega)];by_cases h0:chkM k x = 0
 · rw [show (chkM k x != 0) = false by simpa using h0,g7i,dt h0,if_pos h0,if_pos h0]
 · rw [show (chkM k x != 0) = true from bne_iff_ne.2 h0,g7k,df h0,if_neg h0,if_neg h0]
def resM (c:a0f) (x:a0b):a0b:=if len x.Ldq < c.Ldq then { x with Ldq:=x.Ldq++[(x.Tags,(false,(0,())))],Tags:=w.i64 (x.Tags+1) } else x
theorem d0E (c:a0f) (s:a0g) (k:a0h) (st:Int) (x:a0b) (h:x.Ldq.length≤1000):a2R N c s k st x = some (0,gB.dv (decide (len x.Ldq < c.Ldq)) (a0D.dv c (a0H.dv s (a0G.dv k (gI.dv st (a0c.dv (resM c x) [])))))):=by
 unfold a2R resM;rw [d9Q _ _ _ h,g7j,g7m,g7m,g7l];by_cases hq:len x.Ldq < c.Ldq
 · rw [dt hq,g7k,if_pos hq,if_pos hq]
 · rw [df hq,g7i,if_neg hq]
def takeM (c:a0f) (k:a0h) (v:Int) (x:a0b):a0b :=
 if k.1 = 2 then { x with A:=behindM (setM x.A k.2.1.2.1 v (w.i64 (x.Cycle+1))) }
 else if len x.Ldq < c.Ldq then { (resM c x) with Ldq:=fillM (resM c x).Ldq x.Tags v,A:=behindM x.A } else x
theorem e7w (c:a0f) (s:a0g) (k:a0h) (st v:Int) (x:a0b) (h:x.Ldq.length≤900) (hN:1001 < N):a7u N v c s k st x = some (0,a0D.dv c (a0H.dv s (a0G.dv k (gI.dv st (a0c.dv (takeM c k v x) []))))):=by
 unfold a7u takeM;simp only [b2z,a3t,g7j,g7m,g7l,d0E c s k st x (by omega)];by_cases h2:k.1 = 2
 · rw [bt h2,g7k,if_pos h2]
 ·
  rw [bf h2,g7i,if_neg h2];by_cases hq:len x.Ldq < c.Ldq
  ·
   rw [dt hq,Bool.not_true,g7i,if_pos hq,d7f _ _ _ (by unfold resM; rw [if_pos hq]; simp; omega) hN,g7j,g7m,g7m,g7l];unfold resM;rw [if_pos hq]
  ·
   rw [df hq,Bool.not_false,g7k,if_neg hq];unfold resM;rw [if_neg hq]
end Go.Proofs.Zz

/- A's turn: the program. -/
namespace Go.Proofs.Zz
open Go
variable {N:Nat}
def reqOf (k:a0h) (a reg tag:Int):a0e:=(false,(k.2.1.1,(a,(sizeM k.2.1.1,(0,(0,(reg,(tag,()))))))))
def askM (c:a0f) (k:a0h) (a:Int) (x:a0b):a0b :=
 if k.1 = 3 then (if len x.Ldq < c.Ldq then { (resM c x) with Table:=x.Table++[reqOf k a (-1) x.Tags],A:=behindM x.A } else x)
 else if 0 < k.2.1.2.1∧k.2.1.2.1 < 16 then { x with A:=behindM { x.A with Ready:=x.A.Ready.set k.2.1.2.1.toNat (-1) },Table:=x.Table++[reqOf k a k.2.1.2.1 0] }
 else { x with A:=behindM x.A,Table:=x.Table++[reqOf k a k.2.1.2.1 0] }
theorem e8T (c:a0f) (s:a0g) (k:a0h) (st a:Int) (x:a0b) (h:x.Ldq.length≤900) (ht:x.Table.length≤900):a8m N a c s k st x = some (0,a0D.dv c (a0H.dv s (a0G.dv k (gI.dv st (a0c.dv (askM c k a x) []))))):=by
 unfold a8m askM;have hr:∀ q:a0e,rm x.Table [q] 64 = true:=fun q=>rmT (by simp; omega)
 simp only [b5j,a3t,g7j,g7m,g7l,d0E c s k st x (by omega),hr,g7n];by_cases h3:k.1 = 3
 ·
  rw [bt h3,g7k,if_pos h3];by_cases hq:len x.Ldq < c.Ldq
  ·
   rw [dt hq,Bool.not_true,g7i,if_pos hq];unfold resM;rw [if_pos hq];simp only [hr,g7n];rfl
  ·
   rw [df hq,Bool.not_false,g7k,if_neg hq];unfold resM;rw [if_neg hq]
 ·
  rw [bf h3,g7i,if_neg h3];by_cases h4:0 < k.2.1.2.1∧k.2.1.2.1 < 16
  ·
   rw [dt (show k.2.1.2.1 > 0 from h4.1),g7k,dt h4.2,g7k,a1l (by omega) (by omega),g7n,if_pos h4];rfl
  ·
   rw [if_neg h4];by_cases h5:k.2.1.2.1 > 0
   ·
    rw [dt h5,g7k,df (show ¬ k.2.1.2.1 < 16 by omega),g7i];rfl
   ·
    rw [df h5,g7i];rfl
def loadM (c:a0f) (k:a0h) (st:Int) (x:a0b):a0b :=
 if chkM k x≠0 then noteM x (chkM k x) st k.2.2.2.1
 else if (searchM x.Saq (addrM k x) (sizeM k.2.1.1) x.Saq.length).2 = true then
  (if (bypM (searchM x.Saq (addrM k x) (sizeM k.2.1.1) x.Saq.length).1 k.2.1.1 (addrM k x)).2 = true then takeM c k (bypM (searchM x.Saq (addrM k x) (sizeM k.2.1.1) x.Saq.length).1 k.2.1.1 (addrM k x)).1 x else x)
 else if len x.Table < c.Flight then askM c k (addrM k x) x else x
theorem e7K (c:a0f) (s:a0g) (k:a0h) (st:Int) (x:a0b) (hm:x.Mem.length≤100000) (h:x.Ldq.length≤900) (ht:x.Table.length≤900) (hs:x.Saq.length≤1000) (hN:1001 < N):a2o N c s k st x = some (0,a0D.dv c (a0H.dv s (a0G.dv k (gI.dv st (a0c.dv (loadM c k st x) []))))):=by
 unfold a2o loadM;simp only [d0r c s k st x hm,g7j,g7m,g7l];by_cases h0:chkM k x = 0
 ·
  rw [dt h0,Bool.not_true,g7i,if_pos h0,if_pos h0,if_neg (show ¬ (chkM k x≠0) from fun h=>h h0)];simp only [b5j,e2I _ hs _ _ hN,e2h,g7j,g7m,g7l,e7w c s k st _ x h hN,e8T c s k st _ x h ht];cases (searchM x.Saq (addrM k x) (sizeM k.2.1.1) x.Saq.length).2 with
  | true =>
   rw [g7k,if_pos rfl];cases (bypM (searchM x.Saq (addrM k x) (sizeM k.2.1.1) x.Saq.length).1 k.2.1.1 (addrM k x)).2 <;> rfl
  | false =>
   rw [g7i,if_neg (by simp)];by_cases hq:len x.Table < c.Flight
   · rw [dt hq,g7k,if_pos hq]
   · rw [df hq,g7i,if_neg hq]
 · rw [df h0,Bool.not_false,g7k,if_neg h0,if_pos (show chkM k x≠0 from h0)]
def storeM (c:a0f) (k:a0h) (st:Int) (x:a0b):a0b :=
 if chkM k x≠0 then noteM x (chkM k x) st k.2.2.2.1
 else if len x.Saq < c.Saq then { x with A:=behindM x.A,Saq:=x.Saq++[(addrM k x,(sizeM k.2.1.1,(st,(false,(0,())))))] } else x
theorem e4V (c:a0f) (s:a0g) (k:a0h) (st:Int) (x:a0b) (hm:x.Mem.length≤100000) (hs:x.Saq.length≤1000):a3R N c s k st x = some (0,a0D.dv c (a0H.dv s (a0G.dv k (gI.dv st (a0c.dv (storeM c k st x) []))))):=by
 unfold a3R storeM;simp only [d0r c s k st x hm,g7j,g7m,g7l];by_cases h0:chkM k x = 0
 ·
  rw [dt h0,Bool.not_true,g7i,if_pos h0,if_pos h0,if_neg (show ¬ (chkM k x≠0) from fun h=>h h0)];simp only [b5j,e7J _ _ _ hs,a3t,g7j,g7m,g7l];by_cases hq:len x.Saq < c.Saq
  · rw [dt hq,g7k,if_pos hq,if_pos hq]
  · rw [df hq,g7i,if_neg hq]
 · rw [df h0,Bool.not_false,g7k,if_neg h0,if_pos (show chkM k x≠0 from h0)]
end Go.Proofs.Zz

/- A's turn and cycle: the program. -/
namespace Go.Proofs.Zz
open Go
variable {N:Nat}
def actA (c:a0f) (s:a0g) (k:a0h) (st:Int) (x:a0b):a0b :=
 if k.1 = 1 then doA c k st x
 else if k.1 = 2∨k.1 = 3 then loadM c k st x
 else if k.1 = 4 then storeM c k st x
 else if k.1 = 5 then (if len x.Aeq < c.Aeq then { x with A:=behindM x.A,Aeq:=x.Aeq++[getM x.A k.2.2.1] } else x)
 else if k.1 = 9 then branchA s k c.Abq x
 else if k.1 = 10 then followA s x
 else if k.1 = 11 then { x with A:=goD s x.Cycle x.A true }
 else if k.1 = 12 then { x with A:=haltM x.A }
 else x
def turnA (c:a0f) (s:a0g) (x:a0b):a0b :=
 if (atA s x).2.2.1 = false∨aheadM c s (atA s x).2.2.2 = true∨freeM (atA s x).2.2.2.A (atA s x).1 (atA s x).2.2.2.Cycle = false then (atA s x).2.2.2 else actA c s (atA s x).1 (atA s x).2.1 (atA s x).2.2.2
def issueA (c:a0f) (s:a0g) (x:a0b):a0b:=if rightM c s x = true then turnA c s x else x
structure WfA (x:a0b):Prop where
 mem:x.Mem.length≤100000
 ldq:x.Ldq.length≤900
 tab:x.Table.length≤900
 saq:x.Saq.length≤1000
 aeq:x.Aeq.length≤1000
 abq:x.Abq.length≤1000
 gA:∀ r∈x.A.Regs,U32 r
theorem e5B (c:a0f) (s:a0g) (k:a0h) (st:Int) (x:a0b) (h:WfA x) (hN2:1001 < N) :
  bi (k.1 == 1) (on1 (b3q N c k st x)<|gg [a0d]<|fun (x9:a0b)=>some (0,a0c.dv x9 [])) (
  bi (k.1 == 2) (on1 (a2o N c s k st x)<|gg [a0l,a0m,a0E,pI,a0d]<|fun (x10:a0f) (x11:a0g) (x12:a0h) (x13:Int) (x14:a0b)=>some (0,a0c.dv x14 [])) (
  bi (k.1 == 3) (on1 (a2o N c s k st x)<|gg [a0l,a0m,a0E,pI,a0d]<|fun (x10:a0f) (x11:a0g) (x12:a0h) (x13:Int) (x14:a0b)=>some (0,a0c.dv x14 [])) (
  bi (k.1 == 4) (on1 (a3R N c s k st x)<|gg [a0l,a0m,a0E,pI,a0d]<|fun (x10:a0f) (x11:a0g) (x12:a0h) (x13:Int) (x14:a0b)=>some (0,a0c.dv x14 [])) (
  bi (k.1 == 5) (bi (decide ((len x.Aeq) < c.Aeq)) (on1 (a2s N x.A k.2.2.1)<|gg [pW]<|fun (x25:Int)=>gd (rm x.Aeq [x25] 4)<|on1 (a1i N ({ x with Aeq:=(x.Aeq++[x25]) }:a0b))<|gg [a0d]<|fun (x26:a0b)=>some (0,a0c.dv x26 [])) (some (0,a0c.dv x []))) (
  bi (k.1 == 9) (on1 (a2K N s k c.Abq x)<|gg [a0d]<|fun (x27:a0b)=>some (0,a0c.dv x27 [])) (
  bi (k.1 == 10) (on1 (a2M N s x)<|gg [a0d]<|fun (x28:a0b)=>some (0,a0c.dv x28 [])) (
  bi (k.1 == 11) (on1 (a7P N s true x)<|gg [a0d]<|fun (x29:a0b)=>some (0,a0c.dv x29 [])) (
  bi (k.1 == 12) (on1 (b1F N x)<|gg [a0d]<|fun (x30:a0b)=>some (0,a0c.dv x30 [])) (
  some (0,a0c.dv x []))))))))))
  = some (0,a0c.dv (actA c s k st x) []):=by
 have hr:∀ v:Int,rm x.Aeq [v] 4 = true:=fun v=>rmT (by have:=h.aeq; simp; omega)
 simp only [e6J c k st x h.gA,e7K c s k st x h.mem h.ldq h.tab h.saq hN2,e4V c s k st x h.mem h.saq,a3A,a3t,d7g s k _ x h.abq,d7p,b4E,c8v,g7j,g7m,g7l,hr,g7n];unfold actA;simp only [a1u,beq_iff_eq,decide_eq_true_eq];by_cases h1:k.1 = 1
 · rw [if_pos h1,if_pos h1]
 rw [if_neg h1,if_neg h1];by_cases h2:k.1 = 2
 · rw [if_pos h2,if_pos (.inl h2)]
 rw [if_neg h2];by_cases h3:k.1 = 3
 · rw [if_pos h3,if_pos (.inr h3)]
 rw [if_neg h3,if_neg (show ¬ (k.1 = 2∨k.1 = 3) by omega)]
 repeat' split
 all_goals rfl
theorem d4f (c:a0f) (s:a0g) (x:a0b) (h:WfA x) (hl:s.Blocks.length≤100000) (hN:s.Blocks.length < N) (hN2:1001 < N) (hn:NextOk s) (hb:hasM s x.A.Pos.Block = true) :
  b3K N c s x = some (0,a0c.dv (turnA c s x) []):=by
 unfold b3K turnA;simp only [e7B s x hl hN hn hb,g7j,g7m,g7l,e4O c s _ hl hN,c1g _ _ _ hN2];have hw:WfA (atA s x).2.2.2:=by
  have e:(atA s x).2.2.2.Mem = x.Mem∧(atA s x).2.2.2.Ldq = x.Ldq∧(atA s x).2.2.2.Table = x.Table∧(atA s x).2.2.2.Saq = x.Saq∧(atA s x).2.2.2.Aeq = x.Aeq∧(atA s x).2.2.2.Abq = x.Abq∧(atA s x).2.2.2.A.Regs = x.A.Regs:=by
   unfold atA noteM
   repeat' (first | split | exact ⟨rfl,rfl,rfl,rfl,rfl,rfl,rfl⟩ | simp only [])
  obtain ⟨e1,e2,e3,e4,e5,e6,e7⟩:=e;exact ⟨by rw [e1]; exact h.mem,by rw [e2]; exact h.ldq,by rw [e3]; exact h.tab,by rw [e4]; exact h.saq,by rw [e5]; exact h.aeq,by rw [e6]; exact h.abq,by rw [e7]; exact h.gA⟩
 generalize atA s x = a at *;obtain ⟨k,st,ok,y⟩:=a;simp only at hw ⊢;cases ok with
 | false=>rw [if_pos (.inl rfl)]; rfl
 | true =>
  cases ha:aheadM c s y with
  | true=>rw [if_pos (.inr (.inl rfl))]; rfl
  | false =>
   cases hf:freeM y.A k y.Cycle with
   | false=>rw [if_pos (.inr (.inr rfl))]; rfl
   | true =>
    rw [if_neg (by simp)];simp only [Bool.not_true,g7i];exact e5B c s k st y hw hN2
end Go.Proofs.Zz

/- In a cycle A does one cell at most: the model's law. -/
namespace Go.Proofs.Zz
open Go
variable {N:Nat}
structure OneA (x y:a0b):Prop where
 fr:y = { x with A:=y.A,Ldq:=y.Ldq,Aeq:=y.Aeq,Abq:=y.Abq,Ebq:=y.Ebq,Saq:=y.Saq,Table:=y.Table,Trap:=y.Trap,Tags:=y.Tags }
 on:(y.A.Done = x.A.Done∧y.Aeq.length = x.Aeq.length∧y.Abq.length = x.Abq.length∧y.Ebq.length = x.Ebq.length∧y.Saq.length = x.Saq.length) ∨
  (y.A.Done = w.i64 (x.A.Done+1)∧y.Ebq.length≤x.Ebq.length∧x.Aeq.length+x.Abq.length+x.Saq.length+y.Ebq.length≤y.Aeq.length+y.Abq.length+y.Saq.length+x.Ebq.length ∧
   y.Aeq.length+y.Abq.length+y.Saq.length+x.Ebq.length≤1+(x.Aeq.length+x.Abq.length+x.Saq.length+y.Ebq.length))
 tb:y.Table.length≤x.Table.length+1
 tg:(y.Tags = x.Tags∧y.Ldq.length = x.Ldq.length)∨(y.Tags = w.i64 (x.Tags+1)∧y.Ldq.length = x.Ldq.length+1)
theorem OneA.refl (x:a0b):OneA x x:=⟨rfl,.inl ⟨rfl,rfl,rfl,rfl,rfl⟩,by omega,.inl ⟨rfl,rfl⟩⟩
theorem c8g (x:a0b) (k st pc:Int):OneA x (noteM x k st pc):=by
 unfold noteM;split
 · exact ⟨rfl,.inl ⟨rfl,rfl,rfl,rfl,rfl⟩,by simp only; omega,.inl ⟨rfl,rfl⟩⟩
 · exact OneA.refl x
theorem c1b {x:a0b} {d:a0v} (h:d.Done = w.i64 (x.A.Done+1)):OneA x { x with A:=d } :=
 ⟨rfl,.inr ⟨h,by simp only; omega,by simp only; omega,by simp only; omega⟩,by simp only; omega,.inl ⟨rfl,rfl⟩⟩
theorem e7r (c:a0f) (k:a0h) (st:Int) (x:a0b):OneA x (doA c k st x):=by
 unfold doA;split
 · exact c1b (by simp only [behindM,b5T])
 · exact c8g _ _ _ _
theorem d7l (s:a0g) (k:a0h) (n:Int) (x:a0b):OneA x (branchA s k n x):=by
 unfold branchA;split
 · exact OneA.refl x
 · exact ⟨rfl,.inr ⟨rfl,by simp only; omega,by simp only [List.length_append,List.length_cons,List.length_nil]; omega,by simp only [List.length_append,List.length_cons,List.length_nil]; omega⟩,by simp only; omega,.inl ⟨rfl,rfl⟩⟩
theorem d7J (s:a0g) (x:a0b):OneA x (followA s x):=by
 unfold followA;split
 · exact OneA.refl x
 · exact ⟨rfl,.inr ⟨rfl,by simp only [List.length_drop]; omega,by simp only [List.length_drop]; omega,by simp only [List.length_drop]; omega⟩,by simp only; omega,.inl ⟨rfl,rfl⟩⟩
theorem e3Y (c:a0f) (k:a0h) (v:Int) (x:a0b):OneA x (takeM c k v x):=by
 unfold takeM;split
 · exact c1b (by simp only [behindM,b5T])
 ·
  split
  ·
   rename_i h;unfold resM;rw [if_pos h];exact ⟨rfl,.inr ⟨rfl,by simp only; omega,by simp only; omega,by simp only; omega⟩,by simp only; omega,.inr ⟨rfl,by simp only [c2A,List.length_append,List.length_cons,List.length_nil]⟩⟩
  · exact OneA.refl x
theorem e4W (c:a0f) (k:a0h) (a:Int) (x:a0b):OneA x (askM c k a x):=by
 unfold askM;split
 ·
  split
  ·
   rename_i h;unfold resM;rw [if_pos h];exact ⟨rfl,.inr ⟨rfl,by simp only; omega,by simp only; omega,by simp only; omega⟩,by simp only [List.length_append,List.length_cons,List.length_nil]; omega,.inr ⟨rfl,by simp only [List.length_append,List.length_cons,List.length_nil]⟩⟩
  · exact OneA.refl x
 · split <;> exact ⟨rfl,.inr ⟨rfl,by simp only; omega,by simp only; omega,by simp only; omega⟩,by simp only [List.length_append,List.length_cons,List.length_nil]; omega,.inl ⟨rfl,rfl⟩⟩
theorem e2Q (c:a0f) (k:a0h) (st:Int) (x:a0b):OneA x (loadM c k st x):=by
 unfold loadM;split
 · exact c8g _ _ _ _
 split
 ·
  split
  · exact e3Y _ _ _ _
  · exact OneA.refl x
 split
 · exact e4W _ _ _ _
 · exact OneA.refl x
theorem e1w (c:a0f) (k:a0h) (st:Int) (x:a0b):OneA x (storeM c k st x):=by
 unfold storeM;split
 · exact c8g _ _ _ _
 split
 · exact ⟨rfl,.inr ⟨rfl,by simp only; omega,by simp only [List.length_append,List.length_cons,List.length_nil]; omega,by simp only [List.length_append,List.length_cons,List.length_nil]; omega⟩,by simp only; omega,.inl ⟨rfl,rfl⟩⟩
 · exact OneA.refl x
theorem e5g (c:a0f) (s:a0g) (k:a0h) (st:Int) (x:a0b):OneA x (actA c s k st x):=by
 unfold actA;split
 · exact e7r _ _ _ _
 split
 · exact e2Q _ _ _ _
 split
 · exact e1w _ _ _ _
 split
 ·
  split
  · exact ⟨rfl,.inr ⟨rfl,by simp only; omega,by simp only [List.length_append,List.length_cons,List.length_nil]; omega,by simp only [List.length_append,List.length_cons,List.length_nil]; omega⟩,by simp only; omega,.inl ⟨rfl,rfl⟩⟩
  · exact OneA.refl x
 split
 · exact d7l _ _ _ _
 split
 · exact d7J _ _
 split
 · exact c1b rfl
 split
 · exact c1b rfl
 · exact OneA.refl x
end Go.Proofs.Zz

/- In a cycle A does one cell at most: the reference law's answer. -/
namespace Go.Proofs.Zz
open Go
variable {N:Nat}
structure CameA (x y:a0b):Prop where
 fr:y = { x with A:=y.A,Trap:=y.Trap }
 a:y.A = { x.A with Pos:=y.A.Pos }
theorem d9p (s:a0g) (x:a0b):CameA x (atA s x).2.2.2:=by
 unfold atA;split
 · exact ⟨rfl,rfl⟩
 ·
  simp only [];split
  ·
   unfold noteM;split <;> exact ⟨rfl,rfl⟩
  · exact ⟨rfl,rfl⟩
theorem CameA.one {x y z:a0b} (h:CameA x y) (h2:OneA y z):OneA x z:=by
 obtain ⟨h1,h3⟩:=h;obtain ⟨h4,h5,h6,h7⟩:=h2;have e1:y.A.Done = x.A.Done:=by rw [h3]
 have e2:y.Aeq = x.Aeq:=by rw [h1]
 have e3:y.Abq = x.Abq:=by rw [h1]
 have e4:y.Ebq = x.Ebq:=by rw [h1]
 have e5:y.Saq = x.Saq:=by rw [h1]
 have e6:y.Table = x.Table:=by rw [h1]
 have e7:y.Ldq = x.Ldq:=by rw [h1]
 have e8:y.Tags = x.Tags:=by rw [h1]
 refine ⟨?_,by rw [e1,e2,e3,e4,e5] at h5; exact h5,by rw [e6] at h6; exact h6,by rw [e7,e8] at h7; exact h7⟩
 rw [h4,h1]
theorem d3T (c:a0f) (s:a0g) (x:a0b):OneA x (turnA c s x):=by
 unfold turnA;split
 · exact (d9p s x).one (OneA.refl _)
 · exact (d9p s x).one (e5g _ _ _ _ _)
end Go.Proofs.Zz

/- ApipeOne: the reference law's answer. -/
namespace Go.Proofs.Zz
open Go
variable {N:Nat}
end Go.Proofs.Zz
