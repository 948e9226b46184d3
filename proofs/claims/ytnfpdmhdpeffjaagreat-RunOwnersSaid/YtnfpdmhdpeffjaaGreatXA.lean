import Derived.Test.YtnfpdmhdpeffjaaGreatNA
import Derived.Test.YtnfpdmhdpeffjaaGreatMD
set_option linter.unusedSimpArgs false
set_option linter.unusedVariables false
/- The reference's targets, programs that may be, and cells, word for word. -/
namespace Go.Proofs.Zz
open Go
variable {N:Nat}
/-! Targets -/
def codeM (p:a0s) (n:Nat):a0o:=p.Code.getD n a0o.z
def brM (i:a0o):Bool:=decide (formM i.1 = 6∨formM i.1 = 7)
def tgtM (p:a0s) (n:Int):Int :=
 if brM (codeM p n.toNat) = true∧-8192≤(codeM p n.toNat).2.2.2.2.1∧(codeM p n.toNat).2.2.2.2.1≤8191∧0≤n+(codeM p n.toNat).2.2.2.2.1∧n+(codeM p n.toNat).2.2.2.2.1 < len p.Code then n+(codeM p n.toNat).2.2.2.2.1 else -1
theorem g4R {n m L:Int} (h0:0≤n) (h1:n≤100000) :
  bi (decide (m < (-8192:Int))) (some (0,gI.dv (-1:Int) [])) (bi (decide (m > 8191)) (some (0,gI.dv (-1:Int) [])) (bi (decide (w.i64 (n+m) < 0)) (some (0,gI.dv (-1:Int) [])) (bi (decide (w.i64 (n+m)≥L)) (some (0,gI.dv (-1:Int) [])) (some (0,gI.dv (w.i64 (n+m)) []))))) = (some (0,gI.dv (if -8192≤m∧m≤8191∧0≤n+m∧n+m < L then n+m else -1) []):Option Rs):=by
 by_cases a1:m < -8192
 · rw [dt a1,g7k,if_neg (by omega)]
 rw [df a1,g7i];by_cases a2:m > 8191
 · rw [dt a2,g7k,if_neg (by omega)]
 rw [df a2,g7i,wI (x:=n+m) (by omega) (by omega)];by_cases a3:n+m < 0
 · rw [dt a3,g7k,if_neg (by omega)]
 rw [df a3,g7i];by_cases a4:n+m≥L
 · rw [dt a4,g7k,if_neg (by omega)]
 rw [df a4,g7i,if_pos (by omega)]
theorem g1a (p:a0s) (n:Int) (h0:0≤n) (h1:n < (p.Code.length:Int)) (hl:p.Code.length≤100000):a3N N p n = some (0,gI.dv (tgtM p n) []):=by
 unfold a3N;rw [a1l h0 h1,g7n,a1T,g7j,g7m,g7l];have hc:=g4R (n:=n) (m:=(codeM p n.toNat).2.2.2.2.1) (L:=len p.Code) h0 (by omega);unfold tgtM brM;unfold codeM at *;generalize p.Code.getD n.toNat a0o.z = i at *;by_cases f6:formM i.1 = 6
 ·
  rw [show (formM i.1 != 6) = false by rw [f6]; rfl,g7i,hc];simp only [f6,true_or,decide_true,true_and]
 rw [show (formM i.1 != 6) = true from bne_iff_ne.2 f6,g7k];by_cases f7:formM i.1 = 7
 ·
  rw [show (formM i.1 != 7) = false by rw [f7]; rfl,g7i,hc];simp only [f7,or_true,decide_true,true_and]
 ·
  rw [show (formM i.1 != 7) = true from bne_iff_ne.2 f7,g7k,if_neg];intro h;have:=of_decide_eq_true h.1;omega
def tgtOk (p:a0s) (j:Nat):Bool:=!(brM (codeM p j) && decide (tgtM p (j:Int) < 0))
theorem g0K (p:a0s) (hl:p.Code.length≤100000):∀ (n i:Nat),i≤p.Code.length→p.Code.length - i < n →
  a5h N n (i:Int) p = if (List.range' i (p.Code.length - i)).all (tgtOk p) = true then some (1,[]) else some (0,gI.dv 4 []):=by
 intro n;induction n with
 | zero=>intro i h1 h2; omega
 | succ n ih =>
  intro i h1 h2;show a6H N (a5h N n) (i:Int) p = _;unfold a6H;by_cases hi:i < p.Code.length
  ·
   have hrec:=ih (i+1) (by omega) (by omega);rw [show p.Code.length - i = (p.Code.length - (i+1))+1 by omega,List.range'_succ,List.all_cons,a1f hi,g7k,a1Q hi,g7n,a1T,g7j,g7m,g7l];simp only [g1a p (i:Int) (by omega) (by omega) hl,g7j,g7m,g7l,wS (show i≤100000000 by omega),Int.toNat_natCast];rw [hrec];unfold tgtOk brM codeM;generalize p.Code.getD i a0o.z = k;generalize (List.range' (i+1) (p.Code.length - (i+1))).all _ = r;by_cases f6:formM k.1 = 6
   ·
    rw [bt f6,g7k];by_cases ht:tgtM p (i:Int) < 0
    · rw [dt ht,g7k]; simp [f6]
    · rw [df ht,g7i]; simp [f6]
   rw [bf f6,g7i];by_cases f7:formM k.1 = 7
   ·
    rw [bt f7,g7k];by_cases ht:tgtM p (i:Int) < 0
    · rw [dt ht,g7k]; simp [f7]
    · rw [df ht,g7i]; simp [f7]
   · rw [bf f7,g7i]; simp [f6,f7]
  ·
   have:i = p.Code.length:=by omega
   subst this;rw [a1e (by omega),g7i,Nat.sub_self];rfl
def tgtsOk (p:a0s):Bool:=(List.range' 0 p.Code.length).all (tgtOk p)
theorem g4c (p:a0s) (hl:p.Code.length≤100000) (hN:p.Code.length < N):b7X N p = some (0,gI.dv (if tgtsOk p = true then 0 else 4) []):=by
 unfold b7X;have h:=g0K (N:=N) p hl N 0 (by omega) (by omega);rw [show a5h N N 0 p = _ from h];unfold tgtsOk;rw [Nat.sub_zero];cases (List.range' 0 p.Code.length).all (tgtOk p) with
 | true=>rw [if_pos rfl,g7t _ _ (by decide),g7l,if_pos rfl]
 | false=>rw [if_neg (by simp),g7v,g7m,g7l,if_neg (by simp)]
/-! Programs that may be -/
def rightP (p:a0s):Bool:=decide (1≤p.Code.length∧p.Code.length≤2000∧0≤p.Size∧p.Size≤65536∧len p.Data≤p.Size) && (p.Code.all rightIns && tgtsOk p)
theorem g2g (p:a0s) (hl:p.Code.length≤100000):∀ (n i:Nat),i≤p.Code.length→p.Code.length - i < n →
  a1Z N n (i:Int) p = if (p.Code.drop i).all rightIns = true then some (1,a1d.dv p []) else some (0,gB.dv false []):=by
 intro n;induction n with
 | zero=>intro i h1 h2; omega
 | succ n ih =>
  intro i h1 h2;show a2P N (a1Z N n) (i:Int) p = _;unfold a2P;by_cases hi:i < p.Code.length
  ·
   have hrec:=ih (i+1) (by omega) (by omega);have hdrop:p.Code.drop i = p.Code.getD i a0o.z::p.Code.drop (i+1):=by
    rw [List.drop_eq_getElem_cons hi,List.getD_eq_getElem?_getD,List.getElem?_eq_getElem hi]; rfl
   rw [a1f hi,g7k,a1Q hi,g7n,Int.toNat_natCast,a5D,g7j,g7m,g7l,wS (show i≤100000000 by omega),hrec,hdrop,List.all_cons];cases rightIns (p.Code.getD i a0o.z) with
   | false=>rw [Bool.not_false,g7k,Bool.false_and,if_neg (by simp)]
   | true=>rw [Bool.not_true,g7i,Bool.true_and]
  ·
   have:i = p.Code.length:=by omega
   subst this;rw [a1e (by omega),g7i,List.drop_length];rfl
theorem f9c (p:a0s) (hN:2000 < N):a1h N p = some (0,gB.dv (rightP p) []):=by
 unfold a1h rightP;by_cases a1:len p.Code < 1
 · rw [dt a1,g7k,df (by simp only [len] at a1; omega),Bool.false_and]
 rw [df a1,g7i];by_cases a2:len p.Code > 2000
 · rw [dt a2,g7k,df (by simp only [len] at a2; omega),Bool.false_and]
 rw [df a2,g7i];by_cases a3:p.Size < 0
 · rw [dt a3,g7k,df (by omega),Bool.false_and]
 rw [df a3,g7i];by_cases a4:p.Size > 65536
 · rw [dt a4,g7k,df (by omega),Bool.false_and]
 rw [df a4,g7i];by_cases a5:len p.Data > p.Size
 · rw [dt a5,g7k,df (by omega),Bool.false_and]
 rw [df a5,g7i,dt (show 1≤p.Code.length∧p.Code.length≤2000∧0≤p.Size∧p.Size≤65536∧len p.Data≤p.Size by simp only [len] at a1 a2 a5 ⊢; omega),Bool.true_and];have hl:p.Code.length≤2000:=by simp only [len] at a2; omega
 have h:=g2g (N:=N) p (by omega) N 0 (by omega) (by omega);rw [List.drop_zero] at h;rw [show a1Z N N 0 p = _ from h];cases p.Code.all rightIns with
 | false=>rw [if_neg (by simp),g7v,g7m,g7l,Bool.false_and]
 | true =>
  rw [if_pos rfl,g7t _ _ (by decide),g7m,g7l,g4c p (by omega) (by omega),g7j,g7m,g7l,Bool.true_and];cases tgtsOk p <;> rfl
theorem f2e {p:a0s} (h:rightP p = true):Right p:=by
 unfold rightP at h;simp only [Bool.and_eq_true,decide_eq_true_eq] at h;exact ⟨h.1.1,h.1.2.1,fun j hj=>List.all_eq_true.1 h.2.1 _ (a1E _ hj)⟩
/-! Owners of registers -/
def onEM (o:List Int) (n:Int):Bool:=decide (n > 0) && (o.getD n.toNat 0 == 2)
def ownM (o:List Int) (n:Int):Int:=if n < 1 then 0 else if n > 15 then 0 else o.getD n.toNat 0
def anyEM (o l:List Int):Bool:=l.any (onEM o)
theorem g4E (o:List Int) (n:Int) (h:n≤15):b7k N o n = some (0,gB.dv (onEM o n) []):=by
 unfold b7k onEM;by_cases h1:n > 0
 · rw [dt h1,g7k,a1l (by omega) (by omega),g7n,Bool.true_and]
 · rw [df h1,g7i,Bool.false_and]
theorem g3a (o l:List Int) (hl:l.length≤100) (hb:∀ x∈l,x≤15):∀ (n i:Nat),i≤l.length→l.length - i < n →
  a8c N n l (i:Int) o = if (l.drop i).any (onEM o) = true then some (0,gB.dv true []) else some (1,[]):=by
 intro n;induction n with
 | zero=>intro i h1 h2; omega
 | succ n ih =>
  intro i h1 h2;show b0R N (a8c N n) l (i:Int) o = _;unfold b0R;by_cases hi:i < l.length
  ·
   have hrec:=ih (i+1) (by omega) (by omega);have hdrop:l.drop i = l.getD i 0::l.drop (i+1):=by
    rw [List.drop_eq_getElem_cons hi,List.getD_eq_getElem?_getD,List.getElem?_eq_getElem hi]; rfl
   rw [a1f hi,g7k,a1Q hi,g7n,Int.toNat_natCast,g4E o _ (hb _ (a1E 0 hi)),g7j,g7m,g7l,wS (show i≤100000000 by omega),hrec,hdrop,List.any_cons];cases onEM o (l.getD i 0) with
   | true=>rw [g7k,Bool.true_or,if_pos rfl]
   | false=>rw [g7i,Bool.false_or]
  ·
   have:i = l.length:=by omega
   subst this;rw [a1e (by omega),g7i,List.drop_length];rfl
theorem g3k (o l:List Int) (hl:l.length≤2) (hb:∀ x∈l,x≤15) (hN:2000 < N):b2c N o l = some (0,gB.dv (anyEM o l) []):=by
 unfold b2c anyEM;have h:=g3a (N:=N) o l (by omega) hb N 0 (by omega) (by omega);rw [List.drop_zero] at h;rw [show a8c N N l 0 o = _ from h];cases l.any (onEM o) with
 | true=>rw [if_pos rfl,g7v,g7m,g7l]
 | false=>rw [if_neg (by simp),g7t _ _ (by decide),g7l]
theorem g2b (o:List Int) (n:Int):b0u N o n = some (0,gI.dv (ownM o n) []):=by
 unfold b0u ownM;by_cases h1:n < 1
 · rw [dt h1,g7k,if_pos h1]
 rw [df h1,g7i,if_neg h1];by_cases h2:n > 15
 · rw [dt h2,g7k,if_pos h2]
 rw [df h2,g7i,if_neg h2,a1l (by omega) (by omega),g7n]
def sideOM (i:a0o) (o:List Int):Int :=
 if formM i.1 < 1∨3 < formM i.1 then 0 else if ownM o i.2.1 = 1∨(i.2.1 = 0∧anyEM o (readsM i) = false) then 1 else 2
theorem g5v (i:a0o) (o:List Int) (hN:2000 < N):b4r N i o = some (0,gI.dv (sideOM i o) []):=by
 unfold b4r sideOM;rw [a1T,g7j,g7m,g7l];by_cases h1:formM i.1 < 1
 · rw [dt h1,g7k,if_pos (.inl h1)]
 rw [df h1,g7i];by_cases h2:formM i.1 > 3
 · rw [dt h2,g7k,if_pos (.inr h2)]
 rw [df h2,g7i,if_neg (by omega),a7Q,g7j,g7m,g7l,g2b,g7j,g7m,g7l];by_cases h3:ownM o i.2.1 = 1
 · rw [bt h3,g7k,if_pos (.inl h3)]
 rw [bf h3,g7i];by_cases h4:i.2.1 = 0
 ·
  rw [bt h4,g7k,g3k o _ (a6r i) (fun x hx=>(b4s i x hx).2) hN,g7j,g7m,g7l];cases h5:anyEM o (readsM i) with
  | true=>rw [Bool.not_true,g7i,if_neg (by rintro (h | h); exact h3 h; simp at h)]
  | false=>rw [Bool.not_false,g7k,if_pos (.inr ⟨h4,rfl⟩)]
 · rw [bf h4,g7i,if_neg (by rintro (h | h); exact h3 h; exact h4 h.1)]
def addS (o:List Int) (out:List Int) (r:Int):List Int:=if ownM o r = 1∧r∉out then out++[r] else out
def sentOM (i:a0o) (o:List Int):List Int:=(readsM i).foldl (addS o) []
theorem g2D (l:List Int) (x:Int) (hl:l.length≤100000):∀ (n i:Nat),i≤l.length→l.length - i < n →
  a7L N n l x (i:Int) = if x∈l.drop i then some (0,gI.dv ((i:Int)+(List.idxOf x (l.drop i):Nat)) []) else some (1,[]):=by
 intro n;induction n with
 | zero=>intro i h1 h2; omega
 | succ n ih =>
  intro i h1 h2;show b1b N (a7L N n) l x (i:Int) = _;unfold b1b;by_cases hi:i < l.length
  ·
   have hrec:=ih (i+1) (by omega) (by omega);have hdrop:l.drop i = l.getD i 0::l.drop (i+1):=by
    rw [List.drop_eq_getElem_cons hi,List.getD_eq_getElem?_getD,List.getElem?_eq_getElem hi]; rfl
   rw [a1f hi,g7k,a1Q hi,g7n,Int.toNat_natCast,wS (show i≤100000000 by omega),hrec,hdrop];by_cases he:l.getD i 0 = x
   ·
    rw [bt he,g7k,if_pos (by rw [he]; simp),he,List.idxOf_cons_self];simp
   ·
    rw [bf he,g7i,List.idxOf_cons,show (l.getD i 0 == x) = false from bf he,cond_false];by_cases hm:x∈l.drop (i+1)
    ·
     rw [if_pos hm,if_pos (List.mem_cons_of_mem _ hm)];congr 3;omega
    · rw [if_neg hm,if_neg (by rw [List.mem_cons]; rintro (h | h); exact he h.symm; exact hm h)]
  ·
   have:i = l.length:=by omega
   subst this;rw [a1e (by omega),g7i,List.drop_length,if_neg (by simp)]
def findL (l:List Int) (x:Int):Int:=if x∈l then (List.idxOf x l:Nat) else -1
theorem g4s (l:List Int) (x:Int) (hl:l.length≤2000) (hN:2000 < N):a5H N l x = some (0,gI.dv (findL l x) []):=by
 unfold a5H findL;have h:=g2D (N:=N) l x (by omega) N 0 (by omega) (by omega);rw [List.drop_zero] at h;rw [show a7L N N l x 0 = _ from h];by_cases hm:x∈l
 · rw [if_pos hm,g7v,g7m,g7l,if_pos hm]; simp
 · rw [if_neg hm,g7t _ _ (by decide),g7l,if_neg hm]
theorem g3g (l o:List Int) (hl:l.length≤2) (hN:2000 < N):∀ (n i:Nat) (out:List Int),i≤l.length→l.length - i < n→out.length≤i →
  b4H N n l out (i:Int) o = some (1,(gD (.sl tI)).dv ((l.drop i).foldl (addS o) out) []):=by
 intro n;induction n with
 | zero=>intro i out h1 h2; omega
 | succ n ih =>
  intro i out h1 h2 h3;show b4a N (b4H N n) l out (i:Int) o = _;unfold b4a;by_cases hi:i < l.length
  ·
   have hrec:=fun out h=>ih (i+1) out (by omega) (by omega) h
   have hdrop:l.drop i = l.getD i 0::l.drop (i+1):=by
    rw [List.drop_eq_getElem_cons hi,List.getD_eq_getElem?_getD,List.getElem?_eq_getElem hi]; rfl
   rw [a1f hi,g7k,a1Q hi,g7n,Int.toNat_natCast,g2b,g7j,g7m,g7l,wS (show i≤100000000 by omega),hdrop,List.foldl_cons];unfold addS;by_cases ho:ownM o (l.getD i 0) = 1
   ·
    rw [bt ho,g7k,g7n,g4s out _ (by omega) hN,g7j,g7m,g7l,g7n];unfold findL;by_cases hm:l.getD i 0∈out
    ·
     rw [if_pos hm,df (by omega),g7i,if_neg (by rintro ⟨_,h⟩; exact h hm)];exact hrec _ (by omega)
    ·
     rw [if_neg hm,dt (by decide),g7k,rmT (by simp; omega),g7n,if_pos ⟨ho,hm⟩];exact hrec _ (by simp; omega)
   ·
    rw [bf ho,g7i,if_neg (by rintro ⟨h,_⟩; exact ho h)];exact hrec _ (by omega)
  ·
   have:i = l.length:=by omega
   subst this;rw [a1e (by omega),g7i,List.drop_length];rfl
theorem g5z (i:a0o) (o:List Int) (hN:2000 < N):a5F N i o = some (0,(gD (.sl tI)).dv (sentOM i o) []):=by
 unfold a5F sentOM;have hl:=a6r i;have h:=g3g (N:=N) (readsM i) o hl hN N 0 [] (by omega) (by omega) (by simp);rw [List.drop_zero] at h;rw [a7Q,g7j,g7m,g7l,show b4H N N (readsM i) [] 0 o = _ from h,g7u,g7m,g7l]
theorem g3T (o:List Int):∀ (l out:List Int),(l.foldl (addS o) out).length≤out.length+l.length
 | [],out=>by simp
 | r::l,out=>by
  rw [List.foldl_cons];have h:=g3T o l (addS o out r);have:(addS o out r).length≤out.length+1:=by unfold addS; split <;> simp
  simp only [List.length_cons];omega
theorem f8h (i:a0o) (o:List Int):(sentOM i o).length≤2:=by
 have:=g3T o (readsM i) [];have:=a6r i;unfold sentOM;simp at *;omega
/-! Cells -/
def cellI (kd:Int) (i:a0o) (pc off:Int):a0h:=(kd,(i,(0,(pc,(off,())))))
def cellR (kd r:Int) (pc off:Int):a0h:=(kd,(a0o.z,(r,(pc,(off,())))))
def emitM (i:a0o) (o:List Int) (pc off:Int):List a0h × List a0h :=
 if rightIns i = false then ([],[])
 else if 1≤formM i.1∧formM i.1≤3 then
  if sideOM i o = 1 then ([cellI 1 i pc off],[])
  else ((sentOM i o).map (fun r=>cellR 5 r pc off),(sentOM i o).map (fun r=>cellR 6 r pc off)++[cellI 1 i pc off])
 else if formM i.1 = 4 then
  if onEM o i.2.1 = true then ([cellI 3 i pc off],[cellI 7 i pc off]) else ([cellI 2 i pc off],[])
 else if formM i.1 = 5 then
  if ownM o i.2.2.2.1 = 1 then ([cellR 5 i.2.2.2.1 pc off,cellI 4 i pc off],[cellR 6 i.2.2.2.1 pc off,cellR 8 i.2.2.2.1 pc off])
  else ([cellI 4 i pc off],[cellR 8 i.2.2.2.1 pc off])
 else if formM i.1 = 6 then
  if anyEM o (readsM i) = false then ([cellI 9 i pc off],[cellR 10 0 pc off])
  else ((sentOM i o).map (fun r=>cellR 5 r pc off)++[cellR 10 0 pc off],(sentOM i o).map (fun r=>cellR 6 r pc off)++[cellI 9 i pc off])
 else if formM i.1 = 7 then ([cellR 11 0 pc off],[cellR 11 0 pc off])
 else if formM i.1 = 8 then ([cellR 12 0 pc off],[cellR 12 0 pc off])
 else ([],[])
theorem g3F (kd:Int) (i:a0o) (m:a0u) (h:m.L.length≤1000):a0Y N kd i m = some (0,a2t.dv { m with L:=m.L++[cellI kd i m.Pc m.Off] } []):=by
 unfold a0Y;rw [rmT (by simp; omega),g7n];rfl
theorem g4w (kd r:Int) (m:a0u) (h:m.L.length≤1000):a2f N kd r m = some (0,a2t.dv { m with L:=m.L++[cellR kd r m.Pc m.Off] } []):=by
 unfold a2f;rw [rmT (by simp; omega),g7n];rfl
theorem g3N (kd:Int) (m:a0u) (h:m.L.length≤1000):a1n N kd m = some (0,a2t.dv { m with L:=m.L++[cellR kd 0 m.Pc m.Off] } []):=by
 unfold a1n;rw [rmT (by simp; omega),g7n];rfl
theorem g2H (kd : Int) (l : List Int) (hl : l.length ≤ 100) : ∀ (n i : Nat) (m : a0u), i ≤ l.length → l.length - i < n → m.L.length ≤ 500 + i →
    a5f N n kd l (i : Int) m = some (1, a2t.dv { m with L := m.L ++ (l.drop i).map (fun r => cellR kd r m.Pc m.Off) } []) := by
  intro n
  induction n with
  | zero => intro i m h1 h2; omega
  | succ n ih =>
    intro i m h1 h2 h3
    show a4S N (a5f N n) kd l (i : Int) m = _
    unfold a4S
    by_cases hi : i < l.length
    · have hdrop : l.drop i = l.getD i 0 :: l.drop (i + 1) := by
        rw [List.drop_eq_getElem_cons hi, List.getD_eq_getElem?_getD, List.getElem?_eq_getElem hi]; rfl
      have hrec := ih (i + 1) { m with L := m.L ++ [cellR kd (l.getD i 0) m.Pc m.Off] } (by omega) (by omega) (by simp; omega)
      rw [a1f hi, g7k, a1Q hi, g7n, Int.toNat_natCast, g4w _ _ _ (by omega), g7j, g7m, g7l, wS (show i ≤ 100000000 by omega), hrec, hdrop]
      simp
    · have : i = l.length := by omega
      subst this
      rw [a1e (by omega), g7i, List.drop_length]
      simp
theorem g5D (kd:Int) (l:List Int) (hl:l.length≤2) (m:a0u) (h:m.L.length≤500) (hN:2000 < N):a1j N kd l m = some (0,a2t.dv { m with L:=m.L++l.map (fun r=>cellR kd r m.Pc m.Off) } []):=by
 unfold a1j;have h:=g2H (N:=N) kd l (by omega) N 0 m (by omega) (by omega) (by omega);rw [List.drop_zero] at h;rw [show a5f N N kd l 0 m = _ from h,g7u,g7m,g7l]
theorem g5F (i:a0o) (o:List Int) (pc off:Int) (hN:2000 < N):c6D N i o pc off = some (0,(gD (.sl a0i)).dv (emitM i o pc off).1 ((gD (.sl a0i)).dv (emitM i o pc off).2 [])):=by
 unfold c6D emitM;rw [a5D,g7j,g7m,g7l];cases hr:rightIns i with
 | false=>rfl
 | true =>
  obtain ⟨⟨d0,d1⟩,⟨a0,a1⟩,b0,b1⟩:=a9Q hr;have hs:=f8h i o;have hrl:=a6r i;have hrb:=fun x hx=>(b4s i x hx).2
  rw [Bool.not_true,g7i,a1T,g7j,g7m,g7l,if_neg (by simp)];simp only [g5v i o hN,g5z i o hN,g4E o _ d1,g2b,a7Q,g3k o _ hrl hrb hN,g7j,g7m,g7l];simp only [g3F _ _ (a0u.mk pc off []) (by simp),g4w _ _ (a0u.mk pc off []) (by simp),g3N _ (a0u.mk pc off []) (by simp),g5D _ _ hs (a0u.mk pc off []) (by simp) hN,g7j,g7m,g7l,List.nil_append];have g1:∀ kd,a0Y N 1 i { a0u.mk pc off [] with L:=(sentOM i o).map (fun r=>cellR kd r pc off) } = some (0,a2t.dv { a0u.mk pc off [] with L:=(sentOM i o).map (fun r=>cellR kd r pc off)++[cellI 1 i pc off] } []):=fun kd=>g3F _ _ _ (by simp; omega)
  have g9:∀ kd,a0Y N 9 i { a0u.mk pc off [] with L:=(sentOM i o).map (fun r=>cellR kd r pc off) } = some (0,a2t.dv { a0u.mk pc off [] with L:=(sentOM i o).map (fun r=>cellR kd r pc off)++[cellI 9 i pc off] } []):=fun kd=>g3F _ _ _ (by simp; omega)
  have g10:∀ kd,a1n N 10 { a0u.mk pc off [] with L:=(sentOM i o).map (fun r=>cellR kd r pc off) } = some (0,a2t.dv { a0u.mk pc off [] with L:=(sentOM i o).map (fun r=>cellR kd r pc off)++[cellR 10 0 pc off] } []):=fun kd=>g3N _ _ (by simp; omega)
  have g4:a0Y N 4 i { a0u.mk pc off [] with L:=[cellR 5 i.2.2.2.1 pc off] } = some (0,a2t.dv { a0u.mk pc off [] with L:=[cellR 5 i.2.2.2.1 pc off]++[cellI 4 i pc off] } []):=g3F _ _ _ (by simp);have g8:a2f N 8 i.2.2.2.1 { a0u.mk pc off [] with L:=[cellR 6 i.2.2.2.1 pc off] } = some (0,a2t.dv { a0u.mk pc off [] with L:=[cellR 6 i.2.2.2.1 pc off]++[cellR 8 i.2.2.2.1 pc off] } []):=g4w _ _ _ (by simp);simp only [g1,g9,g10,g4,g8,g7j,g7m,g7l];by_cases f1:formM i.1 = 1
  ·
   rw [bt f1,g7k,if_pos (by omega)];by_cases h:sideOM i o = 1
   · rw [bt h,g7k,if_pos h]
   · rw [bf h,g7i,if_neg h]
  rw [bf f1,g7i];by_cases f2:formM i.1 = 2
  ·
   rw [bt f2,g7k,if_pos (by omega)];by_cases h:sideOM i o = 1
   · rw [bt h,g7k,if_pos h]
   · rw [bf h,g7i,if_neg h]
  rw [bf f2,g7i];by_cases f3:formM i.1 = 3
  ·
   rw [bt f3,g7k,if_pos (by omega)];by_cases h:sideOM i o = 1
   · rw [bt h,g7k,if_pos h]
   · rw [bf h,g7i,if_neg h]
  rw [bf f3,g7i,if_neg (by omega)];by_cases f4:formM i.1 = 4
  ·
   rw [bt f4,g7k,if_pos f4];cases h:onEM o i.2.1 with
   | true=>rfl
   | false=>rfl
  rw [bf f4,g7i,if_neg f4];by_cases f5:formM i.1 = 5
  ·
   rw [bt f5,g7k,if_pos f5];by_cases h:ownM o i.2.2.2.1 = 1
   ·
    rw [bt h,g7k,if_pos h];rfl
   · rw [bf h,g7i,if_neg h]
  rw [bf f5,g7i,if_neg f5];by_cases f6:formM i.1 = 6
  ·
   rw [bt f6,g7k,if_pos f6];cases h:anyEM o (readsM i) with
   | true=>rfl
   | false=>rfl
  rw [bf f6,g7i,if_neg f6];by_cases f7:formM i.1 = 7
  · rw [bt f7,g7k,if_pos f7]
  rw [bf f7,g7i,if_neg f7];by_cases f8:formM i.1 = 8
  · rw [bt f8,g7k,if_pos f8]
  rw [bf f8,g7i,if_neg f8]
end Go.Proofs.Zz

/- The reference's leaders and blocks, word for word. -/
namespace Go.Proofs.Zz
open Go
variable {N:Nat}
def endsI (i:a0o):Bool:=decide (formM i.1 = 6∨formM i.1 = 7∨formM i.1 = 8)
theorem g5A (i:a0o):c1A N i = some (0,gB.dv (endsI i) []):=by
 unfold c1A endsI;rw [a1T,g7j,g7m,g7l];by_cases f6:formM i.1 = 6
 · rw [bt f6,g7k,dt (.inl f6)]
 rw [bf f6,g7i];by_cases f7:formM i.1 = 7
 · rw [bt f7,g7k,dt (.inr (.inl f7))]
 rw [bf f7,g7i];by_cases f8:formM i.1 = 8
 · rw [bt f8,dt (.inr (.inr f8))]
 · rw [bf f8,df (by omega)]
theorem g3t {p:a0s} {n:Int} (h:0≤tgtM p n):tgtM p n < p.Code.length:=by
 unfold tgtM at *;split
 · rename_i h1; simp only [len] at h1; exact h1.2.2.2.2
 · rename_i h1; rw [if_neg h1] at h; omega
def hitM (p:a0s) (j k:Nat):Bool:=decide (tgtM p (j:Int) = (k:Int)) || (endsI (codeM p j) && decide (j+1 = k))
def markM (p:a0s) (i k:Nat):Bool:=decide (k = 0) || (List.range i).any fun j=>hitM p j k
def leadM (p:a0s):List Nat:=(List.range p.Code.length).filter (markM p p.Code.length)
def leadI (p:a0s):List Int:=(leadM p).map fun k:Nat=>(k:Int)
theorem g3Z (p:a0s) (i k:Nat):markM p (i+1) k = (markM p i k || hitM p i k):=by
 unfold markM;rw [List.range_succ,List.any_append];simp [Bool.or_assoc]
theorem f6y (s:List Bool) (a k:Nat) (ha:a < s.length):(s.set a true).getD k false = (decide (a = k) || s.getD k false):=by
 rw [List.getD_eq_getElem?_getD,List.getD_eq_getElem?_getD,List.getElem?_set];by_cases e:a = k
 · subst e; simp [ha]
 · simp [e]
theorem g5k (p:a0s) (hc:p.Code.length≤2000):∀ (n i:Nat) (s:List Bool),i≤p.Code.length→p.Code.length - i < n→s.length = p.Code.length→(∀ k,k < p.Code.length→s.getD k false = markM p i k) →
  ∃ s',a5z N n s (i:Int) p = some (1,(gD (.sl tB)).dv s' [])∧s'.length = p.Code.length∧∀ k,k < p.Code.length→s'.getD k false = markM p p.Code.length k:=by
 intro n;induction n with
 | zero=>intro i s h1 h2; omega
 | succ n ih =>
  intro i s h1 h2 hs hz;show ∃ s',a8l N (a5z N n) s (i:Int) p = _∧_
  unfold a8l;by_cases hi:i < p.Code.length
  ·
   have hrec:∀ s:List Bool,s.length = p.Code.length→(∀ k,k < p.Code.length→s.getD k false = (markM p i k || hitM p i k))→∃ s',a5z N n s ((i+1:Nat):Int) p = some (1,(gD (.sl tB)).dv s' [])∧s'.length = p.Code.length∧∀ k,k < p.Code.length→s'.getD k false = markM p p.Code.length k :=
    fun s h3 h4=>ih (i+1) s (by omega) (by omega) h3 (fun k hk=>by rw [h4 k hk,g3Z])
   have ht2:=g3t (p:=p) (n:=(i:Int));rw [a1f hi];simp only [g7k,g1a p (i:Int) (by omega) (by omega) (by omega),g7j,g7m,g7l,a1Q hi,g7n,Int.toNat_natCast,g5A,wS (show i≤100000000 by omega),c3y,hs];have hh:∀ k,hitM p i k = (decide (tgtM p (i:Int) = (k:Int)) || (endsI (p.Code.getD i a0o.z) && decide (i+1 = k))):=fun k=>rfl
   generalize endsI (p.Code.getD i a0o.z) = y at *;generalize tgtM p (i:Int) = t at *;by_cases htt:t≥0
   ·
    obtain ⟨a,rfl⟩:∃ a:Nat,t = (a:Int):=⟨t.toNat,by omega⟩
    have ha:a < p.Code.length:=by have:=ht2 htt; omega
    have hd:∀ k:Nat,decide ((a:Int) = (k:Int)) = decide (a = k):=fun k=>by rw [Bool.eq_iff_iff]; simp only [decide_eq_true_eq]; omega
    rw [dt htt,g7k,a1l htt (ht2 htt),g7n,Int.toNat_natCast];cases y with
    | false =>
     refine hrec _ (by rw [c3y,hs]) fun k hk=>?_
     rw [f6y _ _ _ (by omega),hz k hk,hh,hd,Bool.false_and,Bool.or_false,Bool.or_comm]
    | true =>
     by_cases hj:i+1 < p.Code.length
     ·
      rw [a1f hj,g7k,g7k,a1Q hj,g7n];refine hrec _ (by rw [c3y,c3y,hs]) fun k hk=>?_
      rw [f6y _ _ _ (by rw [c3y]; omega),f6y _ _ _ (by omega),hz k hk,hh,hd,Bool.true_and];cases markM p i k <;> cases decide (a = k) <;> cases decide (i+1 = k) <;> rfl
     ·
      rw [a1e (by omega),g7k,g7i];refine hrec _ (by rw [c3y,hs]) fun k hk=>?_
      rw [f6y _ _ _ (by omega),hz k hk,hh,hd,show decide (i+1 = k) = false from df (by omega),Bool.and_false,Bool.or_false,Bool.or_comm]
   ·
    have hd:∀ k:Nat,decide (t = (k:Int)) = false:=fun k=>df (by omega)
    rw [df htt,g7i];cases y with
    | false=>exact hrec _ hs fun k hk=>by rw [hz k hk,hh,hd,Bool.false_and,Bool.or_false,Bool.or_false]
    | true =>
     by_cases hj:i+1 < p.Code.length
     ·
      rw [a1f hj,g7k,g7k,a1Q hj,g7n];refine hrec _ (by rw [c3y,hs]) fun k hk=>?_
      rw [f6y _ _ _ (by omega),hz k hk,hh,hd,Bool.true_and,Bool.false_or,Bool.or_comm]
     ·
      rw [a1e (by omega),g7k,g7i];exact hrec _ hs fun k hk=>by rw [hz k hk,hh,hd,show decide (i+1 = k) = false from df (by omega),Bool.and_false,Bool.or_false,Bool.or_false]
  ·
   rw [a1e (by omega)];have:i = p.Code.length:=by omega
   subst this;exact ⟨_,rfl,hs,hz⟩
theorem g5d (s:List Bool) (hc:s.length≤2000):∀ (n i:Nat),i≤s.length→s.length - i < n →
  a8s N n s (((List.range i).filter fun k=>s.getD k false).map fun k:Nat=>(k:Int)) (i:Int) = some (3,(gD (.sl tI)).dv (((List.range s.length).filter fun k=>s.getD k false).map fun k:Nat=>(k:Int)) []):=by
 intro n;induction n with
 | zero=>intro i h1 h2; omega
 | succ n ih =>
  intro i h1 h2;show a8B N (a8s N n) s _ (i:Int) = _;unfold a8B;by_cases hi:i < s.length
  ·
   have hrec:=ih (i+1) (by omega) (by omega);rw [List.range_succ,List.filter_append,List.map_append] at hrec;have hlen:=List.length_filter_le (fun k=>s.getD k false) (List.range i);rw [List.length_range] at hlen;rw [a1f hi,g7k,a1Q hi,g7n,Int.toNat_natCast,wS (show i≤100000000 by omega)];cases hf:s.getD i false with
   | true =>
    rw [g7k,rmT (by rw [List.length_map,List.length_singleton]; omega),g7n];rw [List.filter_cons_of_pos (by simpa using hf)] at hrec;exact hrec
   | false =>
    rw [g7i];rw [List.filter_cons_of_neg (by simpa using hf)] at hrec
    simpa using hrec
  ·
   rw [a1e (by omega)];have:i = s.length:=by omega
   subst this;rfl
theorem g3Y (p:a0s) (hN:2000 < N) (hr:rightP p = true):b4W N p = some (0,(gD (.sl tI)).dv (leadI p) []):=by
 unfold b4W;obtain ⟨hc1,hc2,_⟩:=f2e hr;have hlen:(List.replicate (Int.toNat (len p.Code)) false).length = p.Code.length:=by simp [len]
 rw [f9c p hN,hr];rw [show decide (0≤(len p.Code)∧(len p.Code)≤(len p.Code)∧(len p.Code)*((1:Nat):Int)≤((reach:Nat):Int)∧(len p.Code)≤((reach:Nat):Int)) = true by
  rw [e6a]; simp [len]; omega]
 obtain ⟨s,h1,h2,h3⟩:=g5k (N:=N) p hc2 N 0 ((List.replicate (Int.toNat (len p.Code)) false).set 0 true) (by omega) (by omega) (by simp [len]) (by
  intro k hk;rw [f6y _ _ _ (by rw [hlen]; omega)];have:(List.replicate (Int.toNat (len p.Code)) false).getD k false = false:=by
   rw [List.getD_eq_getElem?_getD];simp only [List.getElem?_replicate];split <;> rfl
  rw [this];unfold markM;simp [eq_comm])
 have h4:=g5d (N:=N) s (by omega) N 0 (by omega) (by omega);simp only [Int.natCast_zero,List.range_zero,List.filter_nil,List.map_nil] at h1 h4;simp only [g7j,g7m,g7l,Bool.not_true,g7i,g7n,hlen,a1l (i:=0) (n:=p.Code.length) (by omega) (by omega),h1,g7u,h4];have:(List.range s.length).filter (fun k=>s.getD k false) = leadM p:=by
  unfold leadM;rw [h2];exact List.filter_congr fun k hk=>h3 k (List.mem_range.1 hk)
 rw [this];rfl
theorem g0p (p:a0s):(leadM p).Pairwise (· < ·):=(List.pairwise_lt_range).filter _
theorem f2C (p:a0s):Lead (leadI p) p.Code.length:=by
 have hs:(leadI p).Pairwise (· < ·):=by
  unfold leadI;rw [List.pairwise_map];exact (g0p p).imp fun h=>by omega
 refine ⟨fun k hk=>?_,fun j k hj hk=>?_,?_⟩
 ·
  rw [List.getD_eq_getElem?_getD,List.getElem?_eq_getElem hk,Option.getD_some];have hm:(leadI p)[k]∈leadI p:=List.getElem_mem _;unfold leadI at hm ⊢;obtain ⟨a,ha,e⟩:=List.mem_map.1 hm;rw [← e];unfold leadM at ha;have:=List.mem_range.1 (List.mem_filter.1 ha).1;omega
 ·
  rw [List.getD_eq_getElem?_getD,List.getElem?_eq_getElem (by omega),Option.getD_some,List.getD_eq_getElem?_getD,List.getElem?_eq_getElem hk,Option.getD_some];exact List.pairwise_iff_getElem.1 hs j k (by omega) hk hj
 ·
  unfold leadI leadM;rw [List.length_map];have:=List.length_filter_le (markM p p.Code.length) (List.range p.Code.length);rw [List.length_range] at this;omega
/-! Blocks -/
def toM (p:a0s) (l:List Int) (i:Nat):Int:=if i+1 < l.length then l.getD (i+1) 0 else len p.Code
def nxM (p:a0s) (l:List Int) (t:Int):Int:=if (codeM p (t - 1).toNat).1≠40∧(codeM p (t - 1).toNat).1≠41 then findL l t else -1
def tkM (p:a0s) (l:List Int) (t:Int):Int:=if tgtM p (t - 1)≥0 then findL l (tgtM p (t - 1)) else -1
def cutB (p:a0s) (l:List Int) (i:Nat):D0:=(l.getD i 0,(toM p l i,(nxM p l (toM p l i),(tkM p l (toM p l i),((),((),()))))))
theorem g3o (p:a0s) (hc1:1≤p.Code.length) (hc:p.Code.length≤2000) (l:List Int) (hl:Lead l p.Code.length) (hN:2000 < N):∀ (n i:Nat),i≤l.length→l.length - i < n →
    b2N N n l ((List.range i).map (cutB p l)) (i:Int) p = some (1,(gD (.sl tB0)).dv ((List.range l.length).map (cutB p l)) []):=by
  intro n;have hL:=hl.len;induction n with
  | zero=>intro i h1 h2; omega
  | succ n ih =>
    intro i h1 h2;show b8g N (b2N N n) l _ (i:Int) p = _;unfold b8g;by_cases hi:i < l.length
    · have hw:=wS (show i≤100000000 by omega)
      have hfr:=hl.lo i (by omega);have hrec:=ih (i+1) (by omega) (by omega);rw [List.range_succ,List.map_append,List.map_cons,List.map_nil] at hrec;generalize hbs:(List.range i).map (cutB p l) = bs at *;have hbl:bs.length = i:=by rw [← hbs]; simp
      have hre:∀ x:D0,rm bs [x] 80 = true:=fun x=>rmT (by simp; omega)
      rw [a1f hi];simp only [g7k,a1Q hi,g7n,Int.toNat_natCast,hw];have htb:0≤toM p l i - 1∧toM p l i - 1 < p.Code.length∧toM p l i - 1≤100000:=by
        unfold toM;split
        · rename_i hj
          have hto:=hl.lo (i+1) (by omega);have hup:=hl.up i (i+1) (by omega) (by omega);omega
        · simp only [len]; omega
      have key:∀ T:Int,T = toM p l i→(
          bi ((p.Code.getD (T - 1).toNat a0o.z).1 != 40) (
           bi ((p.Code.getD (T - 1).toNat a0o.z).1 != 41) (
            on1 (a5H N l T)<|gg [pI]<|fun (x4:Int) =>
            on1 (a3N N p (T - 1))<|gg [pI]<|fun (x5:Int) =>
            bi (decide (x5≥0)) (
             on1 (a5H N l x5)<|gg [pI]<|fun (x6:Int) =>
             gd (rm bs [((l.getD i 0,(T,(x4,(x6,((),((),())))))):D0)] 80) <|
             b2N N n l (bs++[((l.getD i 0,(T,(x4,(x6,((),((),())))))):D0)]) ((i+1:Nat):Int) p) <|
            gd (rm bs [((l.getD i 0,(T,(x4,((-1:Int),((),((),())))))):D0)] 80) <|
            b2N N n l (bs++[((l.getD i 0,(T,(x4,((-1:Int),((),((),())))))):D0)]) ((i+1:Nat):Int) p) <|
           on1 (a3N N p (T - 1))<|gg [pI]<|fun (x7:Int) =>
           bi (decide (x7≥0)) (
            on1 (a5H N l x7)<|gg [pI]<|fun (x8:Int) =>
            gd (rm bs [((l.getD i 0,(T,((-1:Int),(x8,((),((),())))))):D0)] 80) <|
            b2N N n l (bs++[((l.getD i 0,(T,((-1:Int),(x8,((),((),())))))):D0)]) ((i+1:Nat):Int) p) <|
           gd (rm bs [((l.getD i 0,(T,((-1:Int),((-1:Int),((),((),())))))):D0)] 80) <|
           b2N N n l (bs++[((l.getD i 0,(T,((-1:Int),((-1:Int),((),((),())))))):D0)]) ((i+1:Nat):Int) p) <|
          on1 (a3N N p (T - 1))<|gg [pI]<|fun (x9:Int) =>
          bi (decide (x9≥0)) (
           on1 (a5H N l x9)<|gg [pI]<|fun (x10:Int) =>
           gd (rm bs [((l.getD i 0,(T,((-1:Int),(x10,((),((),())))))):D0)] 80) <|
           b2N N n l (bs++[((l.getD i 0,(T,((-1:Int),(x10,((),((),())))))):D0)]) ((i+1:Nat):Int) p) <|
          gd (rm bs [((l.getD i 0,(T,((-1:Int),((-1:Int),((),((),())))))):D0)] 80) <|
          b2N N n l (bs++[((l.getD i 0,(T,((-1:Int),((-1:Int),((),((),())))))):D0)]) ((i+1:Nat):Int) p) = some (1,(gD (.sl tB0)).dv ((List.range l.length).map (cutB p l)) []):=by
        intro T hT;rw [← hT] at htb;simp only [g4s l _ (show l.length≤2000 by omega) hN,g1a p (T - 1) htb.1 htb.2.1 (by omega),g7j,g7m,g7l,hre,g7n];rw [← hrec];unfold cutB;rw [← hT];unfold nxM tkM codeM;generalize p.Code.getD (T - 1).toNat a0o.z = c;generalize tgtM p (T - 1) = t;by_cases c1:c.1 = 40
        · rw [show (c.1 != 40) = false by rw [c1]; rfl,g7i,if_neg (show ¬ (c.1≠40∧c.1≠41) by omega)]
          by_cases ht:t≥0
          · rw [dt ht,g7k,if_pos ht]
          · rw [df ht,g7i,if_neg ht]
        rw [show (c.1 != 40) = true from bne_iff_ne.2 c1,g7k];by_cases c2:c.1 = 41
        · rw [show (c.1 != 41) = false by rw [c2]; rfl,g7i,if_neg (show ¬ (c.1≠40∧c.1≠41) by omega)]
          by_cases ht:t≥0
          · rw [dt ht,g7k,if_pos ht]
          · rw [df ht,g7i,if_neg ht]
        rw [show (c.1 != 41) = true from bne_iff_ne.2 c2,g7k,if_pos ⟨c1,c2⟩];by_cases ht:t≥0
        · rw [dt ht,g7k,if_pos ht]
        · rw [df ht,g7i,if_neg ht]
      by_cases hj:i+1 < l.length
      · have eT:toM p l i = l.getD (i+1) 0:=if_pos hj
        have hw2:w.i64 (l.getD (i+1) 0 - 1) = l.getD (i+1) 0 - 1:=wI (by rw [← eT]; omega) (by rw [← eT]; omega);rw [a1f hj,g7k,a1Q hj,g7n];simp only [Int.toNat_natCast,hw2];rw [a1l (i:=l.getD (i+1) 0 - 1) (n:=p.Code.length) (by rw [← eT]; omega) (by rw [← eT]; omega),g7n];exact key _ eT.symm
      · have eT:toM p l i = len p.Code:=if_neg hj
        have hw2:w.i64 (len p.Code - 1) = len p.Code - 1:=wI (by rw [← eT]; omega) (by rw [← eT]; omega);rw [a1e (by omega),g7i];simp only [hw2];rw [a1l (i:=len p.Code - 1) (n:=p.Code.length) (by rw [← eT]; omega) (by rw [← eT]; omega),g7n];exact key _ eT.symm
    · have:i = l.length:=by omega
      subst this;rw [a1e (by omega)];rfl
def cutM (p:a0s):List D0:=(List.range (leadI p).length).map (cutB p (leadI p))
theorem g5K (p:a0s) (hN:2000 < N) (hr:rightP p = true):d2H N p = some (0,(gD (.sl tB0)).dv (cutM p) []):=by
 unfold d2H cutM;obtain ⟨hc1,hc2,_⟩:=f2e hr;have hl:=f2C p;have:=hl.len;have h4:=g3o (N:=N) p hc1 hc2 (leadI p) hl hN N 0 (by omega) (by omega);rw [g3Y p hN hr,g7j,g7m,g7l];rw [show b2N N N (leadI p) [] 0 p = _ from h4];rfl
end Go.Proofs.Zz

/- The reference's owners and splits, word for word. -/
set_option maxRecDepth 100000
namespace Go.Proofs.Zz
open Go
variable {N:Nat}
/-! Owners that may be -/
def badI (o:List Int) (x:a0o):Bool :=
 (decide (formM x.1 = 4∨formM x.1 = 5) && onEM o x.2.2.1) || (decide (1≤formM x.1∧formM x.1≤3∧0 < x.2.1∧o.getD x.2.1.toNat 0 = 1) && anyEM o (readsM x))
def okOwn (o:List Int) (i:Nat):Bool:=decide (o.getD i 0 = 1∨o.getD i 0 = 2)
def closedM (p:a0s) (o:List Int):Bool:=rightP p && (decide (o.getD 0 0 = 0) && ((List.range' 1 15).all (okOwn o) && !p.Code.any (badI o)))
theorem g4g (p:a0s) (o:List Int):∀ (n i:Nat),i≤16→16 - i < n →
  a4P N n (i:Int) p o = if (List.range' i (16 - i)).all (okOwn o) = true then some (1,a1d.dv p ((gD (.ar 16 tI)).dv o [])) else some (0,gB.dv false []):=by
 intro n;induction n with
 | zero=>intro i h1 h2; omega
 | succ n ih =>
  intro i h1 h2;show a7t N (a4P N n) (i:Int) p o = _;unfold a7t;by_cases hi:i < 16
  ·
   have hrec:=ih (i+1) (by omega) (by omega);rw [dt (show (i:Int) < 16 by omega),a1Q hi,wS (show i≤100000000 by omega),hrec,show 16 - i = (16 - (i+1))+1 by omega,List.range'_succ,List.all_cons];simp only [g7k,g7n,Int.toNat_natCast];unfold okOwn;generalize o.getD i 0 = v;generalize (List.range' (i+1) (16 - (i+1))).all _ = r;by_cases h1:v = 1
   · rw [show (v != 1) = false by rw [h1]; rfl,g7i,dt (.inl h1),Bool.true_and]
   rw [show (v != 1) = true from bne_iff_ne.2 h1,g7k];by_cases h2:v = 2
   · rw [show (v != 2) = false by rw [h2]; rfl,g7i,dt (.inr h2),Bool.true_and]
   · rw [show (v != 2) = true from bne_iff_ne.2 h2,g7k,df (by omega),Bool.false_and,if_neg (by simp)]
  ·
   have:i = 16:=by omega
   subst this;rfl
theorem g4Q (x:a0o) (o:List Int) (r:Bool) :
  bi (formM x.1 == 4)
   (bi (onEM o x.2.2.1) (some (0,gB.dv false [])) (bi (decide (formM x.1≥1)) (bi (decide (formM x.1≤3)) (bi (decide (x.2.1 > 0)) (bi (o.getD x.2.1.toNat 0 == 1) (bi (anyEM o (readsM x)) (some (0,gB.dv false [])) (if r = true then some (0,gB.dv false []) else some (3,[]))) (if r = true then some (0,gB.dv false []) else some (3,[]))) (if r = true then some (0,gB.dv false []) else some (3,[]))) (if r = true then some (0,gB.dv false []) else some (3,[]))) (if r = true then some (0,gB.dv false []) else some (3,[]))))
   (bi (formM x.1 == 5)
    (bi (onEM o x.2.2.1) (some (0,gB.dv false [])) (bi (decide (formM x.1≥1)) (bi (decide (formM x.1≤3)) (bi (decide (x.2.1 > 0)) (bi (o.getD x.2.1.toNat 0 == 1) (bi (anyEM o (readsM x)) (some (0,gB.dv false [])) (if r = true then some (0,gB.dv false []) else some (3,[]))) (if r = true then some (0,gB.dv false []) else some (3,[]))) (if r = true then some (0,gB.dv false []) else some (3,[]))) (if r = true then some (0,gB.dv false []) else some (3,[]))) (if r = true then some (0,gB.dv false []) else some (3,[]))))
    (bi (decide (formM x.1≥1)) (bi (decide (formM x.1≤3)) (bi (decide (x.2.1 > 0)) (bi (o.getD x.2.1.toNat 0 == 1) (bi (anyEM o (readsM x)) (some (0,gB.dv false [])) (if r = true then some (0,gB.dv false []) else some (3,[]))) (if r = true then some (0,gB.dv false []) else some (3,[]))) (if r = true then some (0,gB.dv false []) else some (3,[]))) (if r = true then some (0,gB.dv false []) else some (3,[]))) (if r = true then some (0,gB.dv false []) else some (3,[])))) = (if (badI o x || r) = true then some (0,gB.dv false []) else some (3,[]):Option Rs):=by
 unfold badI;generalize onEM o x.2.2.1 = e;generalize anyEM o (readsM x) = a;generalize o.getD x.2.1.toNat 0 = v;generalize formM x.1 = f;have tail:∀ b:Bool,b = decide (1≤f∧f≤3∧0 < x.2.1∧v = 1)→bi (decide (f≥1)) (bi (decide (f≤3)) (bi (decide (x.2.1 > 0)) (bi (v == 1) (bi a (some (0,gB.dv false [])) (if r = true then some (0,gB.dv false []) else some (3,[]))) (if r = true then some (0,gB.dv false []) else some (3,[]))) (if r = true then some (0,gB.dv false []) else some (3,[]))) (if r = true then some (0,gB.dv false []) else some (3,[]))) (if r = true then some (0,gB.dv false []) else some (3,[])) = (if ((b && a) || r) = true then some (0,gB.dv false []) else some (3,[]):Option Rs):=by
  intro b hb;by_cases k1:f≥1
  ·
   rw [dt k1,g7k];by_cases k2:f≤3
   ·
    rw [dt k2,g7k];by_cases k3:x.2.1 > 0
    ·
     rw [dt k3,g7k];by_cases k4:v = 1
     ·
      rw [bt k4,g7k,hb,dt ⟨k1,k2,k3,k4⟩];cases a <;> cases r <;> rfl
     ·
      rw [bf k4,g7i,hb,df (by omega)];cases a <;> cases r <;> rfl
    ·
     rw [df k3,g7i,hb,df (by omega)];cases a <;> cases r <;> rfl
   ·
    rw [df k2,g7i,hb,df (by omega)];cases a <;> cases r <;> rfl
  ·
   rw [df k1,g7i,hb,df (by omega)];cases a <;> cases r <;> rfl
 have tl:=tail _ rfl;rw [tl];by_cases f4:f = 4
 ·
  rw [bt f4,g7k,dt (show f = 4∨f = 5 from .inl f4),df (show ¬ (1≤f∧f≤3∧0 < x.2.1∧v = 1) by omega)];cases e <;> cases r <;> rfl
 rw [bf f4,g7i];by_cases f5:f = 5
 ·
  rw [bt f5,g7k,dt (show f = 4∨f = 5 from .inr f5),df (show ¬ (1≤f∧f≤3∧0 < x.2.1∧v = 1) by omega)];cases e <;> cases r <;> rfl
 rw [bf f5,g7i,df (show ¬ (f = 4∨f = 5) by omega),Bool.false_and,Bool.false_or]
theorem g4a (p:a0s) (hc:Right p) (o:List Int) (hN:2000 < N):∀ (n i:Nat),i≤p.Code.length→p.Code.length - i < n →
  a4I N n (i:Int) p o = if (p.Code.drop i).any (badI o) = true then some (0,gB.dv false []) else some (3,[]):=by
 obtain ⟨hc1,hc2,hc3⟩:=hc;intro n;induction n with
 | zero=>intro i h1 h2; omega
 | succ n ih =>
  intro i h1 h2;show a6Y N (a4I N n) (i:Int) p o = _;unfold a6Y;by_cases hi:i < p.Code.length
  ·
   obtain ⟨⟨d0,d1⟩,⟨a0,a1⟩,_⟩:=a9Q (hc3 i hi);have hdrop:p.Code.drop i = p.Code.getD i a0o.z::p.Code.drop (i+1):=by
    rw [List.drop_eq_getElem_cons hi,List.getD_eq_getElem?_getD,List.getElem?_eq_getElem hi]; rfl
   have hrec:=ih (i+1) (by omega) (by omega);have hl1:=b4s (p.Code.getD i a0o.z);have hl2:=a6r (p.Code.getD i a0o.z);rw [a1f hi,hdrop,List.any_cons];simp only [g7k,a1Q hi,g7n,Int.toNat_natCast,a1T,a7Q,g4E o _ a1,g3k o _ hl2 (fun x hx=>(hl1 x hx).2) hN,g7j,g7m,g7l,wS (show i≤100000000 by omega),a1l (i:=(p.Code.getD i a0o.z).2.1) (n:=16) d0 (by omega),hrec];exact g4Q (p.Code.getD i a0o.z) o _
  ·
   have:i = p.Code.length:=by omega
   subst this;rw [a1e (by omega),g7i,List.drop_length];rfl
theorem g4t (p:a0s) (o:List Int) (hN:2000 < N):b3f N p o = some (0,gB.dv (closedM p o) []):=by
 unfold b3f closedM;rw [f9c p hN,g7j,g7m,g7l];cases hr:rightP p with
 | false=>rfl
 | true =>
  have hc:=f2e hr;rw [Bool.not_true,g7i,a1l (i:=0) (n:=16) (by omega) (by omega),g7n,Bool.true_and];by_cases h0:o.getD 0 0 = 0
  ·
   rw [show (o.getD 0 0 != 0) = false by rw [h0]; rfl,g7i,dt h0,Bool.true_and];have e1:=g4g (N:=N) p o N 1 (by omega) (by omega);rw [show a4P N N 1 p o = _ from e1];cases (List.range' 1 15).all (okOwn o) with
   | false=>rw [if_neg (by simp),g7v,g7m,g7l,Bool.false_and]
   | true =>
    have e2:=g4a (N:=N) p hc o hN N 0 (by omega) (by have:=hc.2.1; omega);rw [List.drop_zero] at e2;rw [if_pos rfl,g7t _ _ (by decide),g7m,g7m,g7l,show a4I N N 0 p o = _ from e2,Bool.true_and];cases p.Code.any (badI o) with
    | true=>rw [if_pos rfl,g7v,g7m,g7l]; rfl
    | false=>rw [if_neg (by simp),g7t _ _ (by decide),g7l]; rfl
  · rw [show (o.getD 0 0 != 0) = true from bne_iff_ne.2 h0,g7k,df h0,Bool.false_and]
/-! Splits -/
def fromM (p:a0s) (o:List Int) (f:Int) (k m:Nat):List (List a0h × List a0h):=(List.range' k m).map fun n=>emitM (codeM p n) o (n:Int) ((n:Int) - f)
def cellsOfA (p:a0s) (o:List Int) (f:Int) (k m:Nat):List a0h:=(fromM p o f k m).flatMap (·.1)
def cellsOfE (p:a0s) (o:List Int) (f:Int) (k m:Nat):List a0h:=(fromM p o f k m).flatMap (·.2)
theorem g1q (i:a0o) (o:List Int) (pc off:Int):(emitM i o pc off).1.length≤8∧(emitM i o pc off).2.length≤8:=by
 have:=f8h i o;unfold emitM
 repeat' split
 all_goals simp
 all_goals omega
theorem g5l (ii nn i2:Int) (p:a0s) (hc:Right p) (o:List Int) (rb:List a0x) (ro so:List Int) (f t nx tk:Int) (hf:0≤f) (ht:t≤p.Code.length) (hN:2000 < N):∀ (n k:Nat) (A E:List a0h),f≤k→(k:Int)≤t→t - k < n→(A.length:Int)≤8*(k - f)→(E.length:Int)≤8*(k - f) →
  a4q N n ii (k:Int) p.Code p.Size p.Data o rb ro nn i2 so f t nx tk A E = some (3,dvG UW (ii,p.Code,p.Size,p.Data,o,rb,ro,nn,i2,so,f,t,nx,tk,A++cellsOfA p o f k (t - k).toNat,E++cellsOfE p o f k (t - k).toNat,())):=by
 obtain ⟨hc1,hc2,hc3⟩:=hc;intro n;induction n with
 | zero=>intro k A E h0 h1 h2; omega
 | succ n ih =>
  intro k A E h0 h1 h2 hA hE;show b4U N (a4q N n) ii (k:Int) p.Code p.Size p.Data o rb ro nn i2 so f t nx tk A E = _;unfold b4U;by_cases hi:(k:Int) < t
  ·
   have hw:w.i64 ((k:Int) - f) = (k:Int) - f:=wI (by omega) (by omega);have hX:=g1q (p.Code.getD k a0o.z) o (k:Int) ((k:Int) - f);have hrec:=ih (k+1) (A++(emitM (p.Code.getD k a0o.z) o (k:Int) ((k:Int) - f)).1) (E++(emitM (p.Code.getD k a0o.z) o (k:Int) ((k:Int) - f)).2) (by omega) (by omega) (by omega) (by rw [List.length_append]; omega) (by rw [List.length_append]; omega);have hlA:=hA;have hlE:=hE;have hcA:cellsOfA p o f k (t - k).toNat = (emitM (p.Code.getD k a0o.z) o (k:Int) ((k:Int) - f)).1++cellsOfA p o f (k+1) (t - (k+1:Nat)).toNat:=by
    unfold cellsOfA fromM;rw [show (t - (k:Int)).toNat = (t - (k+1:Nat)).toNat+1 by omega,List.range'_succ,List.map_cons,List.flatMap_cons];rfl
   have hcE:cellsOfE p o f k (t - k).toNat = (emitM (p.Code.getD k a0o.z) o (k:Int) ((k:Int) - f)).2++cellsOfE p o f (k+1) (t - (k+1:Nat)).toNat:=by
    unfold cellsOfE fromM;rw [show (t - (k:Int)).toNat = (t - (k+1:Nat)).toNat+1 by omega,List.range'_succ,List.map_cons,List.flatMap_cons];rfl
   rw [dt hi,hcA,hcE];simp only [g7k,a1Q (show k < p.Code.length by omega),g7n,Int.toNat_natCast,hw,g5F _ o _ _ hN,g7j,g7m,g7l,wS (show k≤100000000 by omega)];rw [rmT (show (A.length+(emitM (p.Code.getD k a0o.z) o (k:Int) ((k:Int) - f)).1.length)*72≤35184372088832 by omega),g7n,rmT (show (E.length+(emitM (p.Code.getD k a0o.z) o (k:Int) ((k:Int) - f)).2.length)*72≤35184372088832 by omega),g7n,hrec];simp only [List.append_assoc]
  ·
   rw [df hi];have:(t - (k:Int)).toNat = 0:=by omega
   rw [this];unfold cellsOfA cellsOfE fromM;simp only [List.range'_zero,List.map_nil,List.flatMap_nil,List.append_nil];rfl
def fillB (p:a0s) (o:List Int) (v:D0):a0x:=(v.1,(v.2.1,(v.2.2.1,(v.2.2.2.1,(cellsOfA p o v.1 v.1.toNat (v.2.1 - v.1).toNat,(cellsOfE p o v.1 v.1.toNat (v.2.1 - v.1).toNat,()))))))
theorem g6A (p:a0s) (hc:Right p) (o:List Int) (rb:List a0x) (ro so:List Int) (n i:Int) (h0:0≤i) (h1:i < n) (h2:n≤2000) (v:D0) (hv0:0≤v.1) (hv1:v.1≤v.2.1) (hv2:v.2.1≤p.Code.length) (hN:2000 < N) :
  st_W N n i (dvG XW (p.Code,p.Size,p.Data,o,rb,ro,())) (dvG SW (so,())) v = some (dvG XW (p.Code,p.Size,p.Data,o,rb,ro,()),dvG SW (so,()),fillB p o v):=by
 have h3:=g5l (N:=N) i n i p hc o rb ro so v.1 v.2.1 v.2.2.1 v.2.2.2.1 hv0 hv2 hN N v.1.toNat [] [] (by omega) (by omega) (by have:=hc.2.1; omega) (by simp; omega) (by simp; omega);rw [show ((v.1.toNat:Nat):Int) = v.1 by omega,List.nil_append,List.nil_append] at h3;unfold st_W;refine (c5e XW _ (p.Code,p.Size,p.Data,o,rb,ro,())).trans ?_;refine (c5e SW _ (so,())).trans ?_;show onA 3 (a4q N N i v.1 p.Code p.Size p.Data o rb ro n i so v.1 v.2.1 v.2.2.1 v.2.2.2.1 [] []) _ = _;rw [h3,g7u];refine (c5e UW _ (i,p.Code,p.Size,p.Data,o,rb,ro,n,i,so,v.1,v.2.1,v.2.2.1,v.2.2.2.1,_,_,())).trans ?_;show stW n i i n i _ = _;unfold stW;rw [if_pos ⟨h0,h1,rfl,rfl,rfl,wS' h0 (by omega)⟩];rfl
theorem g4G (p:a0s) (hc:Right p) (o:List Int) (rb:List a0x) (ro so:List Int) (n:Int) (h2:n≤2000) (hN:2000 < N):∀ (rest:List D0) (i:Int),0≤i→i+rest.length = n→(∀ v∈rest,0≤v.1∧v.1≤v.2.1∧v.2.1≤p.Code.length) →
  (ol_W N).walk n rest i (dvG XW (p.Code,p.Size,p.Data,o,rb,ro,())) (dvG SW (so,())) = some (dvG XW (p.Code,p.Size,p.Data,o,rb,ro,()),dvG SW (so,()),rest.map (fillB p o))
 | [],i,_,_,_=>rfl
 | v::rest,i,h0,h1,hv=>by
  simp only [List.length_cons] at h1;obtain ⟨g1,g2,g3⟩:=hv v (by simp);have h3:=g6A (N:=N) p hc o rb ro so n i h0 (by omega) h2 v g1 g2 g3 hN;have h6:=g4G p hc o rb ro so n h2 hN rest (i+1) (by omega) (by omega) (fun u hu=>hv u (by simp [hu]));have h3':(ol_W N).step n i (dvG XW (p.Code,p.Size,p.Data,o,rb,ro,())) (dvG SW (so,())) v = some (dvG XW (p.Code,p.Size,p.Data,o,rb,ro,()),dvG SW (so,()),fillB p o v):=h3;refine (OL.walk_cons (ol_W N) n v rest i _ _).trans ?_;rw [h3'];simp only [];rw [h6];rfl
theorem g0H (p:a0s):(cutM p).length = (leadI p).length:=by unfold cutM; simp
theorem g0F {p:a0s} (h:rightP p = true):∀ v∈cutM p,0≤v.1∧v.1 < v.2.1∧v.2.1≤p.Code.length:=by
 intro v hv;unfold cutM at hv;obtain ⟨i,hi,rfl⟩:=List.mem_map.1 hv;have hi:=List.mem_range.1 hi;have hl:=f2C p;have h1:=hl.lo i hi;unfold cutB toM;simp only;split
 ·
  rename_i hj;have h2:=hl.lo (i+1) hj;have h3:=hl.up i (i+1) (by omega) hj;omega
 · simp only [len]; omega
def withS (p:a0s) (o:List Int):a0g:=if closedM p o = true then ⟨(cutM p).map (fillB p o),o⟩ else ⟨[],List.replicate 16 0⟩
def withE (p:a0s) (o:List Int):Int:=if closedM p o = true then 0 else 1
theorem f5s {p:a0s} {o:List Int} (h:closedM p o = true):rightP p = true:=by
 unfold closedM at h;simp only [Bool.and_eq_true] at h;exact h.1
theorem g3z (p:a0s) (o:List Int) (hN:2000 < N):c1Q N p o = some (0,a0H.dv (withS p o) (gI.dv (withE p o) [])):=by
 unfold c1Q withS withE;rw [g4t p o hN,g7j,g7m,g7l];cases hcl:closedM p o with
 | false=>rfl
 | true =>
  have hr:=f5s hcl;have hc:=f2e hr;have hcl2:=g0H p;have hll:=(f2C p).len;have hc2:=hc.2.1;have h5:=g4G (N:=N) p hc o [] (List.replicate 16 0) o ((cutM p).length:Int) (by omega) hN (cutM p) 0 (by omega) (by omega) (fun v hv=>by have:=g0F hr v hv; omega);have hl:a6e N N 0 p.Code p.Size p.Data o [] (List.replicate 16 0) (cutM p) o = some (1,dvG LX (p.Code,p.Size,p.Data,o,[],List.replicate 16 0,(cutM p).map (fillB p o),o,())):=by
   unfold a6e;rw [if_pos rfl,h5];rfl
  rw [Bool.not_true,g7i,g5K p hN hr,g7j,if_pos rfl,if_pos rfl];refine (g7m _ _ _ _ _).trans ?_;rw [g7l];show onA 1 (a6e N N 0 p.Code p.Size p.Data o [] (List.replicate 16 0) (cutM p) o) _ = _;rw [hl,g7u];exact c5e LX _ (p.Code,p.Size,p.Data,o,[],List.replicate 16 0,(cutM p).map (fillB p o),o,())
/-! The owners with the fewest on A -/
def giveM (o:List Int) (x:a0o):List Int :=
 let o1:=if (formM x.1 = 4∨formM x.1 = 5)∧0 < x.2.2.1 then o.set x.2.2.1.toNat 1 else o
 if 1≤formM x.1∧formM x.1≤3∧0 < x.2.1∧o1.getD x.2.1.toNat 0 = 1 then (readsM x).foldl (fun o r=>o.set r.toNat 1) o1 else o1
def ownN (p:a0s):Nat→List Int→List Int
 | 0,o=>o
 | n+1,o=>ownN p n (p.Code.foldl giveM o)
def ownerM (p:a0s):List Int:=if rightP p = true then ownN p 17 (0::List.replicate 15 2) else List.replicate 16 0
theorem g5B (p:a0s) (o1:List Int):∀ (n i:Nat) (o:List Int),i≤16→16 - i < n →
  b2j N n (i:Int) p o1 o = some (1,a1d.dv p ((gD (.ar 16 tI)).dv o1 ((gD (.ar 16 tI)).dv ((List.range' i (16 - i)).foldl (fun o k=>o.set k 2) o) []))):=by
 intro n;induction n with
 | zero=>intro i o h1 h2; omega
 | succ n ih =>
  intro i o h1 h2;show b1v N (b2j N n) (i:Int) p o1 o = _;unfold b1v;by_cases hi:i < 16
  · rw [dt (show (i:Int) < 16 by omega),a1Q hi,g7k,g7n,wS (by omega),Int.toNat_natCast,ih _ _ (by omega) (by omega),show 16 - i = (16 - (i+1))+1 by omega,List.range'_succ,List.foldl_cons]
  ·
   have:i = 16:=by omega
   subst this;rfl
theorem g5H (a b:Int) (l:List Int) (hl:l.length≤100) (hb:∀ x∈l,1≤x∧x≤15) (p:a0s) (o1:List Int):∀ (n i:Nat) (o:List Int),i≤l.length→l.length - i < n →
  a2D N n a b l (i:Int) p o1 o = some (7,gI.dv a (gI.dv b (a1d.dv p ((gD (.ar 16 tI)).dv o1 ((gD (.ar 16 tI)).dv ((l.drop i).foldl (fun o r=>o.set r.toNat 1) o) []))))):=by
 intro n;induction n with
 | zero=>intro i o h1 h2; omega
 | succ n ih =>
  intro i o h1 h2;show b1D N (a2D N n) a b l (i:Int) p o1 o = _;unfold b1D;by_cases hi:i < l.length
  ·
   have hm:=hb _ (a1E 0 hi);have hdrop:l.drop i = l.getD i 0::l.drop (i+1):=by
    rw [List.drop_eq_getElem_cons hi,List.getD_eq_getElem?_getD,List.getElem?_eq_getElem hi]; rfl
   rw [a1f hi,g7k,a1Q hi,g7n,Int.toNat_natCast,a1l (i:=l.getD i 0) (n:=16) (by omega) (by omega),g7n,wS (by omega),ih _ _ (by omega) (by omega),hdrop,List.foldl_cons]
  ·
   have:i = l.length:=by omega
   subst this;rw [a1e (by omega),g7i,List.drop_length];rfl
theorem g5s (a:Int) (p:a0s) (hc:Right p) (o1:List Int) (hN:2000 < N):∀ (n i:Nat) (o:List Int),i≤p.Code.length→p.Code.length - i < n →
  a6n N n a (i:Int) p o1 o = some (5,gI.dv a (a1d.dv p ((gD (.ar 16 tI)).dv o1 ((gD (.ar 16 tI)).dv ((p.Code.drop i).foldl giveM o) [])))):=by
 obtain ⟨hc1,hc2,hc3⟩:=hc;intro n;induction n with
 | zero=>intro i o h1 h2; omega
 | succ n ih =>
  intro i o h1 h2;show b1x N (a6n N n) a (i:Int) p o1 o = _;unfold b1x;by_cases hi:i < p.Code.length
  ·
   obtain ⟨⟨d0,d1⟩,⟨a0,a1⟩,_⟩:=a9Q (hc3 i hi);have hdrop:p.Code.drop i = p.Code.getD i a0o.z::p.Code.drop (i+1):=by
    rw [List.drop_eq_getElem_cons hi,List.getD_eq_getElem?_getD,List.getElem?_eq_getElem hi]; rfl
   have hrec:=fun o=>ih (i+1) o (by omega) (by omega)
   have hl1:=b4s (p.Code.getD i a0o.z);have hl2:=a6r (p.Code.getD i a0o.z);have h6:=fun o=>g5H (N:=N) a (i:Int) (readsM (p.Code.getD i a0o.z)) (by omega) hl1 p o1 N 0 o (by omega) (by omega)
   simp only [List.drop_zero,Int.natCast_zero] at h6;rw [a1f hi,hdrop,List.foldl_cons];simp only [g7k,a1Q hi,g7n,Int.toNat_natCast,a1T,a7Q,g7j,g7m,g7l,wS (show i≤100000000 by omega),a1l (i:=(p.Code.getD i a0o.z).2.2.1) (n:=16) a0 (by omega),a1l (i:=(p.Code.getD i a0o.z).2.1) (n:=16) d0 (by omega),h6,g7u,hrec];unfold giveM;simp only [a1u,beq_iff_eq,decide_eq_true_eq];by_cases f4:formM (p.Code.getD i a0o.z).1 = 4
   ·
    rw [if_pos f4];by_cases ha:(p.Code.getD i a0o.z).2.2.1 > 0
    · rw [if_pos ha,if_pos (show formM (p.Code.getD i a0o.z).1≥1 by omega),if_neg (show ¬ formM (p.Code.getD i a0o.z).1≤3 by omega),if_pos (show (formM (p.Code.getD i a0o.z).1 = 4∨formM (p.Code.getD i a0o.z).1 = 5)∧0 < (p.Code.getD i a0o.z).2.2.1 by omega),if_neg (by omega)]
    · rw [if_neg ha,if_pos (show formM (p.Code.getD i a0o.z).1≥1 by omega),if_neg (show ¬ formM (p.Code.getD i a0o.z).1≤3 by omega),if_neg (show ¬ ((formM (p.Code.getD i a0o.z).1 = 4∨formM (p.Code.getD i a0o.z).1 = 5)∧0 < (p.Code.getD i a0o.z).2.2.1) by omega),if_neg (by omega)]
   rw [if_neg f4];by_cases f5:formM (p.Code.getD i a0o.z).1 = 5
   ·
    rw [if_pos f5];by_cases ha:(p.Code.getD i a0o.z).2.2.1 > 0
    · rw [if_pos ha,if_pos (show formM (p.Code.getD i a0o.z).1≥1 by omega),if_neg (show ¬ formM (p.Code.getD i a0o.z).1≤3 by omega),if_pos (show (formM (p.Code.getD i a0o.z).1 = 4∨formM (p.Code.getD i a0o.z).1 = 5)∧0 < (p.Code.getD i a0o.z).2.2.1 by omega),if_neg (by omega)]
    · rw [if_neg ha,if_pos (show formM (p.Code.getD i a0o.z).1≥1 by omega),if_neg (show ¬ formM (p.Code.getD i a0o.z).1≤3 by omega),if_neg (show ¬ ((formM (p.Code.getD i a0o.z).1 = 4∨formM (p.Code.getD i a0o.z).1 = 5)∧0 < (p.Code.getD i a0o.z).2.2.1) by omega),if_neg (by omega)]
   rw [if_neg f5,if_neg (show ¬ ((formM (p.Code.getD i a0o.z).1 = 4∨formM (p.Code.getD i a0o.z).1 = 5)∧0 < (p.Code.getD i a0o.z).2.2.1) by omega)];by_cases f1:formM (p.Code.getD i a0o.z).1≥1
   ·
    rw [if_pos f1];by_cases f3:formM (p.Code.getD i a0o.z).1≤3
    ·
     rw [if_pos f3];by_cases hd:(p.Code.getD i a0o.z).2.1 > 0
     ·
      rw [if_pos hd];by_cases hv:o.getD (p.Code.getD i a0o.z).2.1.toNat 0 = 1
      · rw [if_pos hv,if_pos ⟨f1,f3,hd,hv⟩]
      · rw [if_neg hv,if_neg (by omega)]
     · rw [if_neg hd,if_neg (by omega)]
    · rw [if_neg f3,if_neg (by omega)]
   · rw [if_neg f1,if_neg (by omega)]
  ·
   have:i = p.Code.length:=by omega
   subst this;rw [a1e (by omega),g7i,List.drop_length];rfl
theorem g5u (p:a0s) (hc:Right p) (o1:List Int) (hN:2000 < N):∀ (n i:Nat) (o:List Int),i≤17→17 - i < n →
  b1X N n (i:Int) p o1 o = some (3,(gD (.ar 16 tI)).dv o1 ((gD (.ar 16 tI)).dv (ownN p (17 - i) o) [])):=by
 intro n;induction n with
 | zero=>intro i o h1 h2; omega
 | succ n ih =>
  intro i o h1 h2;show b2n N (b1X N n) (i:Int) p o1 o = _;unfold b2n;by_cases hi:i < 17
  ·
   have h:=g5s (N:=N) (i:Int) p hc o1 hN N 0 o (by omega) (by have:=hc.2.1; omega);rw [dt (show (i:Int) < 17 by omega),g7k,show (0:Int) = ((0:Nat):Int) from rfl,h];simp only [g7u,g7m,g7l,wS (show i≤100000000 by omega),List.drop_zero];rw [ih _ _ (by omega) (by omega),show 17 - i = (17 - (i+1))+1 by omega];rfl
  ·
   have:i = 17:=by omega
   subst this;rfl
theorem g5b (p:a0s) (hN:2000 < N):c1s N p = some (0,(gD (.ar 16 tI)).dv (ownerM p) []):=by
 unfold c1s ownerM;rw [f9c p hN,g7j,g7m,g7l];cases hr:rightP p with
 | false=>rfl
 | true =>
  have h:=g5B (N:=N) p (List.replicate 16 0) N 1 (List.replicate 16 0) (by omega) (by omega);have h2:=g5u (N:=N) p (f2e hr) (List.replicate 16 0) hN N 0 (0::List.replicate 15 2) (by omega) (by omega);rw [Bool.not_true,g7i,show b2j N N 1 p (List.replicate 16 0) (List.replicate 16 0) = _ from h,g7u];simp only [g7m,g7l];rw [show (List.range' 1 (16 - 1)).foldl (fun o k=>o.set k 2) (List.replicate 16 (0:Int)) = 0::List.replicate 15 2 from rfl,show b1X N N 0 p (List.replicate 16 0) (0::List.replicate 15 2) = _ from h2,g7u];simp only [g7m,g7l,if_true,Nat.sub_zero]
theorem g5e (p:a0s) (hN:2000 < N):b7q N p = some (0,a0H.dv (withS p (ownerM p)) (gI.dv (withE p (ownerM p)) [])):=by
 unfold b7q;simp only [g5b p hN,g7j,g7m,g7l,g3z p _ hN]
end Go.Proofs.Zz

/- The streams over a split: blocks, cells, where a stream settles. -/
set_option maxRecDepth 100000
namespace Go.Proofs.Zz
open Go
def emS (e:Bool) (i:a0o) (o:List Int) (pc off:Int):List a0h:=if e = true then (emitM i o pc off).2 else (emitM i o pc off).1
def cellsS (e:Bool) (p:a0s) (o:List Int) (f:Int) (k m:Nat):List a0h:=if e = true then cellsOfE p o f k m else cellsOfA p o f k m
theorem g1j (e:Bool) (p:a0s) (o:List Int) (f:Int) (k:Nat):cellsS e p o f k 0 = []:=by
 unfold cellsS cellsOfA cellsOfE fromM;cases e <;> rfl
theorem f8C (e:Bool) (p:a0s) (o:List Int) (f:Int) (k m:Nat):cellsS e p o f k (m+1) = emS e (codeM p k) o (k:Int) ((k:Int) - f)++cellsS e p o f (k+1) m:=by
 unfold cellsS cellsOfA cellsOfE fromM emS;cases e <;> simp only [Bool.false_eq_true,if_false,if_true,List.range'_succ,List.map_cons,List.flatMap_cons]
theorem g1R (e:Bool) (p:a0s) (o:List Int) (f:Int):∀ (a k b:Nat),cellsS e p o f k (a+b) = cellsS e p o f k a++cellsS e p o f (k+a) b
 | 0,k,b=>by rw [g1j,Nat.zero_add,List.nil_append,Nat.add_zero]
 | a+1,k,b=>by
  rw [show a+1+b = (a+b)+1 by omega,f8C,g1R e p o f a (k+1) b,f8C,List.append_assoc,show k+1+a = k+(a+1) by omega]
structure Spl (p:a0s) (o:List Int) (s:a0g):Prop where
 eq:s = ⟨(cutM p).map (fillB p o),o⟩
 cl:closedM p o = true
theorem Spl.of {p:a0s} {o:List Int} (h:closedM p o = true):Spl p o (withS p o):=⟨by unfold withS; rw [if_pos h],h⟩
def frB (p:a0s) (k:Nat):Int:=(leadI p).getD k 0
def toB (p:a0s) (k:Nat):Int:=toM p (leadI p) k
section
variable {p:a0s} {o:List Int} {s:a0g} (h:Spl p o s)
include h
theorem Spl.right:rightP p = true:=f5s h.cl
theorem Spl.len:s.Blocks.length = (leadI p).length:=by rw [h.eq]; simp [g0H]
theorem Spl.blk {k:Nat} (hk:k < (leadI p).length):s.Blocks.getD k a0x.z = fillB p o (cutB p (leadI p) k):=by
 rw [h.eq];simp only;rw [List.getD_eq_getElem?_getD,List.getElem?_map];have:(cutM p)[k]? = some (cutB p (leadI p) k):=by
  unfold cutM;rw [List.getElem?_map,List.getElem?_range hk];rfl
 rw [this];rfl
theorem Spl.has (b:Int):hasM s b = true↔0≤b∧b < (leadI p).length:=by
 unfold hasM;rw [decide_eq_true_eq];simp only [Zz.len,h.len]
theorem Spl.bounds {k:Nat} (hk:k < (leadI p).length):0≤frB p k∧frB p k < toB p k∧toB p k≤p.Code.length∧p.Code.length≤2000:=by
 have hm:cutB p (leadI p) k∈cutM p:=by
  unfold cutM;exact List.mem_map.2 ⟨k,List.mem_range.2 hk,rfl⟩
 have:=g0F h.right _ hm;exact ⟨this.1,this.2.1,this.2.2,(f2e h.right).2.1⟩
theorem Spl.cells {k:Nat} (hk:k < (leadI p).length) (e:Bool):cellsM s e (k:Int) = cellsS e p o (frB p k) (frB p k).toNat (toB p k - frB p k).toNat:=by
 unfold cellsM blockM;rw [if_pos ((h.has _).2 ⟨by omega,by omega⟩),Int.toNat_natCast,h.blk hk];cases e <;> rfl
theorem Spl.block {k:Nat} (hk:k < (leadI p).length):(blockM s (k:Int)).1 = frB p k∧(blockM s (k:Int)).2.1 = toB p k∧(blockM s (k:Int)).2.2.1 = nxM p (leadI p) (toB p k)∧(blockM s (k:Int)).2.2.2.1 = tkM p (leadI p) (toB p k):=by
 unfold blockM;rw [Int.toNat_natCast,h.blk hk];exact ⟨rfl,rfl,rfl,rfl⟩
theorem Spl.end_ {k:Nat} (hk:k < (leadI p).length) {pos:a0C} (hb:pos.Block = (k:Int)) (h0:-1000000000≤pos.Base) (h1:pos.Base≤1000000000000):endM s pos = pos.Base+toB p k - frB p k:=by
 have hbd:=h.bounds hk;unfold endM;rw [hb,if_pos ((h.has _).2 ⟨by omega,by omega⟩),(h.block hk).1,(h.block hk).2.1,wI (x:=pos.Base+toB p k) (by omega) (by omega),wI (by omega) (by omega)]
end
theorem g4e {p:a0s} (h:rightP p = true):0 < (leadI p).length∧frB p 0 = 0:=by
 have hc:=f2e h;have h1:=hc.1;unfold frB leadI leadM;obtain ⟨m,hm⟩:∃ m,p.Code.length = m+1:=⟨p.Code.length - 1,by omega⟩
 rw [hm,List.range_succ_eq_map,List.filter_cons_of_pos (by unfold markM; simp)];exact ⟨by simp,rfl⟩
theorem g8H {p:a0s} {n:Nat} (hn:n < p.Code.length) (hm:markM p p.Code.length n = true):∃ k:Nat,k < (leadI p).length∧frB p k = (n:Int)∧findL (leadI p) (n:Int) = (k:Int):=by
 have hmem:(n:Int)∈leadI p:=by
  unfold leadI leadM;exact List.mem_map.2 ⟨n,List.mem_filter.2 ⟨List.mem_range.2 hn,hm⟩,rfl⟩
 have hlt:=List.idxOf_lt_length_of_mem hmem;refine ⟨List.idxOf (n:Int) (leadI p),hlt,?_,?_⟩
 ·
  unfold frB;rw [List.getD_eq_getElem?_getD,List.getElem?_eq_getElem hlt,Option.getD_some];exact List.getElem_idxOf hlt
 ·
  unfold findL;rw [if_pos hmem]
theorem g4B {p:a0s} {k:Nat} (hk:k < (leadI p).length):findL (leadI p) (frB p k) = (k:Int):=by
 have hl:=f2C p;unfold findL frB;have hg:(leadI p).getD k 0 = (leadI p)[k]:=by rw [List.getD_eq_getElem?_getD,List.getElem?_eq_getElem hk]; rfl
 have hmem:(leadI p).getD k 0∈leadI p:=by rw [hg]; exact List.getElem_mem _
 have hlt:=List.idxOf_lt_length_of_mem hmem;rw [if_pos hmem];have he:(leadI p).getD (List.idxOf ((leadI p).getD k 0) (leadI p)) 0 = (leadI p).getD k 0:=by
  rw [List.getD_eq_getElem?_getD,List.getElem?_eq_getElem hlt,Option.getD_some];exact List.getElem_idxOf hlt
 have:List.idxOf ((leadI p).getD k 0) (leadI p) = k:=by
  rcases Nat.lt_trichotomy (List.idxOf ((leadI p).getD k 0) (leadI p)) k with h | h | h
  · have:=hl.up _ k h hk; omega
  · exact h
  · have:=hl.up k _ h hlt; omega
 rw [this]
theorem g7K {p:a0s} (h:rightP p = true) {k:Nat} (hk:k < (leadI p).length):(k+1 < (leadI p).length∧toB p k = frB p (k+1))∨(k+1 = (leadI p).length∧toB p k = p.Code.length):=by
 unfold toB toM frB;by_cases hj:k+1 < (leadI p).length
 · rw [if_pos hj]; exact .inl ⟨hj,rfl⟩
 · rw [if_neg hj]; exact .inr ⟨by omega,rfl⟩
theorem g5j (p:a0s):findL (leadI p) (len p.Code) = -1:=by
 unfold findL;rw [if_neg];intro h;have hl:=f2C p;obtain ⟨k,hk,e⟩:=List.mem_iff_getElem.1 h;have:=hl.lo k hk;rw [List.getD_eq_getElem?_getD,List.getElem?_eq_getElem hk,Option.getD_some,e] at this;simp only [len] at this;omega
def CellAt (ks:List Int) (pc off:Int) (c:a0h):Prop:=c.2.2.2.1 = pc∧c.2.2.2.2.1 = off∧c.1∈ks∧InsK c.1 c.2.1
theorem at_I {ks:List Int} {kd pc off:Int} {i:a0o} (hk:kd∈ks) (hx:InsK kd i):CellAt ks pc off (cellI kd i pc off):=⟨rfl,rfl,hk,hx⟩
theorem at_R {ks:List Int} {kd r pc off:Int} (hk:kd∈ks) (h:4 < kd):CellAt ks pc off (cellR kd r pc off):=⟨rfl,rfl,hk,d7F (by show kd≠2; omega) (by show kd≠3; omega) (by show kd≠4; omega)⟩
theorem g7C (i:a0o) (o:List Int) (pc off:Int):(∀ c∈(emitM i o pc off).1,CellAt KA pc off c)∧∀ c∈(emitM i o pc off).2,CellAt KE pc off c:=by
 unfold emitM;cases hr:rightIns i with
 | false=>rw [if_pos rfl]; exact ⟨by simp,by simp⟩
 | true =>
  rw [if_neg (by simp)];obtain ⟨hd,_⟩:=a9Q hr;have m:∀ {ks:List Int} {kd:Int},kd∈ks→4 < kd→∀ l:List Int,∀ c∈l.map (fun r=>cellR kd r pc off),CellAt ks pc off c:=by
   intro ks kd hk h l c hc;obtain ⟨r,_,rfl⟩:=List.mem_map.1 hc;exact at_R hk h
  have n1:∀ ks:List Int,1∈ks→CellAt ks pc off (cellI 1 i pc off):=fun ks h=>at_I h (d7F (by decide) (by decide) (by decide))
  have n9:∀ ks:List Int,9∈ks→CellAt ks pc off (cellI 9 i pc off):=fun ks h=>at_I h (d7F (by decide) (by decide) (by decide))
  have one:∀ {ks:List Int} {a:a0h},CellAt ks pc off a→∀ c∈[a],CellAt ks pc off c:=by
   intro ks a h c hc;rw [List.mem_singleton.1 hc]; exact h
  have two:∀ {ks:List Int} {a b:List a0h},(∀ c∈a,CellAt ks pc off c)→(∀ c∈b,CellAt ks pc off c)→∀ c∈a++b,CellAt ks pc off c:=fun h g c hc=>(List.mem_append.1 hc).elim (h c) (g c)
  have none:∀ ks:List Int,∀ c∈([]:List a0h),CellAt ks pc off c:=by simp
  split
  ·
   split
   · exact ⟨one (n1 _ (by decide)),none _⟩
   · exact ⟨m (by decide) (by decide) _,two (m (by decide) (by decide) _) (one (n1 _ (by decide)))⟩
  split
  ·
   rename_i h4;have hl:∀ kd:Int,kd≠4→InsK kd i:=fun kd h=>e7b hd (bt h4) h
   split
   · exact ⟨one (at_I (by decide) (hl 3 (by decide))),one (at_I (by decide) (hl 7 (by decide)))⟩
   · exact ⟨one (at_I (by decide) (hl 2 (by decide))),none _⟩
  split
  ·
   rename_i h5;have hs:InsK 4 i:=e7q (bt h5) (by decide) (by decide);split
   · exact ⟨two (one (at_R (by decide) (by decide))) (one (at_I (by decide) hs)),two (one (at_R (by decide) (by decide))) (one (at_R (by decide) (by decide)))⟩
   · exact ⟨one (at_I (by decide) hs),one (at_R (by decide) (by decide))⟩
  split
  ·
   split
   · exact ⟨one (n9 _ (by decide)),one (at_R (by decide) (by decide))⟩
   · exact ⟨two (m (by decide) (by decide) _) (one (at_R (by decide) (by decide))),two (m (by decide) (by decide) _) (one (n9 _ (by decide)))⟩
  split
  · exact ⟨one (at_R (by decide) (by decide)),one (at_R (by decide) (by decide))⟩
  split
  · exact ⟨one (at_R (by decide) (by decide)),one (at_R (by decide) (by decide))⟩
  · exact ⟨none _,none _⟩
theorem g2v {α β:Type} (f:α→List β) (m:Nat):∀ l:List α,(∀ a∈l,(f a).length≤m)→(l.flatMap f).length≤m*l.length
 | [],_=>by simp
 | a::l,h=>by
  rw [List.flatMap_cons,List.length_append,List.length_cons];have h1:=g2v f m l (fun b hb=>h b (by simp [hb]));have h2:=h a (by simp);rw [Nat.mul_succ];omega
theorem g3X (p:a0s) (o:List Int) (f:Int) (k m:Nat):(cellsOfA p o f k m).length≤8*m∧(cellsOfE p o f k m).length≤8*m:=by
 have hl:(fromM p o f k m).length = m:=by unfold fromM; simp
 have hm:∀ a∈fromM p o f k m,a.1.length≤8∧a.2.length≤8:=by
  intro a ha;unfold fromM at ha;obtain ⟨n,_,rfl⟩:=List.mem_map.1 ha;exact g1q _ _ _ _
 constructor
 ·
  have:=g2v (fun a:List a0h × List a0h=>a.1) 8 _ (fun a ha=>(hm a ha).1);rw [hl] at this;exact this
 ·
  have:=g2v (fun a:List a0h × List a0h=>a.2) 8 _ (fun a ha=>(hm a ha).2);rw [hl] at this;exact this
theorem g7J (p:a0s) (o:List Int) {f t:Int} (h0:0≤f) (h1:f < t):SpanOk KA f t (cellsOfA p o f f.toNat (t - f).toNat)∧SpanOk KE f t (cellsOfE p o f f.toNat (t - f).toNat):=by
 have hl:=g3X p o f f.toNat (t - f).toNat
 have key:∀ (ks:List Int) (g:List a0h × List a0h→List a0h),(∀ i pc off,∀ c∈g (emitM i o pc off),CellAt ks pc off c)→∀ c∈(fromM p o f f.toNat (t - f).toNat).flatMap g,(f≤c.2.2.2.1∧c.2.2.2.1 < t∧c.2.2.2.2.1 = c.2.2.2.1 - f)∧c.1∈ks∧InsK c.1 c.2.1:=by
  intro ks g hg c hc;obtain ⟨a,ha,hc⟩:=List.mem_flatMap.1 hc;unfold fromM at ha;obtain ⟨n,hn,rfl⟩:=List.mem_map.1 ha;obtain ⟨e1,e2,e3,e4⟩:=hg _ _ _ c hc;have hn:=List.mem_range'_1.1 hn;rw [e1,e2];exact ⟨⟨by omega,by omega,rfl⟩,e3,e4⟩
 have kA:=key KA (·.1) fun i pc off=>(g7C i o pc off).1
 have kE:=key KE (·.2) fun i pc off=>(g7C i o pc off).2
 exact ⟨⟨by have:=hl.1; omega,fun c hc=>(kA c hc).1,fun c hc=>(kA c hc).2.1,fun c hc=>(kA c hc).2.2⟩,⟨by have:=hl.2; omega,fun c hc=>(kE c hc).1,fun c hc=>(kE c hc).2.1,fun c hc=>(kE c hc).2.2⟩⟩
theorem Spl.next {p:a0s} {o:List Int} {s:a0g} (h:Spl p o s):NextOk s∧SplitOk s.Blocks:=by
 have g9:SplitOk s.Blocks:=by
  have hlen:=h.len;have hz:=(g4e h.right).1;have hll:=(f2C p).len;have hc2:=(f2e h.right).2.1;refine ⟨fun e=>by rw [e] at hlen; simp at hlen; omega,by omega,fun k hk=>?_⟩
  have hk2:k < (leadI p).length:=by omega
  obtain ⟨b1,b2,b3,b4⟩:=h.bounds hk2;rw [h.blk hk2];obtain ⟨s1,s2⟩:=g7J p o b1 b2;refine ⟨b1,b2,by show toB p k≤2000; omega,?_,s1,s2⟩
  show nxM p (leadI p) (toB p k) = -1∨((k:Int) < nxM p (leadI p) (toB p k)∧nxM p (leadI p) (toB p k) < s.Blocks.length);unfold nxM;split
  ·
   rcases g7K h.right hk2 with ⟨g1,g2⟩ | ⟨g1,g2⟩
   · rw [g2,g4B g1]; omega
   · rw [g2]; exact .inl (g5j p)
  · exact .inl rfl
 exact ⟨NextOk.of g9,g9⟩
theorem h0I {p:a0s} {k:Nat} (hk:k < (leadI p).length) {n:Nat} (h1:frB p k < n) (h2:(n:Int) < toB p k) (hn:n < p.Code.length):markM p p.Code.length n = false:=by
 cases hm:markM p p.Code.length n with
 | false=>rfl
 | true =>
  obtain ⟨j,hj,e,_⟩:=g8H hn hm;have hl:=f2C p;rcases Nat.lt_trichotomy j k with h | h | h
  · have:=hl.up j k h hk; unfold frB at *; omega
  · subst h; omega
  ·
   unfold toB toM at h2;rw [if_pos (by omega)] at h2;by_cases e2:j = k+1
   · subst e2; unfold frB at *; omega
   · have:=hl.up (k+1) j (by omega) hj; unfold frB at *; omega
theorem g2r {p:a0s} {j n:Nat} (hj:j < p.Code.length) (h:hitM p j n = true):markM p p.Code.length n = true:=by
 unfold markM;rw [Bool.or_eq_true];exact .inr (List.any_eq_true.2 ⟨j,List.mem_range.2 hj,h⟩)
theorem h0u {p:a0s} {k:Nat} (hk:k < (leadI p).length) {n:Nat} (h1:frB p k≤n) (h2:(n:Int)+1 < toB p k) (hn:n+1 < p.Code.length):endsI (codeM p n) = false:=by
 cases he:endsI (codeM p n) with
 | false=>rfl
 | true =>
  have:=h0I hk (n:=n+1) (by omega) (by omega) hn;have h3:=g2r (p:=p) (j:=n) (n:=n+1) (by omega) (by unfold hitM; rw [he]; simp);rw [this] at h3;cases h3
/-! Settling -/
theorem g8G {s:a0g} (h:NextOk s) (e:Bool):∀ (n:Nat) (p:a0C),hasM s p.Block = true→s.Blocks.length - p.Block.toNat≤n→settleN s e (n+1) p = settleN s e n p
 | 0,p,hp,hn=>by
  have:=a2u.1 hp;omega
 | n+1,p,hp,hn=>by
  rw [settleN]
  conv=>rhs; rw [settleN]
  have hnb:¬ (hasM s p.Block = false):=by rw [hp]; simp
  rw [if_neg hnb,if_neg hnb];by_cases h1:p.Index < len (cellsM s e p.Block)
  · rw [if_pos h1,if_pos h1]
  rw [if_neg h1,if_neg h1];by_cases h2:(blockM s p.Block).2.2.1 < 0
  · rw [if_pos h2,if_pos h2]
  rw [if_neg h2,if_neg h2];rcases h p.Block hp with h3 | ⟨h3,h4⟩
  · exact absurd h3 h2
  have h5:=a2u.1 h4;have h6:=a2u.1 hp;exact g8G h e n _ h4 (by simp only; omega)
theorem g3w {s:a0g} {e:Bool} {p:a0C} (hp:hasM s p.Block = true) (h:p.Index < len (cellsM s e p.Block)):settleM s e p = (p,false):=by
 have h0:=a2u.1 hp;obtain ⟨k,hk⟩:∃ k,s.Blocks.length = k+1:=⟨s.Blocks.length - 1,by omega⟩
 unfold settleM;rw [hk,settleN,if_neg (by rw [hp]; simp),if_pos h]
theorem g9I {s:a0g} (hn:NextOk s) {e:Bool} {p:a0C} (hp:hasM s p.Block = true) (h:¬ p.Index < len (cellsM s e p.Block)) (h2:¬ (blockM s p.Block).2.2.1 < 0):settleM s e p = settleM s e ⟨(blockM s p.Block).2.2.1,0,endM s p⟩:=by
 have h0:=a2u.1 hp;obtain ⟨k,hk⟩:∃ k,s.Blocks.length = k+1:=⟨s.Blocks.length - 1,by omega⟩
 rcases hn p.Block hp with h3 | ⟨h3,h4⟩
 · exact absurd h3 h2
 have h5:=a2u.1 h4;unfold settleM;rw [hk]
 conv=>lhs; rw [settleN]
 rw [if_neg (by rw [hp]; simp),if_neg h,if_neg h2];exact (g8G hn e k _ h4 (by simp only; omega)).symm
theorem g9J {s:a0g} {e:Bool} {p:a0C} (hp:hasM s p.Block = true) (h:¬ p.Index < len (cellsM s e p.Block)) (h2:(blockM s p.Block).2.2.1 < 0):settleM s e p = (p,true):=by
 have h0:=a2u.1 hp;obtain ⟨k,hk⟩:∃ k,s.Blocks.length = k+1:=⟨s.Blocks.length - 1,by omega⟩
 unfold settleM;rw [hk,settleN,if_neg (by rw [hp]; simp),if_neg h,if_pos h2]
/-! Places on the way: at instruction n of block k, j of its cells done, its step being st -/
def posM (p:a0s) (o:List Int) (e:Bool) (k n j:Nat) (st:Int):a0C:=⟨(k:Int),((cellsS e p o (frB p k) (frB p k).toNat (n - (frB p k).toNat)).length+j:Nat),st - ((n:Int) - frB p k)⟩
section
variable {p:a0s} {o:List Int} {s:a0g} (h:Spl p o s)
include h
theorem Spl.parts {k n:Nat} (hk:k < (leadI p).length) (h1:frB p k≤n) (h2:(n:Int) < toB p k) (e:Bool) :
  cellsM s e (k:Int) = cellsS e p o (frB p k) (frB p k).toNat (n - (frB p k).toNat)++(emS e (codeM p n) o (n:Int) ((n:Int) - frB p k)++cellsS e p o (frB p k) (n+1) (toB p k - n - 1).toNat):=by
 have hb:=h.bounds hk;rw [h.cells hk e,show (toB p k - frB p k).toNat = (n - (frB p k).toNat)+((toB p k - n - 1).toNat+1) by omega,g1R,show (frB p k).toNat+(n - (frB p k).toNat) = n by omega,f8C]
theorem Spl.at_cell {k n j:Nat} (hk:k < (leadI p).length) (h1:frB p k≤n) (h2:(n:Int) < toB p k) (e:Bool) (st:Int) (hj:j < (emS e (codeM p n) o (n:Int) ((n:Int) - frB p k)).length) :
  settleM s e (posM p o e k n j st) = (posM p o e k n j st,false)∧cellAt s e (posM p o e k n j st) = (emS e (codeM p n) o (n:Int) ((n:Int) - frB p k)).getD j a0h.z:=by
 have hc:=h.parts hk h1 h2 e;refine ⟨g3w ((h.has _).2 ⟨by unfold posM; simp only; omega,by unfold posM; simp only; omega⟩) ?_,?_⟩
 ·
  show ((_:Nat):Int) < Zz.len (cellsM s e (k:Int));rw [hc];simp only [Zz.len,List.length_append];omega
 ·
  unfold cellAt posM;simp only [Int.toNat_natCast];rw [hc,List.getD_eq_getElem?_getD,List.getElem?_append_right (by omega),Nat.add_sub_cancel_left,List.getElem?_append_left hj,List.getD_eq_getElem?_getD]
theorem Spl.go_on {k n:Nat} (hk:k < (leadI p).length) (h1:frB p k≤n) (h2:(n:Int) < toB p k) (e:Bool) (st:Int) (hst:0≤st) (hst2:st≤1000000000) (hj:(codeM p n).1≠40) (hh:(codeM p n).1≠41) :
  ∃ k':Nat,k' < (leadI p).length∧frB p k'≤(n+1:Nat)∧(((n+1:Nat):Int) < toB p k'∨(((n+1:Nat):Int) = p.Code.length∧toB p k' = p.Code.length∧k'+1 = (leadI p).length)) ∧
   settleM s e (posM p o e k n (emS e (codeM p n) o (n:Int) ((n:Int) - frB p k)).length st) = settleM s e (posM p o e k' (n+1) 0 (st+1)):=by
 have hb:=h.bounds hk;have hlen:(cellsS e p o (frB p k) (frB p k).toNat (n - (frB p k).toNat)).length+(emS e (codeM p n) o (n:Int) ((n:Int) - frB p k)).length = (cellsS e p o (frB p k) (frB p k).toNat (n+1 - (frB p k).toNat)).length:=by
  rw [show n+1 - (frB p k).toNat = (n - (frB p k).toNat)+1 by omega,g1R,show (frB p k).toNat+(n - (frB p k).toNat) = n by omega,f8C,g1j,List.append_nil,List.length_append]
 have hpos:posM p o e k n (emS e (codeM p n) o (n:Int) ((n:Int) - frB p k)).length st = posM p o e k (n+1) 0 (st+1):=by
  unfold posM;rw [hlen];simp only [Nat.add_zero,a0C.mk.injEq,true_and];omega
 rw [hpos];by_cases hin:((n+1:Nat):Int) < toB p k
 · exact ⟨k,hk,by omega,.inl hin,rfl⟩
 have ht:toB p k = ((n+1:Nat):Int):=by omega
 rcases g7K h.right hk with ⟨hk1,e1⟩ | ⟨hk1,e1⟩
 ·
  have hb1:=h.bounds hk1;refine ⟨k+1,hk1,by omega,.inl (by omega),?_⟩
  have hc:=h.cells hk e;have hx:(toB p k - frB p k).toNat = n+1 - (frB p k).toNat:=by omega
  have hhas:hasM s ((posM p o e k (n+1) 0 (st+1)).Block) = true:=(h.has _).2 ⟨by unfold posM; simp only; omega,by unfold posM; simp only; omega⟩
  have hnx:(blockM s (k:Int)).2.2.1 = ((k+1:Nat):Int):=by
   rw [(h.block hk).2.2.1];unfold nxM;rw [show (toB p k - 1).toNat = n by omega,if_pos ⟨hj,hh⟩,e1,g4B hk1]
  have hn:NextOk s:=h.next.1
  rw [g9I hn hhas (by show ¬ (((_:Nat):Int) < Zz.len (cellsM s e (k:Int))); rw [hc,hx]; simp only [Zz.len]; omega) (by show ¬ ((blockM s (k:Int)).2.2.1 < 0); rw [hnx]; omega)];congr 1;have he:=h.end_ hk (pos:=posM p o e k (n+1) 0 (st+1)) rfl (by unfold posM; simp only; omega) (by unfold posM; simp only; omega);rw [he];unfold posM;simp only;rw [hnx,← e1,show n+1 - (toB p k).toNat = 0 by omega,g1j];simp only [List.length_nil,Nat.add_zero,Int.natCast_zero,a0C.mk.injEq,true_and];omega
 · exact ⟨k,hk,by omega,.inr ⟨by omega,e1,hk1⟩,rfl⟩
end
end Go.Proofs.Zz

/- Where a stream is, on a program's way: at place pc, step n, j cells of the instruction done. -/
set_option maxRecDepth 100000
namespace Go.Proofs.Zz
open Go
def emAt (p:a0s) (o:List Int) (e:Bool) (pc:Nat) (off:Int):List a0h:=emS e (codeM p pc) o (pc:Int) off
theorem g4N (e:Bool) (i:a0o) (o:List Int) (pc off off':Int):(emS e i o pc off).length = (emS e i o pc off').length:=by
 unfold emS emitM;cases e <;> (simp only [Bool.false_eq_true,if_false,if_true]; repeat' split) <;> simp
def WAt (p:a0s) (o:List Int) (s:a0g) (e:Bool) (pc n j:Nat) (pos:a0C):Prop :=
 ∃ k:Nat,k < (leadI p).length∧frB p k≤pc∧((pc:Int) < toB p k∨((pc:Int) = p.Code.length∧toB p k = p.Code.length∧k+1 = (leadI p).length))∧settleM s e pos = settleM s e (posM p o e k pc j n)
section
variable {p:a0s} {o:List Int} {s:a0g} {e:Bool} {pc n j:Nat} {pos:a0C} (h:Spl p o s)
include h
theorem Spl.first:WAt p o s e 0 0 0 ⟨0,0,0⟩:=by
 obtain ⟨h1,h2⟩:=g4e h.right;have hb:=h.bounds h1;refine ⟨0,h1,by omega,.inl (by omega),?_⟩
 unfold posM;rw [h2];simp [g1j]
theorem WAt.lt (hw:WAt p o s e pc n j pos):pc≤p.Code.length:=by
 obtain ⟨k,hk,h1,h2,h3⟩:=hw;have hb:=h.bounds hk;omega
theorem WAt.cell (hw:WAt p o s e pc n j pos) (hpc:pc < p.Code.length) (hn:n≤1000000000) (hj:j < (emAt p o e pc 0).length) :
  ∃ k:Nat,k < (leadI p).length∧frB p k≤pc∧(pc:Int) < toB p k∧settleM s e pos = (posM p o e k pc j n,false)∧nextM s e pos = ((emAt p o e pc ((pc:Int) - frB p k)).getD j a0h.z,(n:Int),true):=by
 obtain ⟨k,hk,h1,h2,h3⟩:=hw;have hb:=h.bounds hk;have h2:(pc:Int) < toB p k:=by omega
 have hj':j < (emS e (codeM p pc) o (pc:Int) ((pc:Int) - frB p k)).length:=by
  rw [g4N e _ o _ _ 0]; exact hj
 obtain ⟨g1,g2⟩:=h.at_cell hk h1 h2 e n hj';refine ⟨k,hk,h1,h2,h3.trans g1,?_⟩;unfold nextM;rw [h3,g1];simp only [g2];rw [if_neg (by rintro (h | h); cases h; unfold posM at h; simp only at h; omega)];have hoff:((emS e (codeM p pc) o (pc:Int) ((pc:Int) - frB p k)).getD j a0h.z).2.2.2.2.1 = (pc:Int) - frB p k:=by
  rw [List.getD_eq_getElem?_getD,List.getElem?_eq_getElem hj',Option.getD_some];have hm:=List.getElem_mem hj';generalize (emS e (codeM p pc) o (pc:Int) ((pc:Int) - frB p k))[j] = c at hm;unfold emS emitM at hm
  revert hm
  cases e <;> simp only [Bool.false_eq_true,if_false,if_true] <;> (repeat' split) <;> simp only [List.mem_cons,List.mem_append,List.mem_map,List.not_mem_nil,or_false,false_or] <;> intro hm
  all_goals first | exact hm.elim | (rcases hm with rfl | rfl <;> rfl) | (subst hm; rfl) | (rcases hm with ⟨r,_,rfl⟩ | rfl <;> rfl) | (obtain ⟨r,_,rfl⟩:=hm; rfl)
 rw [hoff];have:w.i64 ((posM p o e k pc j n).Base+((pc:Int) - frB p k)) = (n:Int):=by
  unfold posM;simp only;rw [wI (by omega) (by omega)];omega
 rw [this];rfl
theorem WAt.step (hw:WAt p o s e pc n j pos) (hpc:pc < p.Code.length) (hn:n≤1000000000) (hj:j < (emAt p o e pc 0).length):WAt p o s e pc n (j+1) (goM s (settleM s e pos).1 false):=by
 obtain ⟨k,hk,h1,h2,h3,_⟩:=WAt.cell h hw hpc hn hj;have hb:=h.bounds hk;refine ⟨k,hk,h1,.inl h2,?_⟩;rw [h3];unfold goM;rw [if_neg (by simp)];have hl:(posM p o e k pc j n).Index≤100000:=by
  have hc:=(h.next).2.blk k (by rw [h.len]; exact hk);have hcm:=h.parts hk h1 h2 e;have hlen:=congrArg List.length hcm;simp only [List.length_append] at hlen;unfold posM;simp only;have hj':j < (emS e (codeM p pc) o (pc:Int) ((pc:Int) - frB p k)).length:=by rw [g4N e _ o _ _ 0]; exact hj
  have hsp:((cellsM s e (k:Int)).length:Int)≤8*((s.Blocks.getD k a0x.z).2.1 - (s.Blocks.getD k a0x.z).1):=by
   unfold cellsM blockM;rw [if_pos ((h.has _).2 ⟨by omega,by omega⟩),Int.toNat_natCast];cases e
   · exact hc.2.2.2.2.1.len
   · exact hc.2.2.2.2.2.len
  omega
 have:w.i64 ((posM p o e k pc j n).Index+1) = (posM p o e k pc j n).Index+1:=wI (by unfold posM; simp only; omega) (by omega);rw [this];rfl
theorem WAt.on (hw:WAt p o s e pc n (emAt p o e pc 0).length pos) (hpc:pc < p.Code.length) (hn:n≤1000000000) (h40:(codeM p pc).1≠40) (h41:(codeM p pc).1≠41):WAt p o s e (pc+1) (n+1) 0 pos:=by
 obtain ⟨k,hk,h1,h2,h3⟩:=hw;have hb:=h.bounds hk;obtain ⟨k',g1,g2,g3,g4⟩:=h.go_on hk h1 (by omega) e (n:Int) (by omega) (by omega) h40 h41;refine ⟨k',g1,g2,g3.imp id (fun h=>h),?_⟩;rw [h3];have:(emAt p o e pc 0).length = (emS e (codeM p pc) o (pc:Int) ((pc:Int) - frB p k)).length:=g4N e _ o _ _ _;rw [this,g4];rfl
theorem WAt.go (hw:WAt p o s e pc n j pos) (hpc:pc < p.Code.length) (hn:n≤1000000000) (hj:j < (emAt p o e pc 0).length) (hbr:brM (codeM p pc) = true):0≤tgtM p (pc:Int)∧WAt p o s e (tgtM p (pc:Int)).toNat (n+1) 0 (goM s (settleM s e pos).1 true):=by
 have hr:=h.right;have ht:0≤tgtM p (pc:Int):=by
  unfold rightP tgtsOk at hr;simp only [Bool.and_eq_true] at hr;have:=List.all_eq_true.1 hr.2.2 pc (List.mem_range'.2 ⟨pc,hpc,by omega⟩);unfold tgtOk at this;rw [hbr] at this;simp only [Bool.true_and,Bool.not_eq_true',decide_eq_false_iff_not] at this;omega
 have htl:=g3t ht;refine ⟨ht,?_⟩;obtain ⟨k,hk,h1,h2,h3,_⟩:=WAt.cell h hw hpc hn hj;have hb:=h.bounds hk;have hends:endsI (codeM p pc) = true:=by
  unfold brM at hbr;have:=of_decide_eq_true hbr;unfold endsI;exact decide_eq_true (by omega)
 have hto:toB p k = (pc:Int)+1:=by
  by_cases hx:(pc:Int)+1 < toB p k
  ·
   have:=h0u hk h1 hx (by omega);rw [hends] at this;cases this
  · omega
 obtain ⟨t,hte⟩:∃ t:Nat,tgtM p (pc:Int) = (t:Int):=⟨(tgtM p (pc:Int)).toNat,by omega⟩
 have hm:markM p p.Code.length t = true:=g2r hpc (by unfold hitM; rw [hte]; simp);obtain ⟨k',g1,g2,g3⟩:=g8H (by omega) hm;have hb':=h.bounds g1;have htk:(blockM s (k:Int)).2.2.2.1 = (k':Int):=by
  rw [(h.block hk).2.2.2];unfold tkM;rw [hto,show (pc:Int)+1 - 1 = (pc:Int) by omega,if_pos ht,hte,g3]
 rw [hte,Int.toNat_natCast];refine ⟨k',g1,by omega,.inl (by omega),?_⟩
 rw [h3];have hend:=h.end_ hk (pos:=posM p o e k pc j n) rfl (by unfold posM; simp only; omega) (by unfold posM; simp only; omega);have hg:goM s (posM p o e k pc j n) true = posM p o e k' t 0 ((n+1:Nat):Int):=by
  have hB:(posM p o e k pc j n).Block = (k:Int):=rfl;unfold goM;rw [hB,htk,if_pos ⟨rfl,(h.has _).2 ⟨by omega,by omega⟩,(h.has _).2 ⟨by omega,by omega⟩⟩,hend];unfold posM;rw [g2,show t - ((t:Int)).toNat = 0 by omega,g1j];simp only [List.length_nil,Nat.add_zero,Int.natCast_zero,a0C.mk.injEq,true_and];omega
 rw [hg]
theorem WAt.fell (hw:WAt p o s e p.Code.length n 0 pos) (hn:n≤1000000000) (h40:(codeM p (p.Code.length - 1)).1 = 40→False) (h41:(codeM p (p.Code.length - 1)).1 = 41→False) :
  ∃ q:a0C,settleM s e pos = (q,true)∧nextM s e pos = (a0h.z,(n:Int),false)∧(blockM s q.Block).2.1 = p.Code.length:=by
 obtain ⟨k,hk,h1,h2,h3⟩:=hw;have hb:=h.bounds hk;have h2:toB p k = p.Code.length:=by omega
 have hhas:hasM s ((posM p o e k p.Code.length 0 n).Block) = true:=(h.has _).2 ⟨by unfold posM; simp only; omega,by unfold posM; simp only; omega⟩
 have hc:=h.cells hk e;have hnx:(blockM s (k:Int)).2.2.1 = -1:=by
  rw [(h.block hk).2.2.1,h2];unfold nxM;split
  ·
   unfold findL;rw [if_neg];intro hm;obtain ⟨i,hi,e⟩:=List.getElem_of_mem hm;have:=(f2C p).lo i hi;rw [List.getD_eq_getElem?_getD,List.getElem?_eq_getElem hi,Option.getD_some,e] at this;omega
  · rfl
 have hs:settleM s e (posM p o e k p.Code.length 0 n) = (posM p o e k p.Code.length 0 n,true):=by
  refine g9J hhas ?_ (by unfold posM; simp only; rw [hnx]; omega);unfold posM;simp only;rw [hc,show (toB p k - frB p k).toNat = p.Code.length - (frB p k).toNat by omega];simp only [len];omega
 have hend:=h.end_ hk (pos:=posM p o e k p.Code.length 0 n) rfl (by unfold posM; simp only; omega) (by unfold posM; simp only; omega);refine ⟨_,h3.trans hs,?_,?_⟩
 ·
  unfold nextM;rw [h3,hs,if_pos (.inl rfl),hend];unfold posM;simp only [Prod.mk.injEq,true_and,and_true];omega
 · exact (h.block hk).2.1.trans h2
end
end Go.Proofs.Zz
