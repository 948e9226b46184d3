import Derived.Test.YtnfpdmhdpeffjaaGreatMD
import Derived.KernelRfl
set_option linter.unusedSimpArgs false
set_option linter.unusedVariables false
namespace Go.Proofs.Zz
open Go
variable {N:Nat}
def atA (s:ao) (x:aa):ak × Int × Bool × aa :=
 if x.A.A4=true∨x.A.C3>x.A1 then (ak.z,0,false,x)
 else
  let p:=kx s false x.A.A6
  let x1:aa:={x with A:={x.A with A6:=p.1}}
  let x2:=if p.2=true then bG x1 4 (aT s false p.1).2.1 (bz s p.1.A7).2.1 else x1
  ((aT s false p.1).1,(aT s false p.1).2.1,(aT s false p.1).2.2&&!dk x2 (aT s false p.1).2.1,x2)
theorem e7B (s:ao) (x:aa) (hl:s.A3.length≤100000) (hN:s.A3.length<N) (hn:NextOk s) (hb:hasM s x.A.A6.A7=true) :
  b7O N s false x=some (0,bS.dv (atA s x).1 (gI.dv (atA s x).2.1 (gB.dv (atA s x).2.2.1 (aA.dv (atA s x).2.2.2 [])))):=by
 unfold b7O atA;cases hh:x.A.A4 with
 | true=>rw[if_pos (.inl rfl)]; rfl
 | false =>
  by_cases hw:x.A.C3>x.A1
  ·rw[dt hw,if_pos (.inr hw)]; rfl
  ·
   rw[df hw,if_neg (by simp[hw]),ah,ah];have hs:=a3G hn false s.A3.length x.A.A6 hb;rw[show bL s false s.A3.length x.A.A6=kx s false x.A.A6 from rfl]at hs;simp only[b0l s false x.A.A6 hl hN,au,ag,aj,a6W s false _ hl hN,c3Q,b8F];generalize kx s false x.A.A6=p at *;obtain⟨p,f⟩:=p;rw[show s.A3.getD p.A7.toNat aW.z=bz s p.A7 from rfl,a7X hs];cases f with
   | true =>
    simp only[ai,aH,if_true];cases (aT s false p).2.2<;>rfl
   | false =>
    simp only[ah,mN,if_false];cases (aT s false p).2.2<;>rfl
def jl (a b sl:Int):Bool :=
 if a≥b then (if sl≤0 then true else decide (w.u64 (w.u64 a-w.u64 b)≥w.u64 sl)) else (if sl<0 then decide (w.u64 (w.u64 b-w.u64 a)≤w.u64 (0-w.u64 sl)) else false)
theorem d9S (a b sl:Int):a9E N a b sl=some (0,gB.dv (jl a b sl) []):=by
 unfold a9E jl;by_cases h:a≥b
 ·
  rw[dt h,ai,if_pos h];by_cases h2:sl≤0
  ·rw[dt h2,ai,if_pos h2]
  ·rw[df h2,ah,if_neg h2]
 ·
  rw[df h,ah,if_neg h];by_cases h2:sl<0
  ·rw[dt h2,ai,if_pos h2]
  ·rw[df h2,ah,if_neg h2]
def gZ (c:ay) (s:ao) (x:aa):Bool :=
 !x.E.A4&&((aT s true x.E.A6).2.2&&((aT s false x.A.A6).2.2&&jl (aT s false x.A.A6).2.1 (aT s true x.E.A6).2.1 c.D8))
theorem e4O (c:ay) (s:ao) (x:aa) (hl:s.A3.length≤100000) (hN:s.A3.length<N):b5c N c s x=some (0,gB.dv (gZ c s x) []):=by
 unfold b5c gZ;simp only[a6W s true _ hl hN,a6W s false _ hl hN,au,ag,aj,d9S];cases x.E.A4 with
 | true=>rfl
 | false =>
  cases (aT s true x.E.A6).2.2 with
  | false=>rfl
  | true=>cases (aT s false x.A.A6).2.2<;>rfl
def doA (c:ay) (k:ak) (st:Int) (x:aa):aa :=
 if (doM k.2.1 (getM x.A k.2.1.2.2.1) (getM x.A k.2.1.2.2.2.1)).2=true then
  {x with A:=cj (setM x.A k.2.1.2.1 (doM k.2.1 (getM x.A k.2.1.2.2.1) (getM x.A k.2.1.2.2.2.1)).1 (w.i64 (x.A1+latM c k.2.1.1)))}
 else bG x 3 st k.2.2.2.1
theorem e6J (c:ay) (k:ak) (st:Int) (x:aa) (h:∀r∈x.A.B1,U32 r):b3q N c k st x=some (0,aA.dv (doA c k st x) []):=by
 unfold b3q doA;simp only[a3A,au,ag,aj,d6i k.2.1 (b1T h _) (b1T h _),c3Q,b9w,b2z,a3t];cases (doM k.2.1 (getM x.A k.2.1.2.2.1) (getM x.A k.2.1.2.2.2.1)).2<;>rfl
def gN (s:ao) (k:ak) (n:Int) (x:aa):aa :=
 if len x.C6≥n then x else {x with A:=goD s x.A1 x.A (fX k.2.1.1 (getM x.A k.2.1.2.2.1) (getM x.A k.2.1.2.2.2.1)),C6:=x.C6++[fX k.2.1.1 (getM x.A k.2.1.2.2.1) (getM x.A k.2.1.2.2.2.1)]}
theorem d7g (s:ao) (k:ak) (n:Int) (x:aa) (h:x.C6.length≤1000):a2K N s k n x=some (0,aA.dv (gN s k n x) []):=by
 unfold a2K gN;by_cases hq:len x.C6≥n
 ·rw[dt hq,if_pos hq]; rfl
 ·
  rw[df hq,if_neg hq,ah];simp only[a3A,au,ag,aj,c5r,rmT (show (x.C6.length+[fX k.2.1.1 (getM x.A k.2.1.2.2.1) (getM x.A k.2.1.2.2.2.1)].length)*1≤35184372088832 by simp; omega),aH,b4E]
def gP (s:ao) (x:aa):aa :=
 if x.C8.length=0 then x else {x with A:=goD s x.A1 x.A (x.C8.getD 0 false),C8:=x.C8.drop 1}
theorem d7p (s:ao) (x:aa):a2M N s x=some (0,aA.dv (gP s x) []):=by
 unfold a2M gP;rw[len0];by_cases hq:x.C8.length=0
 ·rw[dt hq,if_pos hq]; rfl
 ·
  rw[df hq,if_neg hq,ah,cd (i:=0) (by omega) (by omega),sb_1 hq];simp only[aH,b4E,au,ag,aj]
variable {N:Nat}
theorem d9Q (l:List aO) (n t:Int) (h:l.length≤1000):a9U N l n t=some (0,(gD (.sl bB)).dv (if len l<n then l++[(t,(false,(0,())))] else l) (gB.dv (decide (len l<n)) [])):=by
 unfold a9U jI;rw[rm0 (by omega),aH,mf,au,ag,aj];by_cases hq:len l<n
 ·rw[df (show ¬len l≥n by omega),ah,rmT (by simp; omega),aH,if_pos hq,dt hq]
 ·rw[dt (show len l≥n by omega),ai,if_neg hq,df hq]
theorem e7J (l:List aF) (n:Int) (e:aF) (h:l.length≤1000):c6E N l n e=some (0,(gD (.sl bN)).dv (if len l<n then l++[e] else l) (gB.dv (decide (len l<n)) [])):=by
 unfold c6E a1B;rw[rm0 (by omega),aH,mf,au,ag,aj];by_cases hq:len l<n
 ·rw[df (show ¬len l≥n by omega),ah,rmT (by simp; omega),aH,if_pos hq,dt hq]
 ·rw[dt (show len l≥n by omega),ai,if_neg hq,df hq]
def h6E (a n b:Int):Bool:=decide (a≤b)&&decide (w.u64 (w.u64 b-w.u64 a)<w.u64 n)
theorem e2N (a n b:Int):a8G N a n b=some (0,gB.dv (h6E a n b) []):=by
 unfold a8G h6E;rw[a8H]
def ji (a n b m:Int):Bool:=decide (n≥1)&&(decide (m≥1)&&(h6E a n b||h6E b m a))
theorem c3b (a n b m:Int):a7c N a n b m=some (0,gB.dv (ji a n b m) []):=by
 unfold a7c ji;simp only[e2N,au,ag,aj];cases decide (n≥1)<;>cases decide (m≥1)<;>cases h6E a n b<;>rfl
def du (l:List aF) (a n:Int):Nat→aF × Bool
 | 0=>(aF.z,false)
 | i+1=>if ji (l.getD i aF.z).1 (l.getD i aF.z).2.1 a n=true then (l.getD i aF.z,true) else du l a n i
theorem d8z (l:List aF) (hl:l.length≤1000) (a m:Int):∀(n i:Nat),i≤l.length→i<n →
  onB 0 1 (a9s N n l a m ((i:Int)-1) (aF.z)) (gg [pB,cY] λ(x3:Bool) (x4:aF)=>some (0,eG.dv x4 (gB.dv x3 []))) (gg [cY] λ(x5:aF)=>some (0,eG.dv (aF.z) (gB.dv false [])))=some (0,eG.dv (du l a m i).1 (gB.dv (du l a m i).2 [])):=by
 intro n;induction n with
 | zero=>intro i h0 h1; omega
 | succ n ih =>
  intro i h0 h1;show onB 0 1 (a9O N (a9s N n) l a m ((i:Int)-1) (aF.z)) _ _=_;unfold a9O;cases i with
  | zero =>
   rw[df (show ¬((0:Nat):Int)-1≥0 by omega),ah,dH _ _ (by decide),ag,aj];rfl
  | succ i =>
   rw[show ((i+1:Nat):Int)-1=(i:Int) by omega,dt (show (i:Int)≥0 by omega),ai];simp only[bI (show i<l.length by omega),aH,c3b,au,ag,aj,mF];rw[du];cases ji (l.getD i aF.z).1 (l.getD i aF.z).2.1 a m with
   | true =>
    rw[ai,dF,ag,ag,aj,if_pos rfl]
   | false =>
    rw[ah,if_neg (by simp),wI (x:=(i:Int)-1) (by omega) (by omega)];exact ih i (by omega) (by omega)
theorem e2I (l:List aF) (hl:l.length≤1000) (a m:Int) (hN:1001<N):b8i N l a m=some (0,eG.dv (du l a m l.length).1 (gB.dv (du l a m l.length).2 [])):=by
 unfold b8i;rw[show w.i64 (len l-1)=(l.length:Int)-1 from wI (by simp only[len]; omega) (by simp only[len]; omega)];exact d8z (N:=N) l hl a m N l.length (mG _) (by omega)
variable {N:Nat}
def jk (op v:Int):Int:=if op=27 then w.u32 (w.i32 (w.i16 v)) else if op=29 then w.u32 (w.i32 (w.i8 v)) else v
theorem d8a (op v:Int):b3J N op v=some (0,gW.dv (jk op v) []):=by
 unfold b3J jk;simp only[cP,beq_iff_eq]
 repeat' split
 all_goals rfl
def bypM (e:aF) (op a:Int):Int × Bool:=if op<26∨op>30∨e.2.2.2.1=false∨e.1≠a∨e.2.1≠aZ op then (0,false) else (jk op e.2.2.2.2.1,true)
theorem e2h (e : aF) (op a : Int) : b8E N e op a = some (0, gW.dv (bypM e op a).1 (gB.dv (bypM e op a).2 [])) := by
  unfold b8E
  simp only [b5j, d8a, au, ag, aj]
  by_cases h : op < 26 ∨ op > 30 ∨ e.2.2.2.1 = false ∨ e.1 ≠ a ∨ e.2.1 ≠ aZ op
  · rw [show bypM e op a = (0, false) from if_pos h]
    by_cases h1 : op < 26
    · rw [dt h1, ai]
    rw [df h1, ah]
    by_cases h2 : op > 30
    · rw [dt h2, ai]
    rw [df h2, ah]
    cases h3 : e.2.2.2.1 with
    | false => rfl
    | true =>
      rw [mR, ah]
      by_cases h4 : e.1 ≠ a
      · rw [show (e.1 != a) = true from bne_iff_ne.2 h4, ai]
      · have h5 : e.2.1 ≠ aZ op := by
          rcases h with h | h | h | h | h
          · exact absurd h h1
          · exact absurd h h2
          · rw [h3] at h; cases h
          · exact absurd h h4
          · exact h
        rw [show (e.1 != a) = false by simpa using h4, ah, show (e.2.1 != aZ op) = true from bne_iff_ne.2 h5, ai]
  · rw [show bypM e op a = (jk op e.2.2.2.2.1, true) from if_neg h]
    have h3 : e.2.2.2.1 = true := by
      cases h3 : e.2.2.2.1 with
      | false => exact absurd (.inr (.inr (.inl h3))) h
      | true => rfl
    rw [df (show ¬ op < 26 by omega), df (show ¬ op > 30 by omega), h3, show (e.1 != a) = false by simp; omega, show (e.2.1 != aZ op) = false by simp; omega]
    rfl
theorem e4h (e:aO) (t:Int):b2q N e t=some (0,gB.dv ((e.1==t)&&!e.2.1) (gI.dv t [])):=by
 unfold b2q;cases (e.1==t)<;>rfl
def gq (l:List aO) (t:Int):Nat→Nat→Int
 | 0,_=>-1
 | n+1,i=>if ((l.getD i aO.z).1==t&&!(l.getD i aO.z).2.1)=true then i else gq l t n (i+1)
theorem e1G (l:List aO) (hl:l.length≤1000) (t:Int):∀(n i:Nat),i≤l.length→l.length-i<n →
  onB 0 1 (a1Y N n l (len l) (i:Int) t) (gg [pI,pI] λ(x2:Int) (x3:Int)=>some (0,gI.dv x2 (gI.dv x3 []))) (gg [pI] λ(x4:Int)=>some (0,gI.dv (-1:Int) (gI.dv x4 [])))=some (0,gI.dv (gq l t (l.length-i) i) (gI.dv t [])):=by
 intro n;induction n with
 | zero=>intro i h0 h1; omega
 | succ n ih =>
  intro i h0 h1;show onB 0 1 (a1W N (a1Y N n) l (len l) (i:Int) t) _ _=_;unfold a1W;by_cases hi:i<l.length
  ·
   rw[bV hi,show l.length-i=(l.length-(i+1))+1 by omega];simp only[ai,bI hi,aH,e4h,au,ag,aj,mF,wS (show i≤100000000 by omega)];rw[gq];cases ((l.getD i aO.z).1==t&&!(l.getD i aO.z).2.1) with
   | true=>rw[ai,dF,ag,ag,aj,if_pos rfl]
   | false =>
    rw[ah,if_neg (by simp)];exact ih (i+1) (by omega) (by omega)
  ·
   rw[ce (by omega),show l.length-i=0 by omega];rfl
theorem c8b (l:List aO) (t:Int):∀(n i:Nat),gq l t n i=-1∨(i≤gq l t n i∧gq l t n i<i+n)
 | 0,_=>.inl rfl
 | n+1,i=>by
  unfold gq;split
  ·exact .inr ⟨by omega,by omega⟩
  ·
   rcases c8b l t n (i+1) with h | ⟨h1,h2⟩
   ·exact .inl h
   ·exact .inr ⟨by omega,by omega⟩
def gy (l:List aO) (t v:Int):List aO :=
 if gq l t l.length 0<0 then l else l.set (gq l t l.length 0).toNat ((l.getD (gq l t l.length 0).toNat aO.z).1,(true,(v,())))
theorem d7f (l:List aO) (t v:Int) (hl:l.length≤1000) (hN:1001<N):kj N l t v=some (0,(gD (.sl bB)).dv (gy l t v) (gB.dv (decide (0≤gq l t l.length 0)) [])):=by
 unfold kj jI a4z gy;have h:=e1G (N:=N) l hl t N 0 (nU _) (by omega);simp only[nD,oD]at h;rw[rm0 (by omega),aH,mf,au,ag,aj,h,au,ag,ag,aj];rcases c8b l t l.length 0 with h1 | ⟨h1,h2⟩
 ·rw[h1]; rfl
 ·
  generalize gq l t l.length 0=r at *;obtain⟨i,rfl⟩:∃i:Nat,r=i:=⟨r.toNat,by omega⟩
  have hi:i<l.length:=by omega
  rw[df (show ¬(i:Int)<0 by omega),ah,bI hi,aH,if_neg (show ¬(i:Int)<0 by omega),dt (show (0:Int)≤i by omega)];simp only[mF,mp,bI hi,aH,List.set_set,mA,oF hi,mj]
theorem c2A (l:List aO) (t v:Int):(gy l t v).length=l.length:=by
 unfold gy;split<;>simp
variable {N:Nat}
def jP (s a n:Int):Int:=if s=0 then (if a>n then 2 else 0) else eN s a n
theorem e0n (op:Int):aZ op=0∨aZ op=1∨aZ op=2∨aZ op=4:=by
 unfold aZ
 repeat' split
 all_goals omega
theorem e1W {op a n:Int} (ha:U32 a) (hn:0≤n∧n≤100000):iI N (aZ op) a n=some (0,gI.dv (jP (aZ op) a n) []):=by
 unfold jP;rcases e0n op with h | h
 ·
  rw[h,if_pos rfl];simp only[U32]at ha;unfold iI;rw[wI (x:=a) (by omega) (by omega),wI (x:=a+0) (by omega) (by omega),Int.add_zero,show decide ((0:Int)≥1)=false from rfl,show decide ((0:Int)>0)=false from rfl,show decide ((0:Int)≤0)=true from rfl];simp only[ah];rw[ai];by_cases h2:a>n
  ·rw[dt h2,ai,if_pos h2]
  ·rw[df h2,ah,if_neg h2]
 ·
  rw[if_neg (by omega)];exact a9V (by omega) ha hn
def dC (k:ak) (x:aa):Int:=w.u32 (getM x.A k.2.1.2.2.1+w.u32 k.2.1.2.2.2.2.1)
def chkM (k:ak) (x:aa):Int:=jP (aZ k.2.1.1) (dC k x) (len x.Mem)
theorem d0r (c:ay) (s:ao) (k:ak) (st:Int) (x:aa) (h:x.Mem.length≤100000):a2J N c s k st x=some (0,gI.dv (if chkM k x=0 then dC k x else 0) (gB.dv (decide (chkM k x=0)) (cM.dv c (cm.dv s (bS.dv k (gI.dv st (aA.dv (if chkM k x=0 then x else bG x (chkM k x) st k.2.2.2.1) []))))))):=by
 unfold a2J c2M;have ha:U32 (dC k x):=dI _;have hc:=e1W (N:=N) (op:=k.2.1.1) (a:=dC k x) (n:=len x.Mem) ha (by simp only[len]; omega);simp only[a3A,b5j,au,ag,aj,c3Q];rw[show w.u32 (getM x.A k.2.1.2.2.1+w.u32 k.2.1.2.2.2.2.1)=dC k x from rfl,hc,au,ag,aj,show jP (aZ k.2.1.1) (dC k x) (len x.Mem)=chkM k x from rfl];simp only[U32]at ha;rw[wI (x:=dC k x) (by omega) (by omega)];by_cases h0:chkM k x=0
 ·rw[show (chkM k x != 0)=false by simpa using h0,ah,dt h0,if_pos h0,if_pos h0]
 ·rw[show (chkM k x != 0)=true from bne_iff_ne.2 h0,ai,df h0,if_neg h0,if_neg h0]
def resM (c:ay) (x:aa):aa:=if len x.B9<c.B9 then {x with B9:=x.B9++[(x.C0,(false,(0,())))],C0:=w.i64 (x.C0+1)} else x
theorem d0E (c:ay) (s:ao) (k:ak) (st:Int) (x:aa) (h:x.B9.length≤1000):a2R N c s k st x=some (0,gB.dv (decide (len x.B9<c.B9)) (cM.dv c (cm.dv s (bS.dv k (gI.dv st (aA.dv (resM c x) [])))))):=by
 unfold a2R resM;rw[d9Q _ _ _ h,au,ag,ag,aj];by_cases hq:len x.B9<c.B9
 ·rw[dt hq,ai,if_pos hq,if_pos hq]
 ·rw[df hq,ah,if_neg hq]
def gX (c:ay) (k:ak) (v:Int) (x:aa):aa :=
 if k.1=2 then {x with A:=cj (setM x.A k.2.1.2.1 v (w.i64 (x.A1+1)))}
 else if len x.B9<c.B9 then {(resM c x) with B9:=gy (resM c x).B9 x.C0 v,A:=cj x.A} else x
theorem e7w (c:ay) (s:ao) (k:ak) (st v:Int) (x:aa) (h:x.B9.length≤900) (hN:1001<N):a7u N v c s k st x=some (0,cM.dv c (cm.dv s (bS.dv k (gI.dv st (aA.dv (gX c k v x) []))))):=by
 unfold a7u gX;simp only[b2z,a3t,au,ag,aj,d0E c s k st x (by omega)];by_cases h2:k.1=2
 ·rw[bt h2,ai,if_pos h2]
 ·
  rw[bf h2,ah,if_neg h2];by_cases hq:len x.B9<c.B9
  ·
   rw[dt hq,mR,ah,if_pos hq,d7f _ _ _ (by unfold resM; rw[if_pos hq]; simp; omega) hN,au,ag,ag,aj];unfold resM;rw[if_pos hq]
  ·
   rw[df hq,mn,ai,if_neg hq];unfold resM;rw[if_neg hq]
variable {N:Nat}
def eI (k:ak) (a reg tag:Int):am:=(false,(k.2.1.1,(a,(aZ k.2.1.1,(0,(0,(reg,(tag,()))))))))
def askM (c:ay) (k:ak) (a:Int) (x:aa):aa :=
 if k.1=3 then (if len x.B9<c.B9 then {(resM c x) with A0:=x.A0++[eI k a (-1) x.C0],A:=cj x.A} else x)
 else if 0<k.2.1.2.1∧k.2.1.2.1<16 then {x with A:=cj {x.A with A8:=x.A.A8.set k.2.1.2.1.toNat (-1)},A0:=x.A0++[eI k a k.2.1.2.1 0]}
 else {x with A:=cj x.A,A0:=x.A0++[eI k a k.2.1.2.1 0]}
theorem e8T (c:ay) (s:ao) (k:ak) (st a:Int) (x:aa) (h:x.B9.length≤900) (ht:x.A0.length≤900):a8m N a c s k st x=some (0,cM.dv c (cm.dv s (bS.dv k (gI.dv st (aA.dv (askM c k a x) []))))):=by
 unfold a8m askM;have hr:∀q:am,rm x.A0 [q] 64=true:=λq=>rmT (by simp; omega)
 simp only[b5j,a3t,au,ag,aj,d0E c s k st x (by omega),hr,aH];by_cases h3:k.1=3
 ·
  rw[bt h3,ai,if_pos h3];by_cases hq:len x.B9<c.B9
  ·
   rw[dt hq,mR,ah,if_pos hq];unfold resM;rw[if_pos hq];simp only[hr,aH];rfl
  ·
   rw[df hq,mn,ai,if_neg hq];unfold resM;rw[if_neg hq]
 ·
  rw[bf h3,ah,if_neg h3];by_cases h4:0<k.2.1.2.1∧k.2.1.2.1<16
  ·
   rw[dt (show k.2.1.2.1>0 from h4.1),ai,dt h4.2,ai,cd (by omega) (by omega),aH,if_pos h4];rfl
  ·
   rw[if_neg h4];by_cases h5:k.2.1.2.1>0
   ·
    rw[dt h5,ai,df (show ¬k.2.1.2.1<16 by omega),ah];rfl
   ·
    rw[df h5,ah];rfl
def gM (c:ay) (k:ak) (st:Int) (x:aa):aa :=
 if chkM k x≠0 then bG x (chkM k x) st k.2.2.2.1
 else if (du x.B0 (dC k x) (aZ k.2.1.1) x.B0.length).2=true then
  (if (bypM (du x.B0 (dC k x) (aZ k.2.1.1) x.B0.length).1 k.2.1.1 (dC k x)).2=true then gX c k (bypM (du x.B0 (dC k x) (aZ k.2.1.1) x.B0.length).1 k.2.1.1 (dC k x)).1 x else x)
 else if len x.A0<c.B7 then askM c k (dC k x) x else x
theorem e7K (c:ay) (s:ao) (k:ak) (st:Int) (x:aa) (hm:x.Mem.length≤100000) (h:x.B9.length≤900) (ht:x.A0.length≤900) (hs:x.B0.length≤1000) (hN:1001<N):a2o N c s k st x=some (0,cM.dv c (cm.dv s (bS.dv k (gI.dv st (aA.dv (gM c k st x) []))))):=by
 unfold a2o gM;simp only[d0r c s k st x hm,au,ag,aj];by_cases h0:chkM k x=0
 ·
  rw[dt h0,mR,ah,if_pos h0,if_pos h0,if_neg (show ¬(chkM k x≠0) from λh=>h h0)];simp only[b5j,e2I _ hs _ _ hN,e2h,au,ag,aj,e7w c s k st _ x h hN,e8T c s k st _ x h ht];cases (du x.B0 (dC k x) (aZ k.2.1.1) x.B0.length).2 with
  | true =>
   rw[ai,if_pos rfl];cases (bypM (du x.B0 (dC k x) (aZ k.2.1.1) x.B0.length).1 k.2.1.1 (dC k x)).2<;>rfl
  | false =>
   rw[ah,if_neg (by simp)];by_cases hq:len x.A0<c.B7
   ·rw[dt hq,ai,if_pos hq]
   ·rw[df hq,ah,if_neg hq]
 ·rw[df h0,mn,ai,if_neg h0,if_pos (show chkM k x≠0 from h0)]
def gj (c:ay) (k:ak) (st:Int) (x:aa):aa :=
 if chkM k x≠0 then bG x (chkM k x) st k.2.2.2.1
 else if len x.B0<c.B0 then {x with A:=cj x.A,B0:=x.B0++[(dC k x,(aZ k.2.1.1,(st,(false,(0,())))))]} else x
theorem e4V (c:ay) (s:ao) (k:ak) (st:Int) (x:aa) (hm:x.Mem.length≤100000) (hs:x.B0.length≤1000):a3R N c s k st x=some (0,cM.dv c (cm.dv s (bS.dv k (gI.dv st (aA.dv (gj c k st x) []))))):=by
 unfold a3R gj;simp only[d0r c s k st x hm,au,ag,aj];by_cases h0:chkM k x=0
 ·
  rw[dt h0,mR,ah,if_pos h0,if_pos h0,if_neg (show ¬(chkM k x≠0) from λh=>h h0)];simp only[b5j,e7J _ _ _ hs,a3t,au,ag,aj];by_cases hq:len x.B0<c.B0
  ·rw[dt hq,ai,if_pos hq,if_pos hq]
  ·rw[df hq,ah,if_neg hq]
 ·rw[df h0,mn,ai,if_neg h0,if_pos (show chkM k x≠0 from h0)]
variable {N:Nat}
def actA (c:ay) (s:ao) (k:ak) (st:Int) (x:aa):aa :=
 if k.1=1 then doA c k st x
 else if k.1=2∨k.1=3 then gM c k st x
 else if k.1=4 then gj c k st x
 else if k.1=5 then (if len x.C7<c.C7 then {x with A:=cj x.A,C7:=x.C7++[getM x.A k.2.2.1]} else x)
 else if k.1=9 then gN s k c.C6 x
 else if k.1=10 then gP s x
 else if k.1=11 then {x with A:=goD s x.A1 x.A true}
 else if k.1=12 then {x with A:=h7M x.A}
 else x
def aP (c:ay) (s:ao) (x:aa):aa :=
 if (atA s x).2.2.1=false∨gZ c s (atA s x).2.2.2=true∨eg (atA s x).2.2.2.A (atA s x).1 (atA s x).2.2.2.A1=false then (atA s x).2.2.2 else actA c s (atA s x).1 (atA s x).2.1 (atA s x).2.2.2
def h7D (c:ay) (s:ao) (x:aa):aa:=if bu c s x=true then aP c s x else x
structure WfA (x:aa):Prop where
 mem:x.Mem.length≤100000
 ldq:x.B9.length≤900
 tab:x.A0.length≤900
 saq:x.B0.length≤1000
 aeq:x.C7.length≤1000
 abq:x.C6.length≤1000
 gA:∀r∈x.A.B1,U32 r
theorem e5B (c:ay) (s:ao) (k:ak) (st:Int) (x:aa) (h:WfA x) (hN2:1001<N) :
  bi (k.1==1) (on1 (b3q N c k st x)<|gg [aD]<|λ(x9:aa)=>some (0,aA.dv x9 [])) (
  bi (k.1==2) (on1 (a2o N c s k st x)<|gg [bE,bq,ci,pI,aD]<|λ(x10:ay) (x11:ao) (x12:ak) (x13:Int) (x14:aa)=>some (0,aA.dv x14 [])) (
  bi (k.1==3) (on1 (a2o N c s k st x)<|gg [bE,bq,ci,pI,aD]<|λ(x10:ay) (x11:ao) (x12:ak) (x13:Int) (x14:aa)=>some (0,aA.dv x14 [])) (
  bi (k.1==4) (on1 (a3R N c s k st x)<|gg [bE,bq,ci,pI,aD]<|λ(x10:ay) (x11:ao) (x12:ak) (x13:Int) (x14:aa)=>some (0,aA.dv x14 [])) (
  bi (k.1==5) (bi (decide ((len x.C7)<c.C7)) (on1 (ge N x.A k.2.2.1)<|gg [pW]<|λ(x25:Int)=>gd (rm x.C7 [x25] 4)<|on1 (ip N ({x with C7:=(x.C7++[x25])}:aa))<|gg [aD]<|λ(x26:aa)=>some (0,aA.dv x26 [])) (some (0,aA.dv x []))) (
  bi (k.1==9) (on1 (a2K N s k c.C6 x)<|gg [aD]<|λ(x27:aa)=>some (0,aA.dv x27 [])) (
  bi (k.1==10) (on1 (a2M N s x)<|gg [aD]<|λ(x28:aa)=>some (0,aA.dv x28 [])) (
  bi (k.1==11) (on1 (a7P N s true x)<|gg [aD]<|λ(x29:aa)=>some (0,aA.dv x29 [])) (
  bi (k.1==12) (on1 (b1F N x)<|gg [aD]<|λ(x30:aa)=>some (0,aA.dv x30 [])) (
  some (0,aA.dv x []))))))))))
  = some (0,aA.dv (actA c s k st x) []):=by
 have hr:∀v:Int,rm x.C7 [v] 4=true:=λv=>rmT (by have:=h.aeq; simp; omega)
 simp only[e6J c k st x h.gA,e7K c s k st x h.mem h.ldq h.tab h.saq hN2,e4V c s k st x h.mem h.saq,a3A,a3t,d7g s k _ x h.abq,d7p,b4E,c8v,au,ag,aj,hr,aH];unfold actA;simp only[cP,beq_iff_eq,decide_eq_true_eq];by_cases h1:k.1=1
 ·rw[if_pos h1,if_pos h1]
 rw[if_neg h1,if_neg h1];by_cases h2:k.1=2
 ·rw[if_pos h2,if_pos (.inl h2)]
 rw[if_neg h2];by_cases h3:k.1=3
 ·rw[if_pos h3,if_pos (.inr h3)]
 rw[if_neg h3,if_neg (show ¬(k.1=2∨k.1=3) by omega)]
 repeat' split
 all_goals rfl
theorem d4f (c:ay) (s:ao) (x:aa) (h:WfA x) (hl:s.A3.length≤100000) (hN:s.A3.length<N) (hN2:1001<N) (hn:NextOk s) (hb:hasM s x.A.A6.A7=true) :
  b3K N c s x=some (0,aA.dv (aP c s x) []):=by
 unfold b3K aP;simp only[e7B s x hl hN hn hb,au,ag,aj,e4O c s _ hl hN,c1g _ _ _ hN2];have hw:WfA (atA s x).2.2.2:=by
  have e:(atA s x).2.2.2.Mem=x.Mem∧(atA s x).2.2.2.B9=x.B9∧(atA s x).2.2.2.A0=x.A0∧(atA s x).2.2.2.B0=x.B0∧(atA s x).2.2.2.C7=x.C7∧(atA s x).2.2.2.C6=x.C6∧(atA s x).2.2.2.A.B1=x.A.B1:=by
   unfold atA bG
   repeat' (first | split | exact⟨rfl,rfl,rfl,rfl,rfl,rfl,rfl⟩ | simp only[])
  obtain⟨e1,e2,e3,e4,e5,e6,e7⟩:=e;exact⟨by rw[e1]; exact h.mem,by rw[e2]; exact h.ldq,by rw[e3]; exact h.tab,by rw[e4]; exact h.saq,by rw[e5]; exact h.aeq,by rw[e6]; exact h.abq,by rw[e7]; exact h.gA⟩
 generalize atA s x=a at *;obtain⟨k,st,ok,y⟩:=a;simp only at hw ⊢;cases ok with
 | false=>rw[if_pos (.inl rfl)]; rfl
 | true =>
  cases ha:gZ c s y with
  | true=>rw[if_pos (.inr (.inl rfl))]; rfl
  | false =>
   cases hf:eg y.A k y.A1 with
   | false=>rw[if_pos (.inr (.inr rfl))]; rfl
   | true =>
    rw[if_neg (by simp)];simp only[mR,ah];exact e5B c s k st y hw hN2
variable {N:Nat}
structure OneA (x y:aa):Prop where
 fr:y={x with A:=y.A,B9:=y.B9,C7:=y.C7,C6:=y.C6,C8:=y.C8,B0:=y.B0,A0:=y.A0,A9:=y.A9,C0:=y.C0}
 on:(y.A.A5=x.A.A5∧y.C7.length=x.C7.length∧y.C6.length=x.C6.length∧y.C8.length=x.C8.length∧y.B0.length=x.B0.length) ∨
  (y.A.A5=w.i64 (x.A.A5+1)∧y.C8.length≤x.C8.length∧x.C7.length+x.C6.length+x.B0.length+y.C8.length≤y.C7.length+y.C6.length+y.B0.length+x.C8.length ∧
   y.C7.length+y.C6.length+y.B0.length+x.C8.length≤1+(x.C7.length+x.C6.length+x.B0.length+y.C8.length))
 tb:y.A0.length≤x.A0.length+1
 tg:(y.C0=x.C0∧y.B9.length=x.B9.length)∨(y.C0=w.i64 (x.C0+1)∧y.B9.length=x.B9.length+1)
theorem OneA.refl (x:aa):OneA x x:=⟨rfl,.inl ⟨rfl,rfl,rfl,rfl,rfl⟩,by omega,.inl ⟨rfl,rfl⟩⟩
theorem c8g (x:aa) (k st pc:Int):OneA x (bG x k st pc):=by
 unfold bG;split
 ·exact⟨rfl,.inl ⟨rfl,rfl,rfl,rfl,rfl⟩,by simp only; omega,.inl ⟨rfl,rfl⟩⟩
 ·exact OneA.refl x
theorem c1b {x:aa} {d:aI} (h:d.A5=w.i64 (x.A.A5+1)):OneA x {x with A:=d} :=
 ⟨rfl,.inr ⟨h,by simp only; omega,by simp only; omega,by simp only; omega⟩,by simp only; omega,.inl ⟨rfl,rfl⟩⟩
theorem e7r (c:ay) (k:ak) (st:Int) (x:aa):OneA x (doA c k st x):=by
 unfold doA;split
 ·exact c1b (by simp only[cj,gG])
 ·exact c8g _ _ _ _
theorem d7l (s:ao) (k:ak) (n:Int) (x:aa):OneA x (gN s k n x):=by
 unfold gN;split
 ·exact OneA.refl x
 ·exact⟨rfl,.inr ⟨rfl,by simp only; omega,by simp only[mD,mP,ma]; omega,by simp only[mD,mP,ma]; omega⟩,by simp only; omega,.inl ⟨rfl,rfl⟩⟩
theorem d7J (s:ao) (x:aa):OneA x (gP s x):=by
 unfold gP;split
 ·exact OneA.refl x
 ·exact⟨rfl,.inr ⟨rfl,by simp only[mq]; omega,by simp only[mq]; omega,by simp only[mq]; omega⟩,by simp only; omega,.inl ⟨rfl,rfl⟩⟩
theorem e3Y (c:ay) (k:ak) (v:Int) (x:aa):OneA x (gX c k v x):=by
 unfold gX;split
 ·exact c1b (by simp only[cj,gG])
 ·
  split
  ·
   rename_i h;unfold resM;rw[if_pos h];exact⟨rfl,.inr ⟨rfl,by simp only; omega,by simp only; omega,by simp only; omega⟩,by simp only; omega,.inr ⟨rfl,by simp only[c2A,mD,mP,ma]⟩⟩
  ·exact OneA.refl x
theorem e4W (c:ay) (k:ak) (a:Int) (x:aa):OneA x (askM c k a x):=by
 unfold askM;split
 ·
  split
  ·
   rename_i h;unfold resM;rw[if_pos h];exact⟨rfl,.inr ⟨rfl,by simp only; omega,by simp only; omega,by simp only; omega⟩,by simp only[mD,mP,ma]; omega,.inr ⟨rfl,by simp only[mD,mP,ma]⟩⟩
  ·exact OneA.refl x
 ·split<;>exact⟨rfl,.inr ⟨rfl,by simp only; omega,by simp only; omega,by simp only; omega⟩,by simp only[mD,mP,ma]; omega,.inl ⟨rfl,rfl⟩⟩
theorem e2Q (c:ay) (k:ak) (st:Int) (x:aa):OneA x (gM c k st x):=by
 unfold gM;split
 ·exact c8g _ _ _ _
 split
 ·
  split
  ·exact e3Y _ _ _ _
  ·exact OneA.refl x
 split
 ·exact e4W _ _ _ _
 ·exact OneA.refl x
theorem e1w (c:ay) (k:ak) (st:Int) (x:aa):OneA x (gj c k st x):=by
 unfold gj;split
 ·exact c8g _ _ _ _
 split
 ·exact⟨rfl,.inr ⟨rfl,by simp only; omega,by simp only[mD,mP,ma]; omega,by simp only[mD,mP,ma]; omega⟩,by simp only; omega,.inl ⟨rfl,rfl⟩⟩
 ·exact OneA.refl x
theorem e5g (c:ay) (s:ao) (k:ak) (st:Int) (x:aa):OneA x (actA c s k st x):=by
 unfold actA;split
 ·exact e7r _ _ _ _
 split
 ·exact e2Q _ _ _ _
 split
 ·exact e1w _ _ _ _
 split
 ·
  split
  ·exact⟨rfl,.inr ⟨rfl,by simp only; omega,by simp only[mD,mP,ma]; omega,by simp only[mD,mP,ma]; omega⟩,by simp only; omega,.inl ⟨rfl,rfl⟩⟩
  ·exact OneA.refl x
 split
 ·exact d7l _ _ _ _
 split
 ·exact d7J _ _
 split
 ·exact c1b rfl
 split
 ·exact c1b rfl
 ·exact OneA.refl x
variable {N:Nat}
structure CameA (x y:aa):Prop where
 fr:y={x with A:=y.A,A9:=y.A9}
 a:y.A={x.A with A6:=y.A.A6}
theorem d9p (s:ao) (x:aa):CameA x (atA s x).2.2.2:=by
 unfold atA;split
 ·exact⟨rfl,rfl⟩
 ·
  simp only[];split
  ·
   unfold bG;split<;>exact⟨rfl,rfl⟩
  ·exact⟨rfl,rfl⟩
theorem CameA.one {x y z:aa} (h:CameA x y) (h2:OneA y z):OneA x z:=by
 obtain⟨h1,h3⟩:=h;obtain⟨h4,h5,h6,h7⟩:=h2;have e1:y.A.A5=x.A.A5:=by rw[h3]
 have e2:y.C7=x.C7:=by rw[h1]
 have e3:y.C6=x.C6:=by rw[h1]
 have e4:y.C8=x.C8:=by rw[h1]
 have e5:y.B0=x.B0:=by rw[h1]
 have e6:y.A0=x.A0:=by rw[h1]
 have e7:y.B9=x.B9:=by rw[h1]
 have e8:y.C0=x.C0:=by rw[h1]
 refine⟨?_,by rw[e1,e2,e3,e4,e5]at h5; exact h5,by rw[e6]at h6; exact h6,by rw[e7,e8]at h7; exact h7⟩
 rw[h4,h1]
theorem d3T (c:ay) (s:ao) (x:aa):OneA x (aP c s x):=by
 unfold aP;split
 ·exact (d9p s x).one (OneA.refl _)
 ·exact (d9p s x).one (e5g _ _ _ _ _)
variable {N:Nat}
end Go.Proofs.Zz
