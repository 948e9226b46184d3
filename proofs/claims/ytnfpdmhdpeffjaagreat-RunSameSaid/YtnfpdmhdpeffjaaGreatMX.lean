import Derived.Test.YtnfpdmhdpeffjaaGreatMC
import Derived.Test.YtnfpdmhdpeffjaaGreatNA
set_option linter.unusedSimpArgs false
set_option linter.unusedVariables false
namespace Go.Proofs.Zz
open Go
variable {N:Nat}
structure Wf (x:aa):Prop extends StOk x where
 ldq:x.B9.length≤1000
 sdq:x.C9.length≤1000
 aeq:x.C7.length≤1000
 abq:x.C6.length≤1000
 ebq:x.C8.length≤1000
 wri:x.A2.length≤15000
 gA:∀r∈x.A.B1,U32 r
 gE:∀r∈x.E.B1,U32 r
theorem b1T {d:aI} (h:∀r∈d.B1,U32 r) (r:Int):U32 (getM d r):=by
 unfold getM;split
 ·
  rw[mA];by_cases hi:r.toNat<d.B1.length
  ·rw[mC hi,mj]; exact h _ (oK hi)
  ·rw[mg (by omega)]; exact⟨by simp,by simp⟩
 ·exact⟨by simp,by simp⟩
theorem c3Q (k st pc:Int) (x:aa):kf N k st pc x=some (0,aA.dv (bG x k st pc) []):=by
 unfold kf bG;by_cases h:x.A9.C2=0
 ·rw[bt h,if_pos (.inl h)]; rfl
 ·
  rw[bf h,ah];by_cases h2:x.A9.C5>st
  ·rw[dt h2,if_pos (.inr h2)]; rfl
  ·rw[df h2,if_neg (by omega)]; rfl
theorem b8F (x:aa) (st:Int):kt N x st=some (0,gB.dv (dk x st) []):=by
 unfold kt dk;simp only[a8H];refine retB ?_;rw[md]; simp only[mE,bne_iff_ne,decide_eq_true_eq]
theorem rm0 {α:Type} {l:List α} {n:Nat} (h:l.length*n≤35184372088832):rm [] l n=true:=rmT (by simpa using h)
def popM (l:List aO):List aO × Int × Bool:=if l.length=0∨(l.getD 0 aO.z).2.1=false then (l,0,false) else (l.drop 1,(l.getD 0 aO.z).2.2.1,true)
theorem sb_1 {α:Type} {l:List α} (h:l.length≠0):sb 1 (len l)=true:=dt (by simp only[len]; omega)
theorem len0 {α:Type} {l:List α}:(len l==0)=decide (l.length=0):=by
 rw[md,beq_iff_eq,decide_eq_true_eq]; simp only[len]; omega
theorem e9e (l:List aO) (h:l.length≤1000):c0G N l=some (0,(gD (.sl bB)).dv (popM l).1 (gW.dv (popM l).2.1 (gB.dv (popM l).2.2 []))):=by
 unfold c0G jI popM;rw[rm0 (by omega),aH,mf,au,ag,aj,len0];by_cases h0:l.length=0
 ·rw[dt h0,if_pos (.inl h0)]; rfl
 ·
  rw[df h0,ah,cd (i:=0) (by omega) (by omega),aH];cases hf:(l.getD 0 aO.z).2.1 with
  | false=>rw[if_pos (.inr rfl)]; rfl
  | true=>rw[if_neg (by simp[h0]),sb_1 h0]; rfl
def atE (s:ao) (x:aa):ak × Int × Bool × aa :=
 if x.E.A4=true∨x.E.C3>x.A1 then (ak.z,0,false,x)
 else
  let p:=kx s true x.E.A6
  let x1:aa:={x with E:={x.E with A6:=p.1}}
  let x2:=if p.2=true then bG x1 4 (aT s true p.1).2.1 (bz s p.1.A7).2.1 else x1
  ((aT s true p.1).1,(aT s true p.1).2.1,(aT s true p.1).2.2&&!dk x2 (aT s true p.1).2.1,x2)
def actE (c:ay) (s:ao) (k:ak) (st:Int) (x:aa):aa :=
 if k.1=1 then
  if (doM k.2.1 (getM x.E k.2.1.2.2.1) (getM x.E k.2.1.2.2.2.1)).2=true then
   {x with E:=cj (setM x.E k.2.1.2.1 (doM k.2.1 (getM x.E k.2.1.2.2.1) (getM x.E k.2.1.2.2.2.1)).1 (w.i64 (x.A1+latM c k.2.1.1)))}
  else bG x 3 st k.2.2.2.1
 else if k.1=6 then
  if x.C7.length=0 then x else {x with E:=cj (setM x.E k.2.2.1 (x.C7.getD 0 0) (w.i64 (x.A1+1))),C7:=x.C7.drop 1}
 else if k.1=7 then
  if (popM x.B9).2.2=false then x else {x with E:=cj (setM x.E k.2.1.2.1 (popM x.B9).2.1 (w.i64 (x.A1+1))),B9:=(popM x.B9).1}
 else if k.1=8 then
  if len x.C9<c.C9 then {x with E:=cj x.E,C9:=x.C9++[getM x.E k.2.2.1]} else x
 else if k.1=9 then
  if len x.C8≥c.C8 then x else {x with E:=goD s x.A1 x.E (fX k.2.1.1 (getM x.E k.2.1.2.2.1) (getM x.E k.2.1.2.2.2.1)),C8:=x.C8++[fX k.2.1.1 (getM x.E k.2.1.2.2.1) (getM x.E k.2.1.2.2.2.1)]}
 else if k.1=10 then
  if x.C6.length=0 then x else {x with E:=goD s x.A1 x.E (x.C6.getD 0 false),C6:=x.C6.drop 1}
 else if k.1=11 then {x with E:=goD s x.A1 x.E true}
 else if k.1=12 then {x with E:=h7M x.E}
 else x
def aG (c:ay) (s:ao) (x:aa):aa :=
 if (atE s x).2.2.1=false∨eg (atE s x).2.2.2.E (atE s x).1 (atE s x).2.2.2.A1=false then (atE s x).2.2.2 else actE c s (atE s x).1 (atE s x).2.1 (atE s x).2.2.2
def h7H (c:ay) (s:ao) (x:aa):aa:=if bu c s x=true then aG c s x else x
def NextOk (s:ao):Prop:=∀b:Int,hasM s b=true→(bz s b).2.2.1<0∨(b<(bz s b).2.2.1∧hasM s (bz s b).2.2.1=true)
theorem a3G {s:ao} (h:NextOk s) (e:Bool):∀(n:Nat) (p:bc),hasM s p.A7=true→hasM s (bL s e n p).1.A7=true
 | 0,p,hp=>hp
 | n+1,p,hp=>by
  unfold bL;rw[if_neg (by rw[hp]; simp)];split
  ·exact hp
  ·
   split
   ·exact hp
   ·
    rename_i h3;exact a3G h e n _ ((h _ hp).resolve_left h3).2
theorem e6R (s:ao) (x:aa) (hl:s.A3.length≤100000) (hN:s.A3.length<N) (hn:NextOk s) (hb:hasM s x.E.A6.A7=true) :
  b7V N s true x=some (0,bS.dv (atE s x).1 (gI.dv (atE s x).2.1 (gB.dv (atE s x).2.2.1 (aA.dv (atE s x).2.2.2 [])))):=by
 unfold b7V atE;cases hh:x.E.A4 with
 | true=>rw[if_pos (.inl rfl)]; rfl
 | false =>
  by_cases hw:x.E.C3>x.A1
  ·rw[dt hw,if_pos (.inr hw)]; rfl
  ·
   rw[df hw,if_neg (by simp[hw]),ah,ah];have hs:=a3G hn true s.A3.length x.E.A6 hb;rw[show bL s true s.A3.length x.E.A6=kx s true x.E.A6 from rfl]at hs;simp only[b0l s true x.E.A6 hl hN,au,ag,aj,a6W s true _ hl hN,c3Q,b8F];generalize kx s true x.E.A6=p at *;obtain⟨p,f⟩:=p;rw[show s.A3.getD p.A7.toNat aW.z=bz s p.A7 from rfl,a7X hs];cases f with
   | true =>
    simp only[ai,aH,if_true];cases (aT s true p).2.2<;>rfl
   | false =>
    simp only[ah,mN,if_false];cases (aT s true p).2.2<;>rfl
theorem e7A (c:ay) (k:ak) (st:Int) (x:aa) (h:∀r∈x.E.B1,U32 r) (hk:k.1=1) (s:ao):b7H N c k st x=some (0,aA.dv (actE c s k st x) []):=by
 unfold b7H actE;rw[if_pos hk];simp only[a3A,au,ag,aj,d6i k.2.1 (b1T h _) (b1T h _),c3Q,b9w,a8u,a5e];cases (doM k.2.1 (getM x.E k.2.1.2.2.1) (getM x.E k.2.1.2.2.2.1)).2<;>rfl
theorem d3Y (c:ay) (s:ao) (x:aa) (h:Wf x) (hl:s.A3.length≤100000) (hN:s.A3.length<N) (hN2:1001<N) (hn:NextOk s) (hb:hasM s x.E.A6.A7=true) :
  b8D N c s x=some (0,aA.dv (aG c s x) []):=by
 unfold b8D aG;simp only[e6R s x hl hN hn hb,au,ag,aj,c1g _ _ _ hN2];have hw:(atE s x).2.2.2.B9=x.B9∧(atE s x).2.2.2.C9=x.C9∧(atE s x).2.2.2.C8=x.C8∧(atE s x).2.2.2.C6=x.C6∧(atE s x).2.2.2.C7=x.C7∧(atE s x).2.2.2.E.B1=x.E.B1:=by
  unfold atE bG
  repeat' (first | split | exact⟨rfl,rfl,rfl,rfl,rfl,rfl⟩ | simp only[])
 generalize atE s x=a at *;obtain⟨k,st,ok,x⟩:=a;simp only at hw ⊢;obtain⟨w1,w2,w3,w4,w5,w6⟩:=hw;cases ok with
 | false=>rw[if_pos (.inl rfl)]; rfl
 | true =>
  simp only[mR,ah,pM,false_or];cases hf:eg x.E k x.A1 with
  | false=>rw[if_pos rfl]; rfl
  | true =>
   rw[if_neg (by simp),mR,ah];by_cases h1:k.1=1
   ·rw[bt h1,ai,e7A c k st x (by rw[w6]; exact h.gE) h1 s,au,ag,aj]
   rw[bf h1,ah];by_cases h6:k.1=6
   ·
    unfold actE;rw[bt h6,ai,if_neg h1,if_pos h6];by_cases hq:x.C7.length=0
    ·rw[df (show ¬len x.C7>0 by simp only[len]; omega),if_pos hq]; rfl
    ·
     rw[dt (show len x.C7>0 by simp only[len]; omega),if_neg hq,ai,cd (i:=0) (by omega) (by omega),aH];simp only[a8u,au,ag,aj,sb_1 hq,aH,a5e]
   rw[bf h6,ah];by_cases h7:k.1=7
   ·
    unfold actE c8T;rw[bt h7,ai,if_neg h1,if_neg h6,if_pos h7];simp only[e9e x.B9 (by rw[w1]; exact h.ldq),au,ag,aj,a8u,a5e];cases (popM x.B9).2.2<;>rfl
   rw[bf h7,ah];by_cases h8:k.1=8
   ·
    unfold actE;rw[bt h8,ai,if_neg h1,if_neg h6,if_neg h7,if_pos h8];by_cases hq:len x.C9<c.C9
    ·
     rw[dt hq,if_pos hq,ai];simp only[a3A,au,ag,aj,rmT (show (x.C9.length+[getM x.E k.2.2.1].length)*4≤35184372088832 by rw[w2]; have:=h.sdq; simp; omega),aH,a5e]
    ·rw[df hq,if_neg hq]; rfl
   rw[bf h8,ah];by_cases h9:k.1=9
   ·
    unfold actE a6G;rw[bt h9,ai,if_neg h1,if_neg h6,if_neg h7,if_neg h8,if_pos h9];by_cases hq:len x.C8≥c.C8
    ·rw[dt hq,if_pos hq]; rfl
    ·
     rw[df hq,if_neg hq,ah];simp only[a3A,au,ag,aj,c5r,rmT (show (x.C8.length+[fX k.2.1.1 (getM x.E k.2.1.2.2.1) (getM x.E k.2.1.2.2.2.1)].length)*1≤35184372088832 by rw[w3]; have:=h.ebq; simp; omega),aH,b3P]
   rw[bf h9,ah];by_cases h10:k.1=10
   ·
    unfold actE a7s;rw[bt h10,ai,if_neg h1,if_neg h6,if_neg h7,if_neg h8,if_neg h9,if_pos h10,len0];by_cases hq:x.C6.length=0
    ·rw[dt hq,if_pos hq]; rfl
    ·
     rw[df hq,if_neg hq,ah,cd (i:=0) (by omega) (by omega),sb_1 hq];simp only[aH,b3P,au,ag,aj]
   rw[bf h10,ah];by_cases h11:k.1=11
   ·
    unfold actE;rw[bt h11,ai,if_neg h1,if_neg h6,if_neg h7,if_neg h8,if_neg h9,if_neg h10,if_pos h11,b3P,au,ag,aj]
   rw[bf h11,ah];by_cases h12:k.1=12
   ·
    unfold actE;rw[bt h12,ai,if_neg h1,if_neg h6,if_neg h7,if_neg h8,if_neg h9,if_neg h10,if_neg h11,if_pos h12,c7y,au,ag,aj]
   ·
    unfold actE;rw[bf h12,ah,if_neg h1,if_neg h6,if_neg h7,if_neg h8,if_neg h9,if_neg h10,if_neg h11,if_neg h12]
theorem jA {c:ay} {s:ao} {x:aa} (h:bu c s x=true):sideM s true x.E=true:=by
 unfold bu at h;simp only[mE]at h;exact h.2.2.1
theorem iX {c:ay} {s:ao} {x:aa} (h:bu c s x=true):sideM s false x.A=true:=by
 unfold bu at h;simp only[mE]at h;exact h.2.1
theorem ie {s:ao} {e:Bool} {d:aI} (h:sideM s e d=true):hasM s d.A6.A7=true:=by
 unfold sideM at h;simp only[mE]at h;exact h.1
variable {N:Nat}
theorem NextOk.of {s:ao} (h:dx s.A3):NextOk s:=by
 intro b hb;have h2:=fq.1 hb;have h3:=(h.blk b.toNat (by omega)).2.2.2.1;unfold bz;rcases h3 with h3 | h3
 ·left; omega
 ·
  right
  exact⟨by omega,fq.2 (by omega)⟩
variable {N:Nat}
structure One (x y:aa):Prop where
 fr:y={x with E:=y.E,B9:=y.B9,C9:=y.C9,C7:=y.C7,C6:=y.C6,C8:=y.C8,A9:=y.A9}
 on:(y.E.A5=x.E.A5∧y.C9.length=x.C9.length∧y.C8.length=x.C8.length∧y.C7.length=x.C7.length∧y.C6.length=x.C6.length∧y.B9.length=x.B9.length) ∨
  (y.E.A5=w.i64 (x.E.A5+1)∧x.C9.length+x.C8.length≤y.C9.length+y.C8.length∧y.C7.length+y.C6.length+y.B9.length≤x.C7.length+x.C6.length+x.B9.length ∧
   y.C9.length+y.C8.length+(x.C7.length+x.C6.length+x.B9.length)≤1+(x.C9.length+x.C8.length)+(y.C7.length+y.C6.length+y.B9.length))
theorem gG (d:aI) (r v y:Int):(setM d r v y).A5=d.A5:=by unfold setM; split<;>rfl
theorem One.refl (x:aa):One x x:=⟨rfl,.inl ⟨rfl,rfl,rfl,rfl,rfl,rfl⟩⟩
theorem e4z (x:aa) (k st pc:Int):One x (bG x k st pc):=by
 unfold bG;split
 ·exact⟨rfl,.inl ⟨rfl,rfl,rfl,rfl,rfl,rfl⟩⟩
 ·exact One.refl x
theorem e6e {l:List aO} (h:(popM l).2.2≠false):(popM l).1.length+1=l.length:=by
 unfold popM at *;split
 ·rename_i h2; rw[if_pos h2]at h; simp at h
 ·rename_i h2; simp only[mq]; omega
theorem e7k (c:ay) (s:ao) (k:ak) (st:Int) (x:aa):One x (actE c s k st x):=by
 unfold actE;split
 ·
  split
  ·exact⟨rfl,.inr ⟨by simp only[cj,gG],by simp only; omega,by simp only; omega,by simp only; omega⟩⟩
  ·exact e4z _ _ _ _
 split
 ·
  split
  ·exact One.refl x
  ·exact⟨rfl,.inr ⟨by simp only[cj,gG],by simp only; omega,by simp only[mq]; omega,by simp only[mq]; omega⟩⟩
 split
 ·
  split
  ·exact One.refl x
  ·
   rename_i h;have:=e6e h;exact⟨rfl,.inr ⟨by simp only[cj,gG],by simp only; omega,by simp only; omega,by simp only; omega⟩⟩
 split
 ·
  split
  ·exact⟨rfl,.inr ⟨rfl,by simp only[mD,mP,ma]; omega,by simp only; omega,by simp only[mD,mP,ma]; omega⟩⟩
  ·exact One.refl x
 split
 ·
  split
  ·exact One.refl x
  ·exact⟨rfl,.inr ⟨rfl,by simp only[mD,mP,ma]; omega,by simp only; omega,by simp only[mD,mP,ma]; omega⟩⟩
 split
 ·
  split
  ·exact One.refl x
  ·exact⟨rfl,.inr ⟨rfl,by simp only; omega,by simp only[mq]; omega,by simp only[mq]; omega⟩⟩
 split
 ·exact⟨rfl,.inr ⟨rfl,by simp only; omega,by simp only; omega,by simp only; omega⟩⟩
 split
 ·exact⟨rfl,.inr ⟨rfl,by simp only; omega,by simp only; omega,by simp only; omega⟩⟩
 ·exact One.refl x
structure Came (x y:aa):Prop where
 fr:y={x with E:=y.E,A9:=y.A9}
 e:y.E={x.E with A6:=y.E.A6}
theorem d8x (s:ao) (x:aa):Came x (atE s x).2.2.2:=by
 unfold atE;split
 ·exact⟨rfl,rfl⟩
 ·
  simp only[];split
  ·
   unfold bG;split<;>exact⟨rfl,rfl⟩
  ·exact⟨rfl,rfl⟩
theorem Came.one {x y z:aa} (h:Came x y) (h2:One y z):One x z:=by
 obtain⟨h1,h3⟩:=h;obtain⟨h4,h5⟩:=h2;have e1:y.E.A5=x.E.A5:=by rw[h3]
 have e2:y.C9=x.C9:=by rw[h1]
 have e3:y.C8=x.C8:=by rw[h1]
 have e4:y.C7=x.C7:=by rw[h1]
 have e5:y.C6=x.C6:=by rw[h1]
 have e6:y.B9=x.B9:=by rw[h1]
 refine⟨?_,by rw[e1,e2,e3,e4,e5,e6]at h5; exact h5⟩
 rw[h4,h1]
theorem d9F (c:ay) (s:ao) (x:aa):One x (aG c s x):=by
 unfold aG;split
 ·exact (d8x s x).one (One.refl _)
 ·exact (d8x s x).one (e7k _ _ _ _ _)
end Go.Proofs.Zz
