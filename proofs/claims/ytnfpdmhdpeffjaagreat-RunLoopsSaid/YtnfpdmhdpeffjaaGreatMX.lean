import Derived.Test.YtnfpdmhdpeffjaaGreatMC
import Derived.Test.YtnfpdmhdpeffjaaGreatNA
set_option linter.unusedSimpArgs false
set_option linter.unusedVariables false
namespace Go.Proofs.Zz
open Go
variable {N:Nat}
structure Wf (x:aa):Prop extends StOk x where
 ldq:x.Ldq.length≤1000
 sdq:x.Sdq.length≤1000
 aeq:x.Aeq.length≤1000
 abq:x.Abq.length≤1000
 ebq:x.Ebq.length≤1000
 wri:x.Writes.length≤15000
 gA:∀r∈x.A.Regs,U32 r
 gE:∀r∈x.E.Regs,U32 r
theorem b1T {d:aI} (h:∀r∈d.Regs,U32 r) (r:Int):U32 (getM d r):=by
 unfold getM;split
 ·
  rw[mA];by_cases hi:r.toNat<d.Regs.length
  ·rw[mC hi,mj]; exact h _ (oK hi)
  ·rw[mg (by omega)]; exact⟨by simp,by simp⟩
 ·exact⟨by simp,by simp⟩
theorem c3Q (k st pc:Int) (x:aa):kf N k st pc x=some (0,aA.dv (bG x k st pc) []):=by
 unfold kf bG;by_cases h:x.Trap.Kind=0
 ·rw[bt h,if_pos (.inl h)]; rfl
 ·
  rw[bf h,ah];by_cases h2:x.Trap.Step>st
  ·rw[dt h2,if_pos (.inr h2)]; rfl
  ·rw[df h2,if_neg (by omega)]; rfl
theorem b8F (x:aa) (st:Int):kt N x st=some (0,gB.dv (dk x st) []):=by
 unfold kt dk;simp only[a8H];refine retB ?_;rw[md]; simp only[mE,bne_iff_ne,decide_eq_true_eq]
theorem rm0 {α:Type} {l:List α} {n:Nat} (h:l.length*n≤35184372088832):rm [] l n=true:=rmT (by simpa using h)
def popM (l:List aO):List aO × Int × Bool:=if l.length=0∨(l.getD 0 aO.z).2.1=false then (l,0,false) else (l.drop 1,(l.getD 0 aO.z).2.2.1,true)
theorem sb_1 {α:Type} {l:List α} (h:l.length≠0):sb 1 (len l)=true:=dt (by simp only[len]; omega)
theorem len0 {α:Type} {l:List α}:(len l==0)=decide (l.length=0):=by
 rw[md,beq_iff_eq,decide_eq_true_eq]; simp only[len]; omega
theorem e9e (l:List aO) (h:l.length≤1000):c0G N l=some (0,(gD (.sl bB)).dv (popM l).1 (gW.dv (popM l).2.1 (gB.dv (popM l).2.2 []))):=by
 unfold c0G jI popM;rw[rm0 (by omega),aH,mf,au,ag,aj,len0];by_cases h0:l.length=0
 ·rw[dt h0,if_pos (.inl h0)]; rfl
 ·
  rw[df h0,ah,cd (i:=0) (by omega) (by omega),aH];cases hf:(l.getD 0 aO.z).2.1 with
  | false=>rw[if_pos (.inr rfl)]; rfl
  | true=>rw[if_neg (by simp[h0]),sb_1 h0]; rfl
def atE (s:ao) (x:aa):ak × Int × Bool × aa :=
 if x.E.Halted=true∨x.E.Wait>x.Cycle then (ak.z,0,false,x)
 else
  let p:=kx s true x.E.Pos
  let x1:aa:={x with E:={x.E with Pos:=p.1}}
  let x2:=if p.2=true then bG x1 4 (aT s true p.1).2.1 (bz s p.1.Block).2.1 else x1
  ((aT s true p.1).1,(aT s true p.1).2.1,(aT s true p.1).2.2&&!dk x2 (aT s true p.1).2.1,x2)
def actE (c:ay) (s:ao) (k:ak) (st:Int) (x:aa):aa :=
 if k.1=1 then
  if (doM k.2.1 (getM x.E k.2.1.2.2.1) (getM x.E k.2.1.2.2.2.1)).2=true then
   {x with E:=cj (setM x.E k.2.1.2.1 (doM k.2.1 (getM x.E k.2.1.2.2.1) (getM x.E k.2.1.2.2.2.1)).1 (w.i64 (x.Cycle+latM c k.2.1.1)))}
  else bG x 3 st k.2.2.2.1
 else if k.1=6 then
  if x.Aeq.length=0 then x else {x with E:=cj (setM x.E k.2.2.1 (x.Aeq.getD 0 0) (w.i64 (x.Cycle+1))),Aeq:=x.Aeq.drop 1}
 else if k.1=7 then
  if (popM x.Ldq).2.2=false then x else {x with E:=cj (setM x.E k.2.1.2.1 (popM x.Ldq).2.1 (w.i64 (x.Cycle+1))),Ldq:=(popM x.Ldq).1}
 else if k.1=8 then
  if len x.Sdq<c.Sdq then {x with E:=cj x.E,Sdq:=x.Sdq++[getM x.E k.2.2.1]} else x
 else if k.1=9 then
  if len x.Ebq≥c.Ebq then x else {x with E:=goD s x.Cycle x.E (fX k.2.1.1 (getM x.E k.2.1.2.2.1) (getM x.E k.2.1.2.2.2.1)),Ebq:=x.Ebq++[fX k.2.1.1 (getM x.E k.2.1.2.2.1) (getM x.E k.2.1.2.2.2.1)]}
 else if k.1=10 then
  if x.Abq.length=0 then x else {x with E:=goD s x.Cycle x.E (x.Abq.getD 0 false),Abq:=x.Abq.drop 1}
 else if k.1=11 then {x with E:=goD s x.Cycle x.E true}
 else if k.1=12 then {x with E:=h7M x.E}
 else x
def aG (c:ay) (s:ao) (x:aa):aa :=
 if (atE s x).2.2.1=false∨eg (atE s x).2.2.2.E (atE s x).1 (atE s x).2.2.2.Cycle=false then (atE s x).2.2.2 else actE c s (atE s x).1 (atE s x).2.1 (atE s x).2.2.2
def h7H (c:ay) (s:ao) (x:aa):aa:=if bu c s x=true then aG c s x else x
def NextOk (s:ao):Prop:=∀b:Int,hasM s b=true→(bz s b).2.2.1<0∨(b<(bz s b).2.2.1∧hasM s (bz s b).2.2.1=true)
theorem a3G {s:ao} (h:NextOk s) (e:Bool):∀(n:Nat) (p:bc),hasM s p.Block=true→hasM s (bL s e n p).1.Block=true
 | 0,p,hp=>hp
 | n+1,p,hp=>by
  unfold bL;rw[if_neg (by rw[hp]; simp)];split
  ·exact hp
  ·
   split
   ·exact hp
   ·
    rename_i h3;exact a3G h e n _ ((h _ hp).resolve_left h3).2
theorem e6R (s:ao) (x:aa) (hl:s.Blocks.length≤100000) (hN:s.Blocks.length<N) (hn:NextOk s) (hb:hasM s x.E.Pos.Block=true) :
  b7V N s true x=some (0,bS.dv (atE s x).1 (gI.dv (atE s x).2.1 (gB.dv (atE s x).2.2.1 (aA.dv (atE s x).2.2.2 [])))):=by
 unfold b7V atE;cases hh:x.E.Halted with
 | true=>rw[if_pos (.inl rfl)]; rfl
 | false =>
  by_cases hw:x.E.Wait>x.Cycle
  ·rw[dt hw,if_pos (.inr hw)]; rfl
  ·
   rw[df hw,if_neg (by simp[hw]),ah,ah];have hs:=a3G hn true s.Blocks.length x.E.Pos hb;rw[show bL s true s.Blocks.length x.E.Pos=kx s true x.E.Pos from rfl]at hs;simp only[b0l s true x.E.Pos hl hN,au,ag,aj,a6W s true _ hl hN,c3Q,b8F];generalize kx s true x.E.Pos=p at *;obtain⟨p,f⟩:=p;rw[show s.Blocks.getD p.Block.toNat aW.z=bz s p.Block from rfl,a7X hs];cases f with
   | true =>
    simp only[ai,aH,if_true];cases (aT s true p).2.2<;>rfl
   | false =>
    simp only[ah,mN,if_false];cases (aT s true p).2.2<;>rfl
theorem e7A (c:ay) (k:ak) (st:Int) (x:aa) (h:∀r∈x.E.Regs,U32 r) (hk:k.1=1) (s:ao):b7H N c k st x=some (0,aA.dv (actE c s k st x) []):=by
 unfold b7H actE;rw[if_pos hk];simp only[a3A,au,ag,aj,d6i k.2.1 (b1T h _) (b1T h _),c3Q,b9w,a8u,a5e];cases (doM k.2.1 (getM x.E k.2.1.2.2.1) (getM x.E k.2.1.2.2.2.1)).2<;>rfl
theorem d3Y (c:ay) (s:ao) (x:aa) (h:Wf x) (hl:s.Blocks.length≤100000) (hN:s.Blocks.length<N) (hN2:1001<N) (hn:NextOk s) (hb:hasM s x.E.Pos.Block=true) :
  b8D N c s x=some (0,aA.dv (aG c s x) []):=by
 unfold b8D aG;simp only[e6R s x hl hN hn hb,au,ag,aj,c1g _ _ _ hN2];have hw:(atE s x).2.2.2.Ldq=x.Ldq∧(atE s x).2.2.2.Sdq=x.Sdq∧(atE s x).2.2.2.Ebq=x.Ebq∧(atE s x).2.2.2.Abq=x.Abq∧(atE s x).2.2.2.Aeq=x.Aeq∧(atE s x).2.2.2.E.Regs=x.E.Regs:=by
  unfold atE bG
  repeat' (first | split | exact⟨rfl,rfl,rfl,rfl,rfl,rfl⟩ | simp only[])
 generalize atE s x=a at *;obtain⟨k,st,ok,x⟩:=a;simp only at hw ⊢;obtain⟨w1,w2,w3,w4,w5,w6⟩:=hw;cases ok with
 | false=>rw[if_pos (.inl rfl)]; rfl
 | true =>
  simp only[mR,ah,pM,false_or];cases hf:eg x.E k x.Cycle with
  | false=>rw[if_pos rfl]; rfl
  | true =>
   rw[if_neg (by simp),mR,ah];by_cases h1:k.1=1
   ·rw[bt h1,ai,e7A c k st x (by rw[w6]; exact h.gE) h1 s,au,ag,aj]
   rw[bf h1,ah];by_cases h6:k.1=6
   ·
    unfold actE;rw[bt h6,ai,if_neg h1,if_pos h6];by_cases hq:x.Aeq.length=0
    ·rw[df (show ¬len x.Aeq>0 by simp only[len]; omega),if_pos hq]; rfl
    ·
     rw[dt (show len x.Aeq>0 by simp only[len]; omega),if_neg hq,ai,cd (i:=0) (by omega) (by omega),aH];simp only[a8u,au,ag,aj,sb_1 hq,aH,a5e]
   rw[bf h6,ah];by_cases h7:k.1=7
   ·
    unfold actE c8T;rw[bt h7,ai,if_neg h1,if_neg h6,if_pos h7];simp only[e9e x.Ldq (by rw[w1]; exact h.ldq),au,ag,aj,a8u,a5e];cases (popM x.Ldq).2.2<;>rfl
   rw[bf h7,ah];by_cases h8:k.1=8
   ·
    unfold actE;rw[bt h8,ai,if_neg h1,if_neg h6,if_neg h7,if_pos h8];by_cases hq:len x.Sdq<c.Sdq
    ·
     rw[dt hq,if_pos hq,ai];simp only[a3A,au,ag,aj,rmT (show (x.Sdq.length+[getM x.E k.2.2.1].length)*4≤35184372088832 by rw[w2]; have:=h.sdq; simp; omega),aH,a5e]
    ·rw[df hq,if_neg hq]; rfl
   rw[bf h8,ah];by_cases h9:k.1=9
   ·
    unfold actE a6G;rw[bt h9,ai,if_neg h1,if_neg h6,if_neg h7,if_neg h8,if_pos h9];by_cases hq:len x.Ebq≥c.Ebq
    ·rw[dt hq,if_pos hq]; rfl
    ·
     rw[df hq,if_neg hq,ah];simp only[a3A,au,ag,aj,c5r,rmT (show (x.Ebq.length+[fX k.2.1.1 (getM x.E k.2.1.2.2.1) (getM x.E k.2.1.2.2.2.1)].length)*1≤35184372088832 by rw[w3]; have:=h.ebq; simp; omega),aH,b3P]
   rw[bf h9,ah];by_cases h10:k.1=10
   ·
    unfold actE a7s;rw[bt h10,ai,if_neg h1,if_neg h6,if_neg h7,if_neg h8,if_neg h9,if_pos h10,len0];by_cases hq:x.Abq.length=0
    ·rw[dt hq,if_pos hq]; rfl
    ·
     rw[df hq,if_neg hq,ah,cd (i:=0) (by omega) (by omega),sb_1 hq];simp only[aH,b3P,au,ag,aj]
   rw[bf h10,ah];by_cases h11:k.1=11
   ·
    unfold actE;rw[bt h11,ai,if_neg h1,if_neg h6,if_neg h7,if_neg h8,if_neg h9,if_neg h10,if_pos h11,b3P,au,ag,aj]
   rw[bf h11,ah];by_cases h12:k.1=12
   ·
    unfold actE;rw[bt h12,ai,if_neg h1,if_neg h6,if_neg h7,if_neg h8,if_neg h9,if_neg h10,if_neg h11,if_pos h12,c7y,au,ag,aj]
   ·
    unfold actE;rw[bf h12,ah,if_neg h1,if_neg h6,if_neg h7,if_neg h8,if_neg h9,if_neg h10,if_neg h11,if_neg h12]
theorem jA {c:ay} {s:ao} {x:aa} (h:bu c s x=true):sideM s true x.E=true:=by
 unfold bu at h;simp only[mE]at h;exact h.2.2.1
theorem iX {c:ay} {s:ao} {x:aa} (h:bu c s x=true):sideM s false x.A=true:=by
 unfold bu at h;simp only[mE]at h;exact h.2.1
theorem ie {s:ao} {e:Bool} {d:aI} (h:sideM s e d=true):hasM s d.Pos.Block=true:=by
 unfold sideM at h;simp only[mE]at h;exact h.1
variable {N:Nat}
theorem NextOk.of {s:ao} (h:dx s.Blocks):NextOk s:=by
 intro b hb;have h2:=fq.1 hb;have h3:=(h.blk b.toNat (by omega)).2.2.2.1;unfold bz;rcases h3 with h3 | h3
 ·left; omega
 ·
  right
  exact⟨by omega,fq.2 (by omega)⟩
variable {N:Nat}
structure One (x y:aa):Prop where
 fr:y={x with E:=y.E,Ldq:=y.Ldq,Sdq:=y.Sdq,Aeq:=y.Aeq,Abq:=y.Abq,Ebq:=y.Ebq,Trap:=y.Trap}
 on:(y.E.Done=x.E.Done∧y.Sdq.length=x.Sdq.length∧y.Ebq.length=x.Ebq.length∧y.Aeq.length=x.Aeq.length∧y.Abq.length=x.Abq.length∧y.Ldq.length=x.Ldq.length) ∨
  (y.E.Done=w.i64 (x.E.Done+1)∧x.Sdq.length+x.Ebq.length≤y.Sdq.length+y.Ebq.length∧y.Aeq.length+y.Abq.length+y.Ldq.length≤x.Aeq.length+x.Abq.length+x.Ldq.length ∧
   y.Sdq.length+y.Ebq.length+(x.Aeq.length+x.Abq.length+x.Ldq.length)≤1+(x.Sdq.length+x.Ebq.length)+(y.Aeq.length+y.Abq.length+y.Ldq.length))
theorem gG (d:aI) (r v y:Int):(setM d r v y).Done=d.Done:=by unfold setM; split<;>rfl
theorem One.refl (x:aa):One x x:=⟨rfl,.inl ⟨rfl,rfl,rfl,rfl,rfl,rfl⟩⟩
theorem e4z (x:aa) (k st pc:Int):One x (bG x k st pc):=by
 unfold bG;split
 ·exact⟨rfl,.inl ⟨rfl,rfl,rfl,rfl,rfl,rfl⟩⟩
 ·exact One.refl x
theorem e6e {l:List aO} (h:(popM l).2.2≠false):(popM l).1.length+1=l.length:=by
 unfold popM at *;split
 ·rename_i h2; rw[if_pos h2]at h; simp at h
 ·rename_i h2; simp only[mq]; omega
theorem e7k (c:ay) (s:ao) (k:ak) (st:Int) (x:aa):One x (actE c s k st x):=by
 unfold actE;split
 ·
  split
  ·exact⟨rfl,.inr ⟨by simp only[cj,gG],by simp only; omega,by simp only; omega,by simp only; omega⟩⟩
  ·exact e4z _ _ _ _
 split
 ·
  split
  ·exact One.refl x
  ·exact⟨rfl,.inr ⟨by simp only[cj,gG],by simp only; omega,by simp only[mq]; omega,by simp only[mq]; omega⟩⟩
 split
 ·
  split
  ·exact One.refl x
  ·
   rename_i h;have:=e6e h;exact⟨rfl,.inr ⟨by simp only[cj,gG],by simp only; omega,by simp only; omega,by simp only; omega⟩⟩
 split
 ·
  split
  ·exact⟨rfl,.inr ⟨rfl,by simp only[mD,mP,ma]; omega,by simp only; omega,by simp only[mD,mP,ma]; omega⟩⟩
  ·exact One.refl x
 split
 ·
  split
  ·exact One.refl x
  ·exact⟨rfl,.inr ⟨rfl,by simp only[mD,mP,ma]; omega,by simp only; omega,by simp only[mD,mP,ma]; omega⟩⟩
 split
 ·
  split
  ·exact One.refl x
  ·exact⟨rfl,.inr ⟨rfl,by simp only; omega,by simp only[mq]; omega,by simp only[mq]; omega⟩⟩
 split
 ·exact⟨rfl,.inr ⟨rfl,by simp only; omega,by simp only; omega,by simp only; omega⟩⟩
 split
 ·exact⟨rfl,.inr ⟨rfl,by simp only; omega,by simp only; omega,by simp only; omega⟩⟩
 ·exact One.refl x
structure Came (x y:aa):Prop where
 fr:y={x with E:=y.E,Trap:=y.Trap}
 e:y.E={x.E with Pos:=y.E.Pos}
theorem d8x (s:ao) (x:aa):Came x (atE s x).2.2.2:=by
 unfold atE;split
 ·exact⟨rfl,rfl⟩
 ·
  simp only[];split
  ·
   unfold bG;split<;>exact⟨rfl,rfl⟩
  ·exact⟨rfl,rfl⟩
theorem Came.one {x y z:aa} (h:Came x y) (h2:One y z):One x z:=by
 obtain⟨h1,h3⟩:=h;obtain⟨h4,h5⟩:=h2;have e1:y.E.Done=x.E.Done:=by rw[h3]
 have e2:y.Sdq=x.Sdq:=by rw[h1]
 have e3:y.Ebq=x.Ebq:=by rw[h1]
 have e4:y.Aeq=x.Aeq:=by rw[h1]
 have e5:y.Abq=x.Abq:=by rw[h1]
 have e6:y.Ldq=x.Ldq:=by rw[h1]
 refine⟨?_,by rw[e1,e2,e3,e4,e5,e6]at h5; exact h5⟩
 rw[h4,h1]
theorem d9F (c:ay) (s:ao) (x:aa):One x (aG c s x):=by
 unfold aG;split
 ·exact (d8x s x).one (One.refl _)
 ·exact (d8x s x).one (e7k _ _ _ _ _)
end Go.Proofs.Zz
