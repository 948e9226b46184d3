import Derived.Test.YtnfpdmhdpeffjaaGreatKT
import Derived.Test.YtnfpdmhdpeffjaaGreatK5
import Derived.IntWalk
set_option linter.unusedSimpArgs false
set_option linter.unusedVariables false
namespace Go.Proofs.Zz
open Go
def ae (op:Int):Int :=
 if op<1∨41<op then 0 else if op≤16 then 1 else if op≤24 then 2 else if op=25 then 3 else if op≤30 then 4 else if op≤33 then 5 else if op≤39 then 6 else if op=40 then 7 else 8
def gK (f:Int):Bool:=decide (1≤f∧f≤4)
def iq (f:Int):Bool:=decide (f=1∨f=2∨f=4∨f=5∨f=6)
def ir (f:Int):Bool:=decide (f=1∨f=5∨f=6)
def jM (f:Int):Bool:=decide (2≤f∧f≤7)
def ew (n:Int) (h:Bool) (lo hi:Int):Bool:=if h=true then decide (lo≤n∧n≤hi) else decide (n=0)
def loM (op:Int):Int:=if op=22∨op=23∨op=24 then 0 else -8192
def hiM (op:Int):Int:=if op=22∨op=23∨op=24 then 31 else 8191
def bC (i:af):Bool :=
 decide (ae i.1≠0)&&ew i.2.1 (gK (ae i.1)) 0 15&&ew i.2.2.1 (iq (ae i.1)) 0 15&&ew i.2.2.2.1 (ir (ae i.1)) 0 15&&ew i.2.2.2.2.1 (jM (ae i.1)) (loM i.1) (hiM i.1)
def aY (i:af):List Int :=
 if bC i=true then (if iq (ae i.1)=true∧i.2.2.1≠0 then [i.2.2.1] else [])++(if ir (ae i.1)=true∧i.2.2.2.1≠0 then [i.2.2.2.1] else []) else []
def jO (i:af):Int:=if bC i=true then i.2.1 else 0
def h7h (c:ak):List Int :=
 if c.1=1∨c.1=2 then aY c.2.1++[jO c.2.1]
 else if c.1=3∨c.1=4 then [c.2.1.2.2.1]
 else if c.1=7 then [c.2.1.2.1]
 else if c.1=5∨c.1=6∨c.1=8 then [c.2.2.1]
 else if c.1=9 then aY c.2.1
 else []
def fy (r:Int):Bool:=decide (1≤r∧r≤15)
def jQ (c:ak):List Int:=(h7h c).filter fy
def eg (d:aI) (c:ak) (cycle:Int):Bool:=(jQ c).all λr=>decide (0≤d.A8.getD r.toNat 0∧d.A8.getD r.toNat 0≤cycle)
def bG (x:aa) (k st pc:Int):aa:=if x.A9.C2=0∨x.A9.C5>st then {x with A9:=⟨k,st,pc⟩} else x
def dk (x:aa) (step:Int):Bool:=decide (x.A9.C2≠0∧step≥x.A9.C5)
def hasM (s:ao) (b:Int):Bool:=decide (0≤b∧b<len s.A3)
def bz (s:ao) (b:Int):aW:=s.A3.getD b.toNat aW.z
def cu (s:ao) (onE:Bool) (b:Int):List ak:=if hasM s b=true then (if onE=true then (bz s b).2.2.2.2.2.1 else (bz s b).2.2.2.2.1) else []
def endM (s:ao) (p:bc):Int:=if hasM s p.A7=true then w.i64 (w.i64 (p.D3+(bz s p.A7).2.1)-(bz s p.A7).1) else p.D3
def bL (s:ao) (onE:Bool):Nat→bc→bc × Bool
 | 0,p=>(p,!hasM s p.A7||decide (p.B3≥len (cu s onE p.A7)))
 | n+1,p=>if hasM s p.A7=false then (p,true) else if p.B3<len (cu s onE p.A7) then (p,false) else if (bz s p.A7).2.2.1<0 then (p,true) else bL s onE n ⟨(bz s p.A7).2.2.1,0,endM s p⟩
def kx (s:ao) (onE:Bool) (p:bc):bc × Bool:=bL s onE s.A3.length p
def fW (s:ao) (onE:Bool) (p:bc):ak:=(cu s onE p.A7).getD p.B3.toNat ak.z
def aT (s:ao) (onE:Bool) (p:bc):ak × Int × Bool :=
 if (kx s onE p).2=true∨(kx s onE p).1.B3<0 then (ak.z,endM s (kx s onE p).1,false)
 else (fW s onE (kx s onE p).1,w.i64 ((kx s onE p).1.D3+(fW s onE (kx s onE p).1).2.2.2.2.1),true)
def goM (s:ao) (p:bc) (t:Bool):bc :=
 if t=true∧hasM s p.A7=true∧hasM s (bz s p.A7).2.2.2.1=true then ⟨(bz s p.A7).2.2.2.1,0,endM s p⟩ else {p with B3:=w.i64 (p.B3+1)}
def getM (d:aI) (r:Int):Int:=if 1≤r∧r≤15 then d.B1.getD r.toNat 0 else 0
def setM (d:aI) (r v ready:Int):aI:=if 1≤r∧r≤15 then {d with B1:=d.B1.set r.toNat v,A8:=d.A8.set r.toNat ready} else d
def cj (d:aI):aI:={d with A6:={d.A6 with B3:=w.i64 (d.A6.B3+1)},A5:=w.i64 (d.A5+1)}
def goD (s:ao) (cycle:Int) (d:aI) (t:Bool):aI:={d with A6:=goM s d.A6 t,C3:=if t=true then w.i64 (cycle+2) else d.C3,A5:=w.i64 (d.A5+1)}
def h7M (d:aI):aI:={d with A4:=true,A5:=w.i64 (d.A5+1)}
def latM (c:ay) (op:Int):Int :=
 if op=11∨op=12 then (if c.D7<1∨c.D7>50 then 1 else c.D7)
 else if 13≤op∧op≤16 then (if c.D6<1∨c.D6>50 then 1 else c.D6)
 else 1
def sg (x:Int):Int:=w.i32 x
def fX (op a b:Int):Bool :=
 if op=34 then a==b else if op=35 then a != b else if op=36 then decide (sg a<sg b) else if op=37 then decide (sg a≥sg b) else if op=38 then decide (a<b) else if op=39 then decide (a≥b) else false
def h8r (b:Bool):Int:=if b=true then 1 else 0
def opM (op a b:Int):Int × Bool :=
 if op=1 then (w.u32 (a+b),true) else if op=2 then (w.u32 (a-b),true)
 else if op=3 then (cG .u32 a b,true) else if op=4 then (fS .u32 a b,true) else if op=5 then (kM .u32 a b,true)
 else if op=6 then (shl .u32 a (cG .u32 b 31),true) else if op=7 then (shr .u32 a (cG .u32 b 31),true) else if op=8 then (w.u32 (shr .i32 (sg a) (cG .u32 b 31)),true)
 else if op=9 then (h8r (decide (sg a<sg b)),true) else if op=10 then (h8r (decide (a<b)),true)
 else if op=11 then (w.u32 (a*b),true) else if op=12 then (w.u32 (shr .i64 (sg a*sg b) 32),true)
 else if b=0 then (0,false)
 else if op=13 then (w.u32 (Int.tdiv (sg a) (sg b)),true) else if op=15 then (w.u32 (Int.tmod (sg a) (sg b)),true)
 else if op=14 then (Int.tdiv a b,true) else (Int.tmod a b,true)
def kF (op:Int):Int :=
 if op=17 then 1 else if op=18 then 3 else if op=19 then 4 else if op=20 then 5 else if op=21 then 9 else if op=22 then 6 else if op=23 then 7 else if op=24 then 8 else op
def doM (i:af) (a b:Int):Int × Bool :=
 if bC i=false∨ae i.1>3 then (0,true)
 else if ae i.1=3 then (w.u32 (shl .i64 i.2.2.2.2.1 18),true)
 else opM (kF i.1) a (if ae i.1=2 then w.u32 i.2.2.2.2.1 else b)
variable {N:Nat}
theorem retB {a b:Bool} {q:List DV} (h:a=b):(some (0,gB.dv a q):Option Rs)=some (0,gB.dv b q):=by rw[h]
theorem retL {t:Ty} {a b:List (Den t)} {q:List DV} (h:a=b):(some (0,(gD (.sl t)).dv a q):Option Rs)=some (0,(gD (.sl t)).dv b q):=by rw[h]
theorem jg (op:Int):ig N op=some (0,gI.dv (ae op) []):=by
 unfold ig ae;simp only[cP,decide_eq_true_eq,beq_iff_eq]
 repeat' split
 all_goals first | rfl | omega
theorem iA (op:Int):gT N op=some (0,gI.dv (ae op) []):=jg (N:=N) op
theorem d5C (f:Int):d3S N f=some (0,gB.dv (gK f&&decide (f≠5∧f≠6∧f≠7∧f≠8)) (gB.dv (iq f) (gB.dv (ir f) (gB.dv (jM f) [])))):=by
 unfold d3S gK iq ir jM;simp only[cP,decide_eq_true_eq,beq_iff_eq]
 repeat' split
 all_goals first | (subst_vars; rfl) | skip
 rw[decide_eq_false (p:=1≤f∧f≤4) (by omega),decide_eq_false (p:=f=1∨f=2∨f=4∨f=5∨f=6) (by omega),decide_eq_false (p:=f=1∨f=5∨f=6) (by omega),decide_eq_false (p:=2≤f∧f≤7) (by omega)];rfl
theorem c7Z (f:Int):j9 N f=some (0,gB.dv (gK f) []):=by
 unfold j9 gK;simp only[cP,decide_eq_true_eq,beq_iff_eq]
 repeat' split
 all_goals refine retB ?_
 all_goals rw[md]; simp only[beq_iff_eq,decide_eq_true_eq,mN,true_iff,false_iff]; omega
theorem c6M (f:Int):j7 N f=some (0,gB.dv (iq f) []):=by
 unfold j7 iq;simp only[cP,decide_eq_true_eq,beq_iff_eq]
 repeat' split
 all_goals refine retB ?_
 all_goals rw[md]; simp only[beq_iff_eq,decide_eq_true_eq,mN,true_iff,false_iff]; omega
theorem c7Q (f:Int):i7 N f=some (0,gB.dv (ir f) []):=by
 unfold i7 ir;simp only[cP,decide_eq_true_eq,beq_iff_eq]
 repeat' split
 all_goals refine retB ?_
 all_goals rw[md]; simp only[beq_iff_eq,decide_eq_true_eq,mN,true_iff,false_iff]; omega
theorem d2v (f:Int):a8g N f=some (0,gB.dv (jM f) []):=by
 unfold a8g jM;simp only[cP,decide_eq_true_eq,beq_iff_eq]
 repeat' split
 all_goals refine retB ?_
 all_goals rw[md]; simp only[beq_iff_eq,decide_eq_true_eq,mN,true_iff,false_iff]; omega
theorem d1Y (n:Int) (h:Bool) (lo hi:Int):eQ N n h lo hi=some (0,gB.dv (ew n h lo hi) []):=by
 unfold eQ ew;cases h<;>simp only[cP,decide_eq_true_eq,mR,mn,if_true,mN,if_false,reduceIte]
 ·rfl
 ·
  split
  ·
   refine retB ?_;rw[md]; simp only[decide_eq_true_eq]; omega
  ·
   refine retB ?_;rw[md]; simp only[decide_eq_true_eq,mN,false_iff]; omega
theorem e1V (n:Int) (h:Bool):d0o N n h=some (0,gB.dv (ew n h 0 15) []):=by
 unfold d0o ew;cases h<;>simp only[cP,decide_eq_true_eq,beq_iff_eq,mN,if_false,if_true]
 all_goals repeat' split
 all_goals refine retB ?_
 all_goals rw[md]; simp only[decide_eq_true_eq,mN,true_iff,false_iff]; omega
theorem kQ (op:Int):0≤ae op∧ae op≤8:=by
 unfold ae
 repeat' split
 all_goals omega
theorem b6S (i:af):jz N i=some (0,gB.dv (bC i) []):=by
 unfold jz bC loM hiM;have hr:=kQ i.1;have h0:(decide (ae i.1≠0))=decide (ae i.1>0):=by rw[md]; simp only[decide_eq_true_eq]; omega
 simp only[iA,c7Z,c6M,c7Q,d2v,d1Y,au,ag,aj,h0];generalize ew i.2.1 (gK (ae i.1)) 0 15=d;generalize ew i.2.2.1 (iq (ae i.1)) 0 15=a;generalize ew i.2.2.2.1 (ir (ae i.1)) 0 15=b;generalize decide (ae i.1>0)=f;by_cases h1:i.1=22
 ·
  simp only[h1,beq_self_eq_true,ai,true_or,if_true];cases f<;>cases d<;>cases a<;>cases b<;>rfl
 ·
  by_cases h2:i.1=23
  ·
   simp only[h2,show ((23:Int)==22)=false from rfl,beq_self_eq_true,ai,ah,true_or,or_true,if_true];cases f<;>cases d<;>cases a<;>cases b<;>rfl
  ·
   by_cases h3:i.1=24
   ·
    simp only[h3,show ((24:Int)==22)=false from rfl,show ((24:Int)==23)=false from rfl,beq_self_eq_true,ai,ah,or_true,if_true];cases f<;>cases d<;>cases a<;>cases b<;>rfl
   ·
    simp only[beq_eq_false_iff_ne.2 h1,beq_eq_false_iff_ne.2 h2,beq_eq_false_iff_ne.2 h3,ah,h1,h2,h3,or_self,if_false];cases f<;>cases d<;>cases a<;>cases b<;>rfl
theorem a5D (i:af):a4s N i=some (0,gB.dv (bC i) []):=by
 unfold a4s bC loM hiM;have hr:=kQ i.1;have hd:(gK (ae i.1)&&decide (ae i.1≠5∧ae i.1≠6∧ae i.1≠7∧ae i.1≠8))=gK (ae i.1):=by
  unfold gK; rw[md]; simp only[mE,decide_eq_true_eq]; omega
 simp only[jg,d5C,e1V,au,ag,aj,hd];have hI:i.1=22∨i.1=23∨i.1=24→jM (ae i.1)=true:=by
  rintro (h | h | h)<;>rw[h]<;>rfl
 generalize ew i.2.1 (gK (ae i.1)) 0 15=d;generalize ew i.2.2.1 (iq (ae i.1)) 0 15=a;generalize ew i.2.2.2.1 (ir (ae i.1)) 0 15=b;generalize jM (ae i.1)=m at *;by_cases hf:ae i.1=0
 ·simp only[hf,beq_self_eq_true,ai,ne_eq,not_true,decide_false,mZ]
 ·
  simp only[beq_eq_false_iff_ne.2 hf,ah,ne_eq,hf,not_false_eq_true,decide_true,mO];cases d<;>cases a<;>cases b<;>simp only[mR,mn,ai,ah,mO,mZ,qA]
  have key:∀lo hi:Int,bi (decide (i.2.2.2.2.1≥lo)) (some (0,gB.dv (decide (i.2.2.2.2.1≤hi)) [])) (some (0,gB.dv false []))=(some (0,gB.dv (decide (lo≤i.2.2.2.2.1∧i.2.2.2.2.1≤hi)) []):Option Rs):=by
   intro lo hi;rw[cP]; simp only[decide_eq_true_eq];split
   ·refine retB ?_; rw[md]; simp only[decide_eq_true_eq]; omega
   ·refine retB ?_; rw[md]; simp only[decide_eq_true_eq,mN,false_iff]; omega
  unfold ew;cases m with
  | true =>
   simp only[mR,ah,key,if_true];simp only[cP,beq_iff_eq]
   repeat' split
   all_goals first | rfl | omega
  | false =>
   have h1:¬(i.1=22∨i.1=23∨i.1=24):=λh=>by have:=hI h; simp at this
   simp only[mn,ai,key,mN,if_false];simp only[cP,bne_iff_ne,beq_iff_eq];split
   ·refine retB ?_; rw[md]; simp only[decide_eq_true_eq,mN,false_iff]; assumption
   ·
    rename_i h;rw[if_neg (by omega),if_neg (by omega),if_neg (by omega)];refine retB ?_; rw[md]; simp only[decide_eq_true_eq]; omega
theorem rmT {α:Type} {a b:List α} {n:Nat} (h:(a.length+b.length)*n≤35184372088832):rm a b n=true:=decide_eq_true h
theorem d3B (i:af):jy N i=some (0,(gD (.sl tI)).dv (aY i) []):=by
 unfold jy aY;simp only[b6S,iA,c6M,c7Q,au,ag,aj,rmT (a:=([]:List Int)) (b:=[i.2.2.1]) (n:=8) (by simp),rmT (a:=([]:List Int)) (b:=[i.2.2.2.1]) (n:=8) (by simp),rmT (a:=([]:List Int)++[i.2.2.1]) (b:=[i.2.2.2.1]) (n:=8) (by simp),aH];generalize bC i=r;generalize iq (ae i.1)=a;generalize ir (ae i.1)=b;cases r<;>cases a<;>cases b<;>simp only[cP,mR,mn,bne_iff_ne,true_and,false_and,if_true,if_false,mN,ne_eq]<;>(repeat' split)<;>rfl
theorem a7Q (i:af):gH N i=some (0,(gD (.sl tI)).dv (aY i) []):=by
 unfold gH aY;simp only[a5D,jg,d5C,au,ag,aj,rmT (a:=([]:List Int)) (b:=[i.2.2.1]) (n:=8) (by simp),rmT (a:=([]:List Int)) (b:=[i.2.2.2.1]) (n:=8) (by simp),rmT (a:=([]:List Int)++[i.2.2.1]) (b:=[i.2.2.2.1]) (n:=8) (by simp),aH];generalize bC i=r;generalize iq (ae i.1)=a;generalize ir (ae i.1)=b;cases r<;>cases a<;>cases b<;>simp only[cP,mR,mn,bne_iff_ne,true_and,false_and,if_true,if_false,mN,ne_eq]<;>(repeat' split)<;>rfl
theorem e0d {i:af} (h:bC i=true):gK (ae i.1)=true∨i.2.1=0:=by
 unfold bC ew at h;simp only[mE,decide_eq_true_eq]at h;cases hd:gK (ae i.1) with
 | true=>exact .inl rfl
 | false =>
  rw[hd]at h;have:=h.1.1.1.2;simp at this;exact .inr this
theorem d2j (i:af):b2U N i=some (0,gI.dv (jO i) []):=by
 unfold b2U jO;simp only[b6S,iA,c7Z,au,ag,aj];cases hr:bC i with
 | false=>rfl
 | true =>
  rcases e0d hr with h | h
  ·rw[h]; rfl
  ·rw[h]; cases gK (ae i.1)<;>rfl
variable {N:Nat}
theorem wI {x:Int} (h0:-9000000000000000000≤x) (h1:x≤9000000000000000000):w.i64 x=x:=IntWalk.i64_in _ (by omega)
theorem wS {i:Nat} (h:i≤100000000):w.i64 ((i:Int)+1)=((i+1:Nat):Int):=by rw[wI (by omega) (by omega)]; omega
theorem cd {i:Int} {n:Nat} (h0:0≤i) (h1:i<n):idx i n=true:=by simp[idx,h0,h1]
theorem bI {i n:Nat} (h:i<n):idx (i:Int) n=true:=cd (by omega) (by omega)
theorem dt {p:Prop} [Decidable p] (h:p):decide p=true:=decide_eq_true h
theorem df {p:Prop} [Decidable p] (h:¬p):decide p=false:=decide_eq_false h
theorem bt {a b:Int} (h:a=b):(a==b)=true:=beq_iff_eq.2 h
theorem bf {a b:Int} (h:a≠b):(a==b)=false:=beq_eq_false_iff_ne.2 h
theorem bV {α:Type} {l:List α} {i:Nat} (h:i<l.length):decide ((i:Int)<len l)=true:=dt (by simp only[len]; omega)
theorem ce {α:Type} {l:List α} {i:Nat} (h:l.length≤i):decide ((i:Int)<len l)=false:=df (by simp only[len]; omega)
theorem a2r {α:Type} {l:List α} {i:Nat} (d:α) (h:i<l.length):l.drop i=l.getD i d::l.drop (i+1):=by
 rw[mS h,mA,mC h,mj]
theorem b6f {α:Type} {l:List α} {i:Nat} (d:α) (h:i<l.length):l.take (i+1)=l.take i++[l.getD i d]:=by
 rw[pQ,mA,mC h,mj,Option.toList_some]
theorem iD (i:af):(aY i).length≤2:=by
 unfold aY
 repeat' split
 all_goals simp
theorem d1x (c:ak):(h7h c).length≤3:=by
 unfold h7h;have:=iD c.2.1
 repeat' split
 all_goals simp<;>omega
theorem c9x (c:ak):b4P N c=some (0,(gD (.sl tI)).dv (h7h c) []):=by
 unfold b4P h7h;have hre:∀x:Int,rm (aY c.2.1) [x] 8=true:=λx=>rmT (by have:=iD c.2.1; simp only[mP,ma]; omega)
 simp only[d3B,d2j,au,ag,aj,hre,aH];simp only[cP,beq_iff_eq]
 repeat' split
 all_goals first | rfl | omega
theorem d1g (x:Int):a6U N x=some (0,gB.dv (!fy x) []):=by
 unfold a6U fy;simp only[cP,decide_eq_true_eq];split
 ·refine retB ?_; rw[df (by omega)]; rfl
 ·refine retB ?_; rw[md]; simp only[decide_eq_true_eq,mu,decide_eq_false_iff_not]; omega
theorem e0F (l:List Int) (hl:l.length≤1000):∀(n i:Nat),i≤l.length→l.length-i<n→(l.take i).filter fy=l.take i →
  (∃r:Nat,a1L N n l (len l) (i:Int)=some (0,gI.dv (r:Int) [])∧r<l.length∧(l.take r).filter fy=l.take r∧fy (l.getD r 0)=false)∨(a1L N n l (len l) (i:Int)=some (1,[])∧l.filter fy=l):=by
 intro n;induction n with
 | zero=>intro i h0 h1; omega
 | succ n ih =>
  intro i h0 h1 h2;show (∃r:Nat,a2m N (a1L N n) l (len l) (i:Int)=_∧_)∨(a2m N (a1L N n) l (len l) (i:Int)=_∧_);unfold a2m;by_cases hi:i<l.length
  ·
   rw[bV hi];simp only[ai,bI hi,aH,d1g,au,ag,aj,mF,wS (show i≤100000000 by omega)];cases h:fy (l.getD i 0) with
   | false=>exact .inl ⟨i,rfl,hi,h2,h⟩
   | true=>exact ih (i+1) (by omega) (by omega) (by rw[b6f 0 hi,oV,h2,od h,qS])
  ·
   rw[ce (by omega)];rw[nP (by omega)]at h2;exact .inr ⟨rfl,h2⟩
theorem e4C (o : List Int) (ho : o.length ≤ 1000) : ∀ (n : Nat) (l : List Int) (i j : Nat), l.length = o.length → i ≤ j → j ≤ o.length → o.length - j < n → l.take i = (o.take j).filter fy → l.drop j = o.drop j →
    ∃ (l' : List Int) (i' : Nat), a3d N n l (i : Int) (j : Int) = some (1, (gD (.sl tI)).dv l' (gI.dv (i' : Int) [])) ∧ i' ≤ l'.length ∧ l'.take i' = o.filter fy ∧ l'.length = o.length := by
  intro n
  induction n with
  | zero => intro l i j h0 h1 h2 h3; omega
  | succ n ih =>
    intro l i j h0 h1 h2 h3 h4 h5
    show ∃ (l' : List Int) (i' : Nat), a3c N (a3d N n) l (i : Int) (j : Int) = _ ∧ _
    unfold a3c
    by_cases hj : j < o.length
    · have hx : l.getD j 0 = o.getD j 0 := by
        have := h5
        rw [a2r 0 (by omega), a2r 0 hj] at this
        exact (mY this).1
      have h5' : l.drop (j + 1) = o.drop (j + 1) := by
        have := h5
        rw [a2r 0 (by omega), a2r 0 hj] at this
        exact (mY this).2
      rw [bV (by omega)]
      simp only [ai, bI (show j < l.length by omega), aH, d1g, au, ag, aj, mF, wS (show j ≤ 100000000 by omega), wS (show i ≤ 100000000 by omega), bI (show i < l.length by omega), Bool.not_not]
      cases h : fy (l.getD j 0) with
      | false =>
        simp only [ah]
        exact ih l i (j + 1) h0 (by omega) (by omega) (by omega) (by rw [h4, b6f 0 hj, oV, ← hx, pL (by rw [h]; simp), qS, mJ]) h5'
      | true =>
        simp only [ai]
        refine ih _ (i + 1) (j + 1) (by simpa using h0) (by omega) (by omega) (by omega) ?_ ?_
        · rw [b6f 0 (by simp; omega), b6f 0 hj, oV, ← h4, ← hx, List.take_set_of_le (by omega)]
          simp only [od h, qS]
          congr 2
          rw [mA, oF (by omega), mj]
        · rw [List.drop_set_of_lt (by omega)]; exact h5'
    · rw [ce (by omega)]
      rw [nP (l := o) (i := j) (by omega)] at h4
      exact ⟨l, i, rfl, by omega, h4, h0⟩
theorem c9H (c:ak) (hN:1001<N):b4F N c=some (0,(gD (.sl tI)).dv (jQ c) []):=by
 unfold b4F jQ;rw[c9x,au,ag,aj];have hl:=d1x c;generalize h7h c=l at *
 suffices h:a4Z N l=some (0,(gD (.sl tI)).dv (l.filter fy) []) by rw[h]; rfl
 unfold a4Z a8V;rcases e0F (N:=N) l (by omega) N 0 (nU _) (by omega) rfl with⟨r,h1,h2,h3,h4⟩ | ⟨h1,h2⟩
 ·
  simp only[nD]at h1;rw[h1,dF,ag,aj,au,ag,aj,bf (show (r:Int)≠-1 by omega),ah,wS (by omega)];obtain⟨l',i',g1,g2,g3,g4⟩:=e4C (N:=N) l (by omega) N l r (r+1) rfl (by omega) (by omega) (by omega) (by
   rw[b6f 0 h2,oV,h3,pL (by rw[h4]; simp)]; simp) rfl
  have hlaid:(laid l' i' (List.replicate (List.length l'-i') 0)).length=l'.length:=by simp[laid]; omega
  have hsb:sb (i':Int) (len l')=true:=dt (by simp only[len]; omega);have hsb2:sb (i':Int) (len (laid l' i' (List.replicate (List.length l'-i') 0)))=true:=dt (by simp only[len,hlaid]; omega);rw[g1,dG,ag,ag,aj];simp only[mF,nD];rw[hsb,aH,hsb2,aH];refine retL ?_;simp only[oD,mX,laid];rw[pV (by simp; omega),qM,Nat.min_self,g3]
 ·
  simp only[nD]at h1;rw[h1,dH _ _ (by decide),aj,au,ag,aj,bt rfl,ai,h2]
theorem e3X (r:Int) (hr:fy r=true) (d:aI) (cy:Int):b2b N r d cy=some (0,gB.dv (!decide (0≤d.A8.getD r.toNat 0∧d.A8.getD r.toNat 0≤cy)) (iH.dv d (gI.dv cy []))):=by
 unfold b2b;simp only[fy,decide_eq_true_eq]at hr;rw[cd (by omega) (by omega)];simp only[aH,cP,decide_eq_true_eq];split
 ·rw[df (by omega)]; rfl
 ·
  congr 3;rw[md]; simp only[decide_eq_true_eq,mu,decide_eq_false_iff_not]; omega
theorem ck {α:Type} {l:List α} {i:Nat} (d:α) (h:i<l.length):l.getD i d∈l:=by
 rw[mA,mC h,mj]; exact oK h
theorem e3T (l:List Int) (hl:l.length≤1000) (hg:∀x∈l,fy x=true) (d:aI) (cy:Int):∀(n i:Nat),i≤l.length→l.length-i<n →
  (∃r:Nat,a1v N n l (len l) (i:Int) d cy=some (0,gI.dv (r:Int) (iH.dv d (gI.dv cy [])))∧((l.drop i).all λr=>decide (0≤d.A8.getD r.toNat 0∧d.A8.getD r.toNat 0≤cy))=false) ∨
  (a1v N n l (len l) (i:Int) d cy=some (1,iH.dv d (gI.dv cy []))∧((l.drop i).all λr=>decide (0≤d.A8.getD r.toNat 0∧d.A8.getD r.toNat 0≤cy))=true):=by
 intro n;induction n with
 | zero=>intro i h0 h1; omega
 | succ n ih =>
  intro i h0 h1;show (∃r:Nat,a1S N (a1v N n) l (len l) (i:Int) d cy=_∧_)∨(a1S N (a1v N n) l (len l) (i:Int) d cy=_∧_);unfold a1S;by_cases hi:i<l.length
  ·
   rw[bV hi,a2r 0 hi,mt];simp only[ai,bI hi,aH,e3X _ (hg _ (ck 0 hi)),au,ag,aj,mF,wS (show i≤100000000 by omega)];cases h:decide (0≤d.A8.getD (l.getD i 0).toNat 0∧d.A8.getD (l.getD i 0).toNat 0≤cy) with
   | false=>exact .inl ⟨i,rfl,rfl⟩
   | true =>
    simp only[mR,ah,mO];exact ih (i+1) (by omega) (by omega)
  ·
   rw[ce (by omega),nJ (by omega)];exact .inr ⟨rfl,rfl⟩
theorem d1l (c:ak):∀x∈jQ c,fy x=true:=λx h=>(oA.1 h).2
theorem d1A (c:ak):(jQ c).length≤3:=nO (pT _ _) (d1x c)
theorem c1g (d:aI) (c:ak) (cy:Int) (hN:1001<N):b3o N d c cy=some (0,gB.dv (eg d c cy) []):=by
 unfold b3o eg;rw[c9H c hN,au,ag,aj];unfold a6b a6V;have h3:=d1A c;rcases e3T (N:=N) (jQ c) (by omega) (d1l c) d cy N 0 (nU _) (by omega) with⟨r,h1,h2⟩ | ⟨h1,h2⟩
 ·
  rw[mX]at h2;simp only[nD]at h1;rw[h1];simp only[dF,au,ag,aj,dt (show (r:Int)≥0 by omega)];rw[h2]; rfl
 ·
  rw[mX]at h2;simp only[nD]at h1;rw[h1,dH _ _ (by decide)];simp only[au,ag,aj];rw[h2]; rfl
end Go.Proofs.Zz
