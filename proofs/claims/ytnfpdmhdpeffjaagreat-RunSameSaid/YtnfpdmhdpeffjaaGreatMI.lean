import Derived.Test.YtnfpdmhdpeffjaaGreatMG
import Derived.Test.YtnfpdmhdpeffjaaGreatMH
import Derived.Test.YtnfpdmhdpeffjaaGreatK9
set_option linter.unusedSimpArgs false
set_option linter.unusedVariables false
set_option maxRecDepth 100000
namespace Go.Proofs.Zz
open Go
variable {N:Nat}
def rdB (a:Int) (m:List Int):Nat→Int
 | 0=>0
 | n+1=>fS .u32 (rdB a m n) (shl .u32 (w.u32 (m.getD (a+(n:Int)).toNat 0)) (8*(n:Int)))
def bW (m:List Int) (op a:Int):Int:=if 26≤op∧op≤30 then (if eN (aZ op) a (len m)=0 then jk op (rdB a m (aZ op).toNat) else 0) else 0
theorem e0S (m:List Int) (op a:Int) (sz:Nat) (hs:sz≤4) (ha:U32 a) (hn:a+sz≤m.length) (hm:m.length≤100000):∀(n j:Nat),j≤sz→sz-j<n →
  a2H N n m op a (rdB a m j) (sz:Int) (j:Int)=some (1,gI.dv op (gW.dv (rdB a m sz) [])):=by
 intro n;induction n with
 | zero=>intro j h1 h2; omega
 | succ n ih =>
  intro j h1 h2;show a4V N (a2H N n) m op a (rdB a m j) (sz:Int) (j:Int)=_;unfold a4V;simp only[U32]at ha;by_cases hj:j<sz
  ·
   have e0:w.i64 a=a:=wI (by omega) (by omega);have e1:w.i64 (8*(j:Int))=8*(j:Int):=wI (by omega) (by omega);have e2:w.i64 (a+(j:Int))=a+(j:Int):=wI (by omega) (by omega);rw[dt (show (j:Int)<(sz:Int) by omega),ai,e0,e2,cd (by omega) (by omega),aH,e1,df (show ¬(8*(j:Int)<0) by omega),iy,wS (show j≤100000000 by omega)];exact ih (j+1) (by omega) (by omega)
  ·
   have:j=sz:=by omega
   subst this;rw[df (by omega),ah]
theorem e0o (m:List Int) (op a:Int) (sz:Nat) (hs:sz≤4) (ha:U32 a) (hn:a+sz≤m.length) (hm:m.length≤100000):∀(n j:Nat),j≤sz→sz-j<n →
  b2C N n m op a (sz:Int) (rdB a m j) (j:Int)=some (1,gI.dv op (gW.dv (rdB a m sz) [])):=by
 intro n;induction n with
 | zero=>intro j h1 h2; omega
 | succ n ih =>
  intro j h1 h2;show b8C N (b2C N n) m op a (sz:Int) (rdB a m j) (j:Int)=_;unfold b8C;simp only[U32]at ha;by_cases hj:j<sz
  ·
   have e0:w.i64 a=a:=wI (by omega) (by omega);have e1:w.i64 (8*(j:Int))=8*(j:Int):=wI (by omega) (by omega);have e2:w.i64 (a+(j:Int))=a+(j:Int):=wI (by omega) (by omega);have e3:w.u64 (8*(j:Int))=8*(j:Int):=by simp only[w.u64,IntKind.wrap_u64]; omega
   rw[dt (show (j:Int)<(sz:Int) by omega),ai,e0,e2,cd (by omega) (by omega),aH,e1,e3,df (show ¬(8*(j:Int)<0) by omega),iy,wS (show j≤100000000 by omega)];exact ih (j+1) (by omega) (by omega)
  ·
   have:j=sz:=by omega
   subst this;rw[df (by omega),ah]
theorem d8t {op:Int} (h:26≤op∧op≤30):aZ op=1∨aZ op=2∨aZ op=4:=by
 have:op=26∨op=27∨op=28∨op=29∨op=30:=by omega
 rcases this with rfl | rfl | rfl | rfl | rfl<;>decide
theorem d2q {size a n:Int} (hc:eN size a n=0):a+size≤n:=by
 unfold eN at hc;split at hc
 ·omega
 ·
  split at hc
  ·omega
  ·rename_i h; omega
theorem e7H (m:List Int) (op:Int) {a:Int} (ha:U32 a) (hm:m.length≤100000) (hN:10<N):a9Z N m op a=some (0,gW.dv (bW m op a) []):=by
 unfold a9Z b4O bW;rw[b5j,au,ag,aj];by_cases h1:op≥26
 ·
  rw[dt h1,ai,au,ag,aj];by_cases h2:op≤30
  ·
   rw[dt h2,mR,ah,if_pos ⟨h1,h2⟩];have hs:=d8t ⟨h1,h2⟩;rw[a9V hs ha (by simp only[len]; omega),au,ag,aj];by_cases hc:eN (aZ op) a (len m)=0
   ·
    rw[if_pos hc,hc,show ((0:Int) != 0)=false from rfl,ah];have hle:=d2q hc;have e:aZ op=(((aZ op).toNat:Nat):Int):=by omega
    have hv:=e0S (N:=N) m op a (aZ op).toNat (by omega) ha (by simp only[len]at hle; omega) hm N 0 (by omega) (by omega);rw[← e]at hv;rw[show a2H N N m op a 0 (aZ op) 0=_ from hv,dG,ag,ag,aj,d8a,au,ag,aj]
   ·rw[if_neg hc,show (eN (aZ op) a (len m) != 0)=true by simp[hc],ai]
  ·rw[df h2,mn,ai,if_neg (by omega)]
 ·rw[df h1,ah,au,ag,aj,mn,ai,if_neg (by omega)]
theorem h8X (op:Int):ae op=4↔26≤op∧op≤30:=by
 unfold ae; repeat' split
 all_goals omega
theorem e4G (m:List Int) (op:Int) {a:Int} (ha:U32 a) (hm:m.length≤100000) (hN:10<N):d3q N m op a=some (0,gW.dv (bW m op a) []):=by
 unfold d3q bW;rw[b3L,au,ag,aj,jg,au,ag,aj];by_cases h1:26≤op∧op≤30
 ·
  rw[if_pos h1,(h8X op).2 h1,show ((4:Int) != 4)=false from rfl,ah];have hs:=d8t h1;rw[show kH N (aZ op) a (len m)=_ from a9V (N:=N) hs ha (by simp only[len]; omega),au,ag,aj];by_cases hc:eN (aZ op) a (len m)=0
  ·
   rw[if_pos hc,hc,show ((0:Int) != 0)=false from rfl,ah];have hle:=d2q hc;have e:aZ op=(((aZ op).toNat:Nat):Int):=by omega
   have hv:=e0o (N:=N) m op a (aZ op).toNat (by omega) ha (by simp only[len]at hle; omega) hm N 0 (by omega) (by omega);rw[← e]at hv;rw[show b2C N N m op a (aZ op) 0 0=_ from hv,dG,ag,ag,aj,d0G,au,ag,aj]
  ·rw[if_neg hc,show (eN (aZ op) a (len m) != 0)=true by simp[hc],ai]
 ·rw[if_neg h1,show (ae op != 4)=true by simp[h8X]; omega,ai]
theorem d7k (q:bv) (m:List Int) (sz:Nat) (hq:q.2.1=(sz:Int)) (hs:sz≤4) (ha:0≤q.1) (hn:q.1+sz≤len m) (hm:len m≤65536):∀n j:Nat,j≤sz→sz-j<n →
  a6a N n (wrB q.1 q.2.2.1 m j) (j:Int) q=some (1,(gD (.sl tU)).dv (wrB q.1 q.2.2.1 m sz) []):=by
 intro n;induction n with
 | zero=>intro j h1 h2; omega
 | succ n ih =>
  intro j h1 h2;show b4L N (a6a N n) (wrB q.1 q.2.2.1 m j) (j:Int) q=_;unfold b4L;simp only[len]at hn hm;by_cases hj:j<sz
  ·
   have e1:w.i64 (8*(j:Int))=8*(j:Int):=wI (by omega) (by omega);have e3:w.u64 (8*(j:Int))=8*(j:Int):=by simp only[w.u64,IntKind.wrap_u64]; omega
   have e2:w.i64 (q.1+(j:Int))=q.1+(j:Int):=wI (by omega) (by omega);rw[dt (show (j:Int)<q.2.1 by omega),ai,e1,e3,df (show ¬(8*(j:Int)<0) by omega),iy,e2,cd (by omega) (by rw[c3A]; omega),aH,wS (show j≤100000000 by omega)];exact ih (j+1) (by omega) (by omega)
  ·
   have:j=sz:=by omega
   subst this;rw[df (by omega),ah]
theorem e3G (q:bv) (m:List Int) (h:LieW q (len m)) (hm:len m≤65536) (hN:10<N):c1p N m q=some (0,(gD (.sl tU)).dv (wrOf m q) []):=by
 obtain⟨h1,h2,h3,h4⟩:=h;have hu:w.u32 q.1=q.1:=by simp only[w.u32,IntKind.wrap_u32]; omega
 have hc:kH N q.2.1 (w.u32 q.1) (len m)=some (0,gI.dv 0 []):=by
  rw[hu,show kH N q.2.1 q.1 (len m)=_ from a9V (N:=N) h1 (by unfold U32; omega) (by simp only[len]at hm ⊢; omega)];unfold eN;rw[if_neg (by omega),if_neg (by omega)]
 have hl:a6a N N m 0 q=some (1,(gD (.sl tU)).dv (wrOf m q) []):=d7k (N:=N) q m q.2.1.toNat (by omega) (by omega) h2 (by omega) hm N 0 (by omega) (by omega);unfold c1p;simp only[mf,hc,hl,au,ag,aj,dG];rw[df (show ¬(q.1<0) by omega),df (show ¬(q.1>4294967295) by omega),rmT (by simp only[len]at hm; simp; omega)];rcases h1 with h | h | h<;>rw[h]<;>rfl
def ldS (q:am) (x:aa) (v:Int):aa :=
 if q.2.2.2.2.2.2.1<0 then {x with B9:=gy x.B9 q.2.2.2.2.2.2.2.1 v} else
 if q.2.2.2.2.2.2.1≤15∧1≤q.2.2.2.2.2.2.1 then {x with A:={x.A with B1:=(List.set x.A.B1 q.2.2.2.2.2.2.1.toNat v),A8:=(List.set x.A.A8 q.2.2.2.2.2.2.1.toNat (w.i64 (x.A1+1)))}} else x
def cI (q:am) (x:aa):aa :=
 if q.1=true then {x with Mem:=wrOf x.Mem (wrQ q),B0:=x.B0.drop 1,A2:=x.A2++[wrQ q]} else
 ldS q x (if 0≤q.2.2.1∧q.2.2.1≤4294967295 then bW x.Mem q.2.1 (w.u32 q.2.2.1) else 0)
theorem e5w (q:am) (x:aa) (hq:q.1 = false) (hm:x.Mem.length≤100000) (hl:x.B9.length≤1000) (hN:1001 < N):b0b N q x = some (0,aA.dv (cI q x) []):=by
  have key:∀ v:Int,
      (bi (decide (q.2.2.2.2.2.2.1 < 0)) (
        on1 (kj N x.B9 q.2.2.2.2.2.2.2.1 v)<|gg [pD (.sl bB),pB]<|fun (x3:List aO) (x4:Bool) =>
        some (0,aA.dv ({ x with B9:=x3 }:aa) [])) <|
       bi (decide (q.2.2.2.2.2.2.1≥1)) (
        bi (decide (q.2.2.2.2.2.2.1≤15)) (
         gd (idx q.2.2.2.2.2.2.1 16) <|
         gd (idx q.2.2.2.2.2.2.1 16) <|
         some (0,aA.dv ({ x with A:={ x.A with B1:=(List.set x.A.B1 q.2.2.2.2.2.2.1.toNat v),A8:=(List.set x.A.A8 q.2.2.2.2.2.2.1.toNat (w.i64 (x.A1+1))) } }:aa) [])) <|
        some (0,aA.dv x [])) <|
       some (0,aA.dv x [])) = some (0,aA.dv (ldS q x v) []):=by
    intro v;unfold ldS;by_cases h1:q.2.2.2.2.2.2.1 < 0
    · rw [dt h1,ai,d7f _ _ _ hl hN,au,ag,ag,aj,if_pos h1]
    · rw [df h1,ah,if_neg h1]
      by_cases h2:q.2.2.2.2.2.2.1≥1
      · rw [dt h2,ai]
        by_cases h3:q.2.2.2.2.2.2.1≤15
        · rw [dt h3,ai,cd (by omega) (by omega),aH,aH,if_pos ⟨h3,h2⟩]
        · rw [df h3,ah,if_neg (by omega)]
      · rw [df h2,ah,if_neg (by omega)]
  unfold b0b cI;rw [if_neg (by simp [hq])];by_cases h1:q.2.2.1≥0
  · rw [dt h1,ai]
    by_cases h2:q.2.2.1≤4294967295
    · rw [dt h2,ai,e7H (N:=N) x.Mem q.2.1 (dI q.2.2.1) hm (by omega),au,ag,aj,if_pos ⟨h1,h2⟩]
      exact key _
    · rw [df h2,ah,if_neg (by omega)]
      exact key 0
  · rw [df h1,ah,if_neg (by omega)]
    exact key 0
variable {N:Nat}
def bO:List am→aa→aa
 | [],x=>x
 | q::r,x=>bO r (if (bp q).isNone=true then cI (cH q) x else x)
theorem e4b (q:am) (x:aa) (v:Int):ldS q x v={x with A:=(ldS q x v).A,B9:=(ldS q x v).B9}:=by
 unfold ldS; repeat' split
 all_goals rfl
theorem e7f (q:am) (x:aa) (v:Int):(ldS q x v).B9.length=x.B9.length:=by
 unfold ldS;split
 ·exact c2A _ _ _
 ·split<;>rfl
theorem d8L (q:am) (x:aa):(cI q x).Mem.length=x.Mem.length∧(cI q x).B9.length=x.B9.length∧(cI q x).A2.length≤x.A2.length+1∧(cI q x).B0.length≤x.B0.length:=by
 unfold cI;split
 ·exact⟨c3A _ _ _ _,rfl,by simp,by simp⟩
 ·
  refine⟨?_,e7f _ _ _,?_,?_⟩
  ·rw[e4b]
  ·rw[e4b]; simp
  ·rw[e4b]; simp
theorem e3q (T:List am) (hT:T.length≤1000) (n0:Int) (hL:Lefts T n0) (hn0:n0≤65536) (hN:1001<N):∀(n i:Nat) (acc:List am) (x:aa),i≤T.length→T.length-i<n→len x.Mem=n0→x.B9.length≤1000→x.A2.length+(T.length-i)≤500000→acc.length≤i →
  a2j N n acc T (len T) (i:Int) x=some (1,(gD (.sl cC)).dv (acc++(T.drop i).filterMap bp) (aA.dv (bO (T.drop i) x) [])):=by
 intro n;induction n with
 | zero=>intro i acc x h1 h2; omega
 | succ n ih =>
  intro i acc x h1 h2 hm hl hw ha;show a6p N (a2j N n) acc T (len T) (i:Int) x=_;unfold a6p;by_cases hi:i<T.length
  ·
   have hq:=ck am.z hi;have hdrop:T.drop i=T.getD i am.z::T.drop (i+1):=by
    rw[mS hi,mA,mC hi]; rfl
   rw[bV hi,ai,bI hi,aH,mF,hdrop];generalize T.getD i am.z=q at *;rw[bO];have keep:∀q':am,bp q=some q'→(gd (rm acc [q'] 64)<|a2j N n (acc++[q']) T (len T) (w.i64 ((i:Int)+1)) x)=some (1,(gD (.sl cC)).dv (acc++(q::T.drop (i+1)).filterMap bp) (aA.dv (bO (T.drop (i+1)) (if (bp q).isNone=true then cI (cH q) x else x)) [])):=by
    intro q' hk;rw[rmT (by simp; omega),aH,wS (show i≤100000000 by omega)];have:=ih (i+1) (acc++[q']) x (by omega) (by omega) hm hl (by omega) (by simp; omega);rw[mQ]at this;rw[oc hk,hk];exact this
   by_cases h0:q.2.2.2.2.2.1>0
   ·
    rw[dt h0,ai];by_cases h3:w.i64 (q.2.2.2.2.2.1-1)=0
    ·
     rw[bt h3,ai];have hkq:bp q=none:=by unfold bp; rw[if_pos h0,if_pos h3]
     rw[oa hkq,hkq,if_pos (show (none:Option am).isNone=true from rfl)];obtain⟨b1,b2,b3,b4⟩:=d8L (cH q) x;have hh:=ih (i+1) acc (cI (cH q) x) (by omega) (by omega) (by simp only[len,b1]at hm ⊢; exact hm) (by omega) (by omega) (by omega);cases hst:q.1 with
     | true =>
      rw[ai];have hlie:=hL q hq hst;have hs:=d6r (N:=N) (cH q) x (by rw[hm]; exact hlie) (by omega) (by omega) (by omega);have e:({x with Mem:=wrOf x.Mem (wrQ (cH q)),B0:=x.B0.drop 1,A2:=x.A2++[wrQ (cH q)]}:aa)=cI (cH q) x:=by
       unfold cI; rw[if_pos (show (cH q).1=true from hst)]
      have e2:(true,(q.2.1,(q.2.2.1,(q.2.2.2.1,(q.2.2.2.2.1,((w.i64 (q.2.2.2.2.2.1-1)),q.2.2.2.2.2.2))))))=cH q:=by unfold cH; rw[hst]
      rw[e2,hs,e,au,ag,aj,wS (show i≤100000000 by omega)];exact hh
     | false =>
      have e2:(false,(q.2.1,(q.2.2.1,(q.2.2.2.1,(q.2.2.2.2.1,((w.i64 (q.2.2.2.2.2.1-1)),q.2.2.2.2.2.2))))))=cH q:=by unfold cH; rw[hst]
      rw[ah,e2,e5w (N:=N) (cH q) x hst (by simp only[len]at hm; omega) hl hN,au,ag,aj,wS (show i≤100000000 by omega)];exact hh
    ·
     rw[bf h3,ah];exact keep (cH q) (by unfold bp; rw[if_pos h0,if_neg h3])
   ·
    rw[df h0,ah];exact keep q (by unfold bp; rw[if_neg h0])
  ·
   have:i=T.length:=by omega
   subst this;rw[ce (by omega),ah,mi];simp[bO]
variable {N:Nat}
def nthM (l:List Int) (i m:Int):Int:=if l.length=0∨i<0∨m<1 then 0 else Int.tmod (cG .i64 (l.getD (Int.toNat (Int.tmod i (len l))) 0) 1073741823) m
theorem e8K (l:List Int) (i m:Int):b0h N l i m=some (0,gI.dv (nthM l i m) []):=by
 unfold b0h nthM;by_cases h0:l.length=0
 ·rw[len0,dt h0,ai,if_pos (.inl h0)]
 rw[len0,df h0,ah];by_cases h1:i<0
 ·rw[dt h1,ai,if_pos (.inr (.inl h1))]
 rw[df h1,ah];by_cases h2:m<1
 ·rw[dt h2,ai,if_pos (.inr (.inr h2))]
 have hl:0<len l:=by simp only[len]; omega
 have ht:Int.tmod i (len l)=i % len l:=c0B (by omega);have hr:=ol i (show len l≠0 by omega);have hr2:=oW i hl;rw[df h2,ah,df (show ¬(len l=0) by omega),iy,cd (by rw[ht]; exact hr) (by rw[ht]; simp only[len]at hr2 ⊢; omega),aH,df (show ¬(m=0) by omega),iy,if_neg (by omega)]
theorem d8o (l:List Int) (i:Int) {m:Int} (hm:1≤m):0≤nthM l i m∧nthM l i m<m:=by
 unfold nthM;split
 ·omega
 ·
  have hb:=d0F (l.getD (Int.toNat (Int.tmod i (len l))) 0);generalize cG .i64 (l.getD (Int.toNat (Int.tmod i (len l))) 0) 1073741823=b at hb;rw[show Int.tmod b m=b % m from c0B hb.1];exact⟨ol _ (by omega),oW _ (by omega)⟩
def d7 (n b:Int):List am→Nat→List Int
 | [],_=>[]
 | q::r,i=>(if dr q.2.2.1 n=b∧q.2.2.2.2.2.1=0 then [(i:Int)] else [])++d7 n b r (i+1)
theorem d2M (n b:Int):∀(l:List am) (i:Nat),(d7 n b l i).length≤l.length∧∀r∈d7 n b l i,(i:Int)≤r∧r<i+l.length
 | [],i=>⟨by simp[d7],by simp[d7]⟩
 | q::l,i=>by
  obtain⟨h1,h2⟩:=d2M n b l (i+1);rw[d7];constructor
  ·
   rw[mD,mP];split<;>simp<;>omega
  ·
   intro r hr;rw[mP];rcases mM.1 hr with hr | hr
   ·
    split at hr
    ·simp only[mI]at hr; omega
    ·simp at hr
   ·
    have:=h2 r hr;omega
def h8J (lt:Int) (q:am):am:=(q.1,(q.2.1,(q.2.2.1,(q.2.2.2.1,(q.2.2.2.2.1,(lt,q.2.2.2.2.2.2))))))
def putL (x:aa) (r lt:Int):List am:=x.A0.set r.toNat (h8J lt (x.A0.getD r.toNat am.z))
def eO (c:ay) (t:bH) (b:Int) (x:aa):aa :=
 if x.A0.any (cN c.B2 b)=true then x else
 let wt:=d7 c.B2 b x.A0 0
 if wt.length=0 then x else
 if 1<wt.length then {x with A0:=putL x (wt.getD (nthM t.B5 x.B5 (len wt)).toNat 0) (w.i64 (1+nthM t.B6 x.B6 c.C4)),B6:=w.i64 (x.B6+1),B5:=w.i64 (x.B5+1)} else
 {x with A0:=putL x (wt.getD 0 0) (w.i64 (1+nthM t.B6 x.B6 c.C4)),B6:=w.i64 (x.B6+1)}
theorem d6L (x:aa) (c:ay) (t:bH) (b:Int) (hT:x.A0.length≤1000) (hl:∀q∈x.A0,LfOk q):∀(n i:Nat) (wt:List Int),i≤x.A0.length→x.A0.length-i<n→wt.length≤i →
  a1q N n b wt (len x.A0) (i:Int) x c t=if (x.A0.drop i).any (cN c.B2 b)=true then some (0,aA.dv x []) else some (1,(gD (.sl tI)).dv (wt++d7 c.B2 b (x.A0.drop i) i) (aA.dv x (cM.dv c (a1P.dv t [])))):=by
 intro n;induction n with
 | zero=>intro i wt h1 h2; omega
 | succ n ih =>
  intro i wt h1 h2 h3;show a2V N (a1q N n) b wt (len x.A0) (i:Int) x c t=_;unfold a2V;by_cases hi:i<x.A0.length
  ·
   have hq:=ck am.z hi;have hdrop:x.A0.drop i=x.A0.getD i am.z::x.A0.drop (i+1):=by
    rw[mS hi,mA,mC hi]; rfl
   rw[bV hi,ai,bI hi,aH,mF,hdrop,ny,d7];generalize x.A0.getD i am.z=q at *;have hlq:=(hl q hq).1;rw[d7S,au,ag,aj,wS (show i≤100000000 by omega)];by_cases hb:dr q.2.2.1 c.B2=b
   ·
    rw[show (dr q.2.2.1 c.B2 != b)=false by simp[hb],ah];by_cases hl:q.2.2.2.2.2.1>0
    ·rw[dt hl,ai,if_pos (by unfold cN; rw[decide_eq_true hb,decide_eq_true hl]; rfl)]
    ·
     have hwq:cN c.B2 b q=false:=by unfold cN; rw[decide_eq_false hl,qA]
     rw[df hl,ah,bt (show q.2.2.2.2.2.1=0 by omega),ai,rmT (by simp; omega),aH,hwq,nH,if_pos (show dr q.2.2.1 c.B2=b∧q.2.2.2.2.2.1=0 from ⟨hb,by omega⟩),← mQ];exact ih (i+1) _ (by omega) (by omega) (by simp; omega)
   ·
    have hwq:cN c.B2 b q=false:=by unfold cN; rw[decide_eq_false hb,mZ]
    rw[show (dr q.2.2.1 c.B2 != b)=true by simp[hb],ai,hwq,nH,if_neg (show ¬(dr q.2.2.1 c.B2=b∧q.2.2.2.2.2.1=0) from λh=>hb h.1),mf];exact ih (i+1) wt (by omega) (by omega) (by omega)
  ·
   have:i=x.A0.length:=by omega
   subst this;rw[ce (by omega),ah,mi];simp[d7]
theorem e5Q (x:aa) (c:ay) (t:bH) (b:Int) (hT:x.A0.length≤1000) (hl:∀q∈x.A0,LfOk q) (hN:1001<N):a7K N c t b x=some (0,aA.dv (eO c t b x) []):=by
 unfold a7K eO;have h:=d6L (N:=N) x c t b hT hl N 0 [] (by omega) (by omega) (by simp);rw[mX,mf]at h;rw[show a1q N N b ([]:List Int) (len x.A0) 0 x c t=_ from h];by_cases hw:x.A0.any (cN c.B2 b)=true
 ·rw[if_pos hw,if_pos hw,dF,ag,aj]
 rw[if_neg hw,if_neg hw,dH _ _ (by decide)];simp only[ag,aj];obtain⟨w1,w2⟩:=d2M c.B2 b x.A0 0;generalize d7 c.B2 b x.A0 0=wt at *;by_cases h0:wt.length=0
 ·rw[len0,dt h0,ai,if_pos h0]
 rw[len0,df h0,ah,if_neg h0];unfold b7n b8G;have hidx:∀i:Nat,i<wt.length→_:=λi hi=>w2 _ (ck 0 hi)
 simp only[e8K,au,ag,aj];by_cases h1:1<wt.length
 ·
  obtain⟨r0,r1⟩:=d8o t.B5 x.B5 (m:=len wt) (by simp only[len]; omega);have hb:=hidx (nthM t.B5 x.B5 (len wt)).toNat (by simp only[len]at r1 ⊢; omega);rw[dt (show len wt>1 by simp only[len]; omega),ai,if_pos h1,cd r0 (by simp only[len]at r1 ⊢; omega),aH,cd (by omega) (by omega),aH];rfl
 ·
  have hb:=hidx 0 (by omega);rw[df (show ¬len wt>1 by simp only[len]; omega),ah,if_neg h1,cd (by omega) (by omega),aH,cd (by omega) (by omega),aH];rfl
variable {N:Nat}
theorem d5h {c:ay} {t:bH} {b:Int} {x:aa} (hc:1≤c.C4∧c.C4≤1000) (hl:∀q∈x.A0,LfOk q):(∀q∈(eO c t b x).A0,LfOk q)∧(eO c t b x).A0.length=x.A0.length:=by
 have hr:0≤w.i64 (1+nthM t.B6 x.B6 c.C4)∧w.i64 (1+nthM t.B6 x.B6 c.C4)≤1000:=by
  have:=d8o t.B6 x.B6 hc.1;rw[show w.i64 (1+nthM t.B6 x.B6 c.C4)=1+nthM t.B6 x.B6 c.C4 from wI (by omega) (by omega)];omega
 have key:∀r:Int,∀q∈putL x r (w.i64 (1+nthM t.B6 x.B6 c.C4)),LfOk q:=by
  intro r q hq;unfold putL at hq;rcases nI hq with h1 | h1
  ·exact hl q h1
  ·rw[h1]; exact hr
 unfold eO;simp only[]
 repeat' split
 ·exact⟨hl,rfl⟩
 ·exact⟨hl,rfl⟩
 ·exact⟨key _,mp⟩
 ·exact⟨key _,mp⟩
def gO (c:ay) (t:bH):Nat→Nat→aa→aa
 | 0,_,x=>x
 | n+1,i,x=>gO c t n (i+1) (eO c t (i:Int) x)
theorem e0T (c:ay) (t:bH) (m:Nat) (hc:1≤c.C4∧c.C4≤1000) (hN:1001<N) (hm:m≤16):∀(n i:Nat) (x:aa),i≤m→m-i<n→x.A0.length≤1000→(∀q∈x.A0,LfOk q) →
  a2N N n (m:Int) (i:Int) x c t=some (1,aA.dv (gO c t (m-i) i x) []):=by
 intro n;induction n with
 | zero=>intro i x h1 h2; omega
 | succ n ih =>
  intro i x h1 h2 hT hl;show a5a N (a2N N n) (m:Int) (i:Int) x c t=_;unfold a5a;by_cases hi:i<m
  ·
   obtain⟨g1,g2⟩:=d5h (t:=t) (b:=(i:Int)) hc hl;rw[dt (show (i:Int)<(m:Int) by omega),ai,e5Q (N:=N) x c t (i:Int) hT hl hN,au,ag,aj,wS (show i≤100000000 by omega),show m-i=(m-(i+1))+1 by omega,gO];exact ih (i+1) _ (by omega) (by omega) (by omega) g1
  ·
   have:i=m:=by omega
   subst this;rw[df (by omega),ah,oT];rfl
def aX (c:ay) (t:bH) (x:aa):aa:=gO c t c.B2.toNat 0 {bO x.A0 x with A0:=x.A0.filterMap bp}
theorem d9C {l:List am} (h:∀q∈l,LfOk q):∀q∈l.filterMap bp,LfOk q:=by
 intro q hq;obtain⟨a,ha,hk⟩:=pv.1 hq;exact d4x hk (h a ha)
theorem e3w (c:ay) (t:bH) (x:aa) (hc:1≤c.B2∧c.B2≤16) (hla:1≤c.C4∧c.C4≤1000) (hT:x.A0.length≤1000) (hL:Lefts x.A0 (len x.Mem)) (hf:∀q∈x.A0,LfOk q) (hm:len x.Mem≤65536) (hl:x.B9.length≤1000) (hw:x.A2.length≤200000) (hN:1001<N) :
  a9Y N c t x=some (0,aA.dv (aX c t x) []):=by
 unfold a9Y b7x aX;obtain⟨m,hcm⟩:∃m:Nat,c.B2=(m:Int):=⟨c.B2.toNat,by omega⟩
 have h1:=e3q (N:=N) x.A0 hT (len x.Mem) hL hm hN N 0 [] x (by omega) (by omega) rfl hl (by omega) (by simp);rw[mX,mf]at h1;rw[df (show ¬(c.B2<1) by omega),ah,df (show ¬(c.B2>16) by omega),ah,df (show ¬(c.C4<1) by omega),ah,df (show ¬(c.C4>1000) by omega),ah,show a2j N N ([]:List am) x.A0 (len x.A0) 0 x=_ from h1,dG,ag,ag,aj,au,ag,aj];have h2:=e0T (N:=N) c t m hla hN (by omega) N 0 {bO x.A0 x with A0:=x.A0.filterMap bp} (by omega) (by omega) (nO (List.length_filterMap_le _ _) hT) (d9C hf);rw[hcm,show a2N N N (m:Int) 0 {bO x.A0 x with A0:=x.A0.filterMap bp} c t=_ from h2,dG,ag,aj,mF,oD]
end Go.Proofs.Zz
