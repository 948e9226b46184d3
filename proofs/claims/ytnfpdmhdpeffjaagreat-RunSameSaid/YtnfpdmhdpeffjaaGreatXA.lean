import Derived.Test.YtnfpdmhdpeffjaaGreatNA
import Derived.Test.YtnfpdmhdpeffjaaGreatMD
set_option linter.unusedSimpArgs false
set_option linter.unusedVariables false
set_option maxRecDepth 100000
namespace Go.Proofs.Zz
open Go
variable {N:Nat}
def aQ (p:aw) (n:Nat):af:=p.Code.getD n af.z
def brM (i:af):Bool:=decide (ae i.1=6∨ae i.1=7)
def tgtM (p:aw) (n:Int):Int :=
 if brM (aQ p n.toNat)=true∧-8192≤(aQ p n.toNat).2.2.2.2.1∧(aQ p n.toNat).2.2.2.2.1≤8191∧0≤n+(aQ p n.toNat).2.2.2.2.1∧n+(aQ p n.toNat).2.2.2.2.1<len p.Code then n+(aQ p n.toNat).2.2.2.2.1 else -1
theorem g4R {n m L:Int} (h0:0≤n) (h1:n≤100000) :
  bi (decide (m<(-8192:Int))) (some (0,gI.dv (-1:Int) [])) (bi (decide (m>8191)) (some (0,gI.dv (-1:Int) [])) (bi (decide (w.i64 (n+m)<0)) (some (0,gI.dv (-1:Int) [])) (bi (decide (w.i64 (n+m)≥L)) (some (0,gI.dv (-1:Int) [])) (some (0,gI.dv (w.i64 (n+m)) [])))))=(some (0,gI.dv (if -8192≤m∧m≤8191∧0≤n+m∧n+m<L then n+m else -1) []):Option Rs):=by
 by_cases a1:m < -8192
 ·rw[dt a1,ai,if_neg (by omega)]
 rw[df a1,ah];by_cases a2:m>8191
 ·rw[dt a2,ai,if_neg (by omega)]
 rw[df a2,ah,wI (x:=n+m) (by omega) (by omega)];by_cases a3:n+m<0
 ·rw[dt a3,ai,if_neg (by omega)]
 rw[df a3,ah];by_cases a4:n+m≥L
 ·rw[dt a4,ai,if_neg (by omega)]
 rw[df a4,ah,if_pos (by omega)]
theorem g1a (p:aw) (n:Int) (h0:0≤n) (h1:n<(p.Code.length:Int)) (hl:p.Code.length≤100000):f9 N p n=some (0,gI.dv (tgtM p n) []):=by
 unfold f9;rw[cd h0 h1,aH,jg,au,ag,aj];have hc:=g4R (n:=n) (m:=(aQ p n.toNat).2.2.2.2.1) (L:=len p.Code) h0 (by omega);unfold tgtM brM;unfold aQ at *;generalize p.Code.getD n.toNat af.z=i at *;by_cases f6:ae i.1=6
 ·
  rw[show (ae i.1 != 6)=false by rw[f6]; rfl,ah,hc];simp only[f6,true_or,decide_true,true_and]
 rw[show (ae i.1 != 6)=true from bne_iff_ne.2 f6,ai];by_cases f7:ae i.1=7
 ·
  rw[show (ae i.1 != 7)=false by rw[f7]; rfl,ah,hc];simp only[f7,or_true,decide_true,true_and]
 ·
  rw[show (ae i.1 != 7)=true from bne_iff_ne.2 f7,ai,if_neg];intro h;have:=of_decide_eq_true h.1;omega
def fh (p:aw) (j:Nat):Bool:=!(brM (aQ p j)&&decide (tgtM p (j:Int)<0))
theorem g0K (p:aw) (hl:p.Code.length≤100000):∀(n i:Nat),i≤p.Code.length→p.Code.length-i<n →
  a5h N n (i:Int) p=if (List.range' i (p.Code.length-i)).all (fh p)=true then some (1,[]) else some (0,gI.dv 4 []):=by
 intro n;induction n with
 | zero=>intro i h1 h2; omega
 | succ n ih =>
  intro i h1 h2;show a6H N (a5h N n) (i:Int) p=_;unfold a6H;by_cases hi:i<p.Code.length
  ·
   have hrec:=ih (i+1) (by omega) (by omega);rw[show p.Code.length-i=(p.Code.length-(i+1))+1 by omega,nR,mt,bV hi,ai,bI hi,aH,jg,au,ag,aj];simp only[g1a p (i:Int) (by omega) (by omega) hl,au,ag,aj,wS (show i≤100000000 by omega),mF];rw[hrec];unfold fh brM aQ;generalize p.Code.getD i af.z=k;generalize (List.range' (i+1) (p.Code.length-(i+1))).all _=r;by_cases f6:ae k.1=6
   ·
    rw[bt f6,ai];by_cases ht:tgtM p (i:Int)<0
    ·rw[dt ht,ai]; simp[f6]
    ·rw[df ht,ah]; simp[f6]
   rw[bf f6,ah];by_cases f7:ae k.1=7
   ·
    rw[bt f7,ai];by_cases ht:tgtM p (i:Int)<0
    ·rw[dt ht,ai]; simp[f7]
    ·rw[df ht,ah]; simp[f7]
   ·rw[bf f7,ah]; simp[f6,f7]
  ·
   have:i=p.Code.length:=by omega
   subst this;rw[ce (by omega),ah,oT];rfl
def kL (p:aw):Bool:=(List.range' 0 p.Code.length).all (fh p)
theorem g4c (p:aw) (hl:p.Code.length≤100000) (hN:p.Code.length<N):b7X N p=some (0,gI.dv (if kL p=true then 0 else 4) []):=by
 unfold b7X;have h:=g0K (N:=N) p hl N 0 (by omega) (by omega);rw[show a5h N N 0 p=_ from h];unfold kL;rw[oD];cases (List.range' 0 p.Code.length).all (fh p) with
 | true=>rw[if_pos rfl,dH _ _ (by decide),aj,if_pos rfl]
 | false=>rw[if_neg (by simp),dF,ag,aj,if_neg (by simp)]
def cg (p:aw):Bool:=decide (1≤p.Code.length∧p.Code.length≤2000∧0≤p.B8∧p.B8≤65536∧len p.D1≤p.B8)&&(p.Code.all bC&&kL p)
theorem g2g (p:aw) (hl:p.Code.length≤100000):∀(n i:Nat),i≤p.Code.length→p.Code.length-i<n →
  a1Z N n (i:Int) p=if (p.Code.drop i).all bC=true then some (1,iK.dv p []) else some (0,gB.dv false []):=by
 intro n;induction n with
 | zero=>intro i h1 h2; omega
 | succ n ih =>
  intro i h1 h2;show a2P N (a1Z N n) (i:Int) p=_;unfold a2P;by_cases hi:i<p.Code.length
  ·
   have hrec:=ih (i+1) (by omega) (by omega);have hdrop:p.Code.drop i=p.Code.getD i af.z::p.Code.drop (i+1):=by
    rw[mS hi,mA,mC hi]; rfl
   rw[bV hi,ai,bI hi,aH,mF,a5D,au,ag,aj,wS (show i≤100000000 by omega),hrec,hdrop,mt];cases bC (p.Code.getD i af.z) with
   | false=>rw[mn,ai,mZ,if_neg (by simp)]
   | true=>rw[mR,ah,mO]
  ·
   have:i=p.Code.length:=by omega
   subst this;rw[ce (by omega),ah,mi];rfl
theorem f9c (p:aw) (hN:2000<N):kS N p=some (0,gB.dv (cg p) []):=by
 unfold kS cg;by_cases a1:len p.Code<1
 ·rw[dt a1,ai,df (by simp only[len]at a1; omega),mZ]
 rw[df a1,ah];by_cases a2:len p.Code>2000
 ·rw[dt a2,ai,df (by simp only[len]at a2; omega),mZ]
 rw[df a2,ah];by_cases a3:p.B8<0
 ·rw[dt a3,ai,df (by omega),mZ]
 rw[df a3,ah];by_cases a4:p.B8>65536
 ·rw[dt a4,ai,df (by omega),mZ]
 rw[df a4,ah];by_cases a5:len p.D1>p.B8
 ·rw[dt a5,ai,df (by omega),mZ]
 rw[df a5,ah,dt (show 1≤p.Code.length∧p.Code.length≤2000∧0≤p.B8∧p.B8≤65536∧len p.D1≤p.B8 by simp only[len]at a1 a2 a5 ⊢; omega),mO];have hl:p.Code.length≤2000:=by simp only[len]at a2; omega
 have h:=g2g (N:=N) p (by omega) N 0 (by omega) (by omega);rw[mX]at h;rw[show a1Z N N 0 p=_ from h];cases p.Code.all bC with
 | false=>rw[if_neg (by simp),dF,ag,aj,mZ]
 | true =>
  rw[if_pos rfl,dH _ _ (by decide),ag,aj,g4c p (by omega) (by omega),au,ag,aj,mO];cases kL p<;>rfl
theorem dW {p:aw} (h:cg p=true):iM p:=by
 unfold cg at h;simp only[mE,decide_eq_true_eq]at h;exact⟨h.1.1,h.1.2.1,λj hj=>mz.1 h.2.1 _ (ck _ hj)⟩
def onEM (o:List Int) (n:Int):Bool:=decide (n>0)&&(o.getD n.toNat 0==2)
def ownM (o:List Int) (n:Int):Int:=if n<1 then 0 else if n>15 then 0 else o.getD n.toNat 0
def bY (o l:List Int):Bool:=l.any (onEM o)
theorem g4E (o:List Int) (n:Int) (h:n≤15):b7k N o n=some (0,gB.dv (onEM o n) []):=by
 unfold b7k onEM;by_cases h1:n>0
 ·rw[dt h1,ai,cd (by omega) (by omega),aH,mO]
 ·rw[df h1,ah,mZ]
theorem g3a (o l:List Int) (hl:l.length≤100) (hb:∀x∈l,x≤15):∀(n i:Nat),i≤l.length→l.length-i<n →
  a8c N n l (i:Int) o=if (l.drop i).any (onEM o)=true then some (0,gB.dv true []) else some (1,[]):=by
 intro n;induction n with
 | zero=>intro i h1 h2; omega
 | succ n ih =>
  intro i h1 h2;show b0R N (a8c N n) l (i:Int) o=_;unfold b0R;by_cases hi:i<l.length
  ·
   have hrec:=ih (i+1) (by omega) (by omega);have hdrop:l.drop i=l.getD i 0::l.drop (i+1):=by
    rw[mS hi,mA,mC hi]; rfl
   rw[bV hi,ai,bI hi,aH,mF,g4E o _ (hb _ (ck 0 hi)),au,ag,aj,wS (show i≤100000000 by omega),hrec,hdrop,ny];cases onEM o (l.getD i 0) with
   | true=>rw[ai,oE,if_pos rfl]
   | false=>rw[ah,nH]
  ·
   have:i=l.length:=by omega
   subst this;rw[ce (by omega),ah,mi];rfl
theorem g3k (o l:List Int) (hl:l.length≤2) (hb:∀x∈l,x≤15) (hN:2000<N):j8 N o l=some (0,gB.dv (bY o l) []):=by
 unfold j8 bY;have h:=g3a (N:=N) o l (by omega) hb N 0 (by omega) (by omega);rw[mX]at h;rw[show a8c N N l 0 o=_ from h];cases l.any (onEM o) with
 | true=>rw[if_pos rfl,dF,ag,aj]
 | false=>rw[if_neg (by simp),dH _ _ (by decide),aj]
theorem g2b (o:List Int) (n:Int):b0u N o n=some (0,gI.dv (ownM o n) []):=by
 unfold b0u ownM;by_cases h1:n<1
 ·rw[dt h1,ai,if_pos h1]
 rw[df h1,ah,if_neg h1];by_cases h2:n>15
 ·rw[dt h2,ai,if_pos h2]
 rw[df h2,ah,if_neg h2,cd (by omega) (by omega),aH]
def cX (i:af) (o:List Int):Int :=
 if ae i.1<1∨3<ae i.1 then 0 else if ownM o i.2.1=1∨(i.2.1=0∧bY o (aY i)=false) then 1 else 2
theorem g5v (i:af) (o:List Int) (hN:2000<N):b4r N i o=some (0,gI.dv (cX i o) []):=by
 unfold b4r cX;rw[jg,au,ag,aj];by_cases h1:ae i.1<1
 ·rw[dt h1,ai,if_pos (.inl h1)]
 rw[df h1,ah];by_cases h2:ae i.1>3
 ·rw[dt h2,ai,if_pos (.inr h2)]
 rw[df h2,ah,if_neg (by omega),a7Q,au,ag,aj,g2b,au,ag,aj];by_cases h3:ownM o i.2.1=1
 ·rw[bt h3,ai,if_pos (.inl h3)]
 rw[bf h3,ah];by_cases h4:i.2.1=0
 ·
  rw[bt h4,ai,g3k o _ (iD i) (λx hx=>(eF i x hx).2) hN,au,ag,aj];cases h5:bY o (aY i) with
  | true=>rw[mR,ah,if_neg (by rintro (h | h); exact h3 h; simp at h)]
  | false=>rw[mn,ai,if_pos (.inr ⟨h4,rfl⟩)]
 ·rw[bf h4,ah,if_neg (by rintro (h | h); exact h3 h; exact h4 h.1)]
def addS (o:List Int) (out:List Int) (r:Int):List Int:=if ownM o r=1∧r∉out then out++[r] else out
def cZ (i:af) (o:List Int):List Int:=(aY i).foldl (addS o) []
theorem g2D (l:List Int) (x:Int) (hl:l.length≤100000):∀(n i:Nat),i≤l.length→l.length-i<n →
  a7L N n l x (i:Int)=if x∈l.drop i then some (0,gI.dv ((i:Int)+(List.idxOf x (l.drop i):Nat)) []) else some (1,[]):=by
 intro n;induction n with
 | zero=>intro i h1 h2; omega
 | succ n ih =>
  intro i h1 h2;show b1b N (a7L N n) l x (i:Int)=_;unfold b1b;by_cases hi:i<l.length
  ·
   have hrec:=ih (i+1) (by omega) (by omega);have hdrop:l.drop i=l.getD i 0::l.drop (i+1):=by
    rw[mS hi,mA,mC hi]; rfl
   rw[bV hi,ai,bI hi,aH,mF,wS (show i≤100000000 by omega),hrec,hdrop];by_cases he:l.getD i 0=x
   ·
    rw[bt he,ai,if_pos (by rw[he]; simp),he,List.idxOf_cons_self];simp
   ·
    rw[bf he,ah,List.idxOf_cons,show (l.getD i 0==x)=false from bf he,cond_false];by_cases hm:x∈l.drop (i+1)
    ·
     rw[if_pos hm,if_pos (nG _ hm)];congr 3;omega
    ·rw[if_neg hm,if_neg (by rw[mV]; rintro (h | h); exact he h.symm; exact hm h)]
  ·
   have:i=l.length:=by omega
   subst this;rw[ce (by omega),ah,mi,if_neg (by simp)]
def fD (l:List Int) (x:Int):Int:=if x∈l then (List.idxOf x l:Nat) else -1
theorem g4s (l:List Int) (x:Int) (hl:l.length≤2000) (hN:2000<N):fM N l x=some (0,gI.dv (fD l x) []):=by
 unfold fM fD;have h:=g2D (N:=N) l x (by omega) N 0 (by omega) (by omega);rw[mX]at h;rw[show a7L N N l x 0=_ from h];by_cases hm:x∈l
 ·rw[if_pos hm,dF,ag,aj,if_pos hm]; simp
 ·rw[if_neg hm,dH _ _ (by decide),aj,if_neg hm]
theorem g3g (l o:List Int) (hl:l.length≤2) (hN:2000<N):∀(n i:Nat) (out:List Int),i≤l.length→l.length-i<n→out.length≤i →
  b4H N n l out (i:Int) o=some (1,(gD (.sl tI)).dv ((l.drop i).foldl (addS o) out) []):=by
 intro n;induction n with
 | zero=>intro i out h1 h2; omega
 | succ n ih =>
  intro i out h1 h2 h3;show b4a N (b4H N n) l out (i:Int) o=_;unfold b4a;by_cases hi:i<l.length
  ·
   have hrec:=λout h=>ih (i+1) out (by omega) (by omega) h
   have hdrop:l.drop i=l.getD i 0::l.drop (i+1):=by
    rw[mS hi,mA,mC hi]; rfl
   rw[bV hi,ai,bI hi,aH,mF,g2b,au,ag,aj,wS (show i≤100000000 by omega),hdrop,nh];unfold addS;by_cases ho:ownM o (l.getD i 0)=1
   ·
    rw[bt ho,ai,aH,g4s out _ (by omega) hN,au,ag,aj,aH];unfold fD;by_cases hm:l.getD i 0∈out
    ·
     rw[if_pos hm,df (by omega),ah,if_neg (by rintro⟨_,h⟩; exact h hm)];exact hrec _ (by omega)
    ·
     rw[if_neg hm,dt (by decide),ai,rmT (by simp; omega),aH,if_pos ⟨ho,hm⟩];exact hrec _ (by simp; omega)
   ·
    rw[bf ho,ah,if_neg (by rintro⟨h,_⟩; exact ho h)];exact hrec _ (by omega)
  ·
   have:i=l.length:=by omega
   subst this;rw[ce (by omega),ah,mi];rfl
theorem g5z (i:af) (o:List Int) (hN:2000<N):iF N i o=some (0,(gD (.sl tI)).dv (cZ i o) []):=by
 unfold iF cZ;have hl:=iD i;have h:=g3g (N:=N) (aY i) o hl hN N 0 [] (by omega) (by omega) (by simp);rw[mX]at h;rw[a7Q,au,ag,aj,show b4H N N (aY i) [] 0 o=_ from h,dG,ag,aj]
theorem g3T (o:List Int):∀(l out:List Int),(l.foldl (addS o) out).length≤out.length+l.length
 | [],out=>by simp
 | r::l,out=>by
  rw[nh];have h:=g3T o l (addS o out r);have:(addS o out r).length≤out.length+1:=by unfold addS; split<;>simp
  simp only[mP];omega
theorem f8h (i:af) (o:List Int):(cZ i o).length≤2:=by
 have:=g3T o (aY i) [];have:=iD i;unfold cZ;simp at *;omega
def bJ (kd:Int) (i:af) (pc off:Int):ak:=(kd,(i,(0,(pc,(off,())))))
def aM (kd r:Int) (pc off:Int):ak:=(kd,(af.z,(r,(pc,(off,())))))
def cR (i:af) (o:List Int) (pc off:Int):List ak × List ak :=
 if bC i=false then ([],[])
 else if 1≤ae i.1∧ae i.1≤3 then
  if cX i o=1 then ([bJ 1 i pc off],[])
  else ((cZ i o).map (λr=>aM 5 r pc off),(cZ i o).map (λr=>aM 6 r pc off)++[bJ 1 i pc off])
 else if ae i.1=4 then
  if onEM o i.2.1=true then ([bJ 3 i pc off],[bJ 7 i pc off]) else ([bJ 2 i pc off],[])
 else if ae i.1=5 then
  if ownM o i.2.2.2.1=1 then ([aM 5 i.2.2.2.1 pc off,bJ 4 i pc off],[aM 6 i.2.2.2.1 pc off,aM 8 i.2.2.2.1 pc off])
  else ([bJ 4 i pc off],[aM 8 i.2.2.2.1 pc off])
 else if ae i.1=6 then
  if bY o (aY i)=false then ([bJ 9 i pc off],[aM 10 0 pc off])
  else ((cZ i o).map (λr=>aM 5 r pc off)++[aM 10 0 pc off],(cZ i o).map (λr=>aM 6 r pc off)++[bJ 9 i pc off])
 else if ae i.1=7 then ([aM 11 0 pc off],[aM 11 0 pc off])
 else if ae i.1=8 then ([aM 12 0 pc off],[aM 12 0 pc off])
 else ([],[])
theorem g3F (kd:Int) (i:af) (m:aU) (h:m.L.length≤1000):eV N kd i m=some (0,fP.dv {m with L:=m.L++[bJ kd i m.Pc m.D9]} []):=by
 unfold eV;rw[rmT (by simp; omega),aH];rfl
theorem g4w (kd r:Int) (m:aU) (h:m.L.length≤1000):jH N kd r m=some (0,fP.dv {m with L:=m.L++[aM kd r m.Pc m.D9]} []):=by
 unfold jH;rw[rmT (by simp; omega),aH];rfl
theorem g3N (kd:Int) (m:aU) (h:m.L.length≤1000):jf N kd m=some (0,fP.dv {m with L:=m.L++[aM kd 0 m.Pc m.D9]} []):=by
 unfold jf;rw[rmT (by simp; omega),aH];rfl
theorem g2H (kd : Int) (l : List Int) (hl : l.length ≤ 100) : ∀ (n i : Nat) (m : aU), i ≤ l.length → l.length - i < n → m.L.length ≤ 500 + i →
    a5f N n kd l (i : Int) m = some (1, fP.dv { m with L := m.L ++ (l.drop i).map (fun r => aM kd r m.Pc m.D9) } []) := by
  intro n
  induction n with
  | zero => intro i m h1 h2; omega
  | succ n ih =>
    intro i m h1 h2 h3
    show a4S N (a5f N n) kd l (i : Int) m = _
    unfold a4S
    by_cases hi : i < l.length
    · have hdrop : l.drop i = l.getD i 0 :: l.drop (i + 1) := by
        rw [mS hi, mA, mC hi]; rfl
      have hrec := ih (i + 1) { m with L := m.L ++ [aM kd (l.getD i 0) m.Pc m.D9] } (by omega) (by omega) (by simp; omega)
      rw [bV hi, ai, bI hi, aH, mF, g4w _ _ _ (by omega), au, ag, aj, wS (show i ≤ 100000000 by omega), hrec, hdrop]
      simp
    · have : i = l.length := by omega
      subst this
      rw [ce (by omega), ah, mi]
      simp
theorem g5D (kd:Int) (l:List Int) (hl:l.length≤2) (m:aU) (h:m.L.length≤500) (hN:2000<N):iJ N kd l m=some (0,fP.dv {m with L:=m.L++l.map (λr=>aM kd r m.Pc m.D9)} []):=by
 unfold iJ;have h:=g2H (N:=N) kd l (by omega) N 0 m (by omega) (by omega) (by omega);rw[mX]at h;rw[show a5f N N kd l 0 m=_ from h,dG,ag,aj]
theorem g5F (i:af) (o:List Int) (pc off:Int) (hN:2000<N):c6D N i o pc off=some (0,(gD (.sl az)).dv (cR i o pc off).1 ((gD (.sl az)).dv (cR i o pc off).2 [])):=by
 unfold c6D cR;rw[a5D,au,ag,aj];cases hr:bC i with
 | false=>rfl
 | true =>
  obtain⟨⟨d0,d1⟩,⟨a0,a1⟩,b0,b1⟩:=iZ hr;have hs:=f8h i o;have hrl:=iD i;have hrb:=λx hx=>(eF i x hx).2
  rw[mR,ah,jg,au,ag,aj,if_neg (by simp)];simp only[g5v i o hN,g5z i o hN,g4E o _ d1,g2b,a7Q,g3k o _ hrl hrb hN,au,ag,aj];simp only[g3F _ _ (aU.mk pc off []) (by simp),g4w _ _ (aU.mk pc off []) (by simp),g3N _ (aU.mk pc off []) (by simp),g5D _ _ hs (aU.mk pc off []) (by simp) hN,au,ag,aj,mf];have g1:∀kd,eV N 1 i {aU.mk pc off [] with L:=(cZ i o).map (λr=>aM kd r pc off)}=some (0,fP.dv {aU.mk pc off [] with L:=(cZ i o).map (λr=>aM kd r pc off)++[bJ 1 i pc off]} []):=λkd=>g3F _ _ _ (by simp; omega)
  have g9:∀kd,eV N 9 i {aU.mk pc off [] with L:=(cZ i o).map (λr=>aM kd r pc off)}=some (0,fP.dv {aU.mk pc off [] with L:=(cZ i o).map (λr=>aM kd r pc off)++[bJ 9 i pc off]} []):=λkd=>g3F _ _ _ (by simp; omega)
  have g10:∀kd,jf N 10 {aU.mk pc off [] with L:=(cZ i o).map (λr=>aM kd r pc off)}=some (0,fP.dv {aU.mk pc off [] with L:=(cZ i o).map (λr=>aM kd r pc off)++[aM 10 0 pc off]} []):=λkd=>g3N _ _ (by simp; omega)
  have g4:eV N 4 i {aU.mk pc off [] with L:=[aM 5 i.2.2.2.1 pc off]}=some (0,fP.dv {aU.mk pc off [] with L:=[aM 5 i.2.2.2.1 pc off]++[bJ 4 i pc off]} []):=g3F _ _ _ (by simp);have g8:jH N 8 i.2.2.2.1 {aU.mk pc off [] with L:=[aM 6 i.2.2.2.1 pc off]}=some (0,fP.dv {aU.mk pc off [] with L:=[aM 6 i.2.2.2.1 pc off]++[aM 8 i.2.2.2.1 pc off]} []):=g4w _ _ _ (by simp);simp only[g1,g9,g10,g4,g8,au,ag,aj];by_cases f1:ae i.1=1
  ·
   rw[bt f1,ai,if_pos (by omega)];by_cases h:cX i o=1
   ·rw[bt h,ai,if_pos h]
   ·rw[bf h,ah,if_neg h]
  rw[bf f1,ah];by_cases f2:ae i.1=2
  ·
   rw[bt f2,ai,if_pos (by omega)];by_cases h:cX i o=1
   ·rw[bt h,ai,if_pos h]
   ·rw[bf h,ah,if_neg h]
  rw[bf f2,ah];by_cases f3:ae i.1=3
  ·
   rw[bt f3,ai,if_pos (by omega)];by_cases h:cX i o=1
   ·rw[bt h,ai,if_pos h]
   ·rw[bf h,ah,if_neg h]
  rw[bf f3,ah,if_neg (by omega)];by_cases f4:ae i.1=4
  ·
   rw[bt f4,ai,if_pos f4];cases h:onEM o i.2.1 with
   | true=>rfl
   | false=>rfl
  rw[bf f4,ah,if_neg f4];by_cases f5:ae i.1=5
  ·
   rw[bt f5,ai,if_pos f5];by_cases h:ownM o i.2.2.2.1=1
   ·
    rw[bt h,ai,if_pos h];rfl
   ·rw[bf h,ah,if_neg h]
  rw[bf f5,ah,if_neg f5];by_cases f6:ae i.1=6
  ·
   rw[bt f6,ai,if_pos f6];cases h:bY o (aY i) with
   | true=>rfl
   | false=>rfl
  rw[bf f6,ah,if_neg f6];by_cases f7:ae i.1=7
  ·rw[bt f7,ai,if_pos f7]
  rw[bf f7,ah,if_neg f7];by_cases f8:ae i.1=8
  ·rw[bt f8,ai,if_pos f8]
  rw[bf f8,ah,if_neg f8]
variable {N:Nat}
def gn (i:af):Bool:=decide (ae i.1=6∨ae i.1=7∨ae i.1=8)
theorem g5A (i:af):c1A N i=some (0,gB.dv (gn i) []):=by
 unfold c1A gn;rw[jg,au,ag,aj];by_cases f6:ae i.1=6
 ·rw[bt f6,ai,dt (.inl f6)]
 rw[bf f6,ah];by_cases f7:ae i.1=7
 ·rw[bt f7,ai,dt (.inr (.inl f7))]
 rw[bf f7,ah];by_cases f8:ae i.1=8
 ·rw[bt f8,dt (.inr (.inr f8))]
 ·rw[bf f8,df (by omega)]
theorem g3t {p:aw} {n:Int} (h:0≤tgtM p n):tgtM p n<p.Code.length:=by
 unfold tgtM at *;split
 ·rename_i h1; simp only[len]at h1; exact h1.2.2.2.2
 ·rename_i h1; rw[if_neg h1]at h; omega
def hitM (p:aw) (j k:Nat):Bool:=decide (tgtM p (j:Int)=(k:Int))||(gn (aQ p j)&&decide (j+1=k))
def dY (p:aw) (i k:Nat):Bool:=decide (k=0)||(List.range i).any λj=>hitM p j k
def iL (p:aw):List Nat:=(List.range p.Code.length).filter (dY p p.Code.length)
def aJ (p:aw):List Int:=(iL p).map λk:Nat=>(k:Int)
theorem g3Z (p:aw) (i k:Nat):dY p (i+1) k=(dY p i k||hitM p i k):=by
 unfold dY;rw[om,List.any_append];simp[Bool.or_assoc]
theorem f6y (s:List Bool) (a k:Nat) (ha:a<s.length):(s.set a true).getD k false=(decide (a=k)||s.getD k false):=by
 rw[mA,mA,oO];by_cases e:a=k
 ·subst e; simp[ha]
 ·simp[e]
theorem g5k (p:aw) (hc:p.Code.length≤2000):∀(n i:Nat) (s:List Bool),i≤p.Code.length→p.Code.length-i<n→s.length=p.Code.length→(∀k,k<p.Code.length→s.getD k false=dY p i k) →
  ∃s',a5z N n s (i:Int) p=some (1,(gD (.sl tB)).dv s' [])∧s'.length=p.Code.length∧∀k,k<p.Code.length→s'.getD k false=dY p p.Code.length k:=by
 intro n;induction n with
 | zero=>intro i s h1 h2; omega
 | succ n ih =>
  intro i s h1 h2 hs hz;show ∃s',a8l N (a5z N n) s (i:Int) p=_∧_
  unfold a8l;by_cases hi:i<p.Code.length
  ·
   have hrec:∀s:List Bool,s.length=p.Code.length→(∀k,k<p.Code.length→s.getD k false=(dY p i k||hitM p i k))→∃s',a5z N n s ((i+1:Nat):Int) p=some (1,(gD (.sl tB)).dv s' [])∧s'.length=p.Code.length∧∀k,k<p.Code.length→s'.getD k false=dY p p.Code.length k :=
    λs h3 h4=>ih (i+1) s (by omega) (by omega) h3 (λk hk=>by rw[h4 k hk,g3Z])
   have ht2:=g3t (p:=p) (n:=(i:Int));rw[bV hi];simp only[ai,g1a p (i:Int) (by omega) (by omega) (by omega),au,ag,aj,bI hi,aH,mF,g5A,wS (show i≤100000000 by omega),c3y,hs];have hh:∀k,hitM p i k=(decide (tgtM p (i:Int)=(k:Int))||(gn (p.Code.getD i af.z)&&decide (i+1=k))):=λk=>rfl
   generalize gn (p.Code.getD i af.z)=y at *;generalize tgtM p (i:Int)=t at *;by_cases htt:t≥0
   ·
    obtain⟨a,rfl⟩:∃a:Nat,t=(a:Int):=⟨t.toNat,by omega⟩
    have ha:a<p.Code.length:=by have:=ht2 htt; omega
    have hd:∀k:Nat,decide ((a:Int)=(k:Int))=decide (a=k):=λk=>by rw[md]; simp only[decide_eq_true_eq]; omega
    rw[dt htt,ai,cd htt (ht2 htt),aH,mF];cases y with
    | false =>
     refine hrec _ (by rw[c3y,hs]) λk hk=>?_
     rw[f6y _ _ _ (by omega),hz k hk,hh,hd,mZ,oe,Bool.or_comm]
    | true =>
     by_cases hj:i+1<p.Code.length
     ·
      rw[bV hj,ai,ai,bI hj,aH];refine hrec _ (by rw[c3y,c3y,hs]) λk hk=>?_
      rw[f6y _ _ _ (by rw[c3y]; omega),f6y _ _ _ (by omega),hz k hk,hh,hd,mO];cases dY p i k<;>cases decide (a=k)<;>cases decide (i+1=k)<;>rfl
     ·
      rw[ce (by omega),ai,ah];refine hrec _ (by rw[c3y,hs]) λk hk=>?_
      rw[f6y _ _ _ (by omega),hz k hk,hh,hd,show decide (i+1=k)=false from df (by omega),qA,oe,Bool.or_comm]
   ·
    have hd:∀k:Nat,decide (t=(k:Int))=false:=λk=>df (by omega)
    rw[df htt,ah];cases y with
    | false=>exact hrec _ hs λk hk=>by rw[hz k hk,hh,hd,mZ,oe,oe]
    | true =>
     by_cases hj:i+1<p.Code.length
     ·
      rw[bV hj,ai,ai,bI hj,aH];refine hrec _ (by rw[c3y,hs]) λk hk=>?_
      rw[f6y _ _ _ (by omega),hz k hk,hh,hd,mO,nH,Bool.or_comm]
     ·
      rw[ce (by omega),ai,ah];exact hrec _ hs λk hk=>by rw[hz k hk,hh,hd,show decide (i+1=k)=false from df (by omega),qA,oe,oe]
  ·
   rw[ce (by omega)];have:i=p.Code.length:=by omega
   subst this;exact⟨_,rfl,hs,hz⟩
theorem g5d (s:List Bool) (hc:s.length≤2000):∀(n i:Nat),i≤s.length→s.length-i<n →
  a8s N n s (((List.range i).filter λk=>s.getD k false).map λk:Nat=>(k:Int)) (i:Int)=some (3,(gD (.sl tI)).dv (((List.range s.length).filter λk=>s.getD k false).map λk:Nat=>(k:Int)) []):=by
 intro n;induction n with
 | zero=>intro i h1 h2; omega
 | succ n ih =>
  intro i h1 h2;show a8B N (a8s N n) s _ (i:Int)=_;unfold a8B;by_cases hi:i<s.length
  ·
   have hrec:=ih (i+1) (by omega) (by omega);rw[om,oV,mv]at hrec;have hlen:=pT (λk=>s.getD k false) (List.range i);rw[List.length_range]at hlen;rw[bV hi,ai,bI hi,aH,mF,wS (show i≤100000000 by omega)];cases hf:s.getD i false with
   | true =>
    rw[ai,rmT (by rw[mr,oU]; omega),aH];rw[od (by simpa using hf)]at hrec;exact hrec
   | false =>
    rw[ah];rw[pL (by simpa using hf)]at hrec
    simpa using hrec
  ·
   rw[ce (by omega)];have:i=s.length:=by omega
   subst this;rfl
theorem g3Y (p:aw) (hN:2000<N) (hr:cg p=true):b4W N p=some (0,(gD (.sl tI)).dv (aJ p) []):=by
 unfold b4W;obtain⟨hc1,hc2,_⟩:=dW hr;have hlen:(List.replicate (Int.toNat (len p.Code)) false).length=p.Code.length:=by simp[len]
 rw[f9c p hN,hr];rw[show decide (0≤(len p.Code)∧(len p.Code)≤(len p.Code)∧(len p.Code)*((1:Nat):Int)≤((dQ:Nat):Int)∧(len p.Code)≤((dQ:Nat):Int))=true by
  rw[e6a]; simp[len]; omega]
 obtain⟨s,h1,h2,h3⟩:=g5k (N:=N) p hc2 N 0 ((List.replicate (Int.toNat (len p.Code)) false).set 0 true) (by omega) (by omega) (by simp[len]) (by
  intro k hk;rw[f6y _ _ _ (by rw[hlen]; omega)];have:(List.replicate (Int.toNat (len p.Code)) false).getD k false=false:=by
   rw[mA];simp only[List.getElem?_replicate];split<;>rfl
  rw[this];unfold dY;simp[eq_comm])
 have h4:=g5d (N:=N) s (by omega) N 0 (by omega) (by omega);simp only[nD,List.range_zero,qS,pw]at h1 h4;simp only[au,ag,aj,mR,ah,aH,hlen,cd (i:=0) (n:=p.Code.length) (by omega) (by omega),h1,dG,h4];have:(List.range s.length).filter (λk=>s.getD k false)=iL p:=by
  unfold iL;rw[h2];exact List.filter_congr λk hk=>h3 k (nZ.1 hk)
 rw[this];rfl
theorem g0p (p:aw):(iL p).Pairwise (·<·):=(List.pairwise_lt_range).filter _
theorem fm (p:aw):Lead (aJ p) p.Code.length:=by
 have hs:(aJ p).Pairwise (·<·):=by
  unfold aJ;rw[List.pairwise_map];exact (g0p p).imp λh=>by omega
 refine⟨λk hk=>?_,λj k hj hk=>?_,?_⟩
 ·
  rw[mA,mC hk,mj];have hm:(aJ p)[k]∈aJ p:=oK _;unfold aJ at hm ⊢;obtain⟨a,ha,e⟩:=nK.1 hm;rw[← e];unfold iL at ha;have:=nZ.1 (oA.1 ha).1;omega
 ·
  rw[mA,mC (by omega),mj,mA,mC hk,mj];exact nY.1 hs j k (by omega) hk hj
 ·
  unfold aJ iL;rw[mr];have:=pT (dY p p.Code.length) (List.range p.Code.length);rw[List.length_range]at this;omega
def toM (p:aw) (l:List Int) (i:Nat):Int:=if i+1<l.length then l.getD (i+1) 0 else len p.Code
def nxM (p:aw) (l:List Int) (t:Int):Int:=if (aQ p (t-1).toNat).1≠40∧(aQ p (t-1).toNat).1≠41 then fD l t else -1
def tkM (p:aw) (l:List Int) (t:Int):Int:=if tgtM p (t-1)≥0 then fD l (tgtM p (t-1)) else -1
def cutB (p:aw) (l:List Int) (i:Nat):D0:=(l.getD i 0,(toM p l i,(nxM p l (toM p l i),(tkM p l (toM p l i),((),((),()))))))
theorem g3o (p:aw) (hc1:1≤p.Code.length) (hc:p.Code.length≤2000) (l:List Int) (hl:Lead l p.Code.length) (hN:2000 < N):∀ (n i:Nat),i≤l.length→l.length - i < n →
    iB N n l ((List.range i).map (cutB p l)) (i:Int) p = some (1,(gD (.sl tB0)).dv ((List.range l.length).map (cutB p l)) []):=by
  intro n;have hL:=hl.len;induction n with
  | zero=>intro i h1 h2; omega
  | succ n ih =>
    intro i h1 h2;show b8g N (iB N n) l _ (i:Int) p = _;unfold b8g;by_cases hi:i < l.length
    · have hw:=wS (show i≤100000000 by omega)
      have hfr:=hl.lo i (by omega);have hrec:=ih (i+1) (by omega) (by omega);rw [om,mv,nN,pw] at hrec;generalize hbs:(List.range i).map (cutB p l) = bs at *;have hbl:bs.length = i:=by rw [← hbs]; simp
      have hre:∀ x:D0,rm bs [x] 80 = true:=fun x=>rmT (by simp; omega)
      rw [bV hi];simp only [ai,bI hi,aH,mF,hw];have htb:0≤toM p l i - 1∧toM p l i - 1 < p.Code.length∧toM p l i - 1≤100000:=by
        unfold toM;split
        · rename_i hj
          have hto:=hl.lo (i+1) (by omega);have hup:=hl.up i (i+1) (by omega) (by omega);omega
        · simp only [len]; omega
      have key:∀ T:Int,T = toM p l i→(
          bi ((p.Code.getD (T - 1).toNat af.z).1 != 40) (
           bi ((p.Code.getD (T - 1).toNat af.z).1 != 41) (
            on1 (fM N l T)<|gg [pI]<|fun (x4:Int) =>
            on1 (f9 N p (T - 1))<|gg [pI]<|fun (x5:Int) =>
            bi (decide (x5≥0)) (
             on1 (fM N l x5)<|gg [pI]<|fun (x6:Int) =>
             gd (rm bs [((l.getD i 0,(T,(x4,(x6,((),((),())))))):D0)] 80) <|
             iB N n l (bs++[((l.getD i 0,(T,(x4,(x6,((),((),())))))):D0)]) ((i+1:Nat):Int) p) <|
            gd (rm bs [((l.getD i 0,(T,(x4,((-1:Int),((),((),())))))):D0)] 80) <|
            iB N n l (bs++[((l.getD i 0,(T,(x4,((-1:Int),((),((),())))))):D0)]) ((i+1:Nat):Int) p) <|
           on1 (f9 N p (T - 1))<|gg [pI]<|fun (x7:Int) =>
           bi (decide (x7≥0)) (
            on1 (fM N l x7)<|gg [pI]<|fun (x8:Int) =>
            gd (rm bs [((l.getD i 0,(T,((-1:Int),(x8,((),((),())))))):D0)] 80) <|
            iB N n l (bs++[((l.getD i 0,(T,((-1:Int),(x8,((),((),())))))):D0)]) ((i+1:Nat):Int) p) <|
           gd (rm bs [((l.getD i 0,(T,((-1:Int),((-1:Int),((),((),())))))):D0)] 80) <|
           iB N n l (bs++[((l.getD i 0,(T,((-1:Int),((-1:Int),((),((),())))))):D0)]) ((i+1:Nat):Int) p) <|
          on1 (f9 N p (T - 1))<|gg [pI]<|fun (x9:Int) =>
          bi (decide (x9≥0)) (
           on1 (fM N l x9)<|gg [pI]<|fun (x10:Int) =>
           gd (rm bs [((l.getD i 0,(T,((-1:Int),(x10,((),((),())))))):D0)] 80) <|
           iB N n l (bs++[((l.getD i 0,(T,((-1:Int),(x10,((),((),())))))):D0)]) ((i+1:Nat):Int) p) <|
          gd (rm bs [((l.getD i 0,(T,((-1:Int),((-1:Int),((),((),())))))):D0)] 80) <|
          iB N n l (bs++[((l.getD i 0,(T,((-1:Int),((-1:Int),((),((),())))))):D0)]) ((i+1:Nat):Int) p) = some (1,(gD (.sl tB0)).dv ((List.range l.length).map (cutB p l)) []):=by
        intro T hT;rw [← hT] at htb;simp only [g4s l _ (show l.length≤2000 by omega) hN,g1a p (T - 1) htb.1 htb.2.1 (by omega),au,ag,aj,hre,aH];rw [← hrec];unfold cutB;rw [← hT];unfold nxM tkM aQ;generalize p.Code.getD (T - 1).toNat af.z = c;generalize tgtM p (T - 1) = t;by_cases c1:c.1 = 40
        · rw [show (c.1 != 40) = false by rw [c1]; rfl,ah,if_neg (show ¬ (c.1≠40∧c.1≠41) by omega)]
          by_cases ht:t≥0
          · rw [dt ht,ai,if_pos ht]
          · rw [df ht,ah,if_neg ht]
        rw [show (c.1 != 40) = true from bne_iff_ne.2 c1,ai];by_cases c2:c.1 = 41
        · rw [show (c.1 != 41) = false by rw [c2]; rfl,ah,if_neg (show ¬ (c.1≠40∧c.1≠41) by omega)]
          by_cases ht:t≥0
          · rw [dt ht,ai,if_pos ht]
          · rw [df ht,ah,if_neg ht]
        rw [show (c.1 != 41) = true from bne_iff_ne.2 c2,ai,if_pos ⟨c1,c2⟩];by_cases ht:t≥0
        · rw [dt ht,ai,if_pos ht]
        · rw [df ht,ah,if_neg ht]
      by_cases hj:i+1 < l.length
      · have eT:toM p l i = l.getD (i+1) 0:=if_pos hj
        have hw2:w.i64 (l.getD (i+1) 0 - 1) = l.getD (i+1) 0 - 1:=wI (by rw [← eT]; omega) (by rw [← eT]; omega);rw [bV hj,ai,bI hj,aH];simp only [mF,hw2];rw [cd (i:=l.getD (i+1) 0 - 1) (n:=p.Code.length) (by rw [← eT]; omega) (by rw [← eT]; omega),aH];exact key _ eT.symm
      · have eT:toM p l i = len p.Code:=if_neg hj
        have hw2:w.i64 (len p.Code - 1) = len p.Code - 1:=wI (by rw [← eT]; omega) (by rw [← eT]; omega);rw [ce (by omega),ah];simp only [hw2];rw [cd (i:=len p.Code - 1) (n:=p.Code.length) (by rw [← eT]; omega) (by rw [← eT]; omega),aH];exact key _ eT.symm
    · have:i = l.length:=by omega
      subst this;rw [ce (by omega)];rfl
def cutM (p:aw):List D0:=(List.range (aJ p).length).map (cutB p (aJ p))
theorem g5K (p:aw) (hN:2000<N) (hr:cg p=true):d2H N p=some (0,(gD (.sl tB0)).dv (cutM p) []):=by
 unfold d2H cutM;obtain⟨hc1,hc2,_⟩:=dW hr;have hl:=fm p;have:=hl.len;have h4:=g3o (N:=N) p hc1 hc2 (aJ p) hl hN N 0 (by omega) (by omega);rw[g3Y p hN hr,au,ag,aj];rw[show iB N N (aJ p) [] 0 p=_ from h4];rfl
variable {N:Nat}
def badI (o:List Int) (x:af):Bool :=
 (decide (ae x.1=4∨ae x.1=5)&&onEM o x.2.2.1)||(decide (1≤ae x.1∧ae x.1≤3∧0<x.2.1∧o.getD x.2.1.toNat 0=1)&&bY o (aY x))
def dZ (o:List Int) (i:Nat):Bool:=decide (o.getD i 0=1∨o.getD i 0=2)
def dK (p:aw) (o:List Int):Bool:=cg p&&(decide (o.getD 0 0=0)&&((List.range' 1 15).all (dZ o)&&!p.Code.any (badI o)))
theorem g4g (p:aw) (o:List Int):∀(n i:Nat),i≤16→16-i<n →
  a4P N n (i:Int) p o=if (List.range' i (16-i)).all (dZ o)=true then some (1,iK.dv p ((gD (.ar 16 tI)).dv o [])) else some (0,gB.dv false []):=by
 intro n;induction n with
 | zero=>intro i h1 h2; omega
 | succ n ih =>
  intro i h1 h2;show a7t N (a4P N n) (i:Int) p o=_;unfold a7t;by_cases hi:i<16
  ·
   have hrec:=ih (i+1) (by omega) (by omega);rw[dt (show (i:Int)<16 by omega),bI hi,wS (show i≤100000000 by omega),hrec,show 16-i=(16-(i+1))+1 by omega,nR,mt];simp only[ai,aH,mF];unfold dZ;generalize o.getD i 0=v;generalize (List.range' (i+1) (16-(i+1))).all _=r;by_cases h1:v=1
   ·rw[show (v != 1)=false by rw[h1]; rfl,ah,dt (.inl h1),mO]
   rw[show (v != 1)=true from bne_iff_ne.2 h1,ai];by_cases h2:v=2
   ·rw[show (v != 2)=false by rw[h2]; rfl,ah,dt (.inr h2),mO]
   ·rw[show (v != 2)=true from bne_iff_ne.2 h2,ai,df (by omega),mZ,if_neg (by simp)]
  ·
   have:i=16:=by omega
   subst this;rfl
theorem g4Q (x:af) (o:List Int) (r:Bool) :
  bi (ae x.1==4)
   (bi (onEM o x.2.2.1) (some (0,gB.dv false [])) (bi (decide (ae x.1≥1)) (bi (decide (ae x.1≤3)) (bi (decide (x.2.1>0)) (bi (o.getD x.2.1.toNat 0==1) (bi (bY o (aY x)) (some (0,gB.dv false [])) (if r=true then some (0,gB.dv false []) else some (3,[]))) (if r=true then some (0,gB.dv false []) else some (3,[]))) (if r=true then some (0,gB.dv false []) else some (3,[]))) (if r=true then some (0,gB.dv false []) else some (3,[]))) (if r=true then some (0,gB.dv false []) else some (3,[]))))
   (bi (ae x.1==5)
    (bi (onEM o x.2.2.1) (some (0,gB.dv false [])) (bi (decide (ae x.1≥1)) (bi (decide (ae x.1≤3)) (bi (decide (x.2.1>0)) (bi (o.getD x.2.1.toNat 0==1) (bi (bY o (aY x)) (some (0,gB.dv false [])) (if r=true then some (0,gB.dv false []) else some (3,[]))) (if r=true then some (0,gB.dv false []) else some (3,[]))) (if r=true then some (0,gB.dv false []) else some (3,[]))) (if r=true then some (0,gB.dv false []) else some (3,[]))) (if r=true then some (0,gB.dv false []) else some (3,[]))))
    (bi (decide (ae x.1≥1)) (bi (decide (ae x.1≤3)) (bi (decide (x.2.1>0)) (bi (o.getD x.2.1.toNat 0==1) (bi (bY o (aY x)) (some (0,gB.dv false [])) (if r=true then some (0,gB.dv false []) else some (3,[]))) (if r=true then some (0,gB.dv false []) else some (3,[]))) (if r=true then some (0,gB.dv false []) else some (3,[]))) (if r=true then some (0,gB.dv false []) else some (3,[]))) (if r=true then some (0,gB.dv false []) else some (3,[]))))=(if (badI o x||r)=true then some (0,gB.dv false []) else some (3,[]):Option Rs):=by
 unfold badI;generalize onEM o x.2.2.1=e;generalize bY o (aY x)=a;generalize o.getD x.2.1.toNat 0=v;generalize ae x.1=f;have tail:∀b:Bool,b=decide (1≤f∧f≤3∧0<x.2.1∧v=1)→bi (decide (f≥1)) (bi (decide (f≤3)) (bi (decide (x.2.1>0)) (bi (v==1) (bi a (some (0,gB.dv false [])) (if r=true then some (0,gB.dv false []) else some (3,[]))) (if r=true then some (0,gB.dv false []) else some (3,[]))) (if r=true then some (0,gB.dv false []) else some (3,[]))) (if r=true then some (0,gB.dv false []) else some (3,[]))) (if r=true then some (0,gB.dv false []) else some (3,[]))=(if ((b&&a)||r)=true then some (0,gB.dv false []) else some (3,[]):Option Rs):=by
  intro b hb;by_cases k1:f≥1
  ·
   rw[dt k1,ai];by_cases k2:f≤3
   ·
    rw[dt k2,ai];by_cases k3:x.2.1>0
    ·
     rw[dt k3,ai];by_cases k4:v=1
     ·
      rw[bt k4,ai,hb,dt ⟨k1,k2,k3,k4⟩];cases a<;>cases r<;>rfl
     ·
      rw[bf k4,ah,hb,df (by omega)];cases a<;>cases r<;>rfl
    ·
     rw[df k3,ah,hb,df (by omega)];cases a<;>cases r<;>rfl
   ·
    rw[df k2,ah,hb,df (by omega)];cases a<;>cases r<;>rfl
  ·
   rw[df k1,ah,hb,df (by omega)];cases a<;>cases r<;>rfl
 have tl:=tail _ rfl;rw[tl];by_cases f4:f=4
 ·
  rw[bt f4,ai,dt (show f=4∨f=5 from .inl f4),df (show ¬(1≤f∧f≤3∧0<x.2.1∧v=1) by omega)];cases e<;>cases r<;>rfl
 rw[bf f4,ah];by_cases f5:f=5
 ·
  rw[bt f5,ai,dt (show f=4∨f=5 from .inr f5),df (show ¬(1≤f∧f≤3∧0<x.2.1∧v=1) by omega)];cases e<;>cases r<;>rfl
 rw[bf f5,ah,df (show ¬(f=4∨f=5) by omega),mZ,nH]
theorem g4a (p:aw) (hc:iM p) (o:List Int) (hN:2000<N):∀(n i:Nat),i≤p.Code.length→p.Code.length-i<n →
  a4I N n (i:Int) p o=if (p.Code.drop i).any (badI o)=true then some (0,gB.dv false []) else some (3,[]):=by
 obtain⟨hc1,hc2,hc3⟩:=hc;intro n;induction n with
 | zero=>intro i h1 h2; omega
 | succ n ih =>
  intro i h1 h2;show a6Y N (a4I N n) (i:Int) p o=_;unfold a6Y;by_cases hi:i<p.Code.length
  ·
   obtain⟨⟨d0,d1⟩,⟨a0,a1⟩,_⟩:=iZ (hc3 i hi);have hdrop:p.Code.drop i=p.Code.getD i af.z::p.Code.drop (i+1):=by
    rw[mS hi,mA,mC hi]; rfl
   have hrec:=ih (i+1) (by omega) (by omega);have hl1:=eF (p.Code.getD i af.z);have hl2:=iD (p.Code.getD i af.z);rw[bV hi,hdrop,ny];simp only[ai,bI hi,aH,mF,jg,a7Q,g4E o _ a1,g3k o _ hl2 (λx hx=>(hl1 x hx).2) hN,au,ag,aj,wS (show i≤100000000 by omega),cd (i:=(p.Code.getD i af.z).2.1) (n:=16) d0 (by omega),hrec];exact g4Q (p.Code.getD i af.z) o _
  ·
   have:i=p.Code.length:=by omega
   subst this;rw[ce (by omega),ah,mi];rfl
theorem g4t (p:aw) (o:List Int) (hN:2000<N):b3f N p o=some (0,gB.dv (dK p o) []):=by
 unfold b3f dK;rw[f9c p hN,au,ag,aj];cases hr:cg p with
 | false=>rfl
 | true =>
  have hc:=dW hr;rw[mR,ah,cd (i:=0) (n:=16) (by omega) (by omega),aH,mO];by_cases h0:o.getD 0 0=0
  ·
   rw[show (o.getD 0 0 != 0)=false by rw[h0]; rfl,ah,dt h0,mO];have e1:=g4g (N:=N) p o N 1 (by omega) (by omega);rw[show a4P N N 1 p o=_ from e1];cases (List.range' 1 15).all (dZ o) with
   | false=>rw[if_neg (by simp),dF,ag,aj,mZ]
   | true =>
    have e2:=g4a (N:=N) p hc o hN N 0 (by omega) (by have:=hc.2.1; omega);rw[mX]at e2;rw[if_pos rfl,dH _ _ (by decide),ag,ag,aj,show a4I N N 0 p o=_ from e2,mO];cases p.Code.any (badI o) with
    | true=>rw[if_pos rfl,dF,ag,aj]; rfl
    | false=>rw[if_neg (by simp),dH _ _ (by decide),aj]; rfl
  ·rw[show (o.getD 0 0 != 0)=true from bne_iff_ne.2 h0,ai,df h0,mZ]
def fE (p:aw) (o:List Int) (f:Int) (k m:Nat):List (List ak × List ak):=(List.range' k m).map λn=>cR (aQ p n) o (n:Int) ((n:Int)-f)
def fG (p:aw) (o:List Int) (f:Int) (k m:Nat):List ak:=(fE p o f k m).flatMap (·.1)
def fH (p:aw) (o:List Int) (f:Int) (k m:Nat):List ak:=(fE p o f k m).flatMap (·.2)
theorem g1q (i:af) (o:List Int) (pc off:Int):(cR i o pc off).1.length≤8∧(cR i o pc off).2.length≤8:=by
 have:=f8h i o;unfold cR
 repeat' split
 all_goals simp
 all_goals omega
theorem g5l (ii nn i2:Int) (p:aw) (hc:iM p) (o:List Int) (rb:List aW) (ro so:List Int) (f t nx tk:Int) (hf:0≤f) (ht:t≤p.Code.length) (hN:2000<N):∀(n k:Nat) (A E:List ak),f≤k→(k:Int)≤t→t-k<n→(A.length:Int)≤8*(k-f)→(E.length:Int)≤8*(k-f) →
  ki N n ii (k:Int) p.Code p.B8 p.D1 o rb ro nn i2 so f t nx tk A E=some (3,dvG UW (ii,p.Code,p.B8,p.D1,o,rb,ro,nn,i2,so,f,t,nx,tk,A++fG p o f k (t-k).toNat,E++fH p o f k (t-k).toNat,())):=by
 obtain⟨hc1,hc2,hc3⟩:=hc;intro n;induction n with
 | zero=>intro k A E h0 h1 h2; omega
 | succ n ih =>
  intro k A E h0 h1 h2 hA hE;show b4U N (ki N n) ii (k:Int) p.Code p.B8 p.D1 o rb ro nn i2 so f t nx tk A E=_;unfold b4U;by_cases hi:(k:Int)<t
  ·
   have hw:w.i64 ((k:Int)-f)=(k:Int)-f:=wI (by omega) (by omega);have hX:=g1q (p.Code.getD k af.z) o (k:Int) ((k:Int)-f);have hrec:=ih (k+1) (A++(cR (p.Code.getD k af.z) o (k:Int) ((k:Int)-f)).1) (E++(cR (p.Code.getD k af.z) o (k:Int) ((k:Int)-f)).2) (by omega) (by omega) (by omega) (by rw[mD]; omega) (by rw[mD]; omega);have hlA:=hA;have hlE:=hE;have hcA:fG p o f k (t-k).toNat=(cR (p.Code.getD k af.z) o (k:Int) ((k:Int)-f)).1++fG p o f (k+1) (t-(k+1:Nat)).toNat:=by
    unfold fG fE;rw[show (t-(k:Int)).toNat=(t-(k+1:Nat)).toNat+1 by omega,nR,nN,oP];rfl
   have hcE:fH p o f k (t-k).toNat=(cR (p.Code.getD k af.z) o (k:Int) ((k:Int)-f)).2++fH p o f (k+1) (t-(k+1:Nat)).toNat:=by
    unfold fH fE;rw[show (t-(k:Int)).toNat=(t-(k+1:Nat)).toNat+1 by omega,nR,nN,oP];rfl
   rw[dt hi,hcA,hcE];simp only[ai,bI (show k<p.Code.length by omega),aH,mF,hw,g5F _ o _ _ hN,au,ag,aj,wS (show k≤100000000 by omega)];rw[rmT (show (A.length+(cR (p.Code.getD k af.z) o (k:Int) ((k:Int)-f)).1.length)*72≤35184372088832 by omega),aH,rmT (show (E.length+(cR (p.Code.getD k af.z) o (k:Int) ((k:Int)-f)).2.length)*72≤35184372088832 by omega),aH,hrec];simp only[mQ]
  ·
   rw[df hi];have:(t-(k:Int)).toNat=0:=by omega
   rw[this];unfold fG fH fE;simp only[qE,pw,qH,mJ];rfl
def gl (p:aw) (o:List Int) (v:D0):aW:=(v.1,(v.2.1,(v.2.2.1,(v.2.2.2.1,(fG p o v.1 v.1.toNat (v.2.1-v.1).toNat,(fH p o v.1 v.1.toNat (v.2.1-v.1).toNat,()))))))
theorem g6A (p:aw) (hc:iM p) (o:List Int) (rb:List aW) (ro so:List Int) (n i:Int) (h0:0≤i) (h1:i<n) (h2:n≤2000) (v:D0) (hv0:0≤v.1) (hv1:v.1≤v.2.1) (hv2:v.2.1≤p.Code.length) (hN:2000<N) :
  st_W N n i (dvG XW (p.Code,p.B8,p.D1,o,rb,ro,())) (dvG SW (so,())) v=some (dvG XW (p.Code,p.B8,p.D1,o,rb,ro,()),dvG SW (so,()),gl p o v):=by
 have h3:=g5l (N:=N) i n i p hc o rb ro so v.1 v.2.1 v.2.2.1 v.2.2.2.1 hv0 hv2 hN N v.1.toNat [] [] (by omega) (by omega) (by have:=hc.2.1; omega) (by simp; omega) (by simp; omega);rw[show ((v.1.toNat:Nat):Int)=v.1 by omega,mf,mf]at h3;unfold st_W;refine (gS XW _ (p.Code,p.B8,p.D1,o,rb,ro,())).trans ?_;refine (gS SW _ (so,())).trans ?_;show onA 3 (ki N N i v.1 p.Code p.B8 p.D1 o rb ro n i so v.1 v.2.1 v.2.2.1 v.2.2.2.1 [] []) _=_;rw[h3,dG];refine (gS UW _ (i,p.Code,p.B8,p.D1,o,rb,ro,n,i,so,v.1,v.2.1,v.2.2.1,v.2.2.2.1,_,_,())).trans ?_;show stW n i i n i _=_;unfold stW;rw[if_pos ⟨h0,h1,rfl,rfl,rfl,wS' h0 (by omega)⟩];rfl
theorem g4G (p:aw) (hc:iM p) (o:List Int) (rb:List aW) (ro so:List Int) (n:Int) (h2:n≤2000) (hN:2000<N):∀(rest:List D0) (i:Int),0≤i→i+rest.length=n→(∀v∈rest,0≤v.1∧v.1≤v.2.1∧v.2.1≤p.Code.length) →
  (ol_W N).walk n rest i (dvG XW (p.Code,p.B8,p.D1,o,rb,ro,())) (dvG SW (so,()))=some (dvG XW (p.Code,p.B8,p.D1,o,rb,ro,()),dvG SW (so,()),rest.map (gl p o))
 | [],i,_,_,_=>rfl
 | v::rest,i,h0,h1,hv=>by
  simp only[mP]at h1;obtain⟨g1,g2,g3⟩:=hv v (by simp);have h3:=g6A (N:=N) p hc o rb ro so n i h0 (by omega) h2 v g1 g2 g3 hN;have h6:=g4G p hc o rb ro so n h2 hN rest (i+1) (by omega) (by omega) (λu hu=>hv u (by simp[hu]));have h3':(ol_W N).step n i (dvG XW (p.Code,p.B8,p.D1,o,rb,ro,())) (dvG SW (so,())) v=some (dvG XW (p.Code,p.B8,p.D1,o,rb,ro,()),dvG SW (so,()),gl p o v):=h3;refine (OL.walk_cons (ol_W N) n v rest i _ _).trans ?_;rw[h3'];simp only[];rw[h6];rfl
theorem g0H (p:aw):(cutM p).length=(aJ p).length:=by unfold cutM; simp
theorem g0F {p:aw} (h:cg p=true):∀v∈cutM p,0≤v.1∧v.1<v.2.1∧v.2.1≤p.Code.length:=by
 intro v hv;unfold cutM at hv;obtain⟨i,hi,rfl⟩:=nK.1 hv;have hi:=nZ.1 hi;have hl:=fm p;have h1:=hl.lo i hi;unfold cutB toM;simp only;split
 ·
  rename_i hj;have h2:=hl.lo (i+1) hj;have h3:=hl.up i (i+1) (by omega) hj;omega
 ·simp only[len]; omega
def ky (p:aw) (o:List Int):ao:=if dK p o=true then ⟨(cutM p).map (gl p o),o⟩ else ⟨[],List.replicate 16 0⟩
def withE (p:aw) (o:List Int):Int:=if dK p o=true then 0 else 1
theorem f5s {p:aw} {o:List Int} (h:dK p o=true):cg p=true:=by
 unfold dK at h;simp only[mE]at h;exact h.1
theorem g3z (p:aw) (o:List Int) (hN:2000<N):c1Q N p o=some (0,cm.dv (ky p o) (gI.dv (withE p o) [])):=by
 unfold c1Q ky withE;rw[g4t p o hN,au,ag,aj];cases hcl:dK p o with
 | false=>rfl
 | true =>
  have hr:=f5s hcl;have hc:=dW hr;have hcl2:=g0H p;have hll:=(fm p).len;have hc2:=hc.2.1;have h5:=g4G (N:=N) p hc o [] (List.replicate 16 0) o ((cutM p).length:Int) (by omega) hN (cutM p) 0 (by omega) (by omega) (λv hv=>by have:=g0F hr v hv; omega);have hl:a6e N N 0 p.Code p.B8 p.D1 o [] (List.replicate 16 0) (cutM p) o=some (1,dvG LX (p.Code,p.B8,p.D1,o,[],List.replicate 16 0,(cutM p).map (gl p o),o,())):=by
   unfold a6e;rw[if_pos rfl,h5];rfl
  rw[mR,ah,g5K p hN hr,au,if_pos rfl,if_pos rfl];refine (ag _ _ _ _ _).trans ?_;rw[aj];show onA 1 (a6e N N 0 p.Code p.B8 p.D1 o [] (List.replicate 16 0) (cutM p) o) _=_;rw[hl,dG];exact gS LX _ (p.Code,p.B8,p.D1,o,[],List.replicate 16 0,(cutM p).map (gl p o),o,())
def h8h (o:List Int) (x:af):List Int :=
 let o1:=if (ae x.1=4∨ae x.1=5)∧0<x.2.2.1 then o.set x.2.2.1.toNat 1 else o
 if 1≤ae x.1∧ae x.1≤3∧0<x.2.1∧o1.getD x.2.1.toNat 0=1 then (aY x).foldl (λo r=>o.set r.toNat 1) o1 else o1
def ownN (p:aw):Nat→List Int→List Int
 | 0,o=>o
 | n+1,o=>ownN p n (p.Code.foldl h8h o)
def fI (p:aw):List Int:=if cg p=true then ownN p 17 (0::List.replicate 15 2) else List.replicate 16 0
theorem g5B (p:aw) (o1:List Int):∀(n i:Nat) (o:List Int),i≤16→16-i<n →
  b2j N n (i:Int) p o1 o=some (1,iK.dv p ((gD (.ar 16 tI)).dv o1 ((gD (.ar 16 tI)).dv ((List.range' i (16-i)).foldl (λo k=>o.set k 2) o) []))):=by
 intro n;induction n with
 | zero=>intro i o h1 h2; omega
 | succ n ih =>
  intro i o h1 h2;show b1v N (b2j N n) (i:Int) p o1 o=_;unfold b1v;by_cases hi:i<16
  ·rw[dt (show (i:Int)<16 by omega),bI hi,ai,aH,wS (by omega),mF,ih _ _ (by omega) (by omega),show 16-i=(16-(i+1))+1 by omega,nR,nh]
  ·
   have:i=16:=by omega
   subst this;rfl
theorem g5H (a b:Int) (l:List Int) (hl:l.length≤100) (hb:∀x∈l,1≤x∧x≤15) (p:aw) (o1:List Int):∀(n i:Nat) (o:List Int),i≤l.length→l.length-i<n →
  kq N n a b l (i:Int) p o1 o=some (7,gI.dv a (gI.dv b (iK.dv p ((gD (.ar 16 tI)).dv o1 ((gD (.ar 16 tI)).dv ((l.drop i).foldl (λo r=>o.set r.toNat 1) o) []))))):=by
 intro n;induction n with
 | zero=>intro i o h1 h2; omega
 | succ n ih =>
  intro i o h1 h2;show b1D N (kq N n) a b l (i:Int) p o1 o=_;unfold b1D;by_cases hi:i<l.length
  ·
   have hm:=hb _ (ck 0 hi);have hdrop:l.drop i=l.getD i 0::l.drop (i+1):=by
    rw[mS hi,mA,mC hi]; rfl
   rw[bV hi,ai,bI hi,aH,mF,cd (i:=l.getD i 0) (n:=16) (by omega) (by omega),aH,wS (by omega),ih _ _ (by omega) (by omega),hdrop,nh]
  ·
   have:i=l.length:=by omega
   subst this;rw[ce (by omega),ah,mi];rfl
theorem g5s (a:Int) (p:aw) (hc:iM p) (o1:List Int) (hN:2000<N):∀(n i:Nat) (o:List Int),i≤p.Code.length→p.Code.length-i<n →
  a6n N n a (i:Int) p o1 o=some (5,gI.dv a (iK.dv p ((gD (.ar 16 tI)).dv o1 ((gD (.ar 16 tI)).dv ((p.Code.drop i).foldl h8h o) [])))):=by
 obtain⟨hc1,hc2,hc3⟩:=hc;intro n;induction n with
 | zero=>intro i o h1 h2; omega
 | succ n ih =>
  intro i o h1 h2;show b1x N (a6n N n) a (i:Int) p o1 o=_;unfold b1x;by_cases hi:i<p.Code.length
  ·
   obtain⟨⟨d0,d1⟩,⟨a0,a1⟩,_⟩:=iZ (hc3 i hi);have hdrop:p.Code.drop i=p.Code.getD i af.z::p.Code.drop (i+1):=by
    rw[mS hi,mA,mC hi]; rfl
   have hrec:=λo=>ih (i+1) o (by omega) (by omega)
   have hl1:=eF (p.Code.getD i af.z);have hl2:=iD (p.Code.getD i af.z);have h6:=λo=>g5H (N:=N) a (i:Int) (aY (p.Code.getD i af.z)) (by omega) hl1 p o1 N 0 o (by omega) (by omega)
   simp only[mX,nD]at h6;rw[bV hi,hdrop,nh];simp only[ai,bI hi,aH,mF,jg,a7Q,au,ag,aj,wS (show i≤100000000 by omega),cd (i:=(p.Code.getD i af.z).2.2.1) (n:=16) a0 (by omega),cd (i:=(p.Code.getD i af.z).2.1) (n:=16) d0 (by omega),h6,dG,hrec];unfold h8h;simp only[cP,beq_iff_eq,decide_eq_true_eq];by_cases f4:ae (p.Code.getD i af.z).1=4
   ·
    rw[if_pos f4];by_cases ha:(p.Code.getD i af.z).2.2.1>0
    ·rw[if_pos ha,if_pos (show ae (p.Code.getD i af.z).1≥1 by omega),if_neg (show ¬ae (p.Code.getD i af.z).1≤3 by omega),if_pos (show (ae (p.Code.getD i af.z).1=4∨ae (p.Code.getD i af.z).1=5)∧0<(p.Code.getD i af.z).2.2.1 by omega),if_neg (by omega)]
    ·rw[if_neg ha,if_pos (show ae (p.Code.getD i af.z).1≥1 by omega),if_neg (show ¬ae (p.Code.getD i af.z).1≤3 by omega),if_neg (show ¬((ae (p.Code.getD i af.z).1=4∨ae (p.Code.getD i af.z).1=5)∧0<(p.Code.getD i af.z).2.2.1) by omega),if_neg (by omega)]
   rw[if_neg f4];by_cases f5:ae (p.Code.getD i af.z).1=5
   ·
    rw[if_pos f5];by_cases ha:(p.Code.getD i af.z).2.2.1>0
    ·rw[if_pos ha,if_pos (show ae (p.Code.getD i af.z).1≥1 by omega),if_neg (show ¬ae (p.Code.getD i af.z).1≤3 by omega),if_pos (show (ae (p.Code.getD i af.z).1=4∨ae (p.Code.getD i af.z).1=5)∧0<(p.Code.getD i af.z).2.2.1 by omega),if_neg (by omega)]
    ·rw[if_neg ha,if_pos (show ae (p.Code.getD i af.z).1≥1 by omega),if_neg (show ¬ae (p.Code.getD i af.z).1≤3 by omega),if_neg (show ¬((ae (p.Code.getD i af.z).1=4∨ae (p.Code.getD i af.z).1=5)∧0<(p.Code.getD i af.z).2.2.1) by omega),if_neg (by omega)]
   rw[if_neg f5,if_neg (show ¬((ae (p.Code.getD i af.z).1=4∨ae (p.Code.getD i af.z).1=5)∧0<(p.Code.getD i af.z).2.2.1) by omega)];by_cases f1:ae (p.Code.getD i af.z).1≥1
   ·
    rw[if_pos f1];by_cases f3:ae (p.Code.getD i af.z).1≤3
    ·
     rw[if_pos f3];by_cases hd:(p.Code.getD i af.z).2.1>0
     ·
      rw[if_pos hd];by_cases hv:o.getD (p.Code.getD i af.z).2.1.toNat 0=1
      ·rw[if_pos hv,if_pos ⟨f1,f3,hd,hv⟩]
      ·rw[if_neg hv,if_neg (by omega)]
     ·rw[if_neg hd,if_neg (by omega)]
    ·rw[if_neg f3,if_neg (by omega)]
   ·rw[if_neg f1,if_neg (by omega)]
  ·
   have:i=p.Code.length:=by omega
   subst this;rw[ce (by omega),ah,mi];rfl
theorem g5u (p:aw) (hc:iM p) (o1:List Int) (hN:2000<N):∀(n i:Nat) (o:List Int),i≤17→17-i<n →
  b1X N n (i:Int) p o1 o=some (3,(gD (.ar 16 tI)).dv o1 ((gD (.ar 16 tI)).dv (ownN p (17-i) o) [])):=by
 intro n;induction n with
 | zero=>intro i o h1 h2; omega
 | succ n ih =>
  intro i o h1 h2;show b2n N (b1X N n) (i:Int) p o1 o=_;unfold b2n;by_cases hi:i<17
  ·
   have h:=g5s (N:=N) (i:Int) p hc o1 hN N 0 o (by omega) (by have:=hc.2.1; omega);rw[dt (show (i:Int)<17 by omega),ai,show (0:Int)=((0:Nat):Int) from rfl,h];simp only[dG,ag,aj,wS (show i≤100000000 by omega),mX];rw[ih _ _ (by omega) (by omega),show 17-i=(17-(i+1))+1 by omega];rfl
  ·
   have:i=17:=by omega
   subst this;rfl
theorem g5b (p:aw) (hN:2000<N):c1s N p=some (0,(gD (.ar 16 tI)).dv (fI p) []):=by
 unfold c1s fI;rw[f9c p hN,au,ag,aj];cases hr:cg p with
 | false=>rfl
 | true =>
  have h:=g5B (N:=N) p (List.replicate 16 0) N 1 (List.replicate 16 0) (by omega) (by omega);have h2:=g5u (N:=N) p (dW hr) (List.replicate 16 0) hN N 0 (0::List.replicate 15 2) (by omega) (by omega);rw[mR,ah,show b2j N N 1 p (List.replicate 16 0) (List.replicate 16 0)=_ from h,dG];simp only[ag,aj];rw[show (List.range' 1 (16-1)).foldl (λo k=>o.set k 2) (List.replicate 16 (0:Int))=0::List.replicate 15 2 from rfl,show b1X N N 0 p (List.replicate 16 0) (0::List.replicate 15 2)=_ from h2,dG];simp only[ag,aj,if_true,oD]
theorem g5e (p:aw) (hN:2000<N):b7q N p=some (0,cm.dv (ky p (fI p)) (gI.dv (withE p (fI p)) [])):=by
 unfold b7q;simp only[g5b p hN,au,ag,aj,g3z p _ hN]
def emS (e:Bool) (i:af) (o:List Int) (pc off:Int):List ak:=if e=true then (cR i o pc off).2 else (cR i o pc off).1
def gi (e:Bool) (p:aw) (o:List Int) (f:Int) (k m:Nat):List ak:=if e=true then fH p o f k m else fG p o f k m
theorem g1j (e:Bool) (p:aw) (o:List Int) (f:Int) (k:Nat):gi e p o f k 0=[]:=by
 unfold gi fG fH fE;cases e<;>rfl
theorem f8C (e:Bool) (p:aw) (o:List Int) (f:Int) (k m:Nat):gi e p o f k (m+1)=emS e (aQ p k) o (k:Int) ((k:Int)-f)++gi e p o f (k+1) m:=by
 unfold gi fG fH fE emS;cases e<;>simp only[mN,if_false,if_true,nR,nN,oP]
theorem g1R (e:Bool) (p:aw) (o:List Int) (f:Int):∀(a k b:Nat),gi e p o f k (a+b)=gi e p o f k a++gi e p o f (k+a) b
 | 0,k,b=>by rw[g1j,ml,mf,nS]
 | a+1,k,b=>by
  rw[show a+1+b=(a+b)+1 by omega,f8C,g1R e p o f a (k+1) b,f8C,mQ,show k+1+a=k+(a+1) by omega]
structure Spl (p:aw) (o:List Int) (s:ao):Prop where
 eq:s=⟨(cutM p).map (gl p o),o⟩
 cl:dK p o=true
theorem Spl.of {p:aw} {o:List Int} (h:dK p o=true):Spl p o (ky p o):=⟨by unfold ky; rw[if_pos h],h⟩
def frB (p:aw) (k:Nat):Int:=(aJ p).getD k 0
def toB (p:aw) (k:Nat):Int:=toM p (aJ p) k
section
variable {p:aw} {o:List Int} {s:ao} (h:Spl p o s)
include h
theorem Spl.right:cg p=true:=f5s h.cl
theorem Spl.len:s.A3.length=(aJ p).length:=by rw[h.eq]; simp[g0H]
theorem Spl.blk {k:Nat} (hk:k<(aJ p).length):s.A3.getD k aW.z=gl p o (cutB p (aJ p) k):=by
 rw[h.eq];simp only;rw[mA,nW];have:(cutM p)[k]?=some (cutB p (aJ p) k):=by
  unfold cutM;rw[nW,pi hk];rfl
 rw[this];rfl
theorem Spl.has (b:Int):hasM s b=true↔0≤b∧b<(aJ p).length:=by
 unfold hasM;rw[decide_eq_true_eq];simp only[Zz.len,h.len]
theorem Spl.bounds {k:Nat} (hk:k<(aJ p).length):0≤frB p k∧frB p k<toB p k∧toB p k≤p.Code.length∧p.Code.length≤2000:=by
 have hm:cutB p (aJ p) k∈cutM p:=by
  unfold cutM;exact nK.2 ⟨k,nZ.2 hk,rfl⟩
 have:=g0F h.right _ hm;exact⟨this.1,this.2.1,this.2.2,(dW h.right).2.1⟩
theorem Spl.cells {k:Nat} (hk:k<(aJ p).length) (e:Bool):cu s e (k:Int)=gi e p o (frB p k) (frB p k).toNat (toB p k-frB p k).toNat:=by
 unfold cu bz;rw[if_pos ((h.has _).2 ⟨by omega,by omega⟩),mF,h.blk hk];cases e<;>rfl
theorem Spl.block {k:Nat} (hk:k<(aJ p).length):(bz s (k:Int)).1=frB p k∧(bz s (k:Int)).2.1=toB p k∧(bz s (k:Int)).2.2.1=nxM p (aJ p) (toB p k)∧(bz s (k:Int)).2.2.2.1=tkM p (aJ p) (toB p k):=by
 unfold bz;rw[mF,h.blk hk];exact⟨rfl,rfl,rfl,rfl⟩
theorem Spl.end_ {k:Nat} (hk:k<(aJ p).length) {pos:bc} (hb:pos.A7=(k:Int)) (h0:-1000000000≤pos.D3) (h1:pos.D3≤1000000000000):endM s pos=pos.D3+toB p k-frB p k:=by
 have hbd:=h.bounds hk;unfold endM;rw[hb,if_pos ((h.has _).2 ⟨by omega,by omega⟩),(h.block hk).1,(h.block hk).2.1,wI (x:=pos.D3+toB p k) (by omega) (by omega),wI (by omega) (by omega)]
end
theorem g4e {p:aw} (h:cg p=true):0<(aJ p).length∧frB p 0=0:=by
 have hc:=dW h;have h1:=hc.1;unfold frB aJ iL;obtain⟨m,hm⟩:∃m,p.Code.length=m+1:=⟨p.Code.length-1,by omega⟩
 rw[hm,List.range_succ_eq_map,od (by unfold dY; simp)];exact⟨by simp,rfl⟩
theorem g8H {p:aw} {n:Nat} (hn:n<p.Code.length) (hm:dY p p.Code.length n=true):∃k:Nat,k<(aJ p).length∧frB p k=(n:Int)∧fD (aJ p) (n:Int)=(k:Int):=by
 have hmem:(n:Int)∈aJ p:=by
  unfold aJ iL;exact nK.2 ⟨n,oA.2 ⟨nZ.2 hn,hm⟩,rfl⟩
 have hlt:=oq hmem;refine⟨List.idxOf (n:Int) (aJ p),hlt,?_,?_⟩
 ·
  unfold frB;rw[mA,mC hlt,mj];exact px hlt
 ·
  unfold fD;rw[if_pos hmem]
theorem g4B {p:aw} {k:Nat} (hk:k<(aJ p).length):fD (aJ p) (frB p k)=(k:Int):=by
 have hl:=fm p;unfold fD frB;have hg:(aJ p).getD k 0=(aJ p)[k]:=by rw[mA,mC hk]; rfl
 have hmem:(aJ p).getD k 0∈aJ p:=by rw[hg]; exact oK _
 have hlt:=oq hmem;rw[if_pos hmem];have he:(aJ p).getD (List.idxOf ((aJ p).getD k 0) (aJ p)) 0=(aJ p).getD k 0:=by
  rw[mA,mC hlt,mj];exact px hlt
 have:List.idxOf ((aJ p).getD k 0) (aJ p)=k:=by
  rcases nw (List.idxOf ((aJ p).getD k 0) (aJ p)) k with h | h | h
  ·have:=hl.up _ k h hk; omega
  ·exact h
  ·have:=hl.up k _ h hlt; omega
 rw[this]
theorem g7K {p:aw} (h:cg p=true) {k:Nat} (hk:k<(aJ p).length):(k+1<(aJ p).length∧toB p k=frB p (k+1))∨(k+1=(aJ p).length∧toB p k=p.Code.length):=by
 unfold toB toM frB;by_cases hj:k+1<(aJ p).length
 ·rw[if_pos hj]; exact .inl ⟨hj,rfl⟩
 ·rw[if_neg hj]; exact .inr ⟨by omega,rfl⟩
theorem g5j (p:aw):fD (aJ p) (len p.Code)=-1:=by
 unfold fD;rw[if_neg];intro h;have hl:=fm p;obtain⟨k,hk,e⟩:=List.mem_iff_getElem.1 h;have:=hl.lo k hk;rw[mA,mC hk,mj,e]at this;simp only[len]at this;omega
def gh (ks:List Int) (pc off:Int) (c:ak):Prop:=c.2.2.2.1=pc∧c.2.2.2.2.1=off∧c.1∈ks∧InsK c.1 c.2.1
theorem at_I {ks:List Int} {kd pc off:Int} {i:af} (hk:kd∈ks) (hx:InsK kd i):gh ks pc off (bJ kd i pc off):=⟨rfl,rfl,hk,hx⟩
theorem at_R {ks:List Int} {kd r pc off:Int} (hk:kd∈ks) (h:4<kd):gh ks pc off (aM kd r pc off):=⟨rfl,rfl,hk,d7F (by show kd≠2; omega) (by show kd≠3; omega) (by show kd≠4; omega)⟩
theorem g7C (i:af) (o:List Int) (pc off:Int):(∀c∈(cR i o pc off).1,gh KA pc off c)∧∀c∈(cR i o pc off).2,gh KE pc off c:=by
 unfold cR;cases hr:bC i with
 | false=>rw[if_pos rfl]; exact⟨by simp,by simp⟩
 | true =>
  rw[if_neg (by simp)];obtain⟨hd,_⟩:=iZ hr;have m:∀{ks:List Int} {kd:Int},kd∈ks→4<kd→∀l:List Int,∀c∈l.map (λr=>aM kd r pc off),gh ks pc off c:=by
   intro ks kd hk h l c hc;obtain⟨r,_,rfl⟩:=nK.1 hc;exact at_R hk h
  have n1:∀ks:List Int,1∈ks→gh ks pc off (bJ 1 i pc off):=λks h=>at_I h (d7F (by decide) (by decide) (by decide))
  have n9:∀ks:List Int,9∈ks→gh ks pc off (bJ 9 i pc off):=λks h=>at_I h (d7F (by decide) (by decide) (by decide))
  have one:∀{ks:List Int} {a:ak},gh ks pc off a→∀c∈[a],gh ks pc off c:=by
   intro ks a h c hc;rw[mI.1 hc]; exact h
  have two:∀{ks:List Int} {a b:List ak},(∀c∈a,gh ks pc off c)→(∀c∈b,gh ks pc off c)→∀c∈a++b,gh ks pc off c:=λh g c hc=>(mM.1 hc).elim (h c) (g c)
  have none:∀ks:List Int,∀c∈([]:List ak),gh ks pc off c:=by simp
  split
  ·
   split
   ·exact⟨one (n1 _ (by decide)),none _⟩
   ·exact⟨m (by decide) (by decide) _,two (m (by decide) (by decide) _) (one (n1 _ (by decide)))⟩
  split
  ·
   rename_i h4;have hl:∀kd:Int,kd≠4→InsK kd i:=λkd h=>e7b hd (bt h4) h
   split
   ·exact⟨one (at_I (by decide) (hl 3 (by decide))),one (at_I (by decide) (hl 7 (by decide)))⟩
   ·exact⟨one (at_I (by decide) (hl 2 (by decide))),none _⟩
  split
  ·
   rename_i h5;have hs:InsK 4 i:=e7q (bt h5) (by decide) (by decide);split
   ·exact⟨two (one (at_R (by decide) (by decide))) (one (at_I (by decide) hs)),two (one (at_R (by decide) (by decide))) (one (at_R (by decide) (by decide)))⟩
   ·exact⟨one (at_I (by decide) hs),one (at_R (by decide) (by decide))⟩
  split
  ·
   split
   ·exact⟨one (n9 _ (by decide)),one (at_R (by decide) (by decide))⟩
   ·exact⟨two (m (by decide) (by decide) _) (one (at_R (by decide) (by decide))),two (m (by decide) (by decide) _) (one (n9 _ (by decide)))⟩
  split
  ·exact⟨one (at_R (by decide) (by decide)),one (at_R (by decide) (by decide))⟩
  split
  ·exact⟨one (at_R (by decide) (by decide)),one (at_R (by decide) (by decide))⟩
  ·exact⟨none _,none _⟩
theorem g2v {α β:Type} (f:α→List β) (m:Nat):∀l:List α,(∀a∈l,(f a).length≤m)→(l.flatMap f).length≤m*l.length
 | [],_=>by simp
 | a::l,h=>by
  rw[oP,mD,mP];have h1:=g2v f m l (λb hb=>h b (by simp[hb]));have h2:=h a (by simp);rw[nF];omega
theorem g3X (p:aw) (o:List Int) (f:Int) (k m:Nat):(fG p o f k m).length≤8*m∧(fH p o f k m).length≤8*m:=by
 have hl:(fE p o f k m).length=m:=by unfold fE; simp
 have hm:∀a∈fE p o f k m,a.1.length≤8∧a.2.length≤8:=by
  intro a ha;unfold fE at ha;obtain⟨n,_,rfl⟩:=nK.1 ha;exact g1q _ _ _ _
 constructor
 ·
  have:=g2v (λa:List ak × List ak=>a.1) 8 _ (λa ha=>(hm a ha).1);rw[hl]at this;exact this
 ·
  have:=g2v (λa:List ak × List ak=>a.2) 8 _ (λa ha=>(hm a ha).2);rw[hl]at this;exact this
theorem g7J (p:aw) (o:List Int) {f t:Int} (h0:0≤f) (h1:f<t):jm KA f t (fG p o f f.toNat (t-f).toNat)∧jm KE f t (fH p o f f.toNat (t-f).toNat):=by
 have hl:=g3X p o f f.toNat (t-f).toNat
 have key:∀(ks:List Int) (g:List ak × List ak→List ak),(∀i pc off,∀c∈g (cR i o pc off),gh ks pc off c)→∀c∈(fE p o f f.toNat (t-f).toNat).flatMap g,(f≤c.2.2.2.1∧c.2.2.2.1<t∧c.2.2.2.2.1=c.2.2.2.1-f)∧c.1∈ks∧InsK c.1 c.2.1:=by
  intro ks g hg c hc;obtain⟨a,ha,hc⟩:=List.mem_flatMap.1 hc;unfold fE at ha;obtain⟨n,hn,rfl⟩:=nK.1 ha;obtain⟨e1,e2,e3,e4⟩:=hg _ _ _ c hc;have hn:=List.mem_range'_1.1 hn;rw[e1,e2];exact⟨⟨by omega,by omega,rfl⟩,e3,e4⟩
 have kA:=key KA (·.1) λi pc off=>(g7C i o pc off).1
 have kE:=key KE (·.2) λi pc off=>(g7C i o pc off).2
 exact⟨⟨by have:=hl.1; omega,λc hc=>(kA c hc).1,λc hc=>(kA c hc).2.1,λc hc=>(kA c hc).2.2⟩,⟨by have:=hl.2; omega,λc hc=>(kE c hc).1,λc hc=>(kE c hc).2.1,λc hc=>(kE c hc).2.2⟩⟩
theorem Spl.next {p:aw} {o:List Int} {s:ao} (h:Spl p o s):NextOk s∧dx s.A3:=by
 have g9:dx s.A3:=by
  have hlen:=h.len;have hz:=(g4e h.right).1;have hll:=(fm p).len;have hc2:=(dW h.right).2.1;refine⟨λe=>by rw[e]at hlen; simp at hlen; omega,by omega,λk hk=>?_⟩
  have hk2:k<(aJ p).length:=by omega
  obtain⟨b1,b2,b3,b4⟩:=h.bounds hk2;rw[h.blk hk2];obtain⟨s1,s2⟩:=g7J p o b1 b2;refine⟨b1,b2,by show toB p k≤2000; omega,?_,s1,s2⟩
  show nxM p (aJ p) (toB p k)=-1∨((k:Int)<nxM p (aJ p) (toB p k)∧nxM p (aJ p) (toB p k)<s.A3.length);unfold nxM;split
  ·
   rcases g7K h.right hk2 with⟨g1,g2⟩ | ⟨g1,g2⟩
   ·rw[g2,g4B g1]; omega
   ·rw[g2]; exact .inl (g5j p)
  ·exact .inl rfl
 exact⟨NextOk.of g9,g9⟩
theorem h0I {p:aw} {k:Nat} (hk:k<(aJ p).length) {n:Nat} (h1:frB p k<n) (h2:(n:Int)<toB p k) (hn:n<p.Code.length):dY p p.Code.length n=false:=by
 cases hm:dY p p.Code.length n with
 | false=>rfl
 | true =>
  obtain⟨j,hj,e,_⟩:=g8H hn hm;have hl:=fm p;rcases nw j k with h | h | h
  ·have:=hl.up j k h hk; unfold frB at *; omega
  ·subst h; omega
  ·
   unfold toB toM at h2;rw[if_pos (by omega)]at h2;by_cases e2:j=k+1
   ·subst e2; unfold frB at *; omega
   ·have:=hl.up (k+1) j (by omega) hj; unfold frB at *; omega
theorem g2r {p:aw} {j n:Nat} (hj:j<p.Code.length) (h:hitM p j n=true):dY p p.Code.length n=true:=by
 unfold dY;rw[nq];exact .inr (pY.2 ⟨j,nZ.2 hj,h⟩)
theorem h0u {p:aw} {k:Nat} (hk:k<(aJ p).length) {n:Nat} (h1:frB p k≤n) (h2:(n:Int)+1<toB p k) (hn:n+1<p.Code.length):gn (aQ p n)=false:=by
 cases he:gn (aQ p n) with
 | false=>rfl
 | true =>
  have:=h0I hk (n:=n+1) (by omega) (by omega) hn;have h3:=g2r (p:=p) (j:=n) (n:=n+1) (by omega) (by unfold hitM; rw[he]; simp);rw[this]at h3;cases h3
theorem g8G {s:ao} (h:NextOk s) (e:Bool):∀(n:Nat) (p:bc),hasM s p.A7=true→s.A3.length-p.A7.toNat≤n→bL s e (n+1) p=bL s e n p
 | 0,p,hp,hn=>by
  have:=fq.1 hp;omega
 | n+1,p,hp,hn=>by
  rw[bL]
  conv=>rhs; rw[bL]
  have hnb:¬(hasM s p.A7=false):=by rw[hp]; simp
  rw[if_neg hnb,if_neg hnb];by_cases h1:p.B3<len (cu s e p.A7)
  ·rw[if_pos h1,if_pos h1]
  rw[if_neg h1,if_neg h1];by_cases h2:(bz s p.A7).2.2.1<0
  ·rw[if_pos h2,if_pos h2]
  rw[if_neg h2,if_neg h2];rcases h p.A7 hp with h3 | ⟨h3,h4⟩
  ·exact absurd h3 h2
  have h5:=fq.1 h4;have h6:=fq.1 hp;exact g8G h e n _ h4 (by simp only; omega)
theorem g3w {s:ao} {e:Bool} {p:bc} (hp:hasM s p.A7=true) (h:p.B3<len (cu s e p.A7)):kx s e p=(p,false):=by
 have h0:=fq.1 hp;obtain⟨k,hk⟩:∃k,s.A3.length=k+1:=⟨s.A3.length-1,by omega⟩
 unfold kx;rw[hk,bL,if_neg (by rw[hp]; simp),if_pos h]
theorem g9I {s:ao} (hn:NextOk s) {e:Bool} {p:bc} (hp:hasM s p.A7=true) (h:¬p.B3<len (cu s e p.A7)) (h2:¬(bz s p.A7).2.2.1<0):kx s e p=kx s e ⟨(bz s p.A7).2.2.1,0,endM s p⟩:=by
 have h0:=fq.1 hp;obtain⟨k,hk⟩:∃k,s.A3.length=k+1:=⟨s.A3.length-1,by omega⟩
 rcases hn p.A7 hp with h3 | ⟨h3,h4⟩
 ·exact absurd h3 h2
 have h5:=fq.1 h4;unfold kx;rw[hk]
 conv=>lhs; rw[bL]
 rw[if_neg (by rw[hp]; simp),if_neg h,if_neg h2];exact (g8G hn e k _ h4 (by simp only; omega)).symm
theorem g9J {s:ao} {e:Bool} {p:bc} (hp:hasM s p.A7=true) (h:¬p.B3<len (cu s e p.A7)) (h2:(bz s p.A7).2.2.1<0):kx s e p=(p,true):=by
 have h0:=fq.1 hp;obtain⟨k,hk⟩:∃k,s.A3.length=k+1:=⟨s.A3.length-1,by omega⟩
 unfold kx;rw[hk,bL,if_neg (by rw[hp]; simp),if_neg h,if_pos h2]
def posM (p:aw) (o:List Int) (e:Bool) (k n j:Nat) (st:Int):bc:=⟨(k:Int),((gi e p o (frB p k) (frB p k).toNat (n-(frB p k).toNat)).length+j:Nat),st-((n:Int)-frB p k)⟩
section
variable {p:aw} {o:List Int} {s:ao} (h:Spl p o s)
include h
theorem Spl.parts {k n:Nat} (hk:k<(aJ p).length) (h1:frB p k≤n) (h2:(n:Int)<toB p k) (e:Bool) :
  cu s e (k:Int)=gi e p o (frB p k) (frB p k).toNat (n-(frB p k).toNat)++(emS e (aQ p n) o (n:Int) ((n:Int)-frB p k)++gi e p o (frB p k) (n+1) (toB p k-n-1).toNat):=by
 have hb:=h.bounds hk;rw[h.cells hk e,show (toB p k-frB p k).toNat=(n-(frB p k).toNat)+((toB p k-n-1).toNat+1) by omega,g1R,show (frB p k).toNat+(n-(frB p k).toNat)=n by omega,f8C]
theorem Spl.at_cell {k n j:Nat} (hk:k<(aJ p).length) (h1:frB p k≤n) (h2:(n:Int)<toB p k) (e:Bool) (st:Int) (hj:j<(emS e (aQ p n) o (n:Int) ((n:Int)-frB p k)).length) :
  kx s e (posM p o e k n j st)=(posM p o e k n j st,false)∧fW s e (posM p o e k n j st)=(emS e (aQ p n) o (n:Int) ((n:Int)-frB p k)).getD j ak.z:=by
 have hc:=h.parts hk h1 h2 e;refine⟨g3w ((h.has _).2 ⟨by unfold posM; simp only; omega,by unfold posM; simp only; omega⟩) ?_,?_⟩
 ·
  show ((_:Nat):Int)<Zz.len (cu s e (k:Int));rw[hc];simp only[Zz.len,mD];omega
 ·
  unfold fW posM;simp only[mF];rw[hc,mA,mU (by omega),ni,mW hj,mA]
theorem Spl.go_on {k n:Nat} (hk:k<(aJ p).length) (h1:frB p k≤n) (h2:(n:Int)<toB p k) (e:Bool) (st:Int) (hst:0≤st) (hst2:st≤1000000000) (hj:(aQ p n).1≠40) (hh:(aQ p n).1≠41) :
  ∃k':Nat,k'<(aJ p).length∧frB p k'≤(n+1:Nat)∧(((n+1:Nat):Int)<toB p k'∨(((n+1:Nat):Int)=p.Code.length∧toB p k'=p.Code.length∧k'+1=(aJ p).length)) ∧
   kx s e (posM p o e k n (emS e (aQ p n) o (n:Int) ((n:Int)-frB p k)).length st)=kx s e (posM p o e k' (n+1) 0 (st+1)):=by
 have hb:=h.bounds hk;have hlen:(gi e p o (frB p k) (frB p k).toNat (n-(frB p k).toNat)).length+(emS e (aQ p n) o (n:Int) ((n:Int)-frB p k)).length=(gi e p o (frB p k) (frB p k).toNat (n+1-(frB p k).toNat)).length:=by
  rw[show n+1-(frB p k).toNat=(n-(frB p k).toNat)+1 by omega,g1R,show (frB p k).toNat+(n-(frB p k).toNat)=n by omega,f8C,g1j,mJ,mD]
 have hpos:posM p o e k n (emS e (aQ p n) o (n:Int) ((n:Int)-frB p k)).length st=posM p o e k (n+1) 0 (st+1):=by
  unfold posM;rw[hlen];simp only[nS,bc.mk.injEq,true_and];omega
 rw[hpos];by_cases hin:((n+1:Nat):Int)<toB p k
 ·exact⟨k,hk,by omega,.inl hin,rfl⟩
 have ht:toB p k=((n+1:Nat):Int):=by omega
 rcases g7K h.right hk with⟨hk1,e1⟩ | ⟨hk1,e1⟩
 ·
  have hb1:=h.bounds hk1;refine⟨k+1,hk1,by omega,.inl (by omega),?_⟩
  have hc:=h.cells hk e;have hx:(toB p k-frB p k).toNat=n+1-(frB p k).toNat:=by omega
  have hhas:hasM s ((posM p o e k (n+1) 0 (st+1)).A7)=true:=(h.has _).2 ⟨by unfold posM; simp only; omega,by unfold posM; simp only; omega⟩
  have hnx:(bz s (k:Int)).2.2.1=((k+1:Nat):Int):=by
   rw[(h.block hk).2.2.1];unfold nxM;rw[show (toB p k-1).toNat=n by omega,if_pos ⟨hj,hh⟩,e1,g4B hk1]
  have hn:NextOk s:=h.next.1
  rw[g9I hn hhas (by show ¬(((_:Nat):Int)<Zz.len (cu s e (k:Int))); rw[hc,hx]; simp only[Zz.len]; omega) (by show ¬((bz s (k:Int)).2.2.1<0); rw[hnx]; omega)];congr 1;have he:=h.end_ hk (pos:=posM p o e k (n+1) 0 (st+1)) rfl (by unfold posM; simp only; omega) (by unfold posM; simp only; omega);rw[he];unfold posM;simp only;rw[hnx,← e1,show n+1-(toB p k).toNat=0 by omega,g1j];simp only[ma,nS,nD,bc.mk.injEq,true_and];omega
 ·exact⟨k,hk,by omega,.inr ⟨by omega,e1,hk1⟩,rfl⟩
end
def emAt (p:aw) (o:List Int) (e:Bool) (pc:Nat) (off:Int):List ak:=emS e (aQ p pc) o (pc:Int) off
theorem g4N (e:Bool) (i:af) (o:List Int) (pc off off':Int):(emS e i o pc off).length=(emS e i o pc off').length:=by
 unfold emS cR;cases e<;>(simp only[mN,if_false,if_true]; repeat' split)<;>simp
def WAt (p:aw) (o:List Int) (s:ao) (e:Bool) (pc n j:Nat) (pos:bc):Prop :=
 ∃k:Nat,k<(aJ p).length∧frB p k≤pc∧((pc:Int)<toB p k∨((pc:Int)=p.Code.length∧toB p k=p.Code.length∧k+1=(aJ p).length))∧kx s e pos=kx s e (posM p o e k pc j n)
section
variable {p:aw} {o:List Int} {s:ao} {e:Bool} {pc n j:Nat} {pos:bc} (h:Spl p o s)
include h
theorem Spl.first:WAt p o s e 0 0 0 ⟨0,0,0⟩:=by
 obtain⟨h1,h2⟩:=g4e h.right;have hb:=h.bounds h1;refine⟨0,h1,by omega,.inl (by omega),?_⟩
 unfold posM;rw[h2];simp[g1j]
theorem WAt.lt (hw:WAt p o s e pc n j pos):pc≤p.Code.length:=by
 obtain⟨k,hk,h1,h2,h3⟩:=hw;have hb:=h.bounds hk;omega
theorem WAt.cell (hw:WAt p o s e pc n j pos) (hpc:pc<p.Code.length) (hn:n≤1000000000) (hj:j<(emAt p o e pc 0).length) :
  ∃k:Nat,k<(aJ p).length∧frB p k≤pc∧(pc:Int)<toB p k∧kx s e pos=(posM p o e k pc j n,false)∧aT s e pos=((emAt p o e pc ((pc:Int)-frB p k)).getD j ak.z,(n:Int),true):=by
 obtain⟨k,hk,h1,h2,h3⟩:=hw;have hb:=h.bounds hk;have h2:(pc:Int)<toB p k:=by omega
 have hj':j<(emS e (aQ p pc) o (pc:Int) ((pc:Int)-frB p k)).length:=by
  rw[g4N e _ o _ _ 0]; exact hj
 obtain⟨g1,g2⟩:=h.at_cell hk h1 h2 e n hj';refine⟨k,hk,h1,h2,h3.trans g1,?_⟩;unfold aT;rw[h3,g1];simp only[g2];rw[if_neg (by rintro (h | h); cases h; unfold posM at h; simp only at h; omega)];have hoff:((emS e (aQ p pc) o (pc:Int) ((pc:Int)-frB p k)).getD j ak.z).2.2.2.2.1=(pc:Int)-frB p k:=by
  rw[mA,mC hj',mj];have hm:=oK hj';generalize (emS e (aQ p pc) o (pc:Int) ((pc:Int)-frB p k))[j]=c at hm;unfold emS cR at hm
  revert hm
  cases e<;>simp only[mN,if_false,if_true]<;>(repeat' split)<;>simp only[mV,mM,nK,List.not_mem_nil,or_false,false_or]<;>intro hm
  all_goals first | exact hm.elim | (rcases hm with rfl | rfl<;>rfl) | (subst hm; rfl) | (rcases hm with⟨r,_,rfl⟩ | rfl<;>rfl) | (obtain⟨r,_,rfl⟩:=hm; rfl)
 rw[hoff];have:w.i64 ((posM p o e k pc j n).D3+((pc:Int)-frB p k))=(n:Int):=by
  unfold posM;simp only;rw[wI (by omega) (by omega)];omega
 rw[this];rfl
theorem WAt.step (hw:WAt p o s e pc n j pos) (hpc:pc<p.Code.length) (hn:n≤1000000000) (hj:j<(emAt p o e pc 0).length):WAt p o s e pc n (j+1) (goM s (kx s e pos).1 false):=by
 obtain⟨k,hk,h1,h2,h3,_⟩:=WAt.cell h hw hpc hn hj;have hb:=h.bounds hk;refine⟨k,hk,h1,.inl h2,?_⟩;rw[h3];unfold goM;rw[if_neg (by simp)];have hl:(posM p o e k pc j n).B3≤100000:=by
  have hc:=(h.next).2.blk k (by rw[h.len]; exact hk);have hcm:=h.parts hk h1 h2 e;have hlen:=congrArg List.length hcm;simp only[mD]at hlen;unfold posM;simp only;have hj':j<(emS e (aQ p pc) o (pc:Int) ((pc:Int)-frB p k)).length:=by rw[g4N e _ o _ _ 0]; exact hj
  have hsp:((cu s e (k:Int)).length:Int)≤8*((s.A3.getD k aW.z).2.1-(s.A3.getD k aW.z).1):=by
   unfold cu bz;rw[if_pos ((h.has _).2 ⟨by omega,by omega⟩),mF];cases e
   ·exact hc.2.2.2.2.1.len
   ·exact hc.2.2.2.2.2.len
  omega
 have:w.i64 ((posM p o e k pc j n).B3+1)=(posM p o e k pc j n).B3+1:=wI (by unfold posM; simp only; omega) (by omega);rw[this];rfl
theorem WAt.on (hw:WAt p o s e pc n (emAt p o e pc 0).length pos) (hpc:pc<p.Code.length) (hn:n≤1000000000) (h40:(aQ p pc).1≠40) (h41:(aQ p pc).1≠41):WAt p o s e (pc+1) (n+1) 0 pos:=by
 obtain⟨k,hk,h1,h2,h3⟩:=hw;have hb:=h.bounds hk;obtain⟨k',g1,g2,g3,g4⟩:=h.go_on hk h1 (by omega) e (n:Int) (by omega) (by omega) h40 h41;refine⟨k',g1,g2,g3.imp id (λh=>h),?_⟩;rw[h3];have:(emAt p o e pc 0).length=(emS e (aQ p pc) o (pc:Int) ((pc:Int)-frB p k)).length:=g4N e _ o _ _ _;rw[this,g4];rfl
theorem WAt.go (hw:WAt p o s e pc n j pos) (hpc:pc<p.Code.length) (hn:n≤1000000000) (hj:j<(emAt p o e pc 0).length) (hbr:brM (aQ p pc)=true):0≤tgtM p (pc:Int)∧WAt p o s e (tgtM p (pc:Int)).toNat (n+1) 0 (goM s (kx s e pos).1 true):=by
 have hr:=h.right;have ht:0≤tgtM p (pc:Int):=by
  unfold cg kL at hr;simp only[mE]at hr;have:=mz.1 hr.2.2 pc (qL.2 ⟨pc,hpc,by omega⟩);unfold fh at this;rw[hbr]at this;simp only[mO,mu,decide_eq_false_iff_not]at this;omega
 have htl:=g3t ht;refine⟨ht,?_⟩;obtain⟨k,hk,h1,h2,h3,_⟩:=WAt.cell h hw hpc hn hj;have hb:=h.bounds hk;have hends:gn (aQ p pc)=true:=by
  unfold brM at hbr;have:=of_decide_eq_true hbr;unfold gn;exact decide_eq_true (by omega)
 have hto:toB p k=(pc:Int)+1:=by
  by_cases hx:(pc:Int)+1<toB p k
  ·
   have:=h0u hk h1 hx (by omega);rw[hends]at this;cases this
  ·omega
 obtain⟨t,hte⟩:∃t:Nat,tgtM p (pc:Int)=(t:Int):=⟨(tgtM p (pc:Int)).toNat,by omega⟩
 have hm:dY p p.Code.length t=true:=g2r hpc (by unfold hitM; rw[hte]; simp);obtain⟨k',g1,g2,g3⟩:=g8H (by omega) hm;have hb':=h.bounds g1;have htk:(bz s (k:Int)).2.2.2.1=(k':Int):=by
  rw[(h.block hk).2.2.2];unfold tkM;rw[hto,show (pc:Int)+1-1=(pc:Int) by omega,if_pos ht,hte,g3]
 rw[hte,mF];refine⟨k',g1,by omega,.inl (by omega),?_⟩
 rw[h3];have hend:=h.end_ hk (pos:=posM p o e k pc j n) rfl (by unfold posM; simp only; omega) (by unfold posM; simp only; omega);have hg:goM s (posM p o e k pc j n) true=posM p o e k' t 0 ((n+1:Nat):Int):=by
  have hB:(posM p o e k pc j n).A7=(k:Int):=rfl;unfold goM;rw[hB,htk,if_pos ⟨rfl,(h.has _).2 ⟨by omega,by omega⟩,(h.has _).2 ⟨by omega,by omega⟩⟩,hend];unfold posM;rw[g2,show t-((t:Int)).toNat=0 by omega,g1j];simp only[ma,nS,nD,bc.mk.injEq,true_and];omega
 rw[hg]
theorem WAt.fell (hw:WAt p o s e p.Code.length n 0 pos) (hn:n≤1000000000) (h40:(aQ p (p.Code.length-1)).1=40→False) (h41:(aQ p (p.Code.length-1)).1=41→False) :
  ∃q:bc,kx s e pos=(q,true)∧aT s e pos=(ak.z,(n:Int),false)∧(bz s q.A7).2.1=p.Code.length:=by
 obtain⟨k,hk,h1,h2,h3⟩:=hw;have hb:=h.bounds hk;have h2:toB p k=p.Code.length:=by omega
 have hhas:hasM s ((posM p o e k p.Code.length 0 n).A7)=true:=(h.has _).2 ⟨by unfold posM; simp only; omega,by unfold posM; simp only; omega⟩
 have hc:=h.cells hk e;have hnx:(bz s (k:Int)).2.2.1=-1:=by
  rw[(h.block hk).2.2.1,h2];unfold nxM;split
  ·
   unfold fD;rw[if_neg];intro hm;obtain⟨i,hi,e⟩:=nC hm;have:=(fm p).lo i hi;rw[mA,mC hi,mj,e]at this;omega
  ·rfl
 have hs:kx s e (posM p o e k p.Code.length 0 n)=(posM p o e k p.Code.length 0 n,true):=by
  refine g9J hhas ?_ (by unfold posM; simp only; rw[hnx]; omega);unfold posM;simp only;rw[hc,show (toB p k-frB p k).toNat=p.Code.length-(frB p k).toNat by omega];simp only[len];omega
 have hend:=h.end_ hk (pos:=posM p o e k p.Code.length 0 n) rfl (by unfold posM; simp only; omega) (by unfold posM; simp only; omega);refine⟨_,h3.trans hs,?_,?_⟩
 ·
  unfold aT;rw[h3,hs,if_pos (.inl rfl),hend];unfold posM;simp only[mb,true_and,and_true];omega
 ·exact (h.block hk).2.1.trans h2
end
end Go.Proofs.Zz
