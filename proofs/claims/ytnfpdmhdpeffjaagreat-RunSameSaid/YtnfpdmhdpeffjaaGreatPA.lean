import Derived.Test.YtnfpdmhdpeffjaaGreatXA
import Derived.Test.YtnfpdmhdpeffjaaGreatK9
import Derived.Test.YtnfpdmhdpeffjaaGreatK12
import Derived.Test.YtnfpdmhdpeffjaaGreatVK
set_option linter.unusedSimpArgs false
set_option linter.unusedVariables false
set_option maxRecDepth 100000
namespace Go.Proofs.Zz
open Go
variable {N:Nat}
theorem ic {α:Type} {l:List α} {i:Nat} (h:i<l.length) (z:α):l.drop i=l.getD i z::l.drop (i+1):=by
 rw[mS h,mA,mC h]; rfl
theorem g5i (a b c:Int):f6C N a b c=some (0,gB.dv (decide (1≤a∧a≤2000∧0≤b∧b≤65536∧c≤b)) []):=by
 unfold f6C;by_cases h1:a≥1
 ·
  rw[dt h1,ai];by_cases h2:a≤2000
  ·
   rw[dt h2,ai];by_cases h3:b≥0
   ·
    rw[dt h3,ai];by_cases h4:b≤65536
    ·
     rw[dt h4,ai];refine retB ?_;rw[md];simp only[decide_eq_true_eq];omega
    ·rw[df h4,ah,df (by omega)]
   ·rw[df h3,ah,df (by omega)]
  ·rw[df h2,ah,df (by omega)]
 ·rw[df h1,ah,df (by omega)]
theorem g4b (l:List af) (hl:l.length≤100000):∀(n i:Nat),i≤l.length→l.length-i<n →
  ((l.drop i).all bC=false∧∃r:Int,0≤r∧jX N n l (len l) (i:Int)=some (0,gI.dv r []))∨((l.drop i).all bC=true∧jX N n l (len l) (i:Int)=some (1,[])):=by
 intro n;induction n with
 | zero=>intro i h1 h2; omega
 | succ n ih =>
  intro i h1 h2;show (_∧∃r:Int,0≤r∧f2p N (jX N n) l (len l) (i:Int)=_)∨(_∧f2p N (jX N n) l (len l) (i:Int)=_);unfold f2p f6L;by_cases hi:i<l.length
  ·
   have hrec:=ih (i+1) (by omega) (by omega);rw[bV hi,ai,bI hi,aH,mF,b6S,au,ag,aj,au,ag,aj,ic hi af.z,mt,wS (show i≤100000000 by omega)];cases bC (l.getD i af.z) with
   | false=>rw[mn,ai,mZ]; exact .inl ⟨rfl,_,oB _,rfl⟩
   | true=>rw[mR,ah,mO]; exact hrec
  ·
   have:i=l.length:=by omega
   subst this;rw[ce (by omega),ah,mi];exact .inr ⟨rfl,rfl⟩
theorem g5c (l:List af) (hl:l.length≤2000) (hN:2000<N):f2H N l=some (0,gB.dv (!l.all bC) []):=by
 unfold f2H f3C;rcases g4b (N:=N) l (by omega) N 0 (by omega) (by omega) with⟨h1,r,hr,h⟩ | ⟨h1,h⟩
 ·
  rw[mX]at h1;rw[show jX N N l (len l) 0=_ from h,dF,ag,aj,au,ag,aj,h1,dt (show r≥0 from hr)];rfl
 ·
  rw[mX]at h1;rw[show jX N N l (len l) 0=_ from h,dH _ _ (by decide),aj,au,ag,aj,h1];rfl
theorem f5I (p:aw) (n:Nat) (hn:n<p.Code.length):gF N p (n:Int)=some (0,gI.dv (w.i64 ((n:Int)+(aQ p n).2.2.2.2.1)) (gB.dv (brM (aQ p n)) [])):=by
 unfold gF;rw[bI hn,aH,iA,au,ag,aj,aH,mF];show bi (ae (aQ p n).1==6) (some (0,gI.dv (w.i64 ((n:Int)+(aQ p n).2.2.2.2.1)) (gB.dv true []))) (some (0,gI.dv (w.i64 ((n:Int)+(aQ p n).2.2.2.2.1)) (gB.dv (ae (aQ p n).1==7) [])))=_;unfold brM;by_cases h6:ae (aQ p n).1=6
 ·rw[bt h6,ai,dt (.inl h6)]
 ·
  rw[bf h6,ah];by_cases h7:ae (aQ p n).1=7
  ·rw[bt h7,dt (.inr h7)]
  ·rw[bf h7,df (by omega)]
theorem g5p {i:af} (h:bC i=true) (hb:brM i=true):-8192≤i.2.2.2.2.1∧i.2.2.2.2.1≤8191:=by
 unfold brM at hb;have hb:=of_decide_eq_true hb;unfold bC at h;simp only[mE]at h;have h5:=h.2;unfold ew jM loM hiM at h5;have hop:¬(i.1=22∨i.1=23∨i.1=24):=by
  intro ho;have:ae i.1=2:=by
   rcases ho with ho | ho | ho<;>rw[ho]<;>rfl
  omega
 rw[if_pos (decide_eq_true (by omega)),if_neg hop,if_neg hop]at h5;exact of_decide_eq_true h5
theorem g4D {p:aw} {n:Nat} (hn:n<p.Code.length) (hr:bC (aQ p n)=true):fh p n=true↔(brM (aQ p n)=true→-(n:Int)≤(aQ p n).2.2.2.2.1∧(aQ p n).2.2.2.2.1<(p.Code.length:Int)-n):=by
 unfold fh tgtM;rw[mF];cases hb:brM (aQ p n) with
 | false=>simp
 | true =>
  have hi:=g5p hr hb;simp only[mO,mu,decide_eq_false_iff_not,true_and,forall_const,len];constructor
  ·
   intro h;by_cases hc:-8192≤(aQ p n).2.2.2.2.1∧(aQ p n).2.2.2.2.1≤8191∧0≤(n:Int)+(aQ p n).2.2.2.2.1∧(n:Int)+(aQ p n).2.2.2.2.1<(p.Code.length:Int)
   ·omega
   ·rw[if_neg hc]at h; omega
  ·
   intro h;rw[if_pos (by omega)];omega
theorem f9e (p : aw) (hl : p.Code.length ≤ 2000) (hr : p.Code.all bC = true) : ∀ (n i : Nat), i ≤ p.Code.length → p.Code.length - i < n →
    f3l N n p.Code (len p.Code) (i : Int) p = if (List.range' i (p.Code.length - i)).all (fh p) = true then some (1, []) else some (0, gI.dv 4 []) := by
  intro n
  induction n with
  | zero => intro i h1 h2; omega
  | succ n ih =>
    intro i h1 h2
    show f3I N (f3l N n) p.Code (len p.Code) (i : Int) p = _
    unfold f3I
    by_cases hi : i < p.Code.length
    · have hrec := ih (i + 1) (by omega) (by omega)
      have hri : bC (aQ p i) = true := mz.1 hr _ (ck _ hi)
      have hok := g4D hi hri
      rw [show p.Code.length - i = (p.Code.length - (i + 1)) + 1 by omega, nR, mt, bV hi, ai, bI hi, aH, f5I p i hi, au, ag, ag, aj, wS (show i ≤ 100000000 by omega), mF, hrec]
      rw [show p.Code.getD i af.z = aQ p i from rfl, wI (x := 0 - (i : Int)) (by omega) (by omega), wI (x := len p.Code - (i : Int)) (by simp only [len]; omega) (by simp only [len]; omega)]
      cases hb : brM (aQ p i) with
      | false =>
        have : fh p i = true := hok.2 (fun h => by rw [hb] at h; cases h)
        rw [ah, this, mO]
      | true =>
        rw [ai]
        by_cases c1 : (aQ p i).2.2.2.2.1 < 0 - (i : Int)
        · have : fh p i = false := by
            cases ht : fh p i with
            | false => rfl
            | true => have := hok.1 ht hb; omega
          rw [dt c1, ai, this, mZ, if_neg (by simp)]
        · rw [df c1, ah]
          by_cases c2 : (aQ p i).2.2.2.2.1 ≥ len p.Code - (i : Int)
          · have : fh p i = false := by
              cases ht : fh p i with
              | false => rfl
              | true => have := hok.1 ht hb; simp only [len] at c2; omega
            rw [dt c2, ai, this, mZ, if_neg (by simp)]
          · have : fh p i = true := hok.2 (fun _ => by simp only [len] at c2; omega)
            rw [df c2, ah, this, mO]
    · have : i = p.Code.length := by omega
      subst this
      rw [ce (by omega), ah, oT]
      rfl
theorem f6b (p:aw) (hN:2000<N):f4F N p=some (0,gB.dv (cg p) []):=by
 unfold f4F cg;rw[g5i,au,ag,aj];by_cases hs:1≤len p.Code∧len p.Code≤2000∧0≤p.B8∧p.B8≤65536∧len p.D1≤p.B8
 ·
  have hl:p.Code.length≤2000:=by have:=hs.2.1; simp only[len]at this; omega
  rw[dt hs,ai,dt (show 1≤p.Code.length∧p.Code.length≤2000∧0≤p.B8∧p.B8≤65536∧len p.D1≤p.B8 by simp only[len]at hs ⊢; omega),mO,g5c _ hl hN,au,ag,aj,Bool.not_not];cases hr:p.Code.all bC with
  | false=>rw[ah,mZ]
  | true =>
   have h:=f9e (N:=N) p hl hr N 0 (by omega) (by omega);rw[ai,mO];unfold f6H kL;rw[show f3l N N p.Code (len p.Code) 0 p=_ from h,oD];cases (List.range' 0 p.Code.length).all (fh p) with
   | true=>rw[if_pos rfl,dH _ _ (by decide),aj,au,ag,aj]; rfl
   | false=>rw[if_neg (by simp),dF,ag,aj,au,ag,aj]; rfl
 ·rw[df hs,ah,df (by simp only[len]at hs ⊢; omega),mZ]
theorem g3q (l:List Int) (hl:l.length≤100):∀(n i:Nat),i≤l.length→l.length-i<n →
  ((l.drop i).any (λv=>decide (v≠1∧v≠2))=true∧∃r:Int,0≤r∧jV N n l (len l) (i:Int)=some (0,gI.dv r []))∨((l.drop i).any (λv=>decide (v≠1∧v≠2))=false∧jV N n l (len l) (i:Int)=some (1,[])):=by
 intro n;induction n with
 | zero=>intro i h1 h2; omega
 | succ n ih =>
  intro i h1 h2;show (_∧∃r:Int,0≤r∧f2y N (jV N n) l (len l) (i:Int)=_)∨(_∧f2y N (jV N n) l (len l) (i:Int)=_);unfold f2y;by_cases hi:i<l.length
  ·
   have hrec:=ih (i+1) (by omega) (by omega);have ho:f4L N (l.getD i 0)=some (0,gB.dv (decide (l.getD i 0≠1∧l.getD i 0≠2)) []):=by
    unfold f4L;by_cases h1:l.getD i 0=1
    ·rw[show (l.getD i 0 != 1)=false by rw[h1]; rfl,ah,df (by omega)]
    ·
     rw[show (l.getD i 0 != 1)=true from bne_iff_ne.2 h1,ai];by_cases h2:l.getD i 0=2
     ·rw[show (l.getD i 0 != 2)=false by rw[h2]; rfl,df (by omega)]
     ·rw[show (l.getD i 0 != 2)=true from bne_iff_ne.2 h2,dt ⟨h1,h2⟩]
   rw[bV hi,ai,bI hi,aH,mF,ho,au,ag,aj,ic hi 0,ny,wS (show i≤100000000 by omega)];cases decide (l.getD i 0≠1∧l.getD i 0≠2) with
   | true=>rw[ai,oE]; exact .inl ⟨rfl,_,oB _,rfl⟩
   | false=>rw[ah,nH]; exact hrec
  ·
   have:i=l.length:=by omega
   subst this;rw[ce (by omega),ah,mi];exact .inr ⟨rfl,rfl⟩
theorem g4K (l:List Int) (hl:l.length≤100) (hN:2000<N):f2O N l=some (0,gB.dv (l.any λv=>decide (v≠1∧v≠2)) []):=by
 unfold f2O f4h;rcases g3q (N:=N) l hl N 0 (by omega) (by omega) with⟨h1,r,hr,h⟩ | ⟨h1,h⟩
 ·
  rw[mX]at h1;rw[show jV N N l (len l) 0=_ from h,dF,ag,aj,au,ag,aj,h1,dt (show r≥0 from hr)]
 ·
  rw[mX]at h1;rw[show jV N N l (len l) 0=_ from h,dH _ _ (by decide),aj,au,ag,aj,h1];rfl
theorem g4O (l o:List Int) (hl:l.length≤100) (hb:∀x∈l,1≤x∧x≤15):∀(n i:Nat),i≤l.length→l.length-i<n →
  ((l.drop i).any (onEM o)=true∧∃r:Int,0≤r∧jU N n l (len l) (i:Int) o=some (0,gI.dv r ((gD (.ar 16 tI)).dv o [])))∨((l.drop i).any (onEM o)=false∧jU N n l (len l) (i:Int) o=some (1,(gD (.ar 16 tI)).dv o [])):=by
 intro n;induction n with
 | zero=>intro i h1 h2; omega
 | succ n ih =>
  intro i h1 h2;show (_∧∃r:Int,0≤r∧f2w N (jU N n) l (len l) (i:Int) o=_)∨(_∧f2w N (jU N n) l (len l) (i:Int) o=_);unfold f2w;by_cases hi:i<l.length
  ·
   have hrec:=ih (i+1) (by omega) (by omega);have hm:=hb _ (ck 0 hi);have ho:f6J N (l.getD i 0) o=some (0,gB.dv (onEM o (l.getD i 0)) ((gD (.ar 16 tI)).dv o [])):=by
    unfold f6J onEM;rw[cd (by omega) (by omega),aH,dt (show l.getD i 0>0 by omega),mO]
   rw[bV hi,ai,bI hi,aH,mF,ho,au,ag,ag,aj,ic hi 0,ny,wS (show i≤100000000 by omega)];cases onEM o (l.getD i 0) with
   | true=>rw[ai,oE]; exact .inl ⟨rfl,_,oB _,rfl⟩
   | false=>rw[ah,nH]; exact hrec
  ·
   have:i=l.length:=by omega
   subst this;rw[ce (by omega),ah,mi];exact .inr ⟨rfl,rfl⟩
theorem g0h (i:af) (o:List Int) (hN:2000<N):f6o N i o=some (0,gB.dv (bY o (aY i)) []):=by
 unfold f6o f3q f4p bY;have hl:=iD i;rw[d3B,au,ag,aj];rcases g4O (N:=N) (aY i) o (by omega) (eF i) N 0 (by omega) (by omega) with⟨h1,r,hr,h⟩ | ⟨h1,h⟩
 ·
  rw[mX]at h1;rw[show jU N N (aY i) (len (aY i)) 0 o=_ from h,dF,ag,ag,aj,au,ag,ag,aj,au,ag,ag,aj,h1,dt (show r≥0 from hr)]
 ·
  rw[mX]at h1;rw[show jU N N (aY i) (len (aY i)) 0 o=_ from h,dH _ _ (by decide),ag,aj,au,ag,ag,aj,au,ag,ag,aj,h1];rfl
theorem g0y (i:af):f5p N i=some (0,gB.dv (decide (ae i.1=4∨ae i.1=5)) []):=by
 unfold f5p;rw[iA,au,ag,aj];by_cases h4:ae i.1=4
 ·rw[bt h4,ai,dt (.inl h4)]
 ·
  rw[bf h4,ah];by_cases h5:ae i.1=5
  ·rw[bt h5,dt (.inr h5)]
  ·rw[bf h5,df (by omega)]
theorem f7k (i:af):f3v N i=some (0,gB.dv (decide (1≤ae i.1∧ae i.1≤3)) []):=by
 unfold f3v;rw[iA,au,ag,aj];by_cases h1:ae i.1≥1
 ·
  rw[dt h1,ai];refine retB ?_;rw[md];simp only[decide_eq_true_eq];omega
 ·rw[df h1,ah,df (by omega)]
theorem g1E (i : af) (o : List Int) (h0 : o.getD 0 0 = 0) (hr : bC i = true) (hN : 2000 < N) : f6U N i o = some (0, gB.dv (badI o i) []) := by
  obtain ⟨⟨d0, d1⟩, ⟨a0, a1⟩, _⟩ := iZ hr
  unfold f6U badI onEM
  simp only [g0y, f7k, g0h i o hN, au, ag, aj, cd (i := i.2.2.1) (n := 16) a0 (by omega), cd (i := i.2.1) (n := 16) d0 (by omega), aH]
  generalize bY o (aY i) = a
  generalize hf : ae i.1 = f
  have hA : i.2.2.1 = 0 ∨ 0 < i.2.2.1 := by omega
  have hD : i.2.1 = 0 ∨ 0 < i.2.1 := by omega
  have tail : bi (decide (1 ≤ f ∧ f ≤ 3)) (bi (o.getD i.2.1.toNat 0 == 1) (some (0, gB.dv a [])) (some (0, gB.dv false []))) (some (0, gB.dv false [])) = (some (0, gB.dv (decide (1 ≤ f ∧ f ≤ 3 ∧ 0 < i.2.1 ∧ o.getD i.2.1.toNat 0 = 1) && a) []) : Option Rs) := by
    by_cases h1 : 1 ≤ f ∧ f ≤ 3
    · rw [dt h1, ai]
      by_cases h2 : o.getD i.2.1.toNat 0 = 1
      · have : 0 < i.2.1 := by
          rcases hD with h | h
          · rw [h] at h2; simp only [Int.toNat_zero] at h2; omega
          · exact h
        rw [bt h2, ai, dt ⟨h1.1, h1.2, this, h2⟩, mO]
      · rw [bf h2, ah, df (by omega), mZ]
    · rw [df h1, ah, df (by omega), mZ]
  rw [tail]
  by_cases h45 : f = 4 ∨ f = 5
  · rw [dt h45, ai, mO, df (show ¬ (1 ≤ f ∧ f ≤ 3 ∧ 0 < i.2.1 ∧ o.getD i.2.1.toNat 0 = 1) by omega), mZ, oe]
    rcases hA with h | h
    · rw [h, Int.toNat_zero, h0, df (show ¬ ((0 : Int) > 0) by omega), mZ]
      rfl
    · rw [dt (show i.2.2.1 > 0 from h), mO]
      cases (o.getD i.2.2.1.toNat 0 == 2) <;> rfl
  · rw [df h45, ah, mZ, nH]
theorem g4j (p:aw) (hl:p.Code.length≤2000) (hr:p.Code.all bC=true) (o:List Int) (h0:o.getD 0 0=0) (hN:2000<N):∀(n i:Nat),i≤p.Code.length→p.Code.length-i<n →
  ((p.Code.drop i).any (badI o)=true∧∃r:Int,0≤r∧jY N n p.Code (len p.Code) (i:Int) o=some (0,gI.dv r ((gD (.ar 16 tI)).dv o [])))∨((p.Code.drop i).any (badI o)=false∧jY N n p.Code (len p.Code) (i:Int) o=some (1,(gD (.ar 16 tI)).dv o [])):=by
 intro n;induction n with
 | zero=>intro i h1 h2; omega
 | succ n ih =>
  intro i h1 h2;show (_∧∃r:Int,0≤r∧f2n N (jY N n) p.Code (len p.Code) (i:Int) o=_)∨(_∧f2n N (jY N n) p.Code (len p.Code) (i:Int) o=_);unfold f2n f6g;by_cases hi:i<p.Code.length
  ·
   have hrec:=ih (i+1) (by omega) (by omega);have hri:bC (p.Code.getD i af.z)=true:=mz.1 hr _ (ck _ hi);rw[bV hi,ai,bI hi,aH,mF,g1E _ o h0 hri hN,au,ag,aj,au,ag,ag,aj,ic hi af.z,ny,wS (show i≤100000000 by omega)];cases badI o (p.Code.getD i af.z) with
   | true=>rw[ai,oE]; exact .inl ⟨rfl,_,oB _,rfl⟩
   | false=>rw[ah,nH]; exact hrec
  ·
   have:i=p.Code.length:=by omega
   subst this;rw[ce (by omega),ah,mi];exact .inr ⟨rfl,rfl⟩
theorem g4F (o:List Int) (ho:o.length=16):(List.range' 1 15).all (dZ o)=!((List.take (16-1) (List.drop 1 o)).any λv=>decide (v≠1∧v≠2)):=by
 obtain⟨a0,a1,a2,a3,a4,a5,a6,a7,a8,a9,a10,a11,a12,a13,a14,a15,rfl⟩:∃a0 a1 a2 a3 a4 a5 a6 a7 a8 a9 a10 a11 a12 a13 a14 a15:Int,o=[a0,a1,a2,a3,a4,a5,a6,a7,a8,a9,a10,a11,a12,a13,a14,a15]:=by
  match o,ho with
  | [a0,a1,a2,a3,a4,a5,a6,a7,a8,a9,a10,a11,a12,a13,a14,a15],_=>exact⟨a0,a1,a2,a3,a4,a5,a6,a7,a8,a9,a10,a11,a12,a13,a14,a15,rfl⟩
 have hk:∀v:Int,decide (v=1∨v=2)=!decide (v≠1∧v≠2):=λv=>by
  rw[md];simp only[decide_eq_true_eq,mu,decide_eq_false_iff_not];omega
 show (dZ _ 1&&(dZ _ 2&&(dZ _ 3&&(dZ _ 4&&(dZ _ 5&&(dZ _ 6&&(dZ _ 7&&(dZ _ 8&&(dZ _ 9&&(dZ _ 10&&(dZ _ 11&&(dZ _ 12&&(dZ _ 13&&(dZ _ 14&&(dZ _ 15&&true)))))))))))))))=!(decide (a1≠1∧a1≠2)||(decide (a2≠1∧a2≠2)||(decide (a3≠1∧a3≠2)||(decide (a4≠1∧a4≠2)||(decide (a5≠1∧a5≠2)||(decide (a6≠1∧a6≠2)||(decide (a7≠1∧a7≠2)||(decide (a8≠1∧a8≠2)||(decide (a9≠1∧a9≠2)||(decide (a10≠1∧a10≠2)||(decide (a11≠1∧a11≠2)||(decide (a12≠1∧a12≠2)||(decide (a13≠1∧a13≠2)||(decide (a14≠1∧a14≠2)||(decide (a15≠1∧a15≠2)||false)))))))))))))));simp only[Bool.not_or,← hk];rfl
theorem g1i (p:aw) (o:List Int) (ho:o.length=16) (hN:2000<N):f5S N p o=some (0,gB.dv (dK p o) []):=by
 unfold f5S dK;rw[f6b p hN,au,ag,aj];cases hr:cg p with
 | false=>rfl
 | true =>
  have hr2:=hr;unfold cg at hr2;simp only[mE,decide_eq_true_eq]at hr2;rw[mR,ah,cd (i:=0) (n:=16) (by omega) (by omega),aH,mO];by_cases h0:o.getD 0 0=0
  ·
   rw[show (o.getD 0 0 != 0)=false by rw[h0]; rfl,ah,dt h0,mO,show sb 1 16=true from rfl,aH,g4K _ (by simp; omega) hN,au,ag,aj,g4F o ho];cases (List.take (16-1) (List.drop 1 o)).any λv=>decide (v≠1∧v≠2) with
   | true=>rfl
   | false =>
    rw[ah,mn,mO];unfold f2T f3n;rcases g4j (N:=N) p hr2.1.2.1 hr2.2.1 o h0 hN N 0 (by omega) (by omega) with⟨h1,r,hr,h⟩ | ⟨h1,h⟩
    ·
     rw[mX]at h1;rw[show jY N N p.Code (len p.Code) 0 o=_ from h,dF,ag,ag,aj,au,ag,ag,aj,au,ag,ag,aj,h1,dt (show r≥0 from hr)]
    ·
     rw[mX]at h1;rw[show jY N N p.Code (len p.Code) 0 o=_ from h,dH _ _ (by decide),ag,aj,au,ag,ag,aj,au,ag,ag,aj,h1];rfl
  ·rw[show (o.getD 0 0 != 0)=true from bne_iff_ne.2 h0,ai,df h0,mZ]
variable {N:Nat}
def nextA (p:aw) (i:Nat):List Int:=if gn (aQ p i)=true∧i+1<p.Code.length then [((i+1:Nat):Int)] else []
def h7N (p:aw) (i:Nat):List Int:=if brM (aQ p i)=true then [tgtM p (i:Int)] else []
def ey (p:aw) (i:Nat):List Int:=0::(List.range i).flatMap λj=>h7N p j++nextA p j
theorem f9D (p:aw):∀i,(ey p i).length≤1+2*i
 | 0=>by simp[ey]
 | i+1=>by
  have h:=f9D p i;unfold ey at *;rw[om,List.flatMap_append];simp only[oP,qH,mJ,mP,mD]at *;have h1:(h7N p i).length≤1:=by unfold h7N; split<;>simp
  have h2:(nextA p i).length≤1:=by unfold nextA; split<;>simp
  omega
theorem g3s (p:aw) (i:Nat):ey p (i+1)=ey p i++h7N p i++nextA p i:=by
 unfold ey;rw[om,List.flatMap_append];simp
theorem g3J {p:aw} (hr:cg p=true) {i:Nat} (hi:i<p.Code.length):bC (aQ p i)=true∧fh p i=true:=by
 unfold cg kL at hr;simp only[mE]at hr;exact⟨mz.1 hr.2.1 _ (ck _ hi),mz.1 hr.2.2 i (qL.2 ⟨i,hi,by omega⟩)⟩
theorem g3S {p:aw} (hr:cg p=true) {i:Nat} (hi:i<p.Code.length) (hb:brM (aQ p i)=true):0≤tgtM p (i:Int)∧tgtM p (i:Int)=(i:Int)+(aQ p i).2.2.2.2.1∧w.i64 ((i:Int)+(aQ p i).2.2.2.2.1)=tgtM p (i:Int):=by
 obtain⟨h1,h2⟩:=g3J hr hi;have hc:=(dW hr).2.1;have h3:=g5p h1 hb;unfold fh at h2;rw[hb]at h2;simp only[mO,mu,decide_eq_false_iff_not]at h2;have h4:tgtM p (i:Int)=(i:Int)+(aQ p i).2.2.2.2.1:=by
  unfold tgtM at h2 ⊢;rw[mF]at *;split
  ·rfl
  ·rename_i h; rw[if_neg h]at h2; omega
 refine⟨by omega,h4,?_⟩
 rw[h4];exact wI (by omega) (by omega)
theorem g4H (i:af):gn i=(brM i||(i.1==41)):=by
 have h8:ae i.1=8↔i.1=41:=by
  unfold ae
  repeat' split
  all_goals omega
 unfold gn brM;rw[md];simp only[decide_eq_true_eq,nq,beq_iff_eq];omega
theorem g4o (p:aw) (hr:cg p=true):∀(n i:Nat),i≤p.Code.length→p.Code.length-i<n →
  f3d N n (ey p i) p.Code (len p.Code) (i:Int) p=some (1,(gD (.sl tI)).dv (ey p p.Code.length) []):=by
 have hc:=(dW hr).2.1;intro n;induction n with
 | zero=>intro i h1 h2; omega
 | succ n ih =>
  intro i h1 h2;show f3x N (f3d N n) (ey p i) p.Code (len p.Code) (i:Int) p=_;unfold f3x;by_cases hi:i<p.Code.length
  ·
   have hrec:=ih (i+1) (by omega) (by omega);have hl:=f9D p i;have hw:=wS (show i≤100000000 by omega);have e41:=g4H (aQ p i);have r1:∀x:Int,rm (ey p i) [x] 8=true:=λx=>rmT (by simp; omega)
   have r2:∀x y:Int,rm (ey p i++[x]) [y] 8=true:=λx y=>rmT (by simp; omega)
   rw[g3s]at hrec;unfold h7N nextA at hrec;rw[bV hi,ai,bI hi,aH,f5I p i hi,au,ag,ag,aj,hw,mF];rw[show (p.Code.getD i af.z)=aQ p i from rfl];simp only[r1,r2,aH];cases hb:brM (aQ p i) with
   | true =>
    have ht:=(g3S hr hi hb).2.2;rw[hb]at hrec e41;rw[ai,ai,ht];rw[oE]at e41;rw[e41,if_pos rfl]at hrec;by_cases hj:i+1<p.Code.length
    ·
     rw[bV hj,ai];rw[if_pos ⟨rfl,hj⟩]at hrec;exact hrec
    ·
     rw[ce (by omega),ah];rw[if_neg (by omega),mJ]at hrec;exact hrec
   | false =>
    rw[hb]at hrec e41;rw[ah,ah];rw[nH]at e41;rw[if_neg (by simp),mJ,e41]at hrec;cases h41:((aQ p i).1==41) with
    | true =>
     rw[h41]at hrec;rw[ai];by_cases hj:i+1<p.Code.length
     ·
      rw[bV hj,ai];rw[if_pos ⟨rfl,hj⟩]at hrec;exact hrec
     ·
      rw[ce (by omega),ah];rw[if_neg (by omega),mJ]at hrec;exact hrec
    | false =>
     rw[h41]at hrec;rw[ah];rw[if_neg (by simp),mJ]at hrec;exact hrec
  ·
   have:i=p.Code.length:=by omega
   subst this;rw[ce (by omega),ah]
theorem g4l {p:aw} {x:Int}:∀{i:Nat},x∈ey p i↔x=0∨∃j,j<i∧((brM (aQ p j)=true∧x=tgtM p (j:Int))∨(gn (aQ p j)=true∧j+1<p.Code.length∧x=((j+1:Nat):Int))):=by
 intro i;unfold ey;rw[mV,List.mem_flatMap];constructor
 ·
  rintro (h | ⟨j,hj,h⟩)
  ·exact .inl h
  ·
   refine .inr ⟨j,nZ.1 hj,?_⟩;rcases mM.1 h with h | h
   ·
    unfold h7N at h;split at h
    ·rename_i hb; exact .inl ⟨hb,by simpa using h⟩
    ·simp at h
   ·
    unfold nextA at h;split at h
    ·rename_i hb; exact .inr ⟨hb.1,hb.2,by simpa using h⟩
    ·simp at h
 ·
  rintro (h | ⟨j,hj,h⟩)
  ·exact .inl h
  ·
   refine .inr ⟨j,nZ.2 hj,mM.2 ?_⟩;rcases h with⟨h1,h2⟩ | ⟨h1,h2,h3⟩
   ·left; unfold h7N; rw[if_pos h1,h2]; simp
   ·right; unfold nextA; rw[if_pos ⟨h1,h2⟩,h3]; simp
theorem g4I {p:aw} (hr:cg p=true) {x:Int}:x∈aJ p↔x∈ey p p.Code.length:=by
 have hc:=dW hr;rw[g4l];unfold aJ iL;rw[nK];constructor
 ·
  rintro⟨k,hk,rfl⟩
  obtain⟨hk1,hk2⟩:=oA.1 hk;have hk1:=nZ.1 hk1;unfold dY at hk2;rw[nq,decide_eq_true_eq,pY]at hk2;rcases hk2 with h | ⟨j,hj,h⟩
  ·left; omega
  ·
   right
   have hj:=nZ.1 hj;refine⟨j,hj,?_⟩;unfold hitM at h;rw[nq,decide_eq_true_eq,mE,decide_eq_true_eq]at h;rcases h with h | h
   ·
    left
    cases hb:brM (aQ p j) with
    | true=>exact⟨rfl,h.symm⟩
    | false =>
     exfalso;unfold tgtM at h;rw[mF,hb,if_neg (by simp)]at h;omega
   ·right; exact⟨h.1,by omega,by omega⟩
 ·
  rintro (h | ⟨j,hj,h⟩)
  ·refine⟨0,oA.2 ⟨nZ.2 (by have:=hc.1; omega),by unfold dY; simp⟩,by omega⟩
  ·
   rcases h with⟨h1,h2⟩ | ⟨h1,h2,h3⟩
   ·
    have ht:=(g3S hr hj h1).1;have htl:=g3t ht;refine⟨(tgtM p (j:Int)).toNat,oA.2 ⟨nZ.2 (by omega),g2r hj ?_⟩,by omega⟩
    unfold hitM;rw[dt (show tgtM p (j:Int)=(((tgtM p (j:Int)).toNat:Nat):Int) by omega),oE]
   ·
    refine⟨j+1,oA.2 ⟨nZ.2 h2,g2r hj ?_⟩,h3.symm⟩;unfold hitM;rw[h1];simp
theorem g1T:∀{a b:List Int},a.Pairwise (·<·)→b.Pairwise (·<·)→(∀x,x∈a↔x∈b)→a=b
 | [],[],_,_,_=>rfl
 | [],y::b,_,_,h=>by have:=(h y).2 (by simp); simp at this
 | x::a,[],_,_,h=>by have:=(h x).1 (by simp); simp at this
 | x::a,y::b,ha,hb,h=>by
  obtain⟨ha1,ha2⟩:=oS.1 ha;obtain⟨hb1,hb2⟩:=oS.1 hb;have hxy:x=y:=by
   have h1:=(h x).1 (by simp);have h2:=(h y).2 (by simp);rcases mV.1 h1 with e | e
   ·exact e
   ·
    rcases mV.1 h2 with e2 | e2
    ·exact e2.symm
    ·have:=hb1 x e; have:=ha1 y e2; omega
  subst hxy;congr 1;refine g1T ha2 hb2 λz=>?_
  constructor
  ·
   intro hz;have h1:=(h z).1 (by simp[hz]);rcases mV.1 h1 with e | e
   ·have:=ha1 z hz; omega
   ·exact e
  ·
   intro hz;have h1:=(h z).2 (by simp[hz]);rcases mV.1 h1 with e | e
   ·have:=hb1 z hz; omega
   ·exact e
theorem g1C (l:List Int):(fT l).Pairwise (·≤·):=by
 unfold fT;have h:=List.pairwise_mergeSort (le:=λx y:Int=>decide (x≤y)) (λa b c h1 h2=>decide_eq_true (pE (of_decide_eq_true h1) (of_decide_eq_true h2))) (λa b=>by rcases Int.le_total a b with h | h<;>simp[h]) l;exact h.imp λh=>of_decide_eq_true h
theorem g4A (l:List Int) (x:Int):x∈fT l↔x∈l:=by
 unfold fT;exact List.mem_mergeSort
theorem g2L (d:List Int) (hs:d.Pairwise (·≤·)):∀m,m≤d.length→(Lib.compactUpTo d.toArray m).Pairwise (·<·)∧(∀x,x∈Lib.compactUpTo d.toArray m↔x∈d.take m):=by
 intro m;induction m with
 | zero=>intro _; exact⟨by simp[Lib.compactUpTo],by simp[Lib.compactUpTo]⟩
 | succ m ih =>
  intro hm;obtain⟨h1,h2⟩:=ih (by omega);have hg:d.toArray[m]! = d[m]:=by simp[show m<d.length by omega]
  have htake:d.take (m+1)=d.take m++[d[m]]:=by rw[pQ,mC (by omega)]; rfl
  have hle:∀x∈d.take m,x≤d[m]:=by
   intro x hx;obtain⟨j,hj,e⟩:=nC hx;rw[nB]at hj;rw[← e,qC];exact nY.1 hs j m (by omega) (by omega) (by omega)
  rw[Lib.compactUpTo_succ,htake];by_cases hk:Lib.keeps d.toArray m=true
  ·
   rw[if_pos hk,hg];refine⟨?_,λx=>by rw[mM,mM,h2 x]⟩
   rw[na];refine⟨h1,by simp,λa ha b hb=>?_⟩
   simp only[mI]at hb;subst hb;have ha':=(h2 a).1 ha;have hle':=hle a ha';by_cases e:a=d[m]
   ·
    exfalso;unfold Lib.keeps at hk;have hm0:0<m:=by
     obtain⟨j,hj,_⟩:=nC ha';rw[nB]at hj;omega
    have hprev:d[m-1]=d[m]:=by
     obtain⟨j,hj,e2⟩:=nC ha';rw[nB]at hj;rw[qC]at e2;have g1:d[j]≤d[m-1]:=by
      by_cases hjm:j=m-1
      ·subst hjm; omega
      ·exact nY.1 hs j (m-1) (by omega) (by omega) (by omega)
     have g2:=nY.1 hs (m-1) m (by omega) (by omega) (by omega);omega
    have hg1:d.toArray[m-1]! = d[m-1]:=by simp[show m-1<d.length by omega]
    rw[hg,hg1,hprev]at hk;simp at hk;omega
   ·omega
  ·
   rw[if_neg hk,mJ];refine⟨h1,λx=>?_⟩
   rw[h2 x,mM,mI];constructor
   ·exact .inl
   ·
    rintro (h | h)
    ·exact h
    ·
     have hk':¬Lib.keeps d.toArray m=true:=hk;have hm0:0<m:=by
      rcases Nat.eq_zero_or_pos m with h0 | h0
      ·exfalso; apply hk'; subst h0; exact Lib.keeps_lt_one _ 0 (by omega)
      ·exact h0
     have hg1:d.toArray[m-1]! = d[m-1]:=by simp[show m-1<d.length by omega]
     have:d.toArray[m]! = d.toArray[m-1]!:=by
      by_cases e:d.toArray[m]! = d.toArray[m-1]!
      ·exact e
      ·exact absurd (Lib.keeps_pos e) hk'
     rw[hg,hg1]at this;rw[h,this,List.mem_iff_getElem];exact⟨m-1,by rw[nB]; omega,by rw[qC]⟩
theorem g1v (d:List Int) (hs:d.Pairwise (·≤·)):(Lib.compact d).Pairwise (·<·)∧∀x,x∈Lib.compact d↔x∈d:=by
 obtain⟨h1,h2⟩:=g2L d hs d.length (mG _);exact⟨h1,λx=>by rw[show Lib.compact d=Lib.compactUpTo d.toArray d.length from rfl,h2 x,List.take_length]⟩
theorem g2Q (p:aw):(aJ p).Pairwise (·<·):=by
 unfold aJ;rw[List.pairwise_map];exact (g0p p).imp λh=>by omega
theorem g2M {p:aw} (hr:cg p=true):Lib.compact (fT (ey p p.Code.length))=aJ p:=by
 obtain⟨h1,h2⟩:=g1v _ (g1C (ey p p.Code.length));exact g1T h1 (g2Q p) λx=>by rw[h2 x,g4A,g4I hr]
theorem f9C (p:aw) (hN:2000<N) (hr:cg p=true):f4G N p=some (0,(gD (.sl tI)).dv (aJ p) []):=by
 unfold f4G;have hc:=(dW hr).2.1;have h:=g4o (N:=N) p hr N 0 (by omega) (by omega);have hl:=f9D p p.Code.length;have hsl:(fT (ey p p.Code.length)).length=(ey p p.Code.length).length:=by unfold fT; simp
 have hne:(ey p p.Code.length).length≠0:=by unfold ey; simp
 rw[f6b p hN,au,ag,aj,hr,mR,ah,show f3d N N [(0:Int)] p.Code (len p.Code) 0 p=_ from h,dG,ag,aj];unfold f5G f3E;rw[if_pos (by omega),au,ag,aj,if_pos (by omega),au,ag,aj,g2M hr]
variable {N:Nat}
theorem f8M (o:List Int) (n:Int):jS N o n=some (0,gI.dv (ownM o n) []):=by
 unfold jS ownM;by_cases h1:n<1
 ·rw[dt h1,ai,if_pos h1]
 rw[df h1,ah,if_neg h1];by_cases h2:n>15
 ·rw[dt (show n≥16 by omega),ai,if_pos h2]
 rw[df (show ¬n≥16 by omega),ah,if_neg h2,cd (by omega) (by omega),aH]
theorem f9p (i:af) (o:List Int) (hN:2000<N):f6v N i o=some (0,gI.dv (cX i o) []):=by
 unfold f6v cX;rw[f7k,au,ag,aj];by_cases h1:1≤ae i.1∧ae i.1≤3
 ·
  rw[dt h1,mR,ah,if_neg (by omega),f8M,au,ag,aj];by_cases h3:ownM o i.2.1=1
  ·rw[bt h3,ai,if_pos (.inl h3)]
  rw[bf h3,ah];by_cases h4:i.2.1=0
  ·
   rw[bt h4,ai,g0h i o hN,au,ag,aj];cases h5:bY o (aY i) with
   | true=>rw[mR,ah,if_neg (by rintro (h | h); exact h3 h; simp at h)]
   | false=>rw[mn,ai,if_pos (.inr ⟨h4,rfl⟩)]
  ·rw[bf h4,ah,if_neg (by rintro (h | h); exact h3 h; exact h4 h.1)]
 ·rw[df h1,mn,ai,if_pos (by omega)]
theorem g5a (l o:List Int) (hl:l.length≤100) (hb:∀x∈l,1≤x∧x≤15):∀(n i:Nat),i≤l.length→l.length-i<n →
  ((l.drop i).any (onEM o)=true∧∃r:Int,0≤r∧jW N n l (len l) (i:Int) o=some (0,gI.dv r ((gD (.ar 16 tI)).dv o [])))∨((l.drop i).any (onEM o)=false∧jW N n l (len l) (i:Int) o=some (1,(gD (.ar 16 tI)).dv o [])):=by
 intro n;induction n with
 | zero=>intro i h1 h2; omega
 | succ n ih =>
  intro i h1 h2;show (_∧∃r:Int,0≤r∧f2x N (jW N n) l (len l) (i:Int) o=_)∨(_∧f2x N (jW N n) l (len l) (i:Int) o=_);unfold f2x;by_cases hi:i<l.length
  ·
   have hrec:=ih (i+1) (by omega) (by omega);have hm:=hb _ (ck 0 hi);have ho:f7X N (l.getD i 0) o=some (0,gB.dv (onEM o (l.getD i 0)) ((gD (.ar 16 tI)).dv o [])):=by
    unfold f7X onEM;rw[cd (by omega) (by omega),aH,dt (show l.getD i 0>0 by omega),mO]
   rw[bV hi,ai,bI hi,aH,mF,ho,au,ag,ag,aj,ic hi 0,ny,wS (show i≤100000000 by omega)];cases onEM o (l.getD i 0) with
   | true=>rw[ai,oE]; exact .inl ⟨rfl,_,oB _,rfl⟩
   | false=>rw[ah,nH]; exact hrec
  ·
   have:i=l.length:=by omega
   subst this;rw[ce (by omega),ah,mi];exact .inr ⟨rfl,rfl⟩
theorem g0X (i:af) (o:List Int) (hN:2000<N):f9s N i o=some (0,gB.dv (!bY o (aY i)) []):=by
 unfold f9s f3r f4i bY;have hl:=iD i;rw[d3B,au,ag,aj];rcases g5a (N:=N) (aY i) o (by omega) (eF i) N 0 (by omega) (by omega) with⟨h1,r,hr,h⟩ | ⟨h1,h⟩
 ·
  rw[mX]at h1;rw[show jW N N (aY i) (len (aY i)) 0 o=_ from h,dF,ag,ag,aj,au,ag,ag,aj,au,ag,ag,aj,h1,dt (show r≥0 from hr)]
 ·
  rw[mX]at h1;rw[show jW N N (aY i) (len (aY i)) 0 o=_ from h,dH _ _ (by decide),ag,aj,au,ag,ag,aj,au,ag,ag,aj,h1];rfl
theorem g4Y (l:List Int) (x:Int) (hl:l.length≤100000):∀(n i:Nat),i≤l.length→l.length-i<n →
  (x∈l.drop i∧∃r:Int,0≤r∧jT N n l x (len l) (i:Int)=some (0,gI.dv r []))∨(x∉l.drop i∧jT N n l x (len l) (i:Int)=some (1,[])):=by
 intro n;induction n with
 | zero=>intro i h1 h2; omega
 | succ n ih =>
  intro i h1 h2;show (_∧∃r:Int,0≤r∧f3p N (jT N n) l x (len l) (i:Int)=_)∨(_∧f3p N (jT N n) l x (len l) (i:Int)=_);unfold f3p;by_cases hi:i<l.length
  ·
   have hrec:=ih (i+1) (by omega) (by omega);rw[bV hi,ai,bI hi,aH,mF,ic hi 0,wS (show i≤100000000 by omega)];by_cases he:x=l.getD i 0
   ·
    rw[bt he,ai];exact .inl ⟨by rw[he]; simp,_,oB _,rfl⟩
   ·
    rw[bf he,ah,mV];rcases hrec with⟨h3,h4⟩ | ⟨h3,h4⟩
    ·exact .inl ⟨.inr h3,h4⟩
    ·exact .inr ⟨by rintro (h | h); exact he h; exact h3 h,h4⟩
  ·
   have:i=l.length:=by omega
   subst this;rw[ce (by omega),ah,mi];exact .inr ⟨by simp,rfl⟩
theorem g2T (l:List Int) (x:Int) (hl:l.length≤2000) (hN:2000<N):f4g N l x=some (0,gB.dv (decide (x∈l)) []):=by
 unfold f4g f7A;rcases g4Y (N:=N) l x (by omega) N 0 (by omega) (by omega) with⟨h1,r,hr,h⟩ | ⟨h1,h⟩
 ·
  rw[mX]at h1;rw[show jT N N l x (len l) 0=_ from h,dF,ag,aj,au,ag,aj,dt h1,dt (show r≥0 from hr)]
 ·
  rw[mX]at h1;rw[show jT N N l x (len l) 0=_ from h,dH _ _ (by decide),aj,au,ag,aj,df h1];rfl
theorem g4h (l o:List Int) (hl:l.length≤2) (hb:∀x∈l,1≤x∧x≤15) (hN:2000<N):∀(n i:Nat) (out:List Int),i≤l.length→l.length-i<n→out.length≤i →
  f4W N n out l (len l) (i:Int) o=some (1,(gD (.sl tI)).dv ((l.drop i).foldl (addS o) out) []):=by
 intro n;induction n with
 | zero=>intro i out h1 h2; omega
 | succ n ih =>
  intro i out h1 h2 h3;show f5Q N (f4W N n) out l (len l) (i:Int) o=_;unfold f5Q;by_cases hi:i<l.length
  ·
   have hrec:=λout h=>ih (i+1) out (by omega) (by omega) h
   have hm:=hb _ (ck 0 hi);have how:ownM o (l.getD i 0)=o.getD (l.getD i 0).toNat 0:=by
    unfold ownM;rw[if_neg (by omega),if_neg (by omega)]
   rw[bV hi,ai,bI hi,aH,mF,cd (i:=l.getD i 0) (n:=16) (by omega) (by omega),aH,wS (show i≤100000000 by omega),ic hi 0,nh];unfold addS;rw[how];by_cases ho:o.getD (l.getD i 0).toNat 0=1
   ·
    rw[bt ho,ai,g2T out _ (by omega) hN,au,ag,aj];by_cases hm:l.getD i 0∈out
    ·
     rw[dt hm,mR,ah,if_neg (by rintro⟨_,h⟩; exact h hm)];exact hrec _ (by omega)
    ·
     rw[df hm,mn,ai,rmT (by simp; omega),aH,if_pos ⟨ho,hm⟩];exact hrec _ (by simp; omega)
   ·
    rw[bf ho,ah,if_neg (by rintro⟨h,_⟩; exact ho h)];exact hrec _ (by omega)
  ·
   have:i=l.length:=by omega
   subst this;rw[ce (by omega),ah,mi];rfl
theorem g0e (i:af) (o:List Int) (hN:2000<N):f5D N i o=some (0,(gD (.sl tI)).dv (cZ i o) []):=by
 unfold f5D cZ;have hl:=iD i;have h:=g4h (N:=N) (aY i) o hl (eF i) hN N 0 [] (by omega) (by omega) (by simp);rw[mX]at h;rw[d3B,au,ag,aj,show f4W N N [] (aY i) (len (aY i)) 0 o=_ from h,dG,ag,aj]
theorem g1g (kd:Int) (m:bj) (h:m.D5.length≤1000):fY N kd m=some (0,fJ.dv {m with D5:=m.D5++[bJ kd m.I m.Pc m.D9]} []):=by
 unfold fY;rw[rmT (by simp; omega),aH];rfl
theorem g2l (kd r:Int) (m:bj) (h:m.D5.length≤1000):jr N kd r m=some (0,fJ.dv {m with D5:=m.D5++[aM kd r m.Pc m.D9]} []):=by
 unfold jr;rw[rmT (by simp; omega),aH];rfl
theorem g2n (kd:Int) (m:bj) (h:m.D5.length≤1000):iT N kd m=some (0,fJ.dv {m with D5:=m.D5++[aM kd 0 m.Pc m.D9]} []):=by
 unfold iT;rw[rmT (by simp; omega),aH];rfl
theorem g4p (kd:Int) (l:List Int) (hl:l.length≤100):∀(n i:Nat) (m:bj),i≤l.length→l.length-i<n→m.D5.length≤500+i →
  f2R N n kd l (len l) (i:Int) m=some (1,fJ.dv {m with D5:=m.D5++(l.drop i).map (λr=>aM kd r m.Pc m.D9)} []):=by
 intro n;induction n with
 | zero=>intro i m h1 h2; omega
 | succ n ih =>
  intro i m h1 h2 h3;show f3o N (f2R N n) kd l (len l) (i:Int) m=_;unfold f3o;by_cases hi:i<l.length
  ·
   have hrec:=ih (i+1) {m with D5:=m.D5++[aM kd (l.getD i 0) m.Pc m.D9]} (by omega) (by omega) (by simp; omega);rw[bV hi,ai,bI hi,aH,mF,g2l _ _ _ (by omega),au,ag,aj,wS (show i≤100000000 by omega),hrec,ic hi 0];simp
  ·
   have:i=l.length:=by omega
   subst this;rw[ce (by omega),ah,mi];simp
theorem g3H (kd:Int) (l:List Int) (hl:l.length≤2) (m:bj) (h:m.D5.length≤500) (hN:2000<N):f2J N kd l m=some (0,fJ.dv {m with D5:=m.D5++l.map (λr=>aM kd r m.Pc m.D9)} []):=by
 unfold f2J;have h:=g4p (N:=N) kd l (by omega) N 0 m (by omega) (by omega) (by omega);rw[mX]at h;rw[show f2R N N kd l (len l) 0 m=_ from h,dG,ag,aj]
theorem f9I {i:af} (hr:bC i=true):1≤ae i.1∧ae i.1≤8:=by
 have h:ae i.1≠0:=by
  unfold bC at hr;simp only[mE,decide_eq_true_eq]at hr;exact hr.1.1.1.1
 unfold ae at *
 repeat' split at *
 all_goals omega
theorem g3K (o:List Int) {n:Int} (h:0≤n) (h2:n≤15):(ownM o n==2)=onEM o n:=by
 unfold ownM onEM;by_cases h0:n<1
 ·rw[if_pos h0,df (by omega),mZ]; rfl
 ·rw[if_neg h0,if_neg (by omega),dt (show n>0 by omega),mO]
theorem g4J (i:af) (o:List Int) (pc off:Int) (hN:2000<N):g3D N i o pc off=some (0,(gD (.sl az)).dv (cR i o pc off).1 []):=by
 unfold g3D cR;rw[b6S,au,ag,aj];cases hr:bC i with
 | false=>rfl
 | true =>
  have hf:=f9I hr;obtain⟨⟨d0,d1⟩,⟨a0,a1⟩,b0,b1⟩:=iZ hr;have hs:=f8h i o;rw[mR,ah,iA,au,ag,aj,if_neg (by simp)];simp only[f8M,f9p i o hN,g0X i o hN,g0e i o hN,au,ag,aj,g1g _ (bj.mk i pc off []) (by simp),g2l _ _ (bj.mk i pc off []) (by simp),g2n _ (bj.mk i pc off []) (by simp),g3H _ _ hs (bj.mk i pc off []) (by simp) hN,mf,g3K o d0 d1];have g10:∀kd,iT N 10 {bj.mk i pc off [] with D5:=(cZ i o).map (λr=>aM kd r pc off)}=some (0,fJ.dv {bj.mk i pc off [] with D5:=(cZ i o).map (λr=>aM kd r pc off)++[aM 10 0 pc off]} []):=λkd=>g2n _ _ (by simp; omega)
  have g4:fY N 4 {bj.mk i pc off [] with D5:=[aM 5 i.2.2.2.1 pc off]}=some (0,fJ.dv {bj.mk i pc off [] with D5:=[aM 5 i.2.2.2.1 pc off]++[bJ 4 i pc off]} []):=g1g _ _ (by simp);simp only[g10,g4,au,ag,aj];by_cases f4:ae i.1=4
  ·
   rw[bt f4,ai,if_neg (show ¬(1≤ae i.1∧ae i.1≤3) by omega),if_pos f4];cases onEM o i.2.1<;>rfl
  rw[bf f4,ah];by_cases f5:ae i.1=5
  ·
   rw[bt f5,ai,if_neg (show ¬(1≤ae i.1∧ae i.1≤3) by omega),if_neg f4,if_pos f5];by_cases h:ownM o i.2.2.2.1=1
   ·rw[bt h,ai,if_pos h]; rfl
   ·rw[bf h,ah,if_neg h]
  rw[bf f5,ah];by_cases f6:ae i.1=6
  ·
   rw[bt f6,ai,if_neg (show ¬(1≤ae i.1∧ae i.1≤3) by omega),if_neg f4,if_neg f5,if_pos f6];cases bY o (aY i)<;>rfl
  rw[bf f6,ah];by_cases f7:ae i.1=7
  ·rw[bt f7,ai,if_neg (show ¬(1≤ae i.1∧ae i.1≤3) by omega),if_neg f4,if_neg f5,if_neg f6,if_pos f7]
  rw[bf f7,ah];by_cases f8:ae i.1=8
  ·rw[bt f8,ai,if_neg (show ¬(1≤ae i.1∧ae i.1≤3) by omega),if_neg f4,if_neg f5,if_neg f6,if_neg f7,if_pos f8]
  rw[bf f8,ah,if_pos (show 1≤ae i.1∧ae i.1≤3 by omega)];by_cases h:cX i o=1
  ·rw[bt h,ai,if_pos h]
  ·rw[bf h,ah,if_neg h]
theorem g4u (i:af) (o:List Int) (pc off:Int) (hN:2000<N):g3V N i o pc off=some (0,(gD (.sl az)).dv (cR i o pc off).2 []):=by
 unfold g3V cR;rw[b6S,au,ag,aj];cases hr:bC i with
 | false=>rfl
 | true =>
  have hf:=f9I hr;obtain⟨⟨d0,d1⟩,⟨a0,a1⟩,b0,b1⟩:=iZ hr;have hs:=f8h i o;rw[mR,ah,iA,au,ag,aj,if_neg (by simp)];simp only[f8M,f9p i o hN,g0X i o hN,g0e i o hN,au,ag,aj,g1g _ (bj.mk i pc off []) (by simp),g2l _ _ (bj.mk i pc off []) (by simp),g2n _ (bj.mk i pc off []) (by simp),g3H _ _ hs (bj.mk i pc off []) (by simp) hN,mf,g3K o d0 d1];have g1:∀kd,fY N 1 {bj.mk i pc off [] with D5:=(cZ i o).map (λr=>aM kd r pc off)}=some (0,fJ.dv {bj.mk i pc off [] with D5:=(cZ i o).map (λr=>aM kd r pc off)++[bJ 1 i pc off]} []):=λkd=>g1g _ _ (by simp; omega)
  have g9:∀kd,fY N 9 {bj.mk i pc off [] with D5:=(cZ i o).map (λr=>aM kd r pc off)}=some (0,fJ.dv {bj.mk i pc off [] with D5:=(cZ i o).map (λr=>aM kd r pc off)++[bJ 9 i pc off]} []):=λkd=>g1g _ _ (by simp; omega)
  have g8:jr N 8 i.2.2.2.1 {bj.mk i pc off [] with D5:=[aM 6 i.2.2.2.1 pc off]}=some (0,fJ.dv {bj.mk i pc off [] with D5:=[aM 6 i.2.2.2.1 pc off]++[aM 8 i.2.2.2.1 pc off]} []):=g2l _ _ _ (by simp);simp only[g1,g9,g8,au,ag,aj];by_cases f4:ae i.1=4
  ·
   rw[bt f4,ai,if_neg (show ¬(1≤ae i.1∧ae i.1≤3) by omega),if_pos f4];cases onEM o i.2.1<;>rfl
  rw[bf f4,ah];by_cases f5:ae i.1=5
  ·
   rw[bt f5,ai,if_neg (show ¬(1≤ae i.1∧ae i.1≤3) by omega),if_neg f4,if_pos f5];by_cases h:ownM o i.2.2.2.1=1
   ·rw[bt h,ai,if_pos h]; rfl
   ·rw[bf h,ah,if_neg h]
  rw[bf f5,ah];by_cases f6:ae i.1=6
  ·
   rw[bt f6,ai,if_neg (show ¬(1≤ae i.1∧ae i.1≤3) by omega),if_neg f4,if_neg f5,if_pos f6];cases bY o (aY i)<;>rfl
  rw[bf f6,ah];by_cases f7:ae i.1=7
  ·rw[bt f7,ai,if_neg (show ¬(1≤ae i.1∧ae i.1≤3) by omega),if_neg f4,if_neg f5,if_neg f6,if_pos f7]
  rw[bf f7,ah];by_cases f8:ae i.1=8
  ·rw[bt f8,ai,if_neg (show ¬(1≤ae i.1∧ae i.1≤3) by omega),if_neg f4,if_neg f5,if_neg f6,if_neg f7,if_pos f8]
  rw[bf f8,ah,if_pos (show 1≤ae i.1∧ae i.1≤3 by omega)];by_cases h:cX i o=1
  ·rw[show (cX i o != 1)=false by rw[h]; rfl,ah,if_pos h]
  ·rw[show (cX i o != 1)=true from bne_iff_ne.2 h,ai,if_neg h]
variable {N:Nat}
theorem g5r (a b:Int):f5U N a b=some (0,gB.dv (decide (a<b)) []):=by
 unfold f5U f5n;rw[show (a != a)=false by simp,au,ag,aj,ah]
theorem g5X {i j:Nat} (h:i+j≤1000000):w.i64 (shr .u64 (w.u64 (w.i64 ((i:Int)+(j:Int)))) 1)=(((i+j) / 2:Nat):Int):=by
 rw[wI (x:=(i:Int)+(j:Int)) (by omega) (by omega)];have h1:w.u64 ((i:Int)+(j:Int))=((i+j:Nat):Int):=by
  simp only[w.u64,IntKind.wrap_u64];omega
 rw[h1];have h2:shr .u64 ((i+j:Nat):Int) 1=(((i+j) / 2:Nat):Int):=by
  unfold shr;rw[show (2:Int) ^ (min (1:Int).toNat IntKind.u64.bits)=2 from rfl,ov _ (by omega)];omega
 rw[h2,wI (by omega) (by omega)]
theorem g5w (l:List Int) (hl:l.length≤2000) (x L:Int) (k:Nat) (hk:∀m,m<l.length→(l.getD m 0<x↔m<k)):∀(n i j:Nat),i≤k→k≤j→j≤l.length→j-i<n →
  f2r N n l x L (i:Int) (j:Int)=some (1,(gD (.sl tI)).dv l (gI.dv x (gI.dv L (gI.dv (k:Int) [])))):=by
 intro n;induction n with
 | zero=>intro i j h1 h2 h3 h4; omega
 | succ n ih =>
  intro i j h1 h2 h3 h4;show f2N N (f2r N n) l x L (i:Int) (j:Int)=_;unfold f2N;by_cases hij:i<j
  ·
   have hm:(i+j) / 2<l.length:=by omega
   have hk2:=hk _ hm;rw[dt (show (i:Int)<(j:Int) by omega),ai];simp only[g5X (i:=i) (j:=j) (by omega)];rw[show decide ((1:Int)<0)=false from rfl,iy,bI hm,aH,g5r,au,ag,aj,mF];by_cases hx:l.getD ((i+j) / 2) 0<x
   ·
    rw[dt hx,ai,wS (by omega)];exact ih _ _ (by have:=hk2.1 hx; omega) h2 h3 (by omega)
   ·
    rw[df hx,ah];exact ih _ _ h1 (by by_cases h:(i+j) / 2<k; exact absurd (hk2.2 h) hx; omega) (by omega) (by omega)
  ·rw[df (show ¬(i:Int)<(j:Int) by omega),ah,show i=k by omega]
theorem g6r (l:List Int) (hl:l.length≤2000) (hs:∀j k,j<k→k<l.length→l.getD j 0<l.getD k 0) {x:Int} (hx:x∈l) (hN:2000<N):gR N l x=some (0,gI.dv (fD l x) (gB.dv true [])):=by
 have hlt:=oq hx;have he:l.getD (List.idxOf x l) 0=x:=by
  rw[mA,mC hlt,mj];exact px hlt
 have hf:fD l x=(List.idxOf x l:Nat):=by unfold fD; rw[if_pos hx]
 have hk:∀k,k<l.length→l.getD k 0=x→∀m,m<l.length→(l.getD m 0<x↔m<k):=by
  intro k hk e m hm;rw[← e];constructor
  ·
   intro h;rcases nw m k with c | c | c
   ·exact c
   ·subst c; omega
   ·have:=hs k m c hm; omega
  ·
   intro h;exact hs m k h hk
 have h:=g5w (N:=N) l hl x (len l) (List.idxOf x l) (hk _ hlt he) N 0 l.length (by omega) (by omega) (by omega) (by omega);unfold gR;rw[show f2r N N l x (len l) 0 (len l)=_ from h,dG];simp only[ag,aj];rw[bV hlt,ai,bI hlt,aH,mF,he,bt rfl,ai,hf]
theorem g5m (p:aw):∀j k,j<k→k<(aJ p).length→(aJ p).getD j 0<(aJ p).getD k 0:=(fm p).up
theorem g5q {p:aw} (hr:cg p=true) {j:Nat} (hj:j<p.Code.length) (hb:brM (aQ p j)=true) (hN:2000<N):gR N (aJ p) (tgtM p (j:Int))=some (0,gI.dv (fD (aJ p) (tgtM p (j:Int))) (gB.dv true [])):=by
 have ht:=g3S hr hj hb;have hlt:=g3t ht.1;have hm:dY p p.Code.length (tgtM p (j:Int)).toNat=true:=g2r hj (by unfold hitM; rw[dt (show tgtM p (j:Int)=((tgtM p (j:Int)).toNat:Int) by omega),oE])
 refine g6r _ ?_ (g5m p) ?_ hN
 ·have:=(fm p).len; have:=(dW hr).2.1; omega
 ·
  unfold aJ iL;exact nK.2 ⟨(tgtM p (j:Int)).toNat,oA.2 ⟨nZ.2 (by omega),hm⟩,by omega⟩
theorem h8Q {i:af} (h:bC i=true):(ae i.1=7↔i.1=40)∧(ae i.1=8↔i.1=41):=by
 have hf:=f9I h;unfold ae at *
 repeat' split at *
 all_goals constructor<;>constructor<;>intro<;>omega
theorem g4C (p:aw) (hr:cg p = true) (hN:2000 < N):∀ (n i:Nat),i≤(aJ p).length→(aJ p).length - i < n →
    f3f N n (aJ p) ((List.range i).map (cutB p (aJ p))) (aJ p) (len (aJ p)) (i:Int) p = some (1,(gD (.sl tB0)).dv (cutM p) []):=by
  obtain ⟨hc1,hc2,hc3⟩:=dW hr;have hl:=fm p;have hL:=hl.len;intro n;induction n with
  | zero=>intro i h1 h2; omega
  | succ n ih =>
    intro i h1 h2;show f5l N (f3f N n) (aJ p) _ (aJ p) _ (i:Int) p = _;unfold f5l;by_cases hi:i < (aJ p).length
    · have hw:=wS (show i≤100000000 by omega)
      have hfr:=hl.lo i (by omega);have hrec:=ih (i+1) (by omega) (by omega);rw [om,mv,nN,pw] at hrec;have hfl:=fun (h:i+1 < (aJ p).length)=>g4B (p:=p) h
      have hbs:=fun (j:Nat) hj hb=>g5q (N:=N) hr (j:=j) hj hb hN
      have hfe:=g5j p;unfold frB at hfl;have htb:0≤toM p (aJ p) i - 1∧toM p (aJ p) i - 1 < p.Code.length∧toM p (aJ p) i - 1≤100000:=by
        unfold toM;split
        · rename_i hj
          have hto:=hl.lo (i+1) (by omega);have hup:=hl.up i (i+1) (by omega) (by omega);omega
        · simp only [len]; omega
      generalize hbs':(List.range i).map (cutB p (aJ p)) = bs at *;have hbl:bs.length = i:=by rw [← hbs']; simp
      have hre:∀ x:D0,rm bs [x] 80 = true:=fun x=>rmT (by simp; omega)
      rw [bV hi];simp only [ai,bI hi,aH,mF,hw]
      -- the branch's target
      have tgt:∀ (T nx:Int),T = toM p (aJ p) i→nx = nxM p (aJ p) T →
          on1 (gF N p (T - 1)) (gg [pI,pB] fun (x7:Int) (x8:Bool) =>
            bi x8 (
             on1 (gR N (aJ p) x7)<|gg [pI,pB]<|fun (x9:Int) (x10:Bool) =>
             gd (rm bs [(((aJ p).getD i 0,(T,(nx,(x9,((),((),())))))):D0)] 80) <|
             f3f N n (aJ p) (bs++[(((aJ p).getD i 0,(T,(nx,(x9,((),((),())))))):D0)]) (aJ p) (len (aJ p)) ((i+1:Nat):Int) p) <|
            gd (rm bs [(((aJ p).getD i 0,(T,(nx,((-1:Int),((),((),())))))):D0)] 80) <|
            f3f N n (aJ p) (bs++[(((aJ p).getD i 0,(T,(nx,((-1:Int),((),((),())))))):D0)]) (aJ p) (len (aJ p)) ((i+1:Nat):Int) p) = some (1,(gD (.sl tB0)).dv (cutM p) []):=by
        intro T nx hT hnx;rw [← hT] at htb;obtain ⟨j,hj⟩:∃ j:Nat,T - 1 = (j:Int):=⟨(T - 1).toNat,by omega⟩
        have hjl:j < p.Code.length:=by omega
        rw [← hrec];unfold cutB tkM;rw [← hT,← hnx,hj,f5I p j hjl,au,ag,ag,aj];cases hb:brM (aQ p j) with
        | true =>
          have ht:=g3S hr hjl hb;rw [ai,ht.2.2,hbs j hjl hb,au,ag,ag,aj,hre,aH,if_pos (show tgtM p (j:Int)≥0 from ht.1)]
        | false =>
          have ht:tgtM p (j:Int) = -1:=by
            unfold tgtM;rw [mF,hb,if_neg]
            rintro ⟨h,_⟩
            cases h
          rw [ah,hre,aH,ht,if_neg (by decide)]
      by_cases hj:i+1 < (aJ p).length
      · have eT:toM p (aJ p) i = (aJ p).getD (i+1) 0:=if_pos hj
        have hw2:w.i64 ((aJ p).getD (i+1) 0 - 1) = (aJ p).getD (i+1) 0 - 1:=wI (by rw [← eT]; omega) (by rw [← eT]; omega);rw [bV hj];simp only [ai,bI hj,aH,mF,hw2];rw [cd (i:=(aJ p).getD (i+1) 0 - 1) (n:=p.Code.length) (by rw [← eT]; omega) (by rw [← eT]; omega),aH];have hri:bC (aQ p ((aJ p).getD (i+1) 0 - 1).toNat) = true:=(g3J hr (by omega)).1;have hf:=h8Q hri;have hnx:nxM p (aJ p) ((aJ p).getD (i+1) 0) = if (aQ p ((aJ p).getD (i+1) 0 - 1).toNat).1≠40∧(aQ p ((aJ p).getD (i+1) 0 - 1).toNat).1≠41 then ((i+1:Nat):Int) else -1:=by
          unfold nxM;rw [hfl hj]
        rw [iA,au,ag,aj,show p.Code.getD ((aJ p).getD (i+1) 0 - 1).toNat af.z = aQ p ((aJ p).getD (i+1) 0 - 1).toNat from rfl];by_cases f7:ae (aQ p ((aJ p).getD (i+1) 0 - 1).toNat).1 = 7
        · rw [show (ae (aQ p ((aJ p).getD (i+1) 0 - 1).toNat).1 != 7) = false by rw [f7]; rfl,ah]
          exact tgt _ _ eT.symm (by rw [hnx,if_neg]; rintro ⟨h,_⟩; exact h (hf.1.1 f7))
        rw [show (ae (aQ p ((aJ p).getD (i+1) 0 - 1).toNat).1 != 7) = true from bne_iff_ne.2 f7,ai];by_cases f8:ae (aQ p ((aJ p).getD (i+1) 0 - 1).toNat).1 = 8
        · rw [show (ae (aQ p ((aJ p).getD (i+1) 0 - 1).toNat).1 != 8) = false by rw [f8]; rfl,ah]
          exact tgt _ _ eT.symm (by rw [hnx,if_neg]; rintro ⟨_,h⟩; exact h (hf.2.1 f8))
        rw [show (ae (aQ p ((aJ p).getD (i+1) 0 - 1).toNat).1 != 8) = true from bne_iff_ne.2 f8,ai];exact tgt _ _ eT.symm (by rw [hnx,if_pos]; exact ⟨fun h=>f7 (hf.1.2 h),fun h=>f8 (hf.2.2 h)⟩)
      · have eT:toM p (aJ p) i = len p.Code:=if_neg hj
        have hw2:w.i64 (len p.Code - 1) = len p.Code - 1:=wI (by rw [← eT]; omega) (by rw [← eT]; omega);rw [ce (by omega)];simp only [ah,hw2];rw [cd (i:=len p.Code - 1) (n:=p.Code.length) (by rw [← eT]; omega) (by rw [← eT]; omega),aH,iA,au,ag,aj];exact tgt _ _ eT.symm (by unfold nxM; rw [hfe]; split <;> rfl)
    · have:i = (aJ p).length:=by omega
      subst this;rw [ce (by omega)];rfl
theorem g2h (p:aw) (hN:2000<N) (hr:cg p=true):f8g N p=some (0,(gD (.sl tB0)).dv (cutM p) []):=by
 unfold f8g;have hl:=(fm p).len;have h4:=g4C (N:=N) p hr hN N 0 (by omega) (by have:=(dW hr).2.1; omega);rw[f9C p hN hr,au,ag,aj];rw[show f3f N N (aJ p) [] (aJ p) (len (aJ p)) 0 p=_ from h4];rfl
end Go.Proofs.Zz
