import Derived.Test.YtnfpdmhdpeffjaaGreatLC
import Derived.Test.YtnfpdmhdpeffjaaGreatYU
import Derived.Test.YtnfpdmhdpeffjaaGreatZA
set_option linter.unusedSimpArgs false
set_option linter.unusedVariables false
set_option maxRecDepth 100000
namespace Go.Proofs.Zz
open Go
variable {N:Nat}
section
variable {p:aw} {o:List Int} {s:ao} {m0:List Int} {n j m i k ka ke t:Nat} {R R':List am} {x y:aa} {cf:ay}
theorem h4g (ts:bH) (hs:dx s.A3) (hR:RI k cf s x) (hk:k≤12000) (hl:s.A3.length≤100000) (ez:EZ x):EZ (fQ cf s ts x):=by
 obtain⟨hr,hL,hM,hr2,hr3,e⟩:=g9l ts hs hR hk hl;obtain⟨b1,_⟩:=g8S hr;have hB:=Bnd.of hr;obtain⟨mt1,mt2,mt3,mt4,mt5,mt6⟩:=h2u (c:=cf) ts b1 hB.la;have e2:(bD cf (aX cf ts x)).E=x.E∧(bD cf (aX cf ts x)).A1=x.A1:=by
  rcases h2v cf (aX cf ts x) 0 with⟨_,g⟩ | ⟨_,_,_,_,g5,g6,_⟩
  ·rw[g]; exact⟨mt2,mt3⟩
  ·exact⟨g5.trans mt2,g6.trans mt3⟩
 have z2:EZ (bD cf (aX cf ts x)):=by unfold EZ; rw[e2.1]; exact ez
 have z3:=h3P (c:=cf) (s:=s) z2 (by rw[e2.2]; exact b1);rw[e];show ∀r∈(aP cf s (aG cf s (bD cf (aX cf ts x)))).E.A8,0≤r
 rw[(d3T cf s (aG cf s (bD cf (aX cf ts x)))).fr];exact z3
theorem h3B {rho lam:Nat} (ts:bH) (h:Spl p o s) (hlp:p.Code.length≤2000) (hl:s.A3.length≤100000) (hs:Stops p m0 t) (h1:1≤rho) (hrho:∀q∈p.Code,latM cf q.1≤rho)
  (hlam:lam=cf.C4.toNat+1∨(lam=0∧∀q∈p.Code,ae q.1≠4∧ae q.1≠5)):∀(f k:Nat) (x:aa),RI k cf s x→k+f≤12000→(∃a b d e,Cos p o s m0 (bo x) x a b k d e k)→EZ x→phi p o m0 t rho lam cf.C4.toNat x≤f→da cf s (runN cf s ts f x)=true
 | 0,k,x,hR,hk,hC,ez,hf=>by
  obtain⟨a,b,d,e,hC⟩:=hC;have hpl:p.Code.length*(k+2)≤1000000000:=by
   have:=oz hlp (show k+2≤12002 by omega);omega
  cases ho:da cf s x with
  | true=>exact ho
  | false =>
   have:=h2I ts h hR (by omega) hl hpl hC ez hs ho h1 hrho hlam;omega
 | f+1,k,x,hR,hk,hC,ez,hf=>by
  rw[g6N];cases ho:da cf s x with
  | true=>rw[if_pos rfl]; exact ho
  | false =>
   rw[if_neg (by simp)];obtain⟨a,b,d,e,hC⟩:=hC;have hpl2:p.Code.length*(k+2)≤1000000000:=by
    have:=oz hlp (show k+2≤12002 by omega);omega
   have hpl:p.Code.length*(k+1)≤1000000000:=by
    have:=oz hlp (show k+1≤12002 by omega);omega
   have hless:=h2I ts h hR (by omega) hl hpl2 hC ez hs ho h1 hrho hlam;obtain⟨h2,_⟩:=e4R ts h.next.2 hR (by omega) hl
   obtain⟨a',b',d',e',_,_,hC'⟩:=hC.step ts h hR (by omega) hl hpl hpl;exact h3B ts h hlp hl hs h1 hrho hlam f (k+1) _ h2 (by omega) ⟨a',b',d',e',hC'⟩ (h4g ts h.next.2 hR (by omega) hl ez) (by omega)
theorem h3D (p:aw) (m0:List Int):∀n:Nat,(evq (pts p m0) n).length≤n
 | 0=>mG _
 | n+1=>by
  rw[h1x];have:=h3D p m0 n;have:(pts p m0 n).length≤1:=by unfold pts; split<;>simp
  omega
theorem h3o (n:Nat):rdL (List.replicate n (0:Int)) 0=0:=by
 induction n with
 | zero=>rfl
 | succ n ih=>show max ((0:Int)-0).toNat (rdL (List.replicate n (0:Int)) 0)=0; rw[ih]; rfl
theorem h2B (p:aw) (o m0:List Int) (t rho lam L:Nat):phi p o m0 t rho lam L (st0 m0)≤(rho+lam+3)*(limS p o m0 false t+limS p o m0 true t+(evq (pts p m0) (t+1)).length+2)+lam*cntS p o m0 false (t+65):=by
 unfold phi h8I;have e1:sP (limS p o m0 false t) (st0 m0).A (st0 m0).A1=0:=by
  have:sdP (st0 m0).A (st0 m0).A1=0:=by
   show rdL (List.replicate 16 (0:Int)) 0+((0:Int)-0).toNat=0;rw[h3o]; rfl
  unfold sP;rw[this];split<;>rfl
 have e2:sP (limS p o m0 true t) (st0 m0).E (st0 m0).A1=0:=by
  have:sdP (st0 m0).E (st0 m0).A1=0:=by
   show rdL (List.replicate 16 (0:Int)) 0+((0:Int)-0).toNat=0;rw[h3o]; rfl
  unfold sP;rw[this];split<;>rfl
 have e3:(st0 m0).A.A5=0:=rfl;have e5:dL (st0 m0)=0:=rfl;have e6:fi t (st0 m0).A9=2:=rfl;have e7:tabP L (st0 m0).A0=0:=rfl;rw[e1,e2,e3,e5,e6,e7];have h1:((limS p o m0 false t:Int)-0).toNat+((limS p o m0 true t:Int)-0).toNat+((evq (pts p m0) (t+1)).length-0)+2≤limS p o m0 false t+limS p o m0 true t+(evq (pts p m0) (t+1)).length+2:=by omega
 have h2:(((cntS p o m0 false (t+65):Nat):Int)-0).toNat≤cntS p o m0 false (t+65):=by omega
 have g1:=nv (rho+lam+3) h1;have g2:=nv lam h2;rw[nS,nS,nS];exact qW g1 g2
theorem h2f (p:aw) (o m0:List Int) (e:Bool) (t:Nat):limS p o m0 e t≤3*(t+1):=by
 have h1:=h1u p o m0 e (t+1);have h2:=h1u p o m0 e t;unfold limS;split<;>omega
theorem h3K (m0:List Int):EZ (st0 m0):=λr hr=>by
 have:r=0:=pC (show r∈List.replicate 16 (0:Int) from hr);omega
end
section
variable (c:ay) (t:bH) (s:ao)
theorem h3F (r:cO) (z:aa) (hs:dx s.A3) (hl:s.A3.length≤100000) (hN:s.A3.length<N) (hN2:1001<N):∀(n m d k:Nat) (x:aa),d<n→d≤m→m≤1000000→RI k c s x→k+d≤12000→da c s (runN c s t d x)=true →
  f8a N n (da c s x) (m:Int) s c t r z x=some (1,gB.dv true (cm.dv s (fK.dv r (aA.dv z (aA.dv (runN c s t d x) []))))):=by
 intro n;induction n with
 | zero=>intro m d k x h; omega
 | succ n ih =>
  intro m d k x hd hm hmm h hk hov;show f8j N (f8a N n) (da c s x) (m:Int) s c t r z x=_;unfold f8j;cases ho:da c s x with
  | true =>
   rw[g6W c t s ho d];cases m with
   | zero=>rfl
   | succ m=>rw[dt (show ((m+1:Nat):Int)>0 by omega),ai,mR,ah]
  | false =>
   cases d with
   | zero =>
    rw[show runN c s t 0 x=x from rfl,ho]at hov;cases hov
   | succ d =>
    rw[g6N,ho,if_neg (by simp)]at hov ⊢;obtain⟨h2,_⟩:=e4R t hs h (by omega) hl;rw[dt (show (m:Int)>0 by omega),ai,mn,ai,g3c c s t x hs h (by omega) hl hN hN2,au,ag,aj,f9k c s _ (h2.inv.wf (by omega)) (h2.right (by omega)) hl hN hN2,au,ag,aj,wI (x:=(m:Int)-1) (by omega) (by omega),show (m:Int)-1=((m-1:Nat):Int) by omega];exact ih (m-1) d (k+1) _ (by omega) (by omega) (by omega) h2 (by omega) hov
theorem h2D (p:aw) (f:Int) (ho:s.D2.length=16) (hc:cfgM c=true) (hr:iN p s=true) (hN:100000<N) (d:Nat) (hd:d≤11000) (hdf:(d:Int)≤f) (hov:da c s (runN c s t d (st0 (memM p)))=true) :
  jq N p s c t f=some (0,fK.dv (outM c s (runN c s t d (st0 (memM p)))) (aA.dv (runN c s t d (st0 (memM p))) (gI.dv 0 []))):=by
 unfold jq;rw[e2d c (by omega),au,ag,aj,hc,mR,ah,g2w p s ho hN,au,ag,aj,hr];have hsp:=f9v hr;have hs:=hsp.next.2
 have hrp:=hsp.right;have hll:s.A3.length≤2000:=by rw[hsp.len]; have:=(fm p).len; have:=(dW hrp).2.1; omega
 have hmem:len (memM p)≤65536:=by have:=kO hrp; simp only[len,g1Z hrp]; omega
 have h0:=e4P hc hs hmem;have hfu:(if 0<(if 1000000<f then 1000000 else f) then (if 1000000<f then 1000000 else f) else 0)=(((min f 1000000).toNat:Nat):Int):=by
  split<;>split<;>omega
 have hlp:=h3F (N:=N) c t s res0 (st0 []) hs (by omega) (by omega) (by omega) N (min f 1000000).toNat d 0 (st0 (memM p)) (by omega) (by omega) (by omega) h0 (by omega) hov;obtain⟨j,hj,hR,_⟩:=g2i c t s hs (by omega) d 0 (st0 (memM p)) h0 (by omega);rw[mR,ah,g1D hrp (by omega),au,ag,aj,f9k c s _ (h0.inv.wf (by omega)) (h0.right (by omega)) (by omega) (by omega) (by omega),au,ag,aj,hfu,hlp,dG];simp only[ag,aj,g2k s _ (hR.inv.wf (by omega)) (by omega:100<N),au];unfold outM;rw[hov];rfl
end
theorem h2X (a b:cO) (hw:b.A2=a.A2) (hl:a.A2.length≤100000):∀(n i:Nat),i≤a.A2.length→a.A2.length-i<n→f4m N n (i:Int) a b=some (1,[]):=by
 intro n;induction n with
 | zero=>intro i h0 h1; omega
 | succ n ih =>
  intro i h0 h1;show f5o N (f4m N n) (i:Int) a b=_;unfold f5o;rw[hw];by_cases hi:i<a.A2.length
  ·
   rw[bV hi];simp only[ai,bI hi,aH,mF,beq_self_eq_true,Bool.and_self,mR,ah,wS (show i≤100000000 by omega)];exact ih (i+1) (by omega) (by omega)
  ·rw[ce (by omega)]; rfl
theorem h3b (a b:cO) (h1:b.D4=a.D4) (h2:b.A9=a.A9) (h3:b.Steps=a.Steps) (h4:b.Mem=a.Mem) (h5:b.A2=a.A2) (hl:a.A2.length≤100000) (hN:100000<N):f7W N a b=some (0,gB.dv true []):=by
 unfold f7W;have h:=h2X (N:=N) a b h5 hl N 0 (by omega) (by omega);rw[h1,h2,h3,h4,h5];simp only[bne_self_eq_false,ah,beq_self_eq_true,Bool.and_self,mR];rw[show f4m N N 0 a b=_ from h,dH _ _ (by decide),aj]
variable {N:Nat}
theorem h2r {p:aw} {o:List Int} (c:ay) (ts:bH) (ho:o.length=16) (hcl:dK p o=true) (hc:cfgM c=true) {t rho lam:Nat} (hs:Stops p (memM p) t) (h1:1≤rho) (hrho:∀q∈p.Code,latM c q.1≤rho)
  (hlam:lam=c.C4.toNat+1∨(lam=0∧∀q∈p.Code,ae q.1≠4∧ae q.1≠5)) {d:Nat} (hd:d≤11000) (hf:phi p o (memM p) t rho lam c.C4.toNat (st0 (memM p))≤d) (f:Int) (hdf:(d:Int)≤f) (hN:100000<N) :
  ∃x,jq N p (ky p o) c ts f=some (0,fK.dv (resG p (memM p) t) (aA.dv x (gI.dv 0 [])))∧(resG p (memM p) t).A2.length≤100000:=by
 obtain⟨hsp,hr,hll,hlp,hm⟩:=g8N hcl;obtain⟨r1,e1⟩:=g1O hcl;have hov:=h3B (cf:=c) ts hsp hlp (by omega) hs h1 hrho hlam d 0 (st0 (memM p)) (e4P hc hsp.next.2 hm) (by omega) ⟨0,0,0,0,Cos.first hsp⟩ (h3K _) hf
 have hrun:=h2D (N:=N) c ts (ky p o) p f (by rw[e1]; exact ho) hc r1 hN d hd hdf hov;obtain⟨k,k1,hR,a,b,e,g,hC⟩:=g9O c ts (ky p o) (memM p) hsp hlp (by omega) d 0 _ (e4P hc hsp.next.2 hm) (by omega) ⟨0,0,0,0,Cos.first hsp⟩
 have hpl:p.Code.length*(k+1)≤1000000000:=by
  have:=oz hlp (show k+1≤12001 by omega);omega
 obtain⟨u,hu,he⟩:=h0N hsp hC (hR.right (by omega)) hov hpl hpl;have hut:=hu.uniq hs;subst hut;have hw:=g4m (c:=c) (s:=ky p o) (hR.inv.wf (by omega));have eo:outM c (ky p o) (runN c (ky p o) ts d (st0 (memM p)))=resG p (memM p) u:=by
  unfold outM;rw[if_pos hov,he]
 rw[eo]at hrun hw;exact⟨_,hrun,hw⟩
theorem h3J (c:ay) (hc:1≤c.D7∧1≤c.D6) (op:Int):latM c op≤((max c.D7 c.D6).toNat:Nat):=by
 unfold latM;split
 ·omega
 ·split<;>omega
theorem h1B {c:ay} (h:cfgM c=true):1≤c.D7∧1≤c.D6∧1≤c.C4∧1≤c.B7∧c.B7≤64:=by
 unfold cfgM at h;simp only[mE,allB,mt,nT,decide_eq_true_eq]at h;omega
theorem h3e (c:ay) (hc:cfgM c=true) (t:Nat) (ht:t≤1000) (h1:c.C4≤6) (h2:c.D7≤6) (h3:c.D6≤6) (hN:2000<N):h1w N c (t:Int)=some (0,gI.dv ((8+c.D7+c.D6+4*(c.B7+2)*(c.C4+2))*(8*(t:Int)+16)) []):=by
 obtain⟨u1,u2,u3,u4,u5⟩:=h1B hc;unfold h1w h1K g3L;rw[b9P c (by omega),au,ag,aj,hc,mR,ah,au,ag,aj];have q:0≤(c.B7+2)*(c.C4+2)∧(c.B7+2)*(c.C4+2)≤66*8:=by
  refine⟨qT (by omega) (by omega),Int.mul_le_mul (by omega) (by omega) (by omega) (by omega)⟩
 have q2:4*(c.B7+2)*(c.C4+2)=4*((c.B7+2)*(c.C4+2)):=Int.mul_assoc _ _ _;rw[wI (x:=8+c.D7) (by omega) (by omega),wI (x:=8+c.D7+c.D6) (by omega) (by omega),wI (x:=c.B7+2) (by omega) (by omega),wI (x:=4*(c.B7+2)) (by omega) (by omega),wI (x:=c.C4+2) (by omega) (by omega),wI (x:=4*(c.B7+2)*(c.C4+2)) (by omega) (by omega),wI (x:=8+c.D7+c.D6+4*(c.B7+2)*(c.C4+2)) (by omega) (by omega)];rw[df (show ¬(t:Int)<0 by omega),ah,df (show ¬(t:Int)>100000 by omega),ah,au,ag,aj,wI (x:=8*(t:Int)) (by omega) (by omega),wI (x:=8*(t:Int)+16) (by omega) (by omega)];generalize 4*(c.B7+2)*(c.C4+2)=z at *;have q3:0≤(8+c.D7+c.D6+z)*(8*(t:Int)+16)∧(8+c.D7+c.D6+z)*(8*(t:Int)+16)≤3000*9000:=by
  refine⟨qT (by omega) (by omega),Int.mul_le_mul (by omega) (by omega) (by omega) (by omega)⟩
 rw[wI (by omega) (by omega)]
theorem h3S {a b t:Nat} (ha:a≤16) (hb:b≤7) (ht:t≤40):a*(7*t+9)+b*(3*(t+65))≤11000:=by
 have h1:7*t+9≤289:=by omega
 have h2:3*(t+65)≤315:=by omega
 have a1:=oz ha h1;have a2:=oz hb h2;exact nO (qW a1 a2) (by decide)
theorem h8W {p:aw} {o:List Int} {c:ay} (hc:cfgM c=true) (h1:c.C4≤6) (h2:c.D7≤6) (h3:c.D6≤6) {t:Nat} (ht:t≤40) :
  ∃d:Nat,d≤11000∧phi p o (memM p) t (max c.D7 c.D6).toNat (c.C4.toNat+1) c.C4.toNat (st0 (memM p))≤d∧(d:Int)≤(8+c.D7+c.D6+4*(c.B7+2)*(c.C4+2))*(8*(t:Int)+16):=by
 obtain⟨u1,u2,u3,u4,u5⟩:=h1B hc;have hp:=h2B p o (memM p) t (max c.D7 c.D6).toNat (c.C4.toNat+1) c.C4.toNat
 have l1:=h2f p o (memM p) false t;have l2:=h2f p o (memM p) true t;have l3:=h3D p (memM p) (t+1);have l4:=h1u p o (memM p) false (t+65);have w1:(max c.D7 c.D6).toNat+(c.C4.toNat+1)+3≤16:=by omega
 have hb:(((max c.D7 c.D6).toNat+(c.C4.toNat+1)+3)*(limS p o (memM p) false t+limS p o (memM p) true t+(evq (pts p (memM p)) (t+1)).length+2)+(c.C4.toNat+1)*cntS p o (memM p) false (t+65))≤((max c.D7 c.D6).toNat+(c.C4.toNat+1)+3)*(7*t+9)+(c.C4.toNat+1)*(3*(t+65)) :=
  qW (nv _ (by omega)) (nv _ (by omega))
 have hph:=nO hp hb
 clear hp hb l1 l2 l3 l4
 generalize phi p o (memM p) t (max c.D7 c.D6).toNat (c.C4.toNat+1) c.C4.toNat (st0 (memM p))=ph at hph ⊢;refine⟨_,?_,hph,?_⟩
 ·exact h3S w1 (by omega) ht
 ·
  have q1:3*(c.C4+2)≤(c.B7+2)*(c.C4+2):=pU (by omega) (by omega);have q2:4*(c.B7+2)*(c.C4+2)=4*((c.B7+2)*(c.C4+2)):=Int.mul_assoc _ _ _;have q3:(8+c.D7+c.D6+12*(c.C4+2))*(8*(t:Int)+16)≤(8+c.D7+c.D6+4*(c.B7+2)*(c.C4+2))*(8*(t:Int)+16):=pU (by omega) (by omega);refine pE ?_ q3;have cL:c.C4=1∨c.C4=2∨c.C4=3∨c.C4=4∨c.C4=5∨c.C4=6:=by omega
  have hM:((max c.D7 c.D6).toNat:Int)≤c.D7+c.D6-1:=by omega
  generalize (max c.D7 c.D6).toNat=M at *;have hL:(c.C4.toNat:Int)=c.C4:=by omega
  have eD:(((M+(c.C4.toNat+1)+3)*(7*t+9)+(c.C4.toNat+1)*(3*(t+65)):Nat):Int)=((M:Int)+(c.C4+1)+3)*(7*(t:Int)+9)+(c.C4+1)*(3*((t:Int)+65)):=by
   rw[← hL];simp only[Int.natCast_add,qJ];rfl
  rw[eD];have q4:((M:Int)+(c.C4+1)+3)*(7*(t:Int)+9)≤(c.D7+c.D6+c.C4+3)*(7*(t:Int)+9):=pU (by omega) (by omega);have q5:(c.D7+c.D6+c.C4+3)*(7*(t:Int)+9)≤(c.D7+c.D6+c.C4+3)*(8*(t:Int)+16):=qR (by omega) (by omega);have q6:(8+c.D7+c.D6+12*(c.C4+2))*(8*(t:Int)+16)=(c.D7+c.D6+c.C4+3)*(8*(t:Int)+16)+(11*c.C4+29)*(8*(t:Int)+16):=by
   rw[← Int.add_mul];congr 1;omega
  rw[q6];have q7:(c.C4+1)*(3*((t:Int)+65))≤(11*c.C4+29)*(8*(t:Int)+16):=by
   rcases cL with g | g | g | g | g | g<;>rw[g]<;>omega
  omega
theorem h2n (p:aw) (pick:Int) (c:ay) (t:bH):h1y 200000 p pick c t=some (0,gB.dv true []):=by
 unfold h1y;obtain⟨b,hb,hsm⟩:=g5o (N:=200000) p;obtain⟨o,hol,hsp⟩:=g6V (N:=200000) p pick (by omega);rw[g4n,au,ag,aj,hsp,au,ag,ag,aj,mR,ah,hb,au,ag,aj];cases b with
 | false=>rfl
 | true =>
  rw[mR,ah];by_cases h1:len t.B6>60
  ·rw[dt h1]; rfl
  rw[df h1,ah];by_cases h2:len t.B5>60
  ·rw[dt h2]; rfl
  rw[df h2,ah];cases hcl:dK p o with
  | false=>rfl
  | true =>
   rw[mR,ah,b9P c (by omega),au,ag,aj];cases hc:cfgM c with
   | false=>rfl
   | true =>
    rw[mR,ah];by_cases h3:c.C4>6
    ·rw[dt h3]; rfl
    rw[df h3,ah];by_cases h4:c.D7>6
    ·rw[dt h4]; rfl
    rw[df h4,ah];by_cases h5:c.D6>6
    ·rw[dt h5]; rfl
    obtain⟨hsp2,hrp,_,_,_⟩:=g8N hcl;obtain⟨u1,u2,u3,u4,u5⟩:=h1B hc;obtain⟨r,hrun,hcase,_⟩:=h4b (N:=200000) hrp 40 (by omega) (by omega);rw[df h5,ah,show h2s 200000 p 40=_ from hrun,au,ag,aj];by_cases hE:r.D4=3
    ·rw[bt hE,ai]
    obtain⟨hE,u,hu,hst,hF⟩:=hcase.resolve_left hE;rw[bf hE,ah];have hsteps:r.Steps=(u:Int)∨r.Steps=((u+1:Nat):Int):=by
     rw[hF.st];unfold resG;split
     ·exact .inl rfl
     ·
      split
      ·exact .inl rfl
      ·exact .inr (by show (u:Int)+1=_; omega)
    have hcyc:∃T:Nat,u≤T∧T≤40∧r.Steps=(T:Int):=by
     rcases hsteps with g | g
     ·exact⟨u,mG _,by omega,g⟩
     ·exact⟨u+1,by omega,by omega,g⟩
    obtain⟨T,hT1,hT2,hT3⟩:=hcyc;obtain⟨d,d1,d2,d3⟩:=h8W (p:=p) (o:=o) hc (by omega) (by omega) (by omega) (t:=u) (by omega);have d4:(d:Int)≤(8+c.D7+c.D6+4*(c.B7+2)*(c.C4+2))*(8*(T:Int)+16):=by
     refine pE d3 (qR (by omega) ?_);have:=qT (a:=4*(c.B7+2)) (b:=c.C4+2) (by omega) (by omega);omega
    obtain⟨x,hx,hw⟩:=h2r (N:=200000) c t hol hcl hc hst (by omega) (λq _=>by have:=h3J c ⟨u1,u2⟩ q.1; omega) (.inl rfl) d1 d2 _ d4 (by omega);rw[hT3,h3e c hc T (by omega) (by omega) (by omega) (by omega) (by omega),au,ag,aj,hx,au,ag,ag,ag,aj];unfold f8G;rw[au,ag,aj,show ((0:Int) != 0)=false from rfl,ah];have hse:=h3b (N:=200000) (resG p (memM p) u) r hF.en hF.tp hF.st hF.me hF.wr hw (by omega);by_cases h2e:r.D4=2
    ·
     rw[bt h2e,ai,hse,au,ag,aj,ai];have hz:(resG p (memM p) u).B1=List.replicate 16 (0:Int):=by
      have he:(resG p (memM p) u).D4=2:=hF.en.symm.trans h2e;unfold resG at he ⊢;split
      ·rfl
      ·
       rename_i g1;rw[if_neg g1]at he;split
       ·rfl
       ·
        rename_i g2;rw[if_neg g2]at he;have he:(1:Int)=2:=he;omega
     rw[hz];rfl
    ·
     rw[bf h2e,ah];have he1:(resG p (memM p) u).D4=1:=by
      have he:(resG p (memM p) u).D4≠2:=λg=>h2e (hF.en.trans g)
      unfold resG at he ⊢;split
      ·
       rename_i g1;rw[if_pos g1]at he;exact absurd rfl he
      ·
       rename_i g1;rw[if_neg g1]at he;split
       ·
        rename_i g2;rw[if_pos g2]at he;exact absurd rfl he
       ·rfl
     unfold f3Y;rw[hF.rg he1,show ((resG p (memM p) u).B1==(resG p (memM p) u).B1)=true by simp,ai,hse];simp only[au,ag,aj]
section
variable {n step:Int} (hn:1≤n∧n≤12) (hs:-8192≤step∧step≤8191)
include hn in
include hs in
include hn hs
omit hs in
end
end Go.Proofs.Zz
