import Derived.Test.YtnfpdmhdpeffjaaGreatLC
import Derived.Test.YtnfpdmhdpeffjaaGreatYU
import Derived.Test.YtnfpdmhdpeffjaaGreatZA
set_option linter.unusedSimpArgs false
set_option linter.unusedVariables false
set_option maxRecDepth 100000
namespace Go.Proofs.Zz
open Go
variable {N:Nat}
section
variable {p:aw} {o:List Int} {s:ao} {m0:List Int} {n j m i k ka ke t:Nat} {R R':List am} {x y:aa} {cf:ay}
theorem h4g (ts:bH) (hs:dx s.Blocks) (hR:RI k cf s x) (hk:k≤12000) (hl:s.Blocks.length≤100000) (ez:EZ x):EZ (fQ cf s ts x):=by
 obtain⟨hr,hL,hM,hr2,hr3,e⟩:=g9l ts hs hR hk hl;obtain⟨b1,_⟩:=g8S hr;have hB:=Bnd.of hr;obtain⟨mt1,mt2,mt3,mt4,mt5,mt6⟩:=h2u (c:=cf) ts b1 hB.la;have e2:(bD cf (aX cf ts x)).E=x.E∧(bD cf (aX cf ts x)).Cycle=x.Cycle:=by
  rcases h2v cf (aX cf ts x) 0 with⟨_,g⟩ | ⟨_,_,_,_,g5,g6,_⟩
  ·rw[g]; exact⟨mt2,mt3⟩
  ·exact⟨g5.trans mt2,g6.trans mt3⟩
 have z2:EZ (bD cf (aX cf ts x)):=by unfold EZ; rw[e2.1]; exact ez
 have z3:=h3P (c:=cf) (s:=s) z2 (by rw[e2.2]; exact b1);rw[e];show ∀r∈(aP cf s (aG cf s (bD cf (aX cf ts x)))).E.Ready,0≤r
 rw[(d3T cf s (aG cf s (bD cf (aX cf ts x)))).fr];exact z3
theorem h3B {rho lam:Nat} (ts:bH) (h:Spl p o s) (hlp:p.Code.length≤2000) (hl:s.Blocks.length≤100000) (hs:Stops p m0 t) (h1:1≤rho) (hrho:∀q∈p.Code,latM cf q.1≤rho)
  (hlam:lam=cf.Lat.toNat+1∨(lam=0∧∀q∈p.Code,ae q.1≠4∧ae q.1≠5)):∀(f k:Nat) (x:aa),RI k cf s x→k+f≤12000→(∃a b d e,Cos p o s m0 (bo x) x a b k d e k)→EZ x→phi p o m0 t rho lam cf.Lat.toNat x≤f→da cf s (runN cf s ts f x)=true
 | 0,k,x,hR,hk,hC,ez,hf=>by
  obtain⟨a,b,d,e,hC⟩:=hC;have hpl:p.Code.length*(k+2)≤1000000000:=by
   have:=oz hlp (show k+2≤12002 by omega);omega
  cases ho:da cf s x with
  | true=>exact ho
  | false =>
   have:=h2I ts h hR (by omega) hl hpl hC ez hs ho h1 hrho hlam;omega
 | f+1,k,x,hR,hk,hC,ez,hf=>by
  rw[g6N];cases ho:da cf s x with
  | true=>rw[if_pos rfl]; exact ho
  | false =>
   rw[if_neg (by simp)];obtain⟨a,b,d,e,hC⟩:=hC;have hpl2:p.Code.length*(k+2)≤1000000000:=by
    have:=oz hlp (show k+2≤12002 by omega);omega
   have hpl:p.Code.length*(k+1)≤1000000000:=by
    have:=oz hlp (show k+1≤12002 by omega);omega
   have hless:=h2I ts h hR (by omega) hl hpl2 hC ez hs ho h1 hrho hlam;obtain⟨h2,_⟩:=e4R ts h.next.2 hR (by omega) hl
   obtain⟨a',b',d',e',_,_,hC'⟩:=hC.step ts h hR (by omega) hl hpl hpl;exact h3B ts h hlp hl hs h1 hrho hlam f (k+1) _ h2 (by omega) ⟨a',b',d',e',hC'⟩ (h4g ts h.next.2 hR (by omega) hl ez) (by omega)
theorem h3D (p:aw) (m0:List Int):∀n:Nat,(evq (pts p m0) n).length≤n
 | 0=>mG _
 | n+1=>by
  rw[h1x];have:=h3D p m0 n;have:(pts p m0 n).length≤1:=by unfold pts; split<;>simp
  omega
theorem h3o (n:Nat):rdL (List.replicate n (0:Int)) 0=0:=by
 induction n with
 | zero=>rfl
 | succ n ih=>show max ((0:Int)-0).toNat (rdL (List.replicate n (0:Int)) 0)=0; rw[ih]; rfl
theorem h2B (p:aw) (o m0:List Int) (t rho lam L:Nat):phi p o m0 t rho lam L (st0 m0)≤(rho+lam+3)*(limS p o m0 false t+limS p o m0 true t+(evq (pts p m0) (t+1)).length+2)+lam*cntS p o m0 false (t+65):=by
 unfold phi h8I;have e1:sP (limS p o m0 false t) (st0 m0).A (st0 m0).Cycle=0:=by
  have:sdP (st0 m0).A (st0 m0).Cycle=0:=by
   show rdL (List.replicate 16 (0:Int)) 0+((0:Int)-0).toNat=0;rw[h3o]; rfl
  unfold sP;rw[this];split<;>rfl
 have e2:sP (limS p o m0 true t) (st0 m0).E (st0 m0).Cycle=0:=by
  have:sdP (st0 m0).E (st0 m0).Cycle=0:=by
   show rdL (List.replicate 16 (0:Int)) 0+((0:Int)-0).toNat=0;rw[h3o]; rfl
  unfold sP;rw[this];split<;>rfl
 have e3:(st0 m0).A.Done=0:=rfl;have e5:dL (st0 m0)=0:=rfl;have e6:fi t (st0 m0).Trap=2:=rfl;have e7:tabP L (st0 m0).Table=0:=rfl;rw[e1,e2,e3,e5,e6,e7];have h1:((limS p o m0 false t:Int)-0).toNat+((limS p o m0 true t:Int)-0).toNat+((evq (pts p m0) (t+1)).length-0)+2≤limS p o m0 false t+limS p o m0 true t+(evq (pts p m0) (t+1)).length+2:=by omega
 have h2:(((cntS p o m0 false (t+65):Nat):Int)-0).toNat≤cntS p o m0 false (t+65):=by omega
 have g1:=nv (rho+lam+3) h1;have g2:=nv lam h2;rw[nS,nS,nS];exact Nat.add_le_add g1 g2
theorem h2f (p:aw) (o m0:List Int) (e:Bool) (t:Nat):limS p o m0 e t≤3*(t+1):=by
 have h1:=h1u p o m0 e (t+1);have h2:=h1u p o m0 e t;unfold limS;split<;>omega
theorem h3K (m0:List Int):EZ (st0 m0):=λr hr=>by
 have:r=0:=pC (show r∈List.replicate 16 (0:Int) from hr);omega
end
section
variable (c:ay) (t:bH) (s:ao)
theorem h3F (r:cO) (z:aa) (hs:dx s.Blocks) (hl:s.Blocks.length≤100000) (hN:s.Blocks.length<N) (hN2:1001<N):∀(n m d k:Nat) (x:aa),d<n→d≤m→m≤1000000→RI k c s x→k+d≤12000→da c s (runN c s t d x)=true →
  f8a N n (da c s x) (m:Int) s c t r z x=some (1,gB.dv true (cm.dv s (fK.dv r (aA.dv z (aA.dv (runN c s t d x) []))))):=by
 intro n;induction n with
 | zero=>intro m d k x h; omega
 | succ n ih =>
  intro m d k x hd hm hmm h hk hov;show f8j N (f8a N n) (da c s x) (m:Int) s c t r z x=_;unfold f8j;cases ho:da c s x with
  | true =>
   rw[g6W c t s ho d];cases m with
   | zero=>rfl
   | succ m=>rw[dt (show ((m+1:Nat):Int)>0 by omega),ai,mR,ah]
  | false =>
   cases d with
   | zero =>
    rw[show runN c s t 0 x=x from rfl,ho]at hov;cases hov
   | succ d =>
    rw[g6N,ho,if_neg (by simp)]at hov ⊢;obtain⟨h2,_⟩:=e4R t hs h (by omega) hl;rw[dt (show (m:Int)>0 by omega),ai,mn,ai,g3c c s t x hs h (by omega) hl hN hN2,au,ag,aj,f9k c s _ (h2.inv.wf (by omega)) (h2.right (by omega)) hl hN hN2,au,ag,aj,wI (x:=(m:Int)-1) (by omega) (by omega),show (m:Int)-1=((m-1:Nat):Int) by omega];exact ih (m-1) d (k+1) _ (by omega) (by omega) (by omega) h2 (by omega) hov
theorem h2D (p:aw) (f:Int) (ho:s.Owner.length=16) (hc:cfgM c=true) (hr:iN p s=true) (hN:100000<N) (d:Nat) (hd:d≤11000) (hdf:(d:Int)≤f) (hov:da c s (runN c s t d (st0 (memM p)))=true) :
  jq N p s c t f=some (0,fK.dv (outM c s (runN c s t d (st0 (memM p)))) (aA.dv (runN c s t d (st0 (memM p))) (gI.dv 0 []))):=by
 unfold jq;rw[e2d c (by omega),au,ag,aj,hc,mR,ah,g2w p s ho hN,au,ag,aj,hr];have hsp:=f9v hr;have hs:=hsp.next.2
 have hrp:=hsp.right;have hll:s.Blocks.length≤2000:=by rw[hsp.len]; have:=(fm p).len; have:=(dW hrp).2.1; omega
 have hmem:len (memM p)≤65536:=by have:=f5u hrp; simp only[len,g1Z hrp]; omega
 have h0:=e4P hc hs hmem;have hfu:(if 0<(if 1000000<f then 1000000 else f) then (if 1000000<f then 1000000 else f) else 0)=(((min f 1000000).toNat:Nat):Int):=by
  split<;>split<;>omega
 have hlp:=h3F (N:=N) c t s res0 (st0 []) hs (by omega) (by omega) (by omega) N (min f 1000000).toNat d 0 (st0 (memM p)) (by omega) (by omega) (by omega) h0 (by omega) hov;obtain⟨j,hj,hR,_⟩:=g2i c t s hs (by omega) d 0 (st0 (memM p)) h0 (by omega);rw[mR,ah,g1D hrp (by omega),au,ag,aj,f9k c s _ (h0.inv.wf (by omega)) (h0.right (by omega)) (by omega) (by omega) (by omega),au,ag,aj,hfu,hlp,dG];simp only[ag,aj,g2k s _ (hR.inv.wf (by omega)) (by omega:100<N),au];unfold outM;rw[hov];rfl
end
variable {N:Nat}
theorem h2r {p:aw} {o:List Int} (c:ay) (ts:bH) (ho:o.length=16) (hcl:dK p o=true) (hc:cfgM c=true) {t rho lam:Nat} (hs:Stops p (memM p) t) (h1:1≤rho) (hrho:∀q∈p.Code,latM c q.1≤rho)
  (hlam:lam=c.Lat.toNat+1∨(lam=0∧∀q∈p.Code,ae q.1≠4∧ae q.1≠5)) {d:Nat} (hd:d≤11000) (hf:phi p o (memM p) t rho lam c.Lat.toNat (st0 (memM p))≤d) (f:Int) (hdf:(d:Int)≤f) (hN:100000<N) :
  ∃x,jq N p (ky p o) c ts f=some (0,fK.dv (resG p (memM p) t) (aA.dv x (gI.dv 0 [])))∧(resG p (memM p) t).Writes.length≤100000:=by
 obtain⟨hsp,hr,hll,hlp,hm⟩:=g8N hcl;obtain⟨r1,e1⟩:=g1O hcl;have hov:=h3B (cf:=c) ts hsp hlp (by omega) hs h1 hrho hlam d 0 (st0 (memM p)) (e4P hc hsp.next.2 hm) (by omega) ⟨0,0,0,0,Cos.first hsp⟩ (h3K _) hf
 have hrun:=h2D (N:=N) c ts (ky p o) p f (by rw[e1]; exact ho) hc r1 hN d hd hdf hov;obtain⟨k,k1,hR,a,b,e,g,hC⟩:=g9O c ts (ky p o) (memM p) hsp hlp (by omega) d 0 _ (e4P hc hsp.next.2 hm) (by omega) ⟨0,0,0,0,Cos.first hsp⟩
 have hpl:p.Code.length*(k+1)≤1000000000:=by
  have:=oz hlp (show k+1≤12001 by omega);omega
 obtain⟨u,hu,he⟩:=h0N hsp hC (hR.right (by omega)) hov hpl hpl;have hut:=hu.uniq hs;subst hut;have hw:=g4m (c:=c) (s:=ky p o) (hR.inv.wf (by omega));have eo:outM c (ky p o) (runN c (ky p o) ts d (st0 (memM p)))=resG p (memM p) u:=by
  unfold outM;rw[if_pos hov,he]
 rw[eo]at hrun hw;exact⟨_,hrun,hw⟩
theorem h1B {c:ay} (h:cfgM c=true):1≤c.Mul∧1≤c.Div∧1≤c.Lat∧1≤c.Flight∧c.Flight≤64:=by
 unfold cfgM at h;simp only[mE,allB,mt,nT,decide_eq_true_eq]at h;omega
abbrev aV (n step:Int):aw:=aw.mk [(17,(1,(0,(0,(n,()))))),(17,(4,(0,(0,(step,()))))),(11,(3,(1,(4,(0,()))))),(1,(2,(2,(3,(0,()))))),(17,(1,(1,(0,((-1:Int),()))))),(35,(0,(1,(0,((-3:Int),()))))),(41,(0,bv.z))] 0 ([]:List Int)
abbrev oTwo:List Int:=0::List.replicate 15 2
theorem h1p {p:aw} {m0:List Int} {u q:Nat} {i:af} {v:Int} (hpc:(runG p m0 u).pc=q) (hq:q<p.Code.length) (hc:aQ p q=i) (hf:ae i.1≤3) (hv:gDo (runG p m0 u) i=(v,true)) :
  runG p m0 (u+1)=⟨q+1,updG (runG p m0 u).regs i.2.1 v,(runG p m0 u).mem⟩∧((runG p m0 u).pc<p.Code.length∧ae (insG p m0 u).1≠8∧bX (runG p m0 u) (insG p m0 u)=0):=by
 have hl:(runG p m0 u).pc<p.Code.length:=by rw[hpc]; exact hq
 have hi:insG p m0 u=i:=by unfold insG; rw[hpc]; exact hc
 have ht:bX (runG p m0 u) i=0:=by
  unfold bX;rw[if_pos hf,hv];rfl
 refine⟨?_,hl,by rw[hi]; omega,by rw[hi]; exact ht⟩
 rw[iQ hl,hi];have e1:gPc p (runG p m0 u) i=q+1:=by
  unfold gPc goes;rw[decide_eq_false (show ¬ae i.1=7 by omega),decide_eq_false (show ¬ae i.1=6 by omega)];rw[mZ,nH,if_neg (by simp),if_neg (by omega),hpc]
 have e2:rgsG (runG p m0 u) i=updG (runG p m0 u).regs i.2.1 v:=by
  unfold rgsG;rw[if_neg (by rw[ht]; simp),if_pos hf,hv]
 have e3:gMem (runG p m0 u) i=(runG p m0 u).mem:=by
  unfold gMem;rw[if_neg (by omega)]
 rw[e1,e2,e3]
def sumL (n:Int):Nat→Int
 | 0=>0
 | k+1=>sumL n k+(n-k)
structure LAt (n step:Int) (u q:Nat) (a b d:Int):Prop where
 pc:(runG (aV n step) [] u).pc=q
 r1:(runG (aV n step) [] u).regs 1=a
 r2:(runG (aV n step) [] u).regs 2=b
 r4:(runG (aV n step) [] u).regs 4=d
 me:(runG (aV n step) [] u).mem=[]
 ps:∀t,t<u→(runG (aV n step) [] t).pc<(aV n step).Code.length∧ae (insG (aV n step) [] t).1≠8∧bX (runG (aV n step) [] t) (insG (aV n step) [] t)=0
theorem h1G {P:Nat→Prop} {u:Nat} (h:∀t,t<u→P t) (g:P u):∀t,t<u+1→P t:=λt ht=>by
 by_cases e:t=u
 ·rw[e]; exact g
 ·exact h t (by omega)
theorem iw (x:Int):w.u32 x=x % 4294967296:=by simp only[w.u32,IntKind.wrap_u32]
section
variable {n step:Int} (hn:1≤n∧n≤12) (hs:-8192≤step∧step≤8191)
include hn in
theorem ins0:bC (17,(1,(0,(0,(n,())))))=true:=by
 show decide (-8192≤n∧n≤8191)=true;exact decide_eq_true (by omega)
include hs in
theorem ins1:bC (17,(4,(0,(0,(step,())))))=true:=by
 show decide (-8192≤step∧step≤8191)=true;exact decide_eq_true (by omega)
include hn hs
theorem h8K:cg (aV n step)=true:=by
 unfold cg;have e:(aV n step).Code.all bC=true:=by
  show (bC (17,(1,(0,(0,(n,())))))&&(bC (17,(4,(0,(0,(step,())))))&&true))=true;rw[ins0 hn,ins1 hs];rfl
 rw[e];rfl
theorem h8T:fI (aV n step)=oTwo:=by
 unfold fI;rw[if_pos (h8K hn hs)]
 kernel_rfl
theorem h8U:dK (aV n step) oTwo=true:=by
 unfold dK;rw[h8K hn hs]
 kernel_rfl
theorem h2Z:LAt n step 2 2 n 0 (w.u32 step):=by
 have h0:gDo (runG (aV n step) [] 0) (17,(1,(0,(0,(n,())))))=(w.u32 (0+w.u32 n),true):=by
  unfold gDo doM;rw[ins0 hn];rfl
 obtain⟨e0,s0⟩:=h1p (p:=aV n step) (m0:=[]) (u:=0) (q:=0) rfl (by show 0<7; omega) rfl (by show (2:Int)≤3; omega) h0;have h1:gDo (runG (aV n step) [] 1) (17,(4,(0,(0,(step,())))))=(w.u32 (0+w.u32 step),true):=by
  unfold gDo doM;rw[ins1 hs];rfl
 obtain⟨e1,s1⟩:=h1p (p:=aV n step) (m0:=[]) (u:=1) (q:=1) (by rw[e0]) (by show 1<7; omega) rfl (by show (2:Int)≤3; omega) h1;refine⟨by rw[e1],?_,?_,?_,?_,?_⟩
 ·
  rw[e1,e0];show w.u32 (0+w.u32 n)=n;rw[iw,iw];omega
 ·rw[e1,e0]; rfl
 ·
  rw[e1];show w.u32 (0+w.u32 step)=w.u32 step;rw[iw,iw];omega
 ·rw[e1,e0]; rfl
 ·exact h1G (h1G (λt ht=>absurd ht (by omega)) s0) s1
omit hs in
theorem h3p {u k:Nat} (hk:(k:Int)<n) {b:Int} (hb:b=w.u32 (step*sumL n k)) (h:LAt n step u 2 (n-k) b (w.u32 step)) :
  LAt n step (u+4) (if (k:Int)+1<n then 2 else 6) (n-((k+1:Nat):Int)) (w.u32 (step*sumL n (k+1))) (w.u32 step):=by
 have h0:gDo (runG (aV n step) [] u) (11,(3,(1,(4,(0,())))))=(w.u32 ((runG (aV n step) [] u).regs 1*(runG (aV n step) [] u).regs 4),true):=rfl;obtain⟨e0,s0⟩:=h1p (p:=aV n step) (m0:=[]) h.pc (by show 2<7; omega) rfl (by show (1:Int)≤3; omega) h0;have h1:gDo (runG (aV n step) [] (u+1)) (1,(2,(2,(3,(0,())))))=(w.u32 ((runG (aV n step) [] (u+1)).regs 2+(runG (aV n step) [] (u+1)).regs 3),true):=rfl;obtain⟨e1,s1⟩:=h1p (p:=aV n step) (m0:=[]) (u:=u+1) (q:=3) (by rw[e0]) (by show 3<7; omega) rfl (by show (1:Int)≤3; omega) h1;have h2:gDo (runG (aV n step) [] (u+2)) (17,(1,(1,(0,((-1:Int),())))))=(w.u32 ((runG (aV n step) [] (u+2)).regs 1+w.u32 (-1)),true):=rfl;obtain⟨e2,s2⟩:=h1p (p:=aV n step) (m0:=[]) (u:=u+2) (q:=4) (by rw[e1]) (by show 4<7; omega) rfl (by show (2:Int)≤3; omega) h2;have pc3:(runG (aV n step) [] (u+3)).pc=5:=by rw[e2]
 have r31:(runG (aV n step) [] (u+3)).regs 1=n-((k+1:Nat):Int):=by
  rw[e2];show w.u32 ((runG (aV n step) [] (u+2)).regs 1+w.u32 (-1))=_;rw[e1];show w.u32 ((runG (aV n step) [] (u+1)).regs 1+w.u32 (-1))=_;rw[e0];show w.u32 ((runG (aV n step) [] u).regs 1+w.u32 (-1))=_;rw[h.r1,iw,iw];omega
 have r32:(runG (aV n step) [] (u+3)).regs 2=w.u32 (step*sumL n (k+1)):=by
  rw[e2];show (runG (aV n step) [] (u+2)).regs 2=_;rw[e1];show w.u32 ((runG (aV n step) [] (u+1)).regs 2+(runG (aV n step) [] (u+1)).regs 3)=_;rw[e0];show w.u32 ((runG (aV n step) [] u).regs 2+w.u32 ((runG (aV n step) [] u).regs 1*(runG (aV n step) [] u).regs 4))=_;rw[h.r1,h.r2,h.r4,hb];show _=w.u32 (step*(sumL n k+(n-k)));rw[Int.mul_add,iw,iw,iw,iw,iw];have hq:step % 4294967296=step-4294967296*(step / 4294967296):=Int.emod_def _ _;rw[hq,Int.mul_sub,← Int.mul_assoc,qI (n-k) 4294967296,Int.mul_assoc,qI (n-k) step];generalize (n-k)*(step / 4294967296)=z;generalize step*(n-k)=y;generalize step*sumL n k=x;omega
 have r34:(runG (aV n step) [] (u+3)).regs 4=w.u32 step:=by
  rw[e2];show (runG (aV n step) [] (u+2)).regs 4=_;rw[e1];show (runG (aV n step) [] (u+1)).regs 4=_;rw[e0];exact h.r4
 have m3:(runG (aV n step) [] (u+3)).mem=[]:=by
  rw[e2];show (runG (aV n step) [] (u+2)).mem=_;rw[e1];show (runG (aV n step) [] (u+1)).mem=_;rw[e0];exact h.me
 have hl:(runG (aV n step) [] (u+3)).pc<(aV n step).Code.length:=by rw[pc3]; show 5<7; omega
 have hi:insG (aV n step) [] (u+3)=(35,(0,(1,(0,((-3:Int),()))))):=by unfold insG; rw[pc3]; rfl
 have e3:=iQ (p:=aV n step) (m0:=[]) hl;have hgo:goes (runG (aV n step) [] (u+3)) (35,(0,(1,(0,((-3:Int),())))))=((runG (aV n step) [] (u+3)).regs 1 != 0):=by
  show ((runG (aV n step) [] (u+3)).regs 1 != 0)=_;rfl
 have s3:(runG (aV n step) [] (u+3)).pc<(aV n step).Code.length∧ae (insG (aV n step) [] (u+3)).1≠8∧bX (runG (aV n step) [] (u+3)) (insG (aV n step) [] (u+3))=0:=by
  refine⟨hl,?_,?_⟩
  ·rw[hi]; decide
  ·rw[hi]; rfl
 refine⟨?_,?_,?_,?_,?_,?_⟩
 ·
  rw[show u+4=u+3+1 from rfl,e3];show gPc (aV n step) (runG (aV n step) [] (u+3)) (insG (aV n step) [] (u+3))=_;rw[hi];unfold gPc;rw[hgo,r31,pc3];by_cases hlt:(k:Int)+1<n
  ·
   rw[if_pos (bne_iff_ne.2 (by omega)),if_pos hlt];rfl
  ·rw[if_neg (by rw[bne_iff_ne]; simp; omega),if_neg hlt,if_neg (by decide)]
 ·
  rw[show u+4=u+3+1 from rfl,e3];show rgsG (runG (aV n step) [] (u+3)) (insG (aV n step) [] (u+3)) 1=_;rw[hi,h0X _ _ (by decide)];exact r31
 ·
  rw[show u+4=u+3+1 from rfl,e3];show rgsG (runG (aV n step) [] (u+3)) (insG (aV n step) [] (u+3)) 2=_;rw[hi,h0X _ _ (by decide)];exact r32
 ·
  rw[show u+4=u+3+1 from rfl,e3];show rgsG (runG (aV n step) [] (u+3)) (insG (aV n step) [] (u+3)) 4=_;rw[hi,h0X _ _ (by decide)];exact r34
 ·
  rw[show u+4=u+3+1 from rfl,e3];show gMem (runG (aV n step) [] (u+3)) (insG (aV n step) [] (u+3))=_;rw[hi];exact m3
 ·exact h1G (h1G (h1G (h1G h.ps s0) s1) s2) s3
theorem h2c:∀k:Nat,(k:Int)≤n→LAt n step (2+4*k) (if (k:Int)<n then 2 else 6) (n-k) (w.u32 (step*sumL n k)) (w.u32 step)
 | 0,_=>by
  have h:=h2Z hn hs;rw[if_pos (show ((0:Nat):Int)<n by omega)];have e:w.u32 (step*sumL n 0)=0:=by
   show w.u32 (step*0)=0;rw[Int.mul_zero]; rfl
  rw[e,show n-((0:Nat):Int)=n by omega];exact h
 | k+1,hk=>by
  have h:=h2c k (by omega);rw[if_pos (by omega)]at h;have:=h3p hn (by omega) rfl h;rw[show ((k+1:Nat):Int)=(k:Int)+1 by omega]at this ⊢;exact this
theorem h2W:Stops (aV n step) [] (2+4*n.toNat)∧resG (aV n step) [] (2+4*n.toNat)=cO.mk 1 cQ.z (3+4*n) (gk (runG (aV n step) [] (2+4*n.toNat))) ((wrG (aV n step) [] (2+4*n.toNat)).foldl wrOf []) (wrG (aV n step) [] (2+4*n.toNat)):=by
 have h:=h2c hn hs n.toNat (by omega);rw[if_neg (by omega)]at h;have hl:(runG (aV n step) [] (2+4*n.toNat)).pc<(aV n step).Code.length:=by rw[h.pc]; show 6<7; omega
 have hi:insG (aV n step) [] (2+4*n.toNat)=(41,(0,bv.z)):=by unfold insG; rw[h.pc]; rfl
 refine⟨⟨h.ps,.inr (.inr (by rw[hi]; rfl))⟩,?_⟩;unfold resG;rw[if_neg (by omega),if_neg (by rw[h0r (p:=aV n step) (m0:=[]) (t:=2+4*n.toNat) (by rw[hi]; rfl)]; simp)];rw[show ((2+4*n.toNat:Nat):Int)+1=3+4*n by omega]
end
theorem h2i (n step : Int) (c : ay) (t : bH) : h1r 200000 n step c t = some (0, gB.dv true []) := by
  unfold h1r
  rw [g4n, au, ag, aj, mR, ah]
  by_cases h1 : n < 1
  · rw [dt h1]; rfl
  rw [df h1, ah]
  by_cases h2 : n > 12
  · rw [dt h2]; rfl
  rw [df h2, ah]
  by_cases h3 : step < -8192
  · rw [dt h3]; rfl
  rw [df h3, ah]
  by_cases h4 : step > 8191
  · rw [dt h4]; rfl
  rw [df h4, ah, b9P c (by omega), au, ag, aj]
  cases hc : cfgM c with
  | false => rfl
  | true =>
    rw [mR, ah]
    by_cases h5 : c.Mul > 6
    · rw [dt h5]; rfl
    rw [df h5, ah]
    by_cases h6 : len t.Lats > 60
    · rw [dt h6]; rfl
    rw [df h6, ah]
    by_cases h7 : len t.Picks > 60
    · rw [dt h7]; rfl
    rw [df h7, ah]
    have hn : 1 ≤ n ∧ n ≤ 12 := by omega
    have hs : -8192 ≤ step ∧ step ≤ 8191 := by omega
    have hcl := h8U hn hs
    have hm : memM (aV n step) = [] := rfl
    obtain ⟨u1, u2, u3, u4, u5⟩ := h1B hc
    obtain ⟨hst, hres⟩ := h2W hn hs
    have l1 := h2f (aV n step) oTwo [] false (2 + 4 * n.toNat)
    have l2 := h2f (aV n step) oTwo [] true (2 + 4 * n.toNat)
    have l3 := h3D (aV n step) [] (2 + 4 * n.toNat + 1)
    have hp := h2B (aV n step) oTwo [] (2 + 4 * n.toNat) 6 0 c.Lat.toNat
    obtain ⟨x, hx, hw⟩ := h2r (N := 200000) (o := oTwo) c t rfl hcl hc (t := 2 + 4 * n.toNat) (rho := 6) (lam := 0) (by rw [hm]; exact hst) (by omega) (fun q hq => by
        have : latM c q.1 ≤ 6 := by
          simp only [mV, pZ, or_false] at hq
          have h11 : latM c 11 ≤ 6 := by
            unfold latM
            rw [if_pos (.inl rfl)]
            split <;> omega
          rcases hq with rfl | rfl | rfl | rfl | rfl | rfl | rfl
          all_goals first | exact h11 | exact (by decide : (1 : Int) ≤ 6)
        exact this) (.inr ⟨rfl, fun q hq => by
          simp only [mV, pZ, or_false] at hq
          rcases hq with rfl | rfl | rfl | rfl | rfl | rfl | rfl
          all_goals refine ⟨?_, ?_⟩
          all_goals first | decide | (show ae 17 ≠ _; decide)⟩) (d := 3231) (by omega) (by rw [hm]; omega) 4000 (by omega) (by omega)
    rw [hm, hres] at hx
    unfold ky at hx
    rw [if_pos hcl] at hx
    rw [g5e (aV n step) (show 2000 < 200000 by omega), au, ag, ag, aj, h8T hn hs]
    unfold ky
    rw [if_pos hcl, hx, au, ag, ag, ag, aj]
    unfold f8G
    rw [au, ag, aj, bt (show (0 : Int) = 0 from rfl), ai, bt (show (1 : Int) = 1 from rfl), ai]
    have hall := h2c hn hs n.toNat (by omega)
    have e1 : (gk (runG (aV n step) [] (2 + 4 * n.toNat))).getD 1 0 = 0 := by
      show (runG (aV n step) [] (2 + 4 * n.toNat)).regs 1 = 0
      rw [hall.r1]; omega
    have e2 : (gk (runG (aV n step) [] (2 + 4 * n.toNat))).getD 2 0 = w.u32 (step * sumL n n.toNat) := hall.r2
    have e3 : w.u32 (w.i64 (Int.tdiv (w.i64 ((w.i64 (step * n)) * (w.i64 (n + 1)))) 2)) = w.u32 (step * sumL n n.toNat) := by
      have td : ∀ z : Int, Int.tdiv (2 * z) 2 = z := fun z => Int.mul_tdiv_cancel_left z (by omega)
      have key : ∀ (a b : Int), n = a → sumL n n.toNat = b → a * (a + 1) = 2 * b → 0 ≤ b → b ≤ 100 → w.u32 (w.i64 (Int.tdiv (w.i64 ((w.i64 (step * n)) * (w.i64 (n + 1)))) 2)) = w.u32 (step * sumL n n.toNat) := by
        intro a b ha hb hab b0 b1
        have p1 : step * n ≤ 8191 * 12 ∧ -(8192 * 12) ≤ step * n := by
          rcases (show n = 1 ∨ n = 2 ∨ n = 3 ∨ n = 4 ∨ n = 5 ∨ n = 6 ∨ n = 7 ∨ n = 8 ∨ n = 9 ∨ n = 10 ∨ n = 11 ∨ n = 12 by omega) with g | g | g | g | g | g | g | g | g | g | g | g <;> rw [g] <;> omega
        have e : step * n * (n + 1) = 2 * (step * b) := by rw [ha, Int.mul_assoc, hab, Int.mul_left_comm]
        have p2 : -(8192 * 100) ≤ step * b ∧ step * b ≤ 8192 * 100 := by
          constructor
          · have := pU (show -8192 ≤ step by omega) b0
            omega
          · have := pU (show step ≤ 8192 by omega) b0
            omega
        rw [wI (x := step * n) (by omega) (by omega), wI (x := n + 1) (by omega) (by omega), e, wI (x := 2 * (step * b)) (by omega) (by omega), td, wI (x := step * b) (by omega) (by omega), hb]
      rcases (show n = 1 ∨ n = 2 ∨ n = 3 ∨ n = 4 ∨ n = 5 ∨ n = 6 ∨ n = 7 ∨ n = 8 ∨ n = 9 ∨ n = 10 ∨ n = 11 ∨ n = 12 by omega) with g | g | g | g | g | g | g | g | g | g | g | g
      · exact key 1 1 g (by rw [g]; rfl) rfl (by decide) (by decide)
      · exact key 2 3 g (by rw [g]; rfl) rfl (by decide) (by decide)
      · exact key 3 6 g (by rw [g]; rfl) rfl (by decide) (by decide)
      · exact key 4 10 g (by rw [g]; rfl) rfl (by decide) (by decide)
      · exact key 5 15 g (by rw [g]; rfl) rfl (by decide) (by decide)
      · exact key 6 21 g (by rw [g]; rfl) rfl (by decide) (by decide)
      · exact key 7 28 g (by rw [g]; rfl) rfl (by decide) (by decide)
      · exact key 8 36 g (by rw [g]; rfl) rfl (by decide) (by decide)
      · exact key 9 45 g (by rw [g]; rfl) rfl (by decide) (by decide)
      · exact key 10 55 g (by rw [g]; rfl) rfl (by decide) (by decide)
      · exact key 11 66 g (by rw [g]; rfl) rfl (by decide) (by decide)
      · exact key 12 78 g (by rw [g]; rfl) rfl (by decide) (by decide)
    show gd (idx 1 16) (bi ((gk (runG (aV n step) [] (2 + 4 * n.toNat))).getD 1 0 == 0) _ _) = _
    rw [show idx 1 16 = true from rfl, aH, e1, bt rfl, ai, show idx 2 16 = true from rfl, aH]
    show gf (decide ((2 : Int) = 0)) (bi ((gk (runG (aV n step) [] (2 + 4 * n.toNat))).getD 2 0 == _) _ _) = _
    rw [e2, e3, bt rfl]
    simp only [ai]
    show gf (decide ((2 : Int) = 0)) (some (0, gB.dv ((3 + 4 * n) == (w.i64 (3 + (w.i64 (4 * n))))) [])) = _
    rw [wI (x := 4 * n) (by omega) (by omega), wI (x := 3 + 4 * n) (by omega) (by omega), bt rfl]
    rfl
end Go.Proofs.Zz
