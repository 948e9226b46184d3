import Derived.Test.YtnfpdmhdpeffjaaGreatYT
import Derived.Test.YtnfpdmhdpeffjaaGreatVK
set_option linter.unusedSimpArgs false
set_option linter.unusedVariables false
set_option maxRecDepth 100000
namespace Go.Proofs.Zz
open Go
variable {N:Nat}
structure At1 (p:aw) (m0:List Int) (n:Nat) (r:cO) (pc:Int):Prop where
 en:r.D4=0
 tp:r.A9=cQ.z
 st:r.Steps=(n:Int)
 l16:r.B1.length=16
 r0:r.B1.getD 0 0=0
 rg:∀k:Int,1≤k→k≤15→r.B1.getD k.toNat 0=(runG p m0 n).regs k
 me:r.Mem=(runG p m0 n).mem
 wr:r.A2=wrG p m0 n
 pc:pc=((runG p m0 n).pc:Int)
 le:(runG p m0 n).pc≤p.Code.length
 ps:∀u,u<n→(runG p m0 u).pc<p.Code.length∧ae (insG p m0 u).1≠8∧bX (runG p m0 u) (insG p m0 u)=0
section
variable {p:aw} {m0:List Int} {n:Nat} {r r':cO} {pc pc':Int}
theorem At1.next (h:At1 p m0 n r pc) (hp:cg p=true) (hpc:(runG p m0 n).pc<p.Code.length) (h8:ae (insG p m0 n).1≠8) (ht:bX (runG p m0 n) (insG p m0 n)=0)
  (fr:r'={r with Steps:=(n:Int)+1,B1:=r'.B1,Mem:=gMem (runG p m0 n) (insG p m0 n),A2:=r.A2++(qst p m0 n).map (·.2)})
  (hr:r'.B1.length=16∧r'.B1.getD 0 0=0∧∀k:Int,1≤k→k≤15→r'.B1.getD k.toNat 0=rgsG (runG p m0 n) (insG p m0 n) k) (hpc':pc'=((gPc p (runG p m0 n) (insG p m0 n):Nat):Int)):At1 p m0 (n+1) r' pc':=by
 have e1:=iQ (m0:=m0) hpc;refine⟨by rw[fr]; exact h.en,by rw[fr]; exact h.tp,by rw[fr]; show (n:Int)+1=_; omega,hr.1,hr.2.1,λk k1 k2=>?_,?_,?_,?_,?_,λu hu=>?_⟩
 ·rw[e1]; exact hr.2.2 k k1 k2
 ·rw[e1,fr]
 ·
  rw[fr];show r.A2++_=((evq (qst p m0) n++qst p m0 n).map (·.2));rw[mv,h.wr]; rfl
 ·rw[e1]; exact hpc'
 ·
  rw[e1];show gPc p (runG p m0 n) (insG p m0 n)≤_;unfold gPc;split
  ·
   by_cases hneg:0≤tgtM p ((runG p m0 n).pc:Int)
   ·have:=g3t hneg; omega
   ·omega
  ·omega
 ·
  by_cases e:u=n
  ·subst e; exact⟨hpc,h8,ht⟩
  ·exact h.ps u (by omega)
theorem h2y (hp:cg p=true) (hpc:(runG p m0 n).pc<p.Code.length) (hb:brM (insG p m0 n)=true):0≤tgtM p ((runG p m0 n).pc:Int)∧tgtM p ((runG p m0 n).pc:Int)=((runG p m0 n).pc:Int)+(insG p m0 n).2.2.2.2.1:=by
 have hr:=hp;have ht:0≤tgtM p ((runG p m0 n).pc:Int):=by
  unfold cg kL at hr;simp only[mE]at hr;have:=mz.1 hr.2.2 (runG p m0 n).pc (qL.2 ⟨(runG p m0 n).pc,hpc,by omega⟩);unfold fh at this;rw[show aQ p (runG p m0 n).pc=insG p m0 n from rfl,hb]at this;simp only[mO,mu,decide_eq_false_iff_not]at this;omega
 refine⟨ht,?_⟩;unfold tgtM at ht ⊢;rw[mF]at ht ⊢;rw[show aQ p (runG p m0 n).pc=insG p m0 n from rfl]at ht ⊢;split at ht
 ·rename_i g; rw[if_pos g]
 ·omega
theorem h3q (h:At1 p m0 n r pc) {D v:Int} (h0:0≤D) (h1:D≤15):kB N D v r=some (0,fK.dv {r with B1:=if D=0 then r.B1 else r.B1.set D.toNat v} []):=by
 unfold kB;have:=h.l16;by_cases e:D=0
 ·rw[show (D != 0)=false by rw[e]; rfl,ah,if_pos e]
 ·rw[show (D != 0)=true from bne_iff_ne.2 e,ai,cd (by omega) (by omega),aH,if_neg e]
theorem h2l (h:At1 p m0 n r pc) {D v:Int} (h0:0≤D) (h1:D≤15) :
  (if D=0 then r.B1 else r.B1.set D.toNat v).length=16∧(if D=0 then r.B1 else r.B1.set D.toNat v).getD 0 0=0∧∀k:Int,1≤k→k≤15→(if D=0 then r.B1 else r.B1.set D.toNat v).getD k.toNat 0=updG (runG p m0 n).regs D v k:=by
 have hl:=h.l16;by_cases e:D=0
 ·
  rw[if_pos e];exact⟨hl,h.r0,λk k1 k2=>by rw[h0H (by omega)]; exact h.rg k k1 k2⟩
 ·
  rw[if_neg e];refine⟨by rw[mp]; exact hl,?_,λk k1 k2=>?_⟩
  ·rw[kN _ _ _ _ (by omega),if_neg (by omega)]; exact h.r0
  ·
   rw[kN _ _ _ _ (by omega)];by_cases ek:k=D
   ·rw[if_pos (by omega),ek,h0D]
   ·rw[if_neg (by omega),h0H ek]; exact h.rg k k1 k2
theorem h3M (hp:cg p = true) (hm:len m0 = p.B8) (h:At1 p m0 n r pc) (hn:n≤1000000) (hw:r.A2.length≤1000000) (hN:100000 < N) :
    (¬ (runG p m0 n).pc < p.Code.length→kJ N p r pc = some (0,fK.dv { r with D4:=2,A9:=⟨4,(n:Int),pc⟩ } (gI.dv pc []))) ∧
    ((runG p m0 n).pc < p.Code.length→bX (runG p m0 n) (insG p m0 n)≠0→kJ N p r pc = some (0,fK.dv { r with D4:=2,A9:=⟨bX (runG p m0 n) (insG p m0 n),(n:Int),pc⟩ } (gI.dv pc []))) ∧
    ((runG p m0 n).pc < p.Code.length→ae (insG p m0 n).1 = 8→kJ N p r pc = some (0,fK.dv { r with D4:=1,Steps:=(n:Int)+1 } (gI.dv pc []))) ∧
    ((runG p m0 n).pc < p.Code.length→bX (runG p m0 n) (insG p m0 n) = 0→ae (insG p m0 n).1≠8→∃ r' pc',kJ N p r pc = some (0,fK.dv r' (gI.dv pc' []))∧At1 p m0 (n+1) r' pc'):=by
  have hsz:=kO hp;have hml:r.Mem.length = m0.length:=by rw [h.me]; exact h0a p m0 n
  have hlen:len r.Mem = p.B8:=by simp only [len,hml]; exact hm
  have hl16:=h.l16;have hcl:=(dW hp).2.1;have hpc0:=h.pc;have hle:=h.le;have hcopy:h2j N r = some (0,fK.dv r []):=by
    unfold h2j;rw [rm0 (l:=r.Mem) (n:=1) (by simp only [len] at hlen; omega),aH,rm0 (l:=r.A2) (n:=24) (by omega),aH,mf,mf]
  have htrap:∀ k:Int,kz N r k pc = some (0,fK.dv { r with D4:=2,A9:=⟨k,(n:Int),pc⟩ } (gI.dv pc [])):=fun k=>by
    unfold kz;rw [h.st]
  have hval:∀ k:Int,0≤k→k≤15→h1z N r.B1 k = some (0,gW.dv (gv (runG p m0 n) k) []):=fun k k0 k1=>by
    unfold h1z gv;by_cases e:k = 0
    · rw [bt e,ai,if_neg (by omega)]
    · rw [bf e,ah,cd (by omega) (by omega),aH,if_pos (by omega),h.rg k (by omega) k1]
  have hst:w.i64 (r.Steps+1) = (n:Int)+1:=by rw [h.st]; exact wI (by omega) (by omega)
  have hen:(r.D4 == 1) = false:=by rw [h.en]; rfl
  have hchk:∀ {op a:Int},26≤op→op≤33→U32 a→kH N (aZ op) a p.B8 = some (0,gI.dv (jP (aZ op) a (len (runG p m0 n).mem)) []):=fun {op a} o1 o2 ha=>by
    have hz:=d6S (op:=op) ⟨o1,o2⟩;have e1:len (runG p m0 n).mem = p.B8:=by rw [← h.me]; exact hlen
    rw [show kH N (aZ op) a p.B8 = _ from a9V (N:=N) hz ha (by omega),e1];unfold jP;rw [if_neg (by omega)]
  have hstart:∀ X,(pc≥len p.Code→X = (some (0,fK.dv { r with D4:=2,A9:=⟨4,(n:Int),pc⟩ } (gI.dv pc [])):Option Rs))→kJ N p r pc = X∨True:=fun _ _=>.inr trivial
  have hfirst:¬ (runG p m0 n).pc < p.Code.length→kJ N p r pc = some (0,fK.dv { r with D4:=2,A9:=⟨4,(n:Int),pc⟩ } (gI.dv pc [])):=fun hpc=>by
    unfold kJ;rw [hcopy,au,ag,aj,show (r.D4 != 0) = false by rw [h.en]; rfl,ah,f9c p (by omega),au,ag,aj,hp,mR,ah,show (len r.Mem != p.B8) = false by rw [hlen]; simp,ah,df (show ¬ pc < 0 by omega),ah,dt (show pc≥len p.Code by simp only [len]; omega),ai,htrap,au,ag,ag,aj]
  refine ⟨hfirst,?_⟩;by_cases hpc:(runG p m0 n).pc < p.Code.length
  case neg=>exact ⟨fun g=>absurd g hpc,fun g=>absurd g hpc,fun g=>absurd g hpc⟩
  have hr:=jR hp hpc;obtain ⟨⟨d0,d1⟩,⟨a0,a1⟩,b0,b1⟩:=iZ hr;have hf0:=g9w hr;have hf8:=(kQ (insG p m0 n).1).2;have hins:List.getD p.Code pc.toNat af.z = insG p m0 n:=by rw [hpc0,mF]; rfl
  have wA:=h1c (p:=p) (m0:=m0) n (insG p m0 n).2.2.1;have wB:=h1c (p:=p) (m0:=m0) n (insG p m0 n).2.2.2.1;have wpc:w.i64 (pc+1) = ((runG p m0 n).pc+1:Nat):=by rw [hpc0]; rw [wI (by omega) (by omega)]; omega
  have wp:∀ t:Int,0≤tgtM p ((runG p m0 n).pc:Int)∧tgtM p ((runG p m0 n).pc:Int) = ((runG p m0 n).pc:Int)+t→w.i64 (pc+t) = ((tgtM p ((runG p m0 n).pc:Int)).toNat:Int):=fun t ht=>by
    have:=g3t ht.1;rw [hpc0,wI (by omega) (by omega)];omega
  have hU:U32 (w.u32 (gv (runG p m0 n) (insG p m0 n).2.2.1+w.u32 (insG p m0 n).2.2.2.2.1)):=dI _;have ha64:w.i64 (w.u32 (gv (runG p m0 n) (insG p m0 n).2.2.1+w.u32 (insG p m0 n).2.2.2.2.1)) = c9 (runG p m0 n) (insG p m0 n):=by
    have:=hU;unfold U32 at this;exact wI (by omega) (by omega)
  have hgo:ae (insG p m0 n).1≤5→gPc p (runG p m0 n) (insG p m0 n) = (runG p m0 n).pc+1:=fun h5=>by
    unfold gPc goes;rw [decide_eq_false (by omega),decide_eq_false (by omega),if_neg (by simp),if_neg (by omega)]
  have hmem:ae (insG p m0 n).1≠5→gMem (runG p m0 n) (insG p m0 n) = r.Mem:=fun h5=>by
    unfold gMem;rw [if_neg (fun g=>h5 g.1),h.me]
  have hq:ae (insG p m0 n).1≠5→r.A2++(qst p m0 n).map (·.2) = r.A2:=fun h5=>by
    rw [show qst p m0 n = [] from if_neg h5]; simp
  have keep:5≤ae (insG p m0 n).1→r.B1.length = 16∧r.B1.getD 0 0 = 0∧∀ k:Int,1≤k→k≤15→r.B1.getD k.toNat 0 = rgsG (runG p m0 n) (insG p m0 n) k:=fun h5 =>
    ⟨hl16,h.r0,fun k k1 k2=>by rw [h0X _ _ h5]; exact h.rg k k1 k2⟩
  unfold kJ;rw [hcopy,au,ag,aj,show (r.D4 != 0) = false by rw [h.en]; rfl,ah,f9c p (by omega),au,ag,aj,hp,mR,ah,show (len r.Mem != p.B8) = false by rw [hlen]; simp,ah,df (show ¬ pc < 0 by omega),ah,df (show ¬ pc≥len p.Code by simp only [len]; omega),ah,cd (by omega) (by omega),aH,hins,hval _ a0 a1,au,ag,aj,hval _ b0 b1,au,ag,aj,jg,au,ag,aj];by_cases f3:ae (insG p m0 n).1≤3
  · have hD:=@h3q N p m0 n r pc h (insG p m0 n).2.1 (gDo (runG p m0 n) (insG p m0 n)).1 d0 d1
    have hR:=h2l h (v:=(gDo (runG p m0 n) (insG p m0 n)).1) d0 d1;have hdo:kC N (insG p m0 n) (gv (runG p m0 n) (insG p m0 n).2.2.1) (gv (runG p m0 n) (insG p m0 n).2.2.2.1) = some (0,gW.dv (gDo (runG p m0 n) (insG p m0 n)).1 (gB.dv (gDo (runG p m0 n) (insG p m0 n)).2 [])):=d9l _ wA wB;rw [bf (show ¬ ae (insG p m0 n).1 = 4 by omega),ah,bf (show ¬ ae (insG p m0 n).1 = 5 by omega),ah];have hdone:∀ Y:Option Rs,on1 (kC N (insG p m0 n) (gv (runG p m0 n) (insG p m0 n).2.2.1) (gv (runG p m0 n) (insG p m0 n).2.2.2.1)) (gg [pW,pB] fun (x16:Int) (x17:Bool) =>
       bi (!x17) (
        on1 (kz N r 3 pc)<|gg [iz,pI]<|fun (x18:cO) (x19:Int)=>some (0,fK.dv x18 (gI.dv x19 []))) <|
       on1 (kB N ((insG p m0 n).2.1) x16 r)<|gg [iz]<|fun (x20:cO) =>
       bi (x20.D4 == 1) (some (0,fK.dv ({ x20 with Steps:=(w.i64 (x20.Steps+1)) }:cO) (gI.dv pc []))) <|
       some (0,fK.dv ({ x20 with Steps:=(w.i64 (x20.Steps+1)) }:cO) (gI.dv (w.i64 (pc+1)) []))) = Y →
       (bX (runG p m0 n) (insG p m0 n)≠0→Y = some (0,fK.dv { r with D4:=2,A9:=⟨bX (runG p m0 n) (insG p m0 n),(n:Int),pc⟩ } (gI.dv pc []))) ∧
       (bX (runG p m0 n) (insG p m0 n) = 0→∃ r' pc',Y = some (0,fK.dv r' (gI.dv pc' []))∧At1 p m0 (n+1) r' pc'):=by
      intro Y hY;subst hY;rw [hdo,au,ag,ag,aj];cases hg:(gDo (runG p m0 n) (insG p m0 n)).2 with
      | false =>
        have htr:bX (runG p m0 n) (insG p m0 n) = 3:=by unfold bX; rw [if_pos f3,if_neg (by simp [hg])]
        rw [mn,ai,htrap,au,ag,ag,aj,htr];exact ⟨fun _=>rfl,fun g=>by omega⟩
      | true =>
        have htr:bX (runG p m0 n) (insG p m0 n) = 0:=by unfold bX; rw [if_pos f3,if_pos hg]
        rw [mR,ah,hD,au,ag,aj];refine ⟨fun g=>absurd htr g,fun _=>⟨_,_,by rw [show (({ r with B1:=if (insG p m0 n).2.1 = 0 then r.B1 else r.B1.set (insG p m0 n).2.1.toNat (gDo (runG p m0 n) (insG p m0 n)).1 }:cO).D4 == 1) = false from hen,ah],?_⟩⟩
        refine h.next hp hpc (by omega) htr ?_ ?_ (by rw [wpc,hgo (by omega)])
        · rw [hmem (by omega),hq (by omega),← hst]
        · refine ⟨hR.1,hR.2.1,fun k k1 k2=>?_⟩
          unfold rgsG;rw [if_neg (show ¬ bX (runG p m0 n) (insG p m0 n)≠0 by rw [htr]; simp),if_pos f3];exact hR.2.2 k k1 k2
    by_cases f1:ae (insG p m0 n).1 = 1
    · rw [bt f1,ai]
      obtain ⟨k1,k2⟩:=hdone _ rfl;exact ⟨fun _=>k1,fun _ g=>by omega,fun _ g _=>k2 g⟩
    rw [bf f1,ah];by_cases f2:ae (insG p m0 n).1 = 2
    · rw [bt f2,ai]
      obtain ⟨k1,k2⟩:=hdone _ rfl;exact ⟨fun _=>k1,fun _ g=>by omega,fun _ g _=>k2 g⟩
    rw [bf f2,ah,bt (show ae (insG p m0 n).1 = 3 by omega),ai];obtain ⟨k1,k2⟩:=hdone _ rfl;exact ⟨fun _=>k1,fun _ g=>by omega,fun _ g _=>k2 g⟩
  by_cases f4:ae (insG p m0 n).1 = 4
  · have ho:=h0d f4
    have htr:bX (runG p m0 n) (insG p m0 n) = jP (aZ (insG p m0 n).1) (c9 (runG p m0 n) (insG p m0 n)) (len (runG p m0 n).mem):=by unfold bX; rw [if_neg f3,if_pos (by omega)]
    rw [bt f4,ai,b3L,au,ag,aj,hchk (by omega) (by omega) hU,au,ag,aj,show jP (aZ (insG p m0 n).1) (w.u32 (gv (runG p m0 n) (insG p m0 n).2.2.1+w.u32 (insG p m0 n).2.2.2.2.1)) (len (runG p m0 n).mem) = bX (runG p m0 n) (insG p m0 n) from htr.symm];by_cases ht:bX (runG p m0 n) (insG p m0 n) = 0
    · refine ⟨fun _ g=>absurd ht g,fun _ g=>by omega,fun _ _ _=>?_⟩
      rw [show (bX (runG p m0 n) (insG p m0 n) != 0) = false by rw [ht]; rfl,ah,bf (show ¬ ae (insG p m0 n).1 = 1 by omega),ah,bf (show ¬ ae (insG p m0 n).1 = 2 by omega),ah,bf (show ¬ ae (insG p m0 n).1 = 3 by omega),ah,ai,e4G r.Mem (insG p m0 n).1 hU (by simp only [len] at hlen; omega) (by omega),au,ag,aj,h3q h d0 d1,au,ag,aj];have hR:=h2l h (v:=bW r.Mem (insG p m0 n).1 (w.u32 (gv (runG p m0 n) (insG p m0 n).2.2.1+w.u32 (insG p m0 n).2.2.2.2.1))) d0 d1;refine ⟨_,_,by rw [show (({ r with B1:=if (insG p m0 n).2.1 = 0 then r.B1 else r.B1.set (insG p m0 n).2.1.toNat (bW r.Mem (insG p m0 n).1 (w.u32 (gv (runG p m0 n) (insG p m0 n).2.2.1+w.u32 (insG p m0 n).2.2.2.2.1))) }:cO).D4 == 1) = false from hen,ah],?_⟩
      refine h.next hp hpc (by omega) ht ?_ ?_ (by rw [wpc,hgo (by omega)])
      · rw [hmem (by omega),hq (by omega),← hst]
      · refine ⟨hR.1,hR.2.1,fun k k1 k2=>?_⟩
        unfold rgsG;rw [if_neg (show ¬ bX (runG p m0 n) (insG p m0 n)≠0 by rw [ht]; simp),if_neg f3,if_pos f4,← h.me];exact hR.2.2 k k1 k2
    · rw [show (bX (runG p m0 n) (insG p m0 n) != 0) = true from bne_iff_ne.2 ht,ai,htrap,au,ag,ag,aj]
      exact ⟨fun _ _=>rfl,fun _ g=>by omega,fun _ g=>absurd g ht⟩
  rw [bf f4,ah];by_cases f5:ae (insG p m0 n).1 = 5
  · have ho:=h3U f5
    have htr:bX (runG p m0 n) (insG p m0 n) = jP (aZ (insG p m0 n).1) (c9 (runG p m0 n) (insG p m0 n)) (len (runG p m0 n).mem):=by unfold bX; rw [if_neg f3,if_pos (by omega)]
    have hz:=d6S (op:=(insG p m0 n).1) ⟨by omega,by omega⟩
    rw [bt f5,ai,b3L,au,ag,aj,hchk (by omega) (by omega) hU,au,ag,aj,show jP (aZ (insG p m0 n).1) (w.u32 (gv (runG p m0 n) (insG p m0 n).2.2.1+w.u32 (insG p m0 n).2.2.2.2.1)) (len (runG p m0 n).mem) = bX (runG p m0 n) (insG p m0 n) from htr.symm];by_cases ht:bX (runG p m0 n) (insG p m0 n) = 0
    · refine ⟨fun _ g=>absurd ht g,fun _ g=>by omega,fun _ _ _=>?_⟩
      have hlie:LieW (gWr (runG p m0 n) (insG p m0 n)) (len r.Mem):=by
        have h0:=ht;rw [htr,← h.me] at h0;unfold jP eN at h0;rw [if_neg (by omega)] at h0;have hU2:=hU;unfold U32 at hU2;split at h0
        · omega
        · rename_i g1
          split at h0
          · omega
          · rename_i g2
            refine ⟨hz,hU2.1,?_,?_⟩
            · show c9 (runG p m0 n) (insG p m0 n)+aZ (insG p m0 n).1≤len r.Mem
              omega
            · exact pS.1 g1
      rw [show (bX (runG p m0 n) (insG p m0 n) != 0) = false by rw [ht]; rfl,ah,bf (show ¬ ae (insG p m0 n).1 = 1 by omega),ah,bf (show ¬ ae (insG p m0 n).1 = 2 by omega),ah,bf (show ¬ ae (insG p m0 n).1 = 3 by omega),ah,ah,ai];simp only [b3L,e5W,au,ag,aj,ha64];rw [show c1p N r.Mem (c9 (runG p m0 n) (insG p m0 n),(aZ (insG p m0 n).1,(fB (gv (runG p m0 n) (insG p m0 n).2.2.2.1) (aZ (insG p m0 n).1),()))) = _ from e3G (gWr (runG p m0 n) (insG p m0 n)) r.Mem hlie (by simp only [len] at hlen ⊢; omega) (by omega),au,ag,aj,rmT (by simp; omega),aH,hen,ah];refine ⟨_,_,rfl,?_⟩;refine h.next hp hpc (by omega) ht ?_ (keep (by omega)) (by rw [wpc,hgo (by omega)])
      have e1:gMem (runG p m0 n) (insG p m0 n) = wrOf r.Mem (gWr (runG p m0 n) (insG p m0 n)):=by unfold gMem; rw [if_pos ⟨f5,ht⟩,h.me]
      rw [e1,show qst p m0 n = [(n,gWr (runG p m0 n) (insG p m0 n))] from if_pos f5,← hst];rfl
    · rw [show (bX (runG p m0 n) (insG p m0 n) != 0) = true from bne_iff_ne.2 ht,ai,htrap,au,ag,ag,aj]
      exact ⟨fun _ _=>rfl,fun _ g=>by omega,fun _ g=>absurd g ht⟩
  have ht:bX (runG p m0 n) (insG p m0 n) = 0:=by unfold bX; rw [if_neg f3,if_neg (by omega)]
  rw [bf f5,ah,bf (show ¬ ae (insG p m0 n).1 = 1 by omega),ah,bf (show ¬ ae (insG p m0 n).1 = 2 by omega),ah,bf (show ¬ ae (insG p m0 n).1 = 3 by omega),ah,ah,ah];refine ⟨fun _ g=>absurd ht g,?_⟩
  by_cases f6:ae (insG p m0 n).1 = 6
  · refine ⟨fun _ g=>by omega,fun _ _ _=>?_⟩
    have hb:brM (insG p m0 n) = true:=by unfold brM; exact decide_eq_true (.inl f6)
    rw [bt f6,ai,c9m _ wA wB,au,ag,aj];have hgoes:goes (runG p m0 n) (insG p m0 n) = fX (insG p m0 n).1 (gv (runG p m0 n) (insG p m0 n).2.2.1) (gv (runG p m0 n) (insG p m0 n).2.2.2.1):=by
      unfold goes gTk;rw [decide_eq_false (show ¬ ae (insG p m0 n).1 = 7 by omega),decide_eq_true f6]; simp
    cases htk:fX (insG p m0 n).1 (gv (runG p m0 n) (insG p m0 n).2.2.1) (gv (runG p m0 n) (insG p m0 n).2.2.2.1) with
    | true =>
      rw [htk] at hgoes;rw [ai,hen,ah];refine ⟨_,_,rfl,h.next hp hpc (by omega) ht (by rw [hmem f5,hq f5,← hst]) (keep (by omega)) ?_⟩
      rw [wp _ (h2y hp hpc hb)];unfold gPc;rw [hgoes,if_pos rfl]
    | false =>
      rw [htk] at hgoes;rw [ah,hen,ah];refine ⟨_,_,rfl,h.next hp hpc (by omega) ht (by rw [hmem f5,hq f5,← hst]) (keep (by omega)) ?_⟩
      rw [wpc];unfold gPc;rw [hgoes,if_neg (by simp),if_neg (by omega)]
  rw [bf f6,ah];by_cases f7:ae (insG p m0 n).1 = 7
  · refine ⟨fun _ g=>by omega,fun _ _ _=>?_⟩
    have hb:brM (insG p m0 n) = true:=by unfold brM; exact decide_eq_true (.inr f7)
    rw [bt f7,ai,hen,ah];refine ⟨_,_,rfl,h.next hp hpc (by omega) ht (by rw [hmem f5,hq f5,← hst]) (keep (by omega)) ?_⟩
    rw [wp _ (h2y hp hpc hb)];unfold gPc goes;rw [decide_eq_true f7,oE,if_pos rfl]
  · rw [bf f7,ah,bt (show ae (insG p m0 n).1 = 8 by omega),ai,hst]
    exact ⟨fun _ _=>rfl,fun _ _ g=>absurd (show ae (insG p m0 n).1 = 8 by omega) g⟩
end
variable {N:Nat}
structure Fin1 (p:aw) (m0:List Int) (t:Nat) (r:cO):Prop where
 en:r.D4=(resG p m0 t).D4
 tp:r.A9=(resG p m0 t).A9
 st:r.Steps=(resG p m0 t).Steps
 me:r.Mem=(resG p m0 t).Mem
 wr:r.A2=(resG p m0 t).A2
 rg:(resG p m0 t).D4=1→r.B1=(resG p m0 t).B1
 ne:r.D4≠0
section
variable {p:aw} {m0:List Int}
theorem At1.first (p:aw) (m0:List Int):At1 p m0 0 (cO.mk 0 cQ.z 0 (List.replicate 16 (0:Int)) m0 ([]:List bv)) 0 :=
 ⟨rfl,rfl,rfl,rfl,g8K _ _,λk _ _=>g8K _ _,rfl,rfl,rfl,nU _,λu hu=>absurd hu (by omega)⟩
theorem At1.mem {n:Nat} {r:cO} {pc:Int} (h:At1 p m0 n r pc):r.Mem=(wrG p m0 n).foldl wrOf m0:=by
 rw[h.me];exact g9U p m0 n λt ht=>⟨(h.ps t ht).1,λ_=>(h.ps t ht).2.2⟩
theorem At1.regs {n:Nat} {r:cO} {pc:Int} (h:At1 p m0 n r pc):r.B1=gk (runG p m0 n):=by
 have hl:=h.l16;refine g9u (by rw[hl]; simp[gk]) λk hk=>?_
 have e1:(gk (runG p m0 n)).getD k 0=gv (runG p m0 n) (k:Int):=by
  unfold gk;rw[mA,nW,pi (by omega)];rfl
 rw[e1];unfold gv;by_cases h0:1≤(k:Int)∧(k:Int)≤15
 ·
  rw[if_pos h0];have:=h.rg k h0.1 h0.2;rw[mF]at this;exact this
 ·
  rw[if_neg h0,show k=0 by omega];exact h.r0
theorem h3A (hp:cg p=true) (hm:len m0=p.B8) (f:Nat) (hf:f≤1000) (hN:100000<N) (z:cO):∀(k n:Nat) (r:cO) (pc:Int),n≤f→f-n<k→At1 p m0 n r pc→r.A2.length≤n →
  ∃r',h1k N k (f:Int) pc (n:Int) p z r=some (1,fK.dv z (fK.dv r' []))∧(r'.D4=0∨∃t,t<f∧Stops p m0 t∧Fin1 p m0 t r')∧r'.A2.length≤f:=by
 intro k;induction k with
 | zero=>intro n r pc h1 h2; omega
 | succ k ih =>
  intro n r pc h1 h2 h hw;show ∃r',h1s N (h1k N k) (f:Int) pc (n:Int) p z r=_∧_
  unfold h1s;by_cases hi:n<f
  ·
   obtain⟨s1,s2,s3,s4⟩:=h3M (N:=N) hp hm h (by omega) (by omega) hN;rw[dt (show (n:Int)<(f:Int) by omega),ai,bt h.en,ai,wS (show n≤100000000 by omega)];have stop:∀(r':cO) (pc':Int),r'.D4≠0→r'.A2.length≤f→h1k N k (f:Int) pc' ((n+1:Nat):Int) p z r'=some (1,fK.dv z (fK.dv r' [])):=by
    intro r' pc' he hw';cases k with
    | zero=>omega
    | succ k =>
     show h1s N (h1k N k) (f:Int) pc' ((n+1:Nat):Int) p z r'=_;unfold h1s;by_cases hj:n+1<f
     ·rw[dt (show ((n+1:Nat):Int)<(f:Int) by omega),ai,bf he,ah]
     ·rw[df (show ¬((n+1:Nat):Int)<(f:Int) by omega),ah]
   have hpcz:=h.pc;by_cases hpc:(runG p m0 n).pc<p.Code.length
   ·
    by_cases ht:bX (runG p m0 n) (insG p m0 n)=0
    ·
     by_cases h8:ae (insG p m0 n).1=8
     ·
      rw[s3 hpc h8,au,ag,ag,aj,stop _ _ (by show (1:Int)≠0; omega) (by show r.A2.length≤f; omega)];refine⟨_,rfl,.inr ⟨n,hi,⟨h.ps,.inr (.inr h8)⟩,?_⟩,by show r.A2.length≤f; omega⟩
      have e:resG p m0 n=cO.mk 1 cQ.z ((n:Int)+1) (gk (runG p m0 n)) ((wrG p m0 n).foldl wrOf m0) (wrG p m0 n):=by
       unfold resG;rw[if_neg (λg=>g hpc),if_neg (λg=>g ht)]
      refine⟨by rw[e],by rw[e]; exact h.tp,by rw[e],by rw[e]; exact h.mem,by rw[e]; exact h.wr,λ_=>by rw[e]; exact h.regs,by show (1:Int)≠0; omega⟩
     ·
      obtain⟨r',pc',g1,g2⟩:=s4 hpc ht h8;rw[g1,au,ag,ag,aj];refine ih (n+1) r' pc' (by omega) (by omega) g2 ?_;rw[g2.wr];have hwl:=hw;rw[h.wr]at hwl;show ((evq (qst p m0) n++qst p m0 n).map (·.2)).length≤n+1;unfold wrG at hwl;rw[mr]at hwl ⊢;rw[mD];have:(qst p m0 n).length≤1:=by unfold qst; split<;>simp
      omega
    ·
     rw[s2 hpc ht,au,ag,ag,aj,stop _ _ (by show (2:Int)≠0; omega) (by show r.A2.length≤f; omega)];refine⟨_,rfl,.inr ⟨n,hi,⟨h.ps,.inr (.inl ht)⟩,?_⟩,by show r.A2.length≤f; omega⟩
     have e:resG p m0 n=cO.mk 2 ⟨bX (runG p m0 n) (insG p m0 n),(n:Int),((runG p m0 n).pc:Int)⟩ (n:Int) (List.replicate 16 (0:Int)) ((wrG p m0 n).foldl wrOf m0) (wrG p m0 n):=by
      unfold resG;rw[if_neg (λg=>g hpc),if_pos ht]
     refine⟨by rw[e],by rw[e,hpcz],by rw[e]; exact h.st,by rw[e]; exact h.mem,by rw[e]; exact h.wr,λg=>by (rw[e]at g; exact absurd g (by show ¬(2:Int)=1; omega)),by show (2:Int)≠0; omega⟩
   ·
    rw[s1 hpc,au,ag,ag,aj,stop _ _ (by show (2:Int)≠0; omega) (by show r.A2.length≤f; omega)];refine⟨_,rfl,.inr ⟨n,hi,⟨h.ps,.inl hpc⟩,?_⟩,by show r.A2.length≤f; omega⟩
    have e:resG p m0 n=cO.mk 2 ⟨4,(n:Int),((runG p m0 n).pc:Int)⟩ (n:Int) (List.replicate 16 (0:Int)) ((wrG p m0 n).foldl wrOf m0) (wrG p m0 n):=by
     unfold resG;rw[if_pos hpc]
    refine⟨by rw[e],by rw[e,hpcz],by rw[e]; exact h.st,by rw[e]; exact h.mem,by rw[e]; exact h.wr,λg=>by (rw[e]at g; exact absurd g (by show ¬(2:Int)=1; omega)),by show (2:Int)≠0; omega⟩
  ·
   have:n=f:=by omega
   subst this;rw[df (show ¬((n:Int)<(n:Int)) by omega),ah];exact⟨r,rfl,.inl h.en,hw⟩
theorem h4b (hp:cg p=true) (f:Nat) (hf:f≤1000) (hN:100000<N):∃r,h2s N p (f:Int)=some (0,fK.dv r [])∧(r.D4=3∨(r.D4≠3∧∃t,t<f∧Stops p (memM p) t∧Fin1 p (memM p) t r))∧r.A2.length≤f:=by
 have hs:=kO hp;have hm:len (memM p)=p.B8:=by simp only[len,g1Z hp]; omega
 obtain⟨r',h1,h2,h3⟩:=h3A (N:=N) hp hm f hf hN (cO.mk 0 cQ.z 0 (List.replicate 16 (0:Int)) ([]:List Int) ([]:List bv)) N 0 _ 0 (by omega) (by omega) (At1.first p (memM p)) (mG _);unfold h2s;have hcap:g3L N (f:Int) 0 100000=some (0,gI.dv (f:Int) []):=by
  unfold g3L;rw[df (show ¬(f:Int)<0 by omega),ah,df (show ¬(f:Int)>100000 by omega),ah]
 rw[f9c p (by omega),au,ag,aj,hp,mR,ah,g3r hp,au,ag,aj,hcap,au,ag,aj,show h1k N N (f:Int) 0 0 p (cO.mk 0 cQ.z 0 (List.replicate 16 (0:Int)) ([]:List Int) ([]:List bv)) (cO.mk 0 cQ.z 0 (List.replicate 16 (0:Int)) (memM p) ([]:List bv))=_ from h1,dG,ag,ag,aj];by_cases h0:r'.D4=0
 ·
  rw[bt h0,ai];exact⟨_,rfl,.inl rfl,h3⟩
 ·
  rw[bf h0,ah];rcases h2 with h2 | ⟨t,t1,t2,t3⟩
  ·exact absurd h2 h0
  ·
   refine⟨r',rfl,.inr ⟨?_,t,t1,t2,t3⟩,h3⟩;rw[t3.en];unfold resG;split
   ·show ¬(2:Int)=3; omega
   ·
    split
    ·show ¬(2:Int)=3; omega
    ·show ¬(1:Int)=3; omega
end
end Go.Proofs.Zz
