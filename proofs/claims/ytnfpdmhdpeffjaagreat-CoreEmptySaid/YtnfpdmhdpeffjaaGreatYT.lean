import Derived.Test.YtnfpdmhdpeffjaaGreatYS
import Derived.Test.YtnfpdmhdpeffjaaGreatPB
set_option linter.unusedSimpArgs false
set_option linter.unusedVariables false
/- What the core leaves when it is over is what the program's way leaves where it stops. -/
set_option maxRecDepth 100000
namespace Go.Proofs.Zz
open Go
section
variable {p:a0s} {o:List Int} {s:a0g} {m0:List Int} {n j m i k ka ke t u:Nat} {R R':List a0e} {x:a0b} {e hal:Bool} {pos:a0C} {cf:a0f}
def Stops (p:a0s) (m0:List Int) (t:Nat):Prop :=
 (∀ u,u < t→(runG p m0 u).pc < p.Code.length∧formM (insG p m0 u).1≠8∧gTrap (runG p m0 u) (insG p m0 u) = 0)∧(¬ (runG p m0 t).pc < p.Code.length∨gTrap (runG p m0 t) (insG p m0 t)≠0∨formM (insG p m0 t).1 = 8)
def wrG (p:a0s) (m0:List Int) (t:Nat):List a0K:=(evq (qst p m0) t).map (·.2)
theorem h0C {t:Nat} (h1:trS p o m0 false t = 0) (h2:trS p o m0 true t = 0):gTrap (runG p m0 t) (insG p m0 t) = 0:=by
 unfold trS at h1 h2;by_cases f3:formM (insG p m0 t).1≤3
 ·
  rw [if_pos f3] at h1 h2;by_cases hs:sideOM (insG p m0 t) o = 1
  · rwa [if_pos (by simp [hs])] at h1
  · rwa [if_pos (by simp [hs])] at h2
 · rwa [if_neg f3,if_neg (by simp)] at h1
theorem g9p (pa:Pl p o s m0 false pos hal n j ka) {pos':a0C} {hal':Bool} (pe:Pl p o s m0 true pos' hal' m i ke) {kd:Int} (h:TrapAt p o m0 t kd) (hk:kd≠0):n≤t∨m≤t:=by
 rcases h with ⟨h1,h2 | h2⟩ | ⟨_,h2⟩
 ·
  refine .inl (Nat.le_of_not_lt fun hc=>?_);rw [(pa.ps t hc).2.2] at h2; exact hk h2.symm
 ·
  refine .inr (Nat.le_of_not_lt fun hc=>?_);rw [(pe.ps t hc).2.2] at h2; exact hk h2.symm
 · exact .inl (Nat.le_of_not_lt fun hc=>h2 (pa.ps t hc).1)
theorem Pl.stepIs (h:Spl p o s) (g:Pl p o s m0 e pos hal n j k) (hn:n≤1000000000) (hh:Here p o m0 e n j):(nextM s e pos).2.1 = (n:Int):=by
 rcases hh with ⟨hpc,hj | ⟨hj,hl⟩⟩ | hpc
 ·
  obtain ⟨_,off,hx⟩:=g.send h hpc hn hj;rw [hx]
 ·
  obtain ⟨_,off,kc,_,hx⟩:=g.last h hpc hn hj hl;rw [hx]
 ·
  obtain ⟨q,_,hx,_⟩:=g.fell h hpc hn;rw [hx]
/-! Stores, split at a step -/
theorem h0n (c:MemC p o m0 R x n m) (hk:knows x.Saq = true):∃ u:Nat,(headM x).2.2.1 = (u:Int)∧u < n∧u < m:=by
 obtain ⟨dn,rest,w1,w2,w3⟩:=c.wr;obtain ⟨cn,p1,p2⟩:=c.pt;have hp:=g8u hk;have hl:=w3.ln;have hdl:dn.length = x.Writes.length:=by rw [← w2,List.length_map]
 have hkn:knownN x.Saq = 1:=by unfold knownN; rw [if_pos hk]
 have h:=g9z (p:=p) (m0:=m0) (n:=n) (m:=m) (t:=dn.length) (by rw [w1]; simp; omega) (by rw [p1]; simp; omega);have e1:(evq (qst p m0) n).getD dn.length noSt = rest.getD 0 noSt:=by rw [w1,List.getD_eq_getElem?_getD,List.getElem?_append_right (Nat.le_refl _),Nat.sub_self,← List.getD_eq_getElem?_getD]
 rw [e1] at h;exact ⟨_,(w3.en 0 hp).2.2.1,h.2⟩
/-! Registers that are told -/
theorem h0U (h:Spl p o s) {b:Nat} (hb:b < (leadI p).length) {pc:Nat} (h1:frB p b≤pc) (h2:(pc:Int) < toB p b) (h8:formM (codeM p pc).1 = 8):toB p b = (pc:Int)+1:=by
 have hbb:=h.bounds hb;by_cases hx:(pc:Int)+1 < toB p b
 ·
  have:=h0u hb h1 hx (by omega);unfold endsI at this;have:=of_decide_eq_false this;omega
 · omega
theorem h0J {b b':Nat} (hp:rightP p = true) (hb:b < (leadI p).length) (hb':b' < (leadI p).length) {pc:Nat} (h1:frB p b≤pc) (h2:(pc:Int) < toB p b) (h3:frB p b'≤pc) (h4:(pc:Int) < toB p b'):b = b':=by
 have key:∀ a c:Nat,a < c→a < (leadI p).length→c < (leadI p).length→frB p c≤pc→(pc:Int) < toB p a→False:=by
  intro a c hac ha hc g1 g2;rcases g7K hp ha with ⟨k1,k2⟩ | ⟨k1,_⟩
  ·
   by_cases e:a+1 = c
   · subst e; omega
   ·
    have:=(f2C p).up (a+1) c (by omega) hc;unfold frB at *;omega
  · omega
 rcases Nat.lt_trichotomy b b' with g | g | g
 · exact (key b b' g hb hb' h3 h2).elim
 · exact g
 · exact (key b' b g hb' hb h1 h4).elim
theorem g9y (h:Spl p o s) (g:Pl p o s m0 e pos true n j k) (hn:n≤1000000000):∃ b:Nat,b < (leadI p).length∧frB p b≤(runG p m0 n).pc∧((runG p m0 n).pc:Int) < toB p b∧pos.Block = (b:Int)∧pos.Base = (n:Int) - (((runG p m0 n).pc:Int) - frB p b)∧endM s pos = (n:Int)+1:=by
 obtain ⟨h8,hpc,hs⟩:=g.hl rfl;have hr:=g8c h.right hpc;have hsn:sndR o (insG p m0 n) = []:=by
  unfold sndR;rw [hr,if_neg (by simp),if_neg (by omega),if_neg (by omega),if_neg (by omega)]
 have hj:j = 0:=by have:=g.jb; rw [hsn] at this; exact Nat.le_zero.1 this
 have hl:=g9o (p:=p) (o:=o) (n:=n) (e:=e) (m0:=m0);have hl1:(lstS e o (insG p m0 n) (runG p m0 n).pc 0).length = 1:=by
  unfold lstS;cases e
  ·
   show (lstA o (insG p m0 n) (runG p m0 n).pc 0).length = 1;unfold lstA;rw [hr,if_neg (show ¬ (true = false) by simp),if_neg (show ¬ formM (insG p m0 n).1≤3 by omega),if_neg (show ¬ formM (insG p m0 n).1 = 4 by omega),if_neg (show ¬ formM (insG p m0 n).1 = 5 by omega),if_neg (show ¬ formM (insG p m0 n).1 = 6 by omega),if_neg (show ¬ formM (insG p m0 n).1 = 7 by omega)];rfl
  ·
   show (lstE o (insG p m0 n) (runG p m0 n).pc 0).length = 1;unfold lstE;rw [hr,if_neg (show ¬ (true = false) by simp),if_neg (show ¬ formM (insG p m0 n).1≤3 by omega),if_neg (show ¬ formM (insG p m0 n).1 = 4 by omega),if_neg (show ¬ formM (insG p m0 n).1 = 5 by omega),if_neg (show ¬ formM (insG p m0 n).1 = 6 by omega),if_neg (show ¬ formM (insG p m0 n).1 = 7 by omega)];rfl
 have w:=g.wt;obtain ⟨b,b1,b2,b3,b4,b5⟩:=WAt.cell h w hpc hn (by omega);rw [hs] at b4;have e1:pos = posM p o e b (runG p m0 n).pc j n:=(Prod.mk.inj b4).1;have hbb:=h.bounds b1;refine ⟨b,b1,b2,b3,by rw [e1]; rfl,by rw [e1]; rfl,?_⟩
 have hB:pos.Base = (n:Int) - (((runG p m0 n).pc:Int) - frB p b):=by rw [e1]; rfl
 rw [h.end_ b1 (by rw [e1]; rfl) (by omega) (by omega),h0U h b1 b2 b3 h8,hB];omega
end
end Go.Proofs.Zz

/- What the core leaves when it is over. -/
set_option maxRecDepth 100000
namespace Go.Proofs.Zz
open Go
section
variable {p:a0s} {o:List Int} {s:a0g} {m0:List Int} {n j m i k ka ke t u:Nat} {R R':List a0e} {x:a0b} {e hal:Bool} {pos:a0C} {cf:a0f}
theorem g9C (h:Spl p o s) (c:Cos p o s m0 (stripped x) x n j ka m i ke) (hr:rightM cf s x = true) (hov:overS cf s x = true) (hb:p.Code.length*(ka+1)≤1000000000) (hb2:p.Code.length*(ke+1)≤1000000000) :
  ∃ n j m i,Cos p o s m0 [] x n j ka m i ke∧n≤1000000000∧m≤1000000000∧(x.A.Halted = true∨(x.Trap.Kind≠0∧x.Trap.Step≤(n:Int)))∧(x.E.Halted = true∨(x.Trap.Kind≠0∧x.Trap.Step≤(m:Int)))∧x.Saq.any (leadQ x) = false:=by
 obtain ⟨hT,hA,hE,hS⟩:=d0S hr hov;have hR:stripped x = []:=by unfold stripped; rw [hT]; rfl
 rw [hR] at c;have nA:∃ n j,Cos p o s m0 [] x n j ka m i ke∧(x.A.Halted = true∨Here p o m0 false n j):=by
  cases hh:x.A.Halted with
  | true=>exact ⟨n,j,c,.inl rfl⟩
  | false =>
   obtain ⟨n',j',_,c',hh'⟩:=c.normA h hh hb _ n j (Nat.le_refl _);exact ⟨n',j',c',.inr hh'⟩
 obtain ⟨n,j,c,ha⟩:=nA;have nE:∃ m i,Cos p o s m0 [] x n j ka m i ke∧(x.E.Halted = true∨Here p o m0 true m i):=by
  cases hh:x.E.Halted with
  | true=>exact ⟨m,i,c,.inl rfl⟩
  | false =>
   obtain ⟨n',j',_,c',hh'⟩:=c.normE h hh hb2 _ m i (Nat.le_refl _);exact ⟨n',j',c',.inr hh'⟩
 obtain ⟨m,i,c,he⟩:=nE;have l1:=WAt.lt h c.pa.wt;have l2:=WAt.lt h c.pe.wt;have nn:n≤1000000000:=by have:=c.pa.bd; rw [Nat.mul_succ] at hb; omega
 have mm:m≤1000000000:=by have:=c.pe.bd; rw [Nat.mul_succ] at hb2; omega
 refine ⟨n,j,m,i,c,nn,mm,?_,?_,hS⟩
 ·
  rcases ha with ha | ha
  · exact .inl ha
  ·
   unfold restM at hA;rw [c.pa.stepIs h nn ha,Bool.or_eq_true] at hA;rcases hA with hA | hA
   · exact .inl hA
   · exact .inr (of_decide_eq_true hA)
 ·
  rcases he with he | he
  · exact .inl he
  ·
   unfold restM at hE;rw [c.pe.stepIs h mm he,Bool.or_eq_true] at hE;rcases hE with hE | hE
   · exact .inl hE
   · exact .inr (of_decide_eq_true hE)
theorem h1a (hp:rightP p = true) (hpc:(runG p m0 n).pc < p.Code.length) (h8:formM (insG p m0 n).1 = 8):sndR o (insG p m0 n) = []:=by
 unfold sndR;rw [g8c hp hpc,if_neg (by simp),if_neg (by omega),if_neg (by omega),if_neg (by omega)]
theorem g9A (h:Spl p o s) (c:Cos p o s m0 [] x n j ka m i ke) (hA:x.A.Halted = true) (hE:x.E.Halted = true) (hk:x.Trap.Kind = 0) (hS:x.Saq.any (leadQ x) = false) :
  n = m∧Stops p m0 n∧¬ ¬ (runG p m0 n).pc < p.Code.length∧x.Saq = []∧x.Aeq = []∧x.Abq = []∧x.Ebq = []∧x.Ldq = []∧x.Sdq = []∧x.Writes = wrG p m0 n:=by
 obtain ⟨a8,ap,_⟩:=c.pa.hl hA;obtain ⟨e8,ep,_⟩:=c.pe.hl hE;have hnm:n = m:=by
  rcases Nat.lt_trichotomy n m with g | g | g
  · exact absurd a8 (c.pe.ps n g).2.1
  · exact g
  · exact absurd e8 (c.pa.ps m g).2.1
 subst hnm;have sn:=h1a (o:=o) h.right ap a8;have hsv:sv p o m0 n = []:=by unfold sv; rw [sn]; rfl
 have hsaq:x.Saq = []:=by
  cases hq:x.Saq with
  | nil=>rfl
  | cons a l =>
   rw [hq,List.any_cons,Bool.or_eq_false_iff] at hS;have:=hS.1;unfold leadQ at this;rw [decide_eq_true hk,Bool.true_or] at this;cases this
 obtain ⟨dn,rest,w1,w2,w3⟩:=c.mc.wr;obtain ⟨cn,p1,p2⟩:=c.mc.pt;obtain ⟨vs,v1,v2⟩:=c.mc.ld;have hrest:rest = []:=by
  have:=w3.ln;rw [hsaq] at this;exact List.length_eq_zero_iff.1 this
 rw [hrest,List.append_nil] at w1;have hdl:dn.length = x.Writes.length:=by rw [← w2,List.length_map]
 have hkn:knownN x.Saq = 0:=by rw [hsaq]; rfl
 have hlen:=(g9r p m0 n).1;rw [w1,p1,List.length_append,p2,hkn] at hlen;have haeq:=c.aeq;rw [hsv,List.take_nil,List.take_nil,List.append_nil] at haeq;have self:∀ {α:Type} {l r:List α},l = l++r→r = []:=by
  intro α l r hh;have:=congrArg List.length hh;rw [List.length_append] at this;exact List.length_eq_zero_iff.1 (by omega)
 refine ⟨rfl,⟨fun u hu=>⟨(c.pa.ps u hu).1,(c.pa.ps u hu).2.1,h0C (c.pa.ps u hu).2.2 (c.pe.ps u hu).2.2⟩,.inr (.inr a8)⟩,fun g=>g ap,hsaq,self haeq,self c.abq,self c.ebq,?_,List.length_eq_zero_iff.1 (by omega),?_⟩
 ·
  have:=self v1;have hl:=v2.ln;rw [this] at hl;exact List.length_eq_zero_iff.1 hl.symm
 ·
  unfold wrG;rw [w1,w2]
end
end Go.Proofs.Zz
