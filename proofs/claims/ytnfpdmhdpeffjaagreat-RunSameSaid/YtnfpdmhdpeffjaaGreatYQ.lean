import Derived.Test.YtnfpdmhdpeffjaaGreatYP
set_option linter.unusedSimpArgs false
set_option linter.unusedVariables false
set_option maxRecDepth 100000
namespace Go.Proofs.Zz
open Go
section
variable {p:aw} {o:List Int} {s:ao} {m0:List Int} {n j m i ka ke:Nat} {R:List am} {x:aa}
theorem h7W {r:Int} (h:r≠(insG p m0 n).2.1∨5≤ae (insG p m0 n).1) (hpc:(runG p m0 n).pc<p.Code.length):(runG p m0 (n+1)).regs r=(runG p m0 n).regs r:=by
 rw[iQ hpc];show rgsG _ _ r=_;rcases h with h | h
 ·exact h0W _ _ h
 ·rw[h0X _ _ h]
theorem h0Q {r:Int} (h1:1≤r) (h2:r≤15):ownM o r=o.getD r.toNat 0:=by
 unfold ownM;rw[if_neg (by omega),if_neg (by omega)]
theorem h0P {i:af} {r:Int} (hf:1≤ae i.1∧ae i.1≤3) (hs:cX i o≠1) (h1:1≤r) (h2:r≤15) (ho:o.getD r.toNat 0=1):r≠i.2.1:=by
 rintro rfl
 apply hs;unfold cX;rw[if_neg (by omega),if_pos (.inl (by rw[h0Q h1 h2,ho]))]
theorem h0w {i:af} {r:Int} (hs:cX i o=1) (h1:1≤r) (h2:r≤15) (ho:o.getD r.toNat 0=2):r≠i.2.1:=by
 rintro rfl
 unfold cX at hs;split at hs
 ·omega
 ·
  split at hs
  ·
   rename_i h;rcases h with h | h
   ·rw[h0Q h1 h2,ho]at h; omega
   ·omega
  ·omega
theorem h0V {i:af} {r:Int} (hs:onEM o i.2.1=false) (h1:1≤r) (ho:o.getD r.toNat 0=2):r≠i.2.1:=by
 rintro rfl
 unfold onEM at hs;rw[decide_eq_true (show i.2.1>0 by omega),ho]at hs;simp at hs
theorem g9w {i:af} (h:bC i=true):1≤ae i.1:=by
 have h0:=kQ i.1;by_cases h1:ae i.1=0
 ·
  unfold bC at h;rw[h1]at h;simp at h
 ·omega
theorem MemC.stepA (h:MemC p o m0 R x n m) (hf:fch p o m0 n=[]) (hq:qst p m0 n=[]) (hr:∀r:Int,1≤r→r≤15→o.getD r.toNat 0=1→(runG p m0 (n+1)).regs r=(runG p m0 n).regs r):MemC p o m0 R x (n+1) m:=by
 refine⟨h.mem,by rw[gC hq]; exact h.wr,h.pt,by rw[gC hf]; exact h.ld,?_⟩
 have l:=h.lo;refine {l with rg:=?_,ra:=?_}
 ·
  intro q hq h1 h2;obtain⟨a,b,c⟩:=l.rg q hq h1 h2;have h3:=l.rq q hq;unfold reqM at h3;simp only[mE,allB,mt,nT,decide_eq_true_eq]at h3;exact⟨a,b,by rw[hr _ h2 h3.2.2.2.2.1.2 a]; exact c⟩
 ·
  intro r h1 h2 h3 h4;rw[hr r h1 h2 h3];exact l.ra r h1 h2 h3 h4
theorem MemC.stepE (h:MemC p o m0 R x n m) (hf:fch p o m0 m=[]) (hq:pts p m0 m=[]):MemC p o m0 R x n (m+1) :=
 ⟨h.mem,h.wr,by rw[gC hq]; exact h.pt,by rw[gC hf]; exact h.ld,h.lo⟩
theorem iP:(sv p o m0 n).length=(sndR o (insG p m0 n)).length:=by unfold sv; rw[mr]
theorem g9Z (hj:j=(sndR o (insG p m0 n)).length):evq (sv p o m0) n++(sv p o m0 n).take j=evq (sv p o m0) (n+1)++(sv p o m0 (n+1)).take 0:=by
 rw[nP (by rw[iP]; omega),pz,mJ];rfl
theorem Cos.skipA (h:Spl p o s) (c:Cos p o s m0 R x n j ka m i ke) (hd:x.A.A4=false) (hpc:(runG p m0 n).pc<p.Code.length) (hn:n≤1000000000) (hj:j=(sndR o (insG p m0 n)).length) (hl:lstS false o (insG p m0 n) (runG p m0 n).pc 0=[]) :
  Cos p o s m0 R x (n+1) 0 ka m i ke∧(runG p m0 (n+1)).pc=(runG p m0 n).pc+1:=by
 obtain⟨g1,g2,g3⟩:=c.pa.skip h hd hpc hn hj hl;obtain⟨hf,hs⟩:ae (insG p m0 n).1≤3∧cX (insG p m0 n) o≠1:=by
  rcases g3 with⟨_,h1,h2⟩ | ⟨h1,_⟩ | ⟨h1,_⟩
  ·exact⟨h1,h2⟩
  ·cases h1
  ·cases h1
 have hp:=g9w (jR h.right hpc);refine⟨⟨g1,c.pe,by rw[← g9Z hj]; exact c.aeq,?_,?_,?_,c.re,c.tr⟩,g2⟩
 ·rw[gC (by unfold abr; rw[if_neg (by omega)])]; exact c.abq
 ·rw[gC (f:=ebr p o m0) (n:=n) (by unfold ebr; rw[if_neg (by omega)])]; exact c.ebq
 ·exact c.mc.stepA (by unfold fch; rw[if_neg (by omega)]) (by unfold qst; rw[if_neg (by omega)]) λr h1 h2 h3=>h7W (.inl (h0P ⟨hp,hf⟩ hs h1 h2 h3)) hpc
theorem Cos.skipE (h:Spl p o s) (c:Cos p o s m0 R x n j ka m i ke) (hd:x.E.A4=false) (hpc:(runG p m0 m).pc<p.Code.length) (hn:m≤1000000000) (hj:i=(sndR o (insG p m0 m)).length) (hl:lstS true o (insG p m0 m) (runG p m0 m).pc 0=[]) :
  Cos p o s m0 R x n j ka (m+1) 0 ke∧(runG p m0 (m+1)).pc=(runG p m0 m).pc+1:=by
 obtain⟨g1,g2,g3⟩:=c.pe.skip h hd hpc hn hj hl;have hf:ae (insG p m0 m).1≤4:=by
  rcases g3 with⟨h1,_⟩ | ⟨_,h1,_⟩ | ⟨_,h1,_⟩
  ·cases h1
  ·omega
  ·omega
 have hfe:fch p o m0 m=[]:=by
  unfold fch;rcases g3 with⟨h1,_⟩ | ⟨_,h1,_⟩ | ⟨_,h1,h2,_⟩
  ·cases h1
  ·rw[if_neg (by omega)]
  ·rw[if_neg (by rw[h2]; simp)]
 refine⟨⟨c.pa,g1,by rw[← g9Z hj]; exact c.aeq,?_,?_,c.mc.stepE hfe (by unfold pts; rw[if_neg (by omega)]),?_,c.tr⟩,g2⟩
 ·rw[gC (f:=abr p o m0) (n:=m) (by unfold abr; rw[if_neg (by omega)])]; exact c.abq
 ·rw[gC (by unfold ebr; rw[if_neg (by omega)])]; exact c.ebq
 ·
  refine⟨λr h1 h2 h3=>?_,λt ht=>absurd ht (by omega),c.re.l16⟩
  rw[h7W ?_ hpc]
  ·exact c.re.re r h1 h2 h3
  ·
   rcases g3 with⟨h4,_⟩ | ⟨_,_,h4,_⟩ | ⟨_,_,h4,_⟩
   ·cases h4
   ·exact .inl (h0w h4 h1 h2 h3)
   ·exact .inl (h0V h4 h1 h3)
def Here (p:aw) (o:List Int) (m0:List Int) (e:Bool) (n j:Nat):Prop :=
 ((runG p m0 n).pc<p.Code.length∧(j<(sndR o (insG p m0 n)).length∨(j=(sndR o (insG p m0 n)).length∧lstS e o (insG p m0 n) (runG p m0 n).pc 0≠[])))∨¬(runG p m0 n).pc<p.Code.length
theorem Cos.normA (h:Spl p o s) (hd:x.A.A4=false) (hb:p.Code.length*(ka+1)≤1000000000):∀(f n j:Nat),p.Code.length-(runG p m0 n).pc≤f→Cos p o s m0 R x n j ka m i ke→∃n' j',n≤n'∧Cos p o s m0 R x n' j' ka m i ke∧Here p o m0 false n' j':=by
 intro f;induction f with
 | zero=>intro n j h1 c; exact⟨n,j,mG _,c,.inr (by omega)⟩
 | succ f ih =>
  intro n j h1 c;by_cases hpc:(runG p m0 n).pc<p.Code.length
  ·
   have hjb:=c.pa.jb;by_cases hj:j<(sndR o (insG p m0 n)).length
   ·exact⟨n,j,mG _,c,.inl ⟨hpc,.inl hj⟩⟩
   ·
    by_cases hl:lstS false o (insG p m0 n) (runG p m0 n).pc 0=[]
    ·
     have hbd:=c.pa.bd;obtain⟨c2,h2⟩:=c.skipA h hd hpc (by rw[qQ]at hb; omega) (by omega) hl;obtain⟨n',j',h3,h4⟩:=ih (n+1) 0 (by omega) c2;exact⟨n',j',by omega,h4⟩
    ·exact⟨n,j,mG _,c,.inl ⟨hpc,.inr ⟨by omega,hl⟩⟩⟩
  ·exact⟨n,j,mG _,c,.inr hpc⟩
theorem Cos.normE (h:Spl p o s) (hd:x.E.A4=false) (hb:p.Code.length*(ke+1)≤1000000000):∀(f m i:Nat),p.Code.length-(runG p m0 m).pc≤f→Cos p o s m0 R x n j ka m i ke→∃m' i',m≤m'∧Cos p o s m0 R x n j ka m' i' ke∧Here p o m0 true m' i':=by
 intro f;induction f with
 | zero=>intro m i h1 c; exact⟨m,i,mG _,c,.inr (by omega)⟩
 | succ f ih =>
  intro m i h1 c;by_cases hpc:(runG p m0 m).pc<p.Code.length
  ·
   have hjb:=c.pe.jb;by_cases hj:i<(sndR o (insG p m0 m)).length
   ·exact⟨m,i,mG _,c,.inl ⟨hpc,.inl hj⟩⟩
   ·
    by_cases hl:lstS true o (insG p m0 m) (runG p m0 m).pc 0=[]
    ·
     have hbd:=c.pe.bd;obtain⟨c2,h2⟩:=c.skipE h hd hpc (by rw[qQ]at hb; omega) (by omega) hl;obtain⟨n',j',h3,h4⟩:=ih (m+1) 0 (by omega) c2;exact⟨n',j',by omega,h4⟩
    ·exact⟨m,i,mG _,c,.inl ⟨hpc,.inr ⟨by omega,hl⟩⟩⟩
  ·exact⟨m,i,mG _,c,.inr hpc⟩
theorem dl {α:Type} {a q:α} {K R:List α}:a∈K++q::R↔a=q∨a∈K++R:=by
 simp only[mM,mV];constructor
 ·
  rintro (h | h | h)
  ·exact .inr (.inl h)
  ·exact .inl h
  ·exact .inr (.inr h)
 ·
  rintro (h | h | h)
  ·exact .inr (.inl h)
  ·exact .inl h
  ·exact .inr (.inr h)
theorem g9x {α:Type} {S:α→α→Prop} {q:α} {K R:List α} (h:(K++q::R).Pairwise S):(K++R).Pairwise S∧∀a∈K++R,S a q∨S q a:=by
 rw[na,oS]at h;obtain⟨h1,⟨h2,h3⟩,h4⟩:=h;refine⟨na.2 ⟨h1,h3,λa ha b hb=>h4 a ha b (nG _ hb)⟩,λa ha=>?_⟩
 rcases mM.1 ha with ha | ha
 ·exact .inl (h4 a ha q (nj ..))
 ·exact .inr (h2 a ha)
theorem h0T {q q':am} (h:OwnQ q' q∨OwnQ q q') (h1:q.1=false) (h2:q'.1=false) (h3:q'.2.2.2.2.2.2.1=q.2.2.2.2.2.2.1) (h4:q.2.2.2.2.2.2.1≠0):q.2.2.2.2.2.2.1<0∧q'.2.2.2.2.2.2.2.1≠q.2.2.2.2.2.2.2.1:=by
 rcases h with h | h
 ·
  rcases h h2 h1 h3 with h | h
  ·omega
  ·exact⟨by omega,h.2⟩
 ·
  rcases h h1 h2 h3.symm with h | h
  ·omega
  ·exact⟨h.1,λe=>h.2 e.symm⟩
theorem iR {M:Int} {q:am} (h:reqM M q=true):-1≤q.2.2.2.2.2.2.1∧q.2.2.2.2.2.2.1≤15∧q.2.2.2.1=aZ q.2.1∧LieW (wrQ q) M∧ae q.2.1=(if q.1=true then 5 else 4):=by
 unfold reqM at h;simp only[mE,allB,mt,nT,decide_eq_true_eq]at h;exact⟨h.2.2.2.2.1.1,h.2.2.2.2.1.2,h.1,(by have g:=of_decide_eq_true h.2.2.1; exact g),h.2.1⟩
theorem Loads.drop {q:am} {K:List am} {regs ready mem:List Int} (h:Loads p o m0 (K++q::R) regs ready mem n) (hq:q.1=false→q.2.2.2.2.2.2.1<1):Loads p o m0 (K++R) regs ready mem n:=by
 obtain⟨u1,u2⟩:=g9x h.un;refine⟨λa ha=>h.rg a (dl.2 (.inr ha)),λr h1 h2 h3=>?_,u1,λa ha h1 b hb=>h.dj a (dl.2 (.inr ha)) h1 b (dl.2 (.inr hb)),λa ha=>h.rq a (dl.2 (.inr ha)),h.ra,h.l16⟩
 obtain⟨a,ha,e1,e2⟩:=h.pn r h1 h2 h3;rcases dl.1 ha with rfl | ha
 ·have:=hq e1; omega
 ·exact⟨a,ha,e1,e2⟩
theorem Slots.drop {q:am} {K:List am} {l:List aO} {mem vs:List Int} {tags:Int} (h:Slots (K++q::R) l mem tags vs) (hq:q.1=false→0≤q.2.2.2.2.2.2.1):Slots (K++R) l mem tags vs:=by
 refine⟨h.ln,h.fl,λt h1 h2=>?_,λa ha=>h.cl a (dl.2 (.inr ha)),h.ti,h.tb⟩
 obtain⟨a,ha,e1,e2,e3⟩:=h.em t h1 h2;rcases dl.1 ha with rfl | ha
 ·have:=hq e1; omega
 ·exact⟨a,ha,e1,e2,e3⟩
theorem Stos.drop {q:am} {K:List am} {l:List aF} {rest:List (Nat × bv)} (h:Stos (K++q::R) l rest) (hq:q.1=false):Stos (K++R) l rest:=by
 refine⟨h.ln,h.en,h.kn,λa ha=>h.st a (dl.2 (.inr ha)),λhk=>?_,?_⟩
 ·
  obtain⟨a,ha,e1⟩:=h.cn hk;rcases dl.1 ha with rfl | ha
  ·rw[hq]at e1; cases e1
  ·exact⟨a,ha,e1⟩
 ·
  have:=h.one;rw[nd,nV]at this;rw[nd];omega
theorem g9t {l:List aO} {t:Int} {k:Nat} (hk:(l.getD k aO.z).1=t∧(l.getD k aO.z).2.1=false) (hu:∀u:Nat,u<k→(l.getD u aO.z).1≠t):∀n i:Nat,i≤k→k<i+n→gq l t n i=(k:Int)
 | 0,i,h1,h2=>by omega
 | n+1,i,h1,h2=>by
  unfold gq;by_cases e:i=k
  ·
   subst e;rw[hk.1,hk.2,if_pos (by simp)]
  ·
   rw[if_neg (by intro hh; rw[mE,beq_iff_eq]at hh; exact hu i (by omega) hh.1)];exact g9t hk hu n (i+1) (by omega) (by omega)
theorem h0B (l:List aO) (i j:Nat) (v:aO) (h:i<l.length):(l.set i v).getD j aO.z=if i=j then v else l.getD j aO.z:=by
 rw[mA,oO,mA];by_cases e:i=j
 ·subst e; simp[h]
 ·simp[e]
theorem g8r {α:Type} (l:List α) (d:α) (t:Nat):(l.drop 1).getD t d=l.getD (t+1) d:=by
 rw[mA,pK,mA,oM]
theorem Slots.fill {q:am} {K:List am} {l:List aO} {mem vs:List Int} {tags:Int} (h:Slots (K++q::R) l mem tags vs) (hq:q.1=false) (hr:q.2.2.2.2.2.2.1<0) (hu:(K++q::R).Pairwise OwnQ) (hb:∀a∈K++q::R,-1≤a.2.2.2.2.2.2.1) :
  Slots (K++R) (gy l q.2.2.2.2.2.2.2.1 (bW mem q.2.1 q.2.2.1)) mem tags vs:=by
 obtain⟨u1,u2⟩:=g9x hu;obtain⟨k,k1,k2,k3⟩:=h.cl q (dl.2 (.inl rfl)) hq hr;have hqb:=hb q (dl.2 (.inl rfl));have hlt:∀t,t<l.length→(l.getD t aO.z).1=q.2.2.2.2.2.2.2.1→t=k:=by
  intro t ht e;rcases nw t k with h1 | h1 | h1
  ·have:=h.ti t k h1 k1; omega
  ·exact h1
  ·have:=h.ti k t h1 ht; omega
 have hne:∀a∈K++R,a.1=false→a.2.2.2.2.2.2.1<0→a.2.2.2.2.2.2.2.1≠q.2.2.2.2.2.2.2.1:=λa ha h1 h2 =>
  (h0T (u2 a ha) hq h1 (by have:=hb a (dl.2 (.inr ha)); omega) (by omega)).2
 have hv:bW mem q.2.1 q.2.2.1=vs.getD k 0:=by
  obtain⟨a,ha,e1,e2,e3,e4⟩:=h.em k k1 k3;rcases dl.1 ha with rfl | ha
  ·exact e4
  ·exact absurd (e3.trans k2) (hne a ha e1 e2)
 have hf:gy l q.2.2.2.2.2.2.2.1 (bW mem q.2.1 q.2.2.1)=l.set k (q.2.2.2.2.2.2.2.1,(true,(bW mem q.2.1 q.2.2.1,()))):=by
  unfold gy;rw[g9t ⟨k2,k3⟩ (λu hu e=>by have:=hlt u (by omega) e; omega) l.length 0 (by omega) (by omega),if_neg (by omega),mF,k2]
 rw[hf];have hg:=λt=>h0B l k t (q.2.2.2.2.2.2.2.1,(true,(bW mem q.2.1 q.2.2.1,()))) k1
 have htag:∀t,((l.set k (q.2.2.2.2.2.2.2.1,(true,(bW mem q.2.1 q.2.2.1,())))).getD t aO.z).1=(l.getD t aO.z).1:=by
  intro t;rw[hg];split
  ·rename_i e; subst e; exact k2.symm
  ·rfl
 refine⟨by rw[mp]; exact h.ln,?_,?_,?_,?_,?_⟩
 ·
  intro t ht hfu;rw[mp]at ht;rw[hg]at hfu ⊢;split
  ·rename_i e; subst e; exact hv
  ·
   rename_i e;rw[if_neg e]at hfu;exact h.fl t ht hfu
 ·
  intro t ht hfu;rw[mp]at ht;rw[htag];rw[hg]at hfu;split at hfu
  ·cases hfu
  ·
   rename_i e;obtain⟨a,ha,e1,e2,e3,e4⟩:=h.em t ht hfu;rcases dl.1 ha with rfl | ha
   ·exact absurd (hlt t ht e3.symm).symm e
   ·exact⟨a,ha,e1,e2,e3,e4⟩
 ·
  intro a ha h1 h2;obtain⟨t,t1,t2,t3⟩:=h.cl a (dl.2 (.inr ha)) h1 h2;refine⟨t,by rw[mp]; exact t1,by rw[htag]; exact t2,?_⟩
  rw[hg,if_neg]
  ·exact t3
  ·
   rintro rfl
   exact hne a ha h1 h2 (t2.symm.trans k2)
 ·
  intro t u h1 h2;rw[mp]at h2;rw[htag,htag];exact h.ti t u h1 h2
 ·
  intro t ht;rw[mp]at ht;rw[htag];exact h.tb t ht
theorem Loads.put {q:am} {K:List am} {regs ready mem:List Int} (h:Loads p o m0 (K++q::R) regs ready mem n) (hq:q.1=false) (hr:1≤q.2.2.2.2.2.2.1) {y:Int} (hy:0≤y) :
  Loads p o m0 (K++R) (regs.set q.2.2.2.2.2.2.1.toNat (bW mem q.2.1 q.2.2.1)) (ready.set q.2.2.2.2.2.2.1.toNat y) mem n:=by
 obtain⟨u1,u2⟩:=g9x h.un;obtain⟨l1,l2⟩:=h.l16;have hb:=(iR (h.rq q (dl.2 (.inl rfl)))).2.1;obtain⟨g1,g2,g3⟩:=h.rg q (dl.2 (.inl rfl)) hq hr;have e1:=λj=>kN regs q.2.2.2.2.2.2.1.toNat j (bW mem q.2.1 q.2.2.1) (by omega)
 have e2:=λj=>kN ready q.2.2.2.2.2.2.1.toNat j y (by omega)
 refine⟨?_,?_,u1,λa ha h1 b hb=>h.dj a (dl.2 (.inr ha)) h1 b (dl.2 (.inr hb)),λa ha=>h.rq a (dl.2 (.inr ha)),?_,by rw[mp,mp]; exact h.l16⟩
 ·
  intro a ha h1 h2;obtain⟨b1,b2,b3⟩:=h.rg a (dl.2 (.inr ha)) h1 h2;refine⟨b1,?_,b3⟩;rw[e2,if_neg]
  ·exact b2
  ·
   intro e;have:=(h0T (u2 a ha) hq h1 (by omega) (by omega)).1;omega
 ·
  intro r h1 h2 h3;rw[e2]at h3;split at h3
  ·omega
  ·
   rename_i hne;obtain⟨a,ha,b1,b2⟩:=h.pn r h1 h2 h3;rcases dl.1 ha with rfl | ha
   ·rw[b2]at hne; exact absurd rfl hne
   ·exact⟨a,ha,b1,b2⟩
 ·
  intro r h1 h2 h3 h4;rw[e1];by_cases e:q.2.2.2.2.2.2.1.toNat=r.toNat
  ·rw[if_pos e,g3,show q.2.2.2.2.2.2.1=r by omega]
  ·
   rw[if_neg e];rw[e2,if_neg e]at h4;exact h.ra r h1 h2 h3 h4
theorem MemC.done {q:am} {K:List am} (h:MemC p o m0 (K++q::R) x n m) (hc:0≤w.i64 (x.A1+1)) (hmm:len x.Mem≤65536):MemC p o m0 (K++R) (cI q x) n m:=by
 obtain⟨r1,r2,r3,r4,r5⟩:=iR (h.lo.rq q (dl.2 (.inl rfl)));have hm:len x.Mem=len x.Mem:=rfl;obtain⟨dn,rest,w1,w2,w3⟩:=h.wr;obtain⟨cn,p1,p2⟩:=h.pt;obtain⟨vs,v1,v2⟩:=h.ld;unfold cI;cases hq:q.1 with
 | true =>
  rw[if_pos rfl];obtain⟨s1,s2⟩:=w3.st q (dl.2 (.inl rfl)) hq;have hne:0<x.B0.length:=by
   unfold d8 at s1;by_cases h0:0<x.B0.length
   ·exact h0
   ·rw[mA,mg (by omega)]at s1; cases s1
  have hk1:d8 (x.B0.drop 1)=false:=by
   unfold d8;rw[g8r];exact w3.kn 1 (by omega)
  have hnos:∀a∈K++R,¬a.1=true:=by
   intro a ha e;have h1:=w3.one;rw[nd,nV,if_pos hq]at h1;have h2:0<(K++R).countP λq=>q.1:=List.countP_pos_iff.2 ⟨a,ha,e⟩
   rw[nd]at h2;omega
  have hap:∀a∈K++R,a.1=false→bW (wrOf x.Mem (wrQ q)) a.2.1 a.2.2.1=bW x.Mem a.2.1 a.2.2.1:=by
   intro a ha h1;obtain⟨_,_,_,a4,_⟩:=iR (h.lo.rq a (dl.2 (.inr ha)));exact g8V r4 a4.2.1 (h.lo.dj a (dl.2 (.inr ha)) h1 q (dl.2 (.inl rfl)) hq)
  have hl:len (wrOf x.Mem (wrQ q))=len x.Mem:=by simp only[len,g8t]
  cases rest with
  | nil=>have:=w3.ln; simp at this; omega
  | cons r0 rl =>
  refine⟨?_,⟨dn++[r0],rl,by rw[w1]; simp,?_,?_⟩,⟨cn,p1,?_⟩,⟨vs,v1,?_⟩,?_⟩
  ·
   show wrOf x.Mem (wrQ q)=(x.A2++[wrQ q]).foldl wrOf m0;rw[ot,← h.mem]; rfl
  ·
   show _=x.A2++[wrQ q];rw[mv,w2,s2]; rfl
  ·
   refine⟨?_,?_,?_,λa ha e=>absurd e (hnos a ha),λe=>?_,?_⟩
   ·
    have:=w3.ln;show rl.length=(x.B0.drop 1).length;rw[mq];simp at this;omega
   ·
    intro t ht;have ht:t<(x.B0.drop 1).length:=ht;rw[mq]at ht;have:=w3.en (t+1) (by omega);show h8p ((x.B0.drop 1).getD t aF.z) _;rw[g8r];exact this
   ·
    intro t ht;show ((x.B0.drop 1).getD t aF.z).2.2.2.1=false;rw[g8r];exact w3.kn (t+1) (by omega)
   ·rw[show d8 (x.B0.drop 1)=false from hk1]at e; cases e
   ·
    have h1:=w3.one;rw[nd,nV]at h1;rw[nd];omega
  ·
   show cn.length=(x.A2++[wrQ q]).length+dV (x.B0.drop 1);have:dV x.B0=1:=by unfold dV; rw[if_pos s1]
   rw[p2,this];unfold dV;rw[hk1,if_neg (by simp),mD]; rfl
  ·
   refine⟨v2.ln,v2.fl,?_,?_,v2.ti,v2.tb⟩
   ·
    intro t h1 h2;obtain⟨a,ha,e1,e2,e3,e4⟩:=v2.em t h1 h2;rcases dl.1 ha with rfl | ha
    ·rw[hq]at e1; cases e1
    ·exact⟨a,ha,e1,e2,e3,(hap a ha e1).trans e4⟩
   ·exact λa ha=>v2.cl a (dl.2 (.inr ha))
  ·
   have l:=h.lo.drop (λe=>by rw[hq]at e; cases e);refine {l with rg:=?_,rq:=?_}
   ·
    intro a ha h1 h2;obtain⟨b1,b2,b3⟩:=l.rg a ha h1 h2;exact⟨b1,b2,(hap a ha h1).trans b3⟩
   ·
    intro a ha;show reqM (len (wrOf x.Mem (wrQ q))) a=true;rw[hl];exact l.rq a ha
 | false =>
  rw[if_neg (by simp)];have hub:=h.lo.un;have hbb:∀a∈K++q::R,-1≤a.2.2.2.2.2.2.1:=λa ha=>(iR (h.lo.rq a ha)).1
  have z1:q.2.2.2.1=1∨q.2.2.2.1=2∨q.2.2.2.1=4:=r4.1;have z2:0≤q.2.2.1:=r4.2.1;have z3:q.2.2.1+q.2.2.2.1≤len x.Mem:=r4.2.2.1;rw[if_pos (show 0≤q.2.2.1∧q.2.2.1≤4294967295 by omega),h0s (by omega) (by omega)];unfold ldS;by_cases hr:q.2.2.2.2.2.2.1<0
  ·
   rw[if_pos hr];exact⟨h.mem,⟨dn,rest,w1,w2,w3.drop hq⟩,⟨cn,p1,p2⟩,⟨vs,v1,v2.fill hq hr hub hbb⟩,h.lo.drop (λ_=>by omega)⟩
  ·
   rw[if_neg hr];by_cases h1:1≤q.2.2.2.2.2.2.1
   ·
    rw[if_pos ⟨r2,h1⟩];exact⟨h.mem,⟨dn,rest,w1,w2,w3.drop hq⟩,⟨cn,p1,p2⟩,⟨vs,v1,v2.drop λ_=>by omega⟩,h.lo.put hq h1 hc⟩
   ·
    rw[if_neg (by omega)];exact⟨h.mem,⟨dn,rest,w1,w2,w3.drop hq⟩,⟨cn,p1,p2⟩,⟨vs,v1,v2.drop λ_=>by omega⟩,h.lo.drop λ_=>by omega⟩
theorem g9V (q:am) (x:aa):cI q x={x with A:={x.A with B1:=(cI q x).A.B1,A8:=(cI q x).A.A8},B9:=(cI q x).B9,B0:=(cI q x).B0,Mem:=(cI q x).Mem,A2:=(cI q x).A2}:=by
 unfold cI ldS
 repeat' split
 all_goals rfl
theorem g8P:∀(T K:List am) (x:aa),MemC p o m0 (K++T.map cW) x n m→0≤w.i64 (x.A1+1)→len x.Mem≤65536→MemC p o m0 (K++(T.filterMap bp).map cW) (bO T x) n m
 | [],K,x,h,_,_=>h
 | q::r,K,x,h,hc,hm=>by
  rw[bO,pm];cases hk:bp q with
  | none =>
   show MemC p o m0 (K++(r.filterMap bp).map cW) (bO r (cI (cH q) x)) n m;have h1:MemC p o m0 (K++r.map cW) (cI (cH q) x) n m:=h.done hc hm;have fr:=g9V (cH q) x;refine g8P r K _ h1 ?_ ?_
   ·rw[show (cI (cH q) x).A1=x.A1 by rw[fr]]; exact hc
   ·
    have:=(d8L (cH q) x).1;simp only[len]at hm ⊢;omega
  | some q' =>
   show MemC p o m0 (K++(q'::r.filterMap bp).map cW) (bO r x) n m;have e:=b2B hk;have h1:=g8P r (K++[cW q]) x (by simpa using h) hc hm
   simpa[e] using h1
theorem g9s:∀(T:List am) (x:aa),bO T x={x with A:={x.A with B1:=(bO T x).A.B1,A8:=(bO T x).A.A8},B9:=(bO T x).B9,B0:=(bO T x).B0,Mem:=(bO T x).Mem,A2:=(bO T x).A2}
 | [],x=>rfl
 | q::r,x=>by
  rw[bO];split
  ·
   have h1:=g9s r (cI (cH q) x);have h2:=g9V (cH q) x;rw[h2]at h1;rw[h2];exact h1
  ·exact g9s r x
theorem Cos.move {c:ay} (t:bH) (h:Cos p o s m0 (bo x) x n j ka m i ke) (hc:0≤w.i64 (x.A1+1)) (hm:len x.Mem≤65536) (hl:1≤c.C4∧c.C4≤1000):Cos p o s m0 (bo (aX c t x)) (aX c t x) n j ka m i ke:=by
 have hb:=g7y t hl c.B2.toNat 0 {bO x.A0 x with A0:=x.A0.filterMap bp};have h1:=g8P (K:=[]) x.A0 x (by simpa[bo] using h.mc) hc hm;have fr:=g9s x.A0 x;have ht:bo (aX c t x)=(x.A0.filterMap bp).map cW:=hb.tab;have fb:aX c t x={({bO x.A0 x with A0:=x.A0.filterMap bp}:aa) with A0:=(aX c t x).A0,B6:=(aX c t x).B6,B5:=(aX c t x).B5}:=hb.fr;rw[ht,fb];rw[mf]at h1;generalize bO x.A0 x=y at *;obtain⟨pa,pe,aeq,abq,ebq,mc,re,tr⟩:=h;have ea:y.A.A6=x.A.A6:=by rw[fr]
 have eh:y.A.A4=x.A.A4:=by rw[fr]
 have ed:y.A.A5=x.A.A5:=by rw[fr]
 have ee:y.E=x.E:=by rw[fr]
 have e1:y.C7=x.C7:=by rw[fr]
 have e2:y.C6=x.C6:=by rw[fr]
 have e3:y.C8=x.C8:=by rw[fr]
 have e4:y.A9=x.A9:=by rw[fr]
 exact⟨by show Pl p o s m0 false y.A.A6 y.A.A4 y.A.A5 n j ka; rw[ea,eh,ed]; exact pa,by show Pl p o s m0 true y.E.A6 y.E.A4 y.E.A5 m i ke; rw[ee]; exact pe,by show _=_++y.C7; rw[e1]; exact aeq,by show _=_++y.C6; rw[e2]; exact abq,by show _=_++y.C8; rw[e3]; exact ebq,⟨h1.mem,h1.wr,h1.pt,h1.ld,h1.lo⟩,by show RegE p o m0 y.E.B1 m i; rw[ee]; exact re,by show TrapOk p o m0 y.A9; rw[e4]; exact tr⟩
end
section
variable {p:aw} {o:List Int} {s:ao} {m0:List Int} {n j m i k ka ke:Nat} {R:List am} {x:aa} {e hal:Bool} {pos:bc} {dn:Int}
theorem ia (p:aw) (m0:List Int):∀N:Nat,(evq (pts p m0) N).length=(evq (qst p m0) N).length∧∀t:Nat,t<(evq (qst p m0) N).length→((evq (qst p m0) N).getD t noSt).2.2.2.1=fB ((evq (pts p m0) N).getD t 0) ((evq (qst p m0) N).getD t noSt).2.2.1∧((evq (qst p m0) N).getD t noSt).1<N
 | 0=>⟨rfl,λt h=>absurd h (by show ¬t<0; omega)⟩
 | N+1=>by
  obtain⟨h1,h2⟩:=ia p m0 N;show (evq (pts p m0) N++pts p m0 N).length=(evq (qst p m0) N++qst p m0 N).length∧∀t,t<(evq (qst p m0) N++qst p m0 N).length→((evq (qst p m0) N++qst p m0 N).getD t noSt).2.2.2.1=fB ((evq (pts p m0) N++pts p m0 N).getD t 0) ((evq (qst p m0) N++qst p m0 N).getD t noSt).2.2.1∧((evq (qst p m0) N++qst p m0 N).getD t noSt).1<N+1
  by_cases h5:ae (insG p m0 N).1=5
  ·
   rw[show pts p m0 N=[gv (runG p m0 N) (insG p m0 N).2.2.2.1] from if_pos h5,show qst p m0 N=[(N,gWr (runG p m0 N) (insG p m0 N))] from if_pos h5];refine⟨by simp[h1],λt ht=>?_⟩
   by_cases h:t<(evq (qst p m0) N).length
   ·
    obtain⟨a,b⟩:=h2 t h;rw[g9f _ _ _ h,g9f _ _ _ (by omega)];exact⟨a,by omega⟩
   ·
    have e:t=(evq (qst p m0) N).length:=by simp at ht; omega
    subst e;rw[g9b];rw[← h1,g9b];exact⟨rfl,by show N<N+1; omega⟩
  ·
   rw[show pts p m0 N=[] from if_neg h5,show qst p m0 N=[] from if_neg h5,mJ,mJ];exact⟨h1,λt ht=>⟨(h2 t ht).1,by have:=(h2 t ht).2; omega⟩⟩
theorem g8J {α:Type} {l l':List α} (d:α) (h:l <+: l') {t:Nat} (ht:t<l.length):l'.getD t d=l.getD t d:=by
 obtain⟨r,rfl⟩:=h;rw[mA,mW ht,← mA]
theorem g9z {t:Nat} (h1:t<(evq (qst p m0) n).length) (h2:t<(evq (pts p m0) m).length) :
  ((evq (qst p m0) n).getD t noSt).2.2.2.1=fB ((evq (pts p m0) m).getD t 0) ((evq (qst p m0) n).getD t noSt).2.2.1∧((evq (qst p m0) n).getD t noSt).1<n∧((evq (qst p m0) n).getD t noSt).1<m:=by
 have a1:=g9e (qst p m0) (n:=n) (m:=max n m) (by omega);have a2:=g9e (pts p m0) (n:=m) (m:=max n m) (by omega);have a3:=g9e (qst p m0) (n:=m) (m:=max n m) (by omega);have b:=(ia p m0 (max n m)).2 t (by have:=a1.length_le; omega);have l2:t<(evq (qst p m0) m).length:=by rw[← (ia p m0 m).1]; exact h2
 have c1:=(ia p m0 n).2 t h1;have c2:=(ia p m0 m).2 t l2;rw[g8J noSt a1 h1,g8J 0 a2 h2]at b;refine⟨b.1,c1.2,?_⟩;rw[← g8J noSt a1 h1,g8J noSt a3 l2];exact c2.2
theorem h1f {q q':bv} (h1:q.1=q'.1) (h2:q.2.1=q'.2.1) (h3:q.2.2.1=q'.2.2.1):q=q':=by
 obtain⟨a,b,c,_⟩:=q;obtain⟨a',b',c',_⟩:=q';simp only at h1 h2 h3;subst h1 h2 h3;rfl
theorem g8u {l:List aF} (h:d8 l=true):0<l.length:=by
 unfold d8 at h;by_cases h0:0<l.length
 ·exact h0
 ·rw[mA,mg (by omega)]at h; cases h
theorem g9H {c:ay} {x:aa} (h:bu c s x=true):∀q∈bo x,reqM (len x.Mem) q=true:=by
 intro q hq;obtain⟨a,ha,rfl⟩:=nK.1 hq;exact ((b8f _ _).1 (b4n h a ha)).1
theorem Cos.sent {c : ay} (h : Cos p o s m0 (bo x) x n j ka m i ke) (hL : Lies x.B0) (hm : len x.Mem ≤ 65536) (hr2 : bu c s (bD c x) = true) : Cos p o s m0 (bo (bD c x)) (bD c x) n j ka m i ke := by
  have hq2 := g9H hr2
  unfold bD at hq2 ⊢
  by_cases hc : canM c x = true
  case neg => rw [if_neg hc]; exact h
  rw [if_pos hc] at hq2 ⊢
  obtain ⟨pa, pe, aeq, abq, ebq, mc, re, tr⟩ := h
  obtain ⟨n0, n1⟩ := d8A hc
  unfold canM at hc
  simp only [mE, decide_eq_true_eq, mu] at hc
  obtain ⟨_, hk, _, _, _, hcl⟩ := hc
  have hk : d8 x.B0 = false := hk
  obtain ⟨mem, ⟨dn, rest, w1, w2, w3⟩, ⟨cn, p1, p2⟩, ⟨vs, v1, v2⟩, lo⟩ := mc
  have eR : bo { x with C9 := x.C9.drop 1, B0 := x.B0.set 0 (gL x), A0 := x.A0 ++ [h7O x] } = bo x ++ [h7O x] := by
    unfold bo
    rw [mv]
    rfl
  rw [eR] at hq2 ⊢
  have hp0 : 0 < x.B0.length := by omega
  have hnos : ∀ a ∈ bo x, ¬ a.1 = true := fun a ha e => by have := (w3.st a ha e).1; rw [hk] at this; cases this
  have hc0 : (bo x).countP (fun q => q.1) = 0 := oI.2 fun a ha => hnos a ha
  cases hsd : x.C9 with
  | nil => rw [hsd] at n1; exact absurd rfl n1
  | cons v sr =>
  cases hrs : rest with
  | nil => have := w3.ln; rw [hrs] at this; simp at this; omega
  | cons r0 rl =>
  rw [hsd] at p1
  rw [hrs] at w1
  have hkn : dV x.B0 = 0 := by unfold dV; rw [hk]; rfl
  have hdl : dn.length = x.A2.length := by rw [← w2, mr]
  have hw := g9z (p := p) (m0 := m0) (n := n) (m := m) (t := dn.length) (by rw [w1]; simp) (by rw [p1]; simp; omega)
  have g1 : (evq (qst p m0) n).getD dn.length noSt = r0 := by rw [w1, mA, mU (mG _), oT]; rfl
  have g2 : (evq (pts p m0) m).getD dn.length 0 = v := by rw [p1, mA, mU (by omega), show dn.length - cn.length = 0 by omega]; rfl
  rw [g1, g2] at hw
  obtain ⟨e1, e2, e3, _⟩ := w3.en 0 hp0
  rw [hrs] at e1 e2 e3
  have e1 : (bM x).1 = r0.2.1 := e1
  have e2 : (bM x).2.1 = r0.2.2.1 := e2
  have e3 : (bM x).2.2.1 = (r0.1 : Int) := e3
  have hval : fB (x.C9.getD 0 0) (bM x).2.1 = r0.2.2.2.1 := by rw [hsd, e2]; exact hw.1.symm
  have hh : bM x ∈ x.B0 := ck aF.z hp0
  have hhb := hL _ hh
  have hset := fun t => (show (x.B0.set 0 (gL x)).getD t aF.z = if 0 = t then gL x else x.B0.getD t aF.z by
    rw [mA, oO, mA]
    by_cases e : 0 = t
    · subst e; simp [hp0]
    · simp [e])
  have hkn2 : d8 (x.B0.set 0 (gL x)) = true := by
    unfold d8
    rw [hset 0, if_pos rfl]
    rfl
  refine ⟨pa, pe, aeq, abq, ebq, ⟨mem, ⟨dn, r0 :: rl, w1, w2, ?_⟩, ⟨cn ++ [v], ?_, ?_⟩, ⟨vs, v1, ?_⟩, ?_⟩, re, tr⟩
  · rw [hrs] at w3
    refine ⟨by show _ = (x.B0.set 0 (gL x)).length; rw [mp]; exact w3.ln, ?_, ?_, ?_, ?_, ?_⟩
    · intro t ht
      have ht : t < (x.B0.set 0 (gL x)).length := ht
      rw [mp] at ht
      show h8p ((x.B0.set 0 (gL x)).getD t aF.z) _
      rw [hset]
      split
      · rename_i e
        subst e
        exact ⟨e1, e2, e3, fun _ => hval⟩
      · exact w3.en t ht
    · intro t ht
      show ((x.B0.set 0 (gL x)).getD t aF.z).2.2.2.1 = false
      rw [hset, if_neg (by omega)]
      exact w3.kn t ht
    · intro q hq hst
      refine ⟨hkn2, ?_⟩
      rcases mM.1 hq with hq | hq
      · exact absurd hst (hnos q hq)
      · simp only [mI] at hq
        rw [hq]
        exact h1f e1 e2 hval
    · exact fun _ => ⟨h7O x, by simp, rfl⟩
    · rw [nd, hc0]; exact Nat.le_of_eq rfl
  · show _ = (cn ++ [v]) ++ (v :: sr).drop 1
    rw [p1]; simp
  · show (cn ++ [v]).length = _ + dV (x.B0.set 0 (gL x))
    unfold dV
    rw [if_pos hkn2, mD, p2, hkn]
    rfl
  · refine ⟨v2.ln, v2.fl, fun t h1 h2 => ?_, fun q hq h1 h2 => ?_, v2.ti, v2.tb⟩
    · obtain ⟨a, ha, h3⟩ := v2.em t h1 h2
      exact ⟨a, nc _ ha, h3⟩
    · rcases mM.1 hq with hq | hq
      · exact v2.cl q hq h1 h2
      · simp only [mI] at hq
        rw [hq] at h1; cases h1
  · have nolo : ∀ q ∈ bo x ++ [h7O x], q.1 = false → q ∈ bo x := by
      intro q hq h1
      rcases mM.1 hq with hq | hq
      · exact hq
      · simp only [mI] at hq
        rw [hq] at h1; cases h1
    refine ⟨fun q hq h1 h2 => lo.rg q (nolo q hq h1) h1 h2, fun r h1 h2 h3 => ?_, ?_, ?_, hq2, lo.ra, lo.l16⟩
    · obtain ⟨a, ha, h4⟩ := lo.pn r h1 h2 h3
      exact ⟨a, nc _ ha, h4⟩
    · refine na.2 ⟨lo.un, by simp, fun a ha b hb => ?_⟩
      simp only [mI] at hb
      rw [hb]
      intro _ h2
      cases h2
    · intro q hq h1 q' hq' h2
      have ha := nolo q hq h1
      rcases mM.1 hq' with hq' | hq'
      · exact absurd h2 (hnos q' hq')
      · simp only [mI] at hq'
        rw [hq']
        obtain ⟨_, _, r3, r4, _⟩ := iR (lo.rq q ha)
        have z1 : q.2.2.2.1 = 1 ∨ q.2.2.2.1 = 2 ∨ q.2.2.2.1 = 4 := r4.1
        have z2 : 0 ≤ q.2.2.1 := r4.2.1
        have z3 : q.2.2.1 + q.2.2.2.1 ≤ len x.Mem := r4.2.2.1
        obtain ⟨b, hb, rfl⟩ := nK.1 ha
        have hov : iO (bM x) b = false := by
          have := hcl
          rw [pR] at this
          simpa using this b hb
        unfold iO at hov
        have h1' : b.1 = false := h1
        rw [h1', mn, mO] at hov
        have := g8z (a := b.2.2.1) (n := b.2.2.2.1) ⟨z2, by show b.2.2.1 ≤ _; have z3 : b.2.2.1 + b.2.2.2.1 ≤ len x.Mem := z3; have z1 : b.2.2.2.1 = 1 ∨ b.2.2.2.1 = 2 ∨ b.2.2.2.1 = 4 := z1; omega⟩ (by have z1 : b.2.2.2.1 = 1 ∨ b.2.2.2.1 = 2 ∨ b.2.2.2.1 = 4 := z1; omega) hhb.1 hhb.2 hov
        have r3 : b.2.2.2.1 = aZ b.2.1 := r3
        show fA b.2.2.1 (aZ b.2.1) (bM x).1 (bM x).2.1
        unfold fA at *
        omega
theorem Pl.mono (h:Pl p o s m0 e pos hal dn n j k):Pl p o s m0 e pos hal dn n j (k+1):={h with bd:=by have:=h.bd; rw[nF]; omega}
theorem WAt.settled {pc:Nat} (hn:NextOk s) (hb:hasM s pos.A7=true) (h:WAt p o s e pc n j pos):WAt p o s e pc n j (kx s e pos).1:=by
 obtain⟨b,h1,h2,h3,h4⟩:=h;exact⟨b,h1,h2,h3,(d4c hn e pos hb).trans h4⟩
theorem Pl.settled (hn:NextOk s) (hb:hasM s pos.A7=true) (h:Pl p o s m0 e pos hal dn n j k):Pl p o s m0 e (kx s e pos).1 hal dn n j k:=⟨h.dc,h.wt.settled hn hb,h.jb,λhh=>(by rw[(h.hl hh).2.2]; exact h.hl hh),h.bd,h.ps⟩
theorem Pl.halt (h:Pl p o s m0 e pos false dn n j k) (h8:ae (insG p m0 n).1=8) (hpc:(runG p m0 n).pc<p.Code.length) (hs:kx s e pos=(pos,false)):Pl p o s m0 e pos true (dn+1) n j k:=⟨by rw[h.dc]; simp,h.wt,h.jb,λ_=>⟨h8,hpc,hs⟩,h.bd,h.ps⟩
theorem g8X (hn:NextOk s) (hb:hasM s pos.A7=true) (hf:(kx s e pos).2=false):kx s e (kx s e pos).1=((kx s e pos).1,false):=(d4c hn e pos hb).trans (Prod.ext rfl hf)
theorem Pl.on1 (h:Spl p o s) (g:Pl p o s m0 e pos false dn n j k) (hpc:(runG p m0 n).pc<p.Code.length) (hn:n≤1000000000) (hj:j<(sndR o (insG p m0 n)).length):Pl p o s m0 e (goM s (kx s e pos).1 false) false (dn+1) n (j+1) k:=by
 have hl:=g9o (p:=p) (o:=o) (n:=n) (e:=e) (m0:=m0);exact⟨by rw[g.dc]; simp; omega,WAt.step h g.wt hpc hn (by omega),by omega,λe=>(by cases e),g.bd,g.ps⟩
theorem Pl.next (h:Spl p o s) (g:Pl p o s m0 e pos false dn n j k) (hpc:(runG p m0 n).pc<p.Code.length) (hn:n≤1000000000) (hj:j=(sndR o (insG p m0 n)).length) (hl1:lstS e o (insG p m0 n) (runG p m0 n).pc 0≠[]) (h8:ae (insG p m0 n).1≠8) (ht:trS p o m0 e n=0) :
  Pl p o s m0 e (goM s (kx s e pos).1 (goes (runG p m0 n) (insG p m0 n))) false (dn+1) (n+1) 0 (k+1):=by
 have hl:=g9o (p:=p) (o:=o) (n:=n) (e:=e) (m0:=m0);have h0:0<(lstS e o (insG p m0 n) (runG p m0 n).pc 0).length:=oH.2 hl1;have h1:=h0z e o (insG p m0 n) (runG p m0 n).pc 0;refine⟨?_,WAt.nextG h g.wt hpc hn (by omega) h8,nU _,λe=>(by cases e),by have:=g.bd; rw[nF]; omega,λt ht2=>?_⟩
 ·
  rw[g.dc];show _=((cntS p o m0 e n+(sndR o (insG p m0 n)).length+(lstS e o (insG p m0 n) (runG p m0 n).pc 0).length+0:Nat):Int)+_;rw[show (lstS e o (insG p m0 n) (runG p m0 n).pc 0).length=1 by omega,hj];simp
 by_cases e1:t=n
 ·subst e1; exact⟨hpc,h8,ht⟩
 ·exact g.ps t (by omega)
theorem TrapOk.note {x:aa} {kd st pc:Int} (h:TrapOk p o m0 x.A9) (h2:∃n:Nat,st=(n:Int)∧h7U p o m0 n kd∧pc=((runG p m0 n).pc:Int)):TrapOk p o m0 (bG x kd st pc).A9:=by
 unfold bG;split
 ·exact λ_=>h2
 ·exact h
theorem gz (x:aa) (k st pc:Int):bG x k st pc={x with A9:=(bG x k st pc).A9}:=by unfold bG; split<;>rfl
theorem h0e (o:List Int):∀(l out:List Int) (r:Int),r∈l.foldl (addS o) out↔r∈out∨(r∈l∧ownM o r=1)
 | [],out,r=>by simp
 | q::l,out,r=>by
  rw[nh,h0e o l];unfold addS;split
  ·
   rename_i h;simp only[mM,mI,mV,List.not_mem_nil,or_false];constructor
   ·
    rintro ((h1 | rfl) | ⟨h1,h2⟩)
    ·exact .inl h1
    ·exact .inr ⟨.inl rfl,h.1⟩
    ·exact .inr ⟨.inr h1,h2⟩
   ·
    rintro (h1 | ⟨rfl | h1,h2⟩)
    ·exact .inl (.inl h1)
    ·exact .inl (.inr rfl)
    ·exact .inr ⟨h1,h2⟩
  ·
   rename_i h;simp only[mV];constructor
   ·
    rintro (h1 | ⟨h1,h2⟩)
    ·exact .inl h1
    ·exact .inr ⟨.inr h1,h2⟩
   ·
    rintro (h1 | ⟨rfl | h1,h2⟩)
    ·exact .inl h1
    ·refine .inl (nu λhc=>h ⟨h2,hc⟩)
    ·exact .inr ⟨h1,h2⟩
theorem g9q (i:af) (o:List Int) (r:Int):r∈cZ i o↔r∈aY i∧ownM o r=1:=by
 unfold cZ;rw[h0e];simp
theorem g8M {i:af} {o:List Int} {r:Int} (h:r∈sndR o i):(1≤r∧r≤15)∧o.getD r.toNat 0=1:=by
 have key:∀r:Int,ownM o r=1→(1≤r∧r≤15)∧o.getD r.toNat 0=1:=by
  intro r h;unfold ownM at h;split at h
  ·omega
  ·
   split at h
   ·omega
   ·exact⟨by omega,h⟩
 have hs:∀r∈cZ i o,(1≤r∧r≤15)∧o.getD r.toNat 0=1:=λr hr=>key r ((g9q i o r).1 hr).2
 unfold sndR at h;split at h
 ·cases h
 split at h
 ·
  split at h
  ·cases h
  ·exact hs r h
 split at h
 ·
  split at h
  ·
   rename_i h5;simp only[mI]at h;rw[h];exact key _ h5
  ·cases h
 split at h
 ·
  split at h
  ·cases h
  ·exact hs r h
 ·cases h
theorem h0S (g:GS) {r:Int} (h:1≤r∧r≤15):gv g r=g.regs r:=if_pos h
theorem g9Q {i:af} (h:bC i=true):(i.2.2.1=0∨i.2.2.1∈aY i)∧(i.2.2.2.1=0∨i.2.2.2.1∈aY i):=by
 have h':=h;unfold bC ew at h';simp only[mE]at h';obtain⟨⟨⟨⟨_,_⟩,ha⟩,hb⟩,_⟩:=h';unfold aY;rw[if_pos h];constructor
 ·
  by_cases h0:i.2.2.1=0
  ·exact .inl h0
  ·
   refine .inr (nc _ ?_);cases hh:iq (ae i.1) with
   | true=>simp[h0]
   | false=>rw[hh]at ha; simp at ha; exact absurd ha h0
 ·
  by_cases h0:i.2.2.2.1=0
  ·exact .inl h0
  ·
   refine .inr (List.mem_append_right _ ?_);cases hh:ir (ae i.1) with
   | true=>simp[h0]
   | false=>rw[hh]at hb; simp at hb; exact absurd hb h0
theorem g8h (h:Spl p o s) {r:Int} (h1:1≤r) (h2:r≤15):o.getD r.toNat 0=1∨o.getD r.toNat 0=2:=by
 have hc:=h.cl;unfold dK at hc;simp only[mE]at hc;have:=mz.1 hc.2.2.1 r.toNat (qL.2 ⟨r.toNat-1,by omega,by omega⟩);unfold dZ at this;exact of_decide_eq_true this
theorem RegE.val (h:Spl p o s) {d:aI} (g:RegE p o m0 d.B1 m i) (hi:i=(sndR o (insG p m0 m)).length) {r:Int} (hr:r=0∨((1≤r∧r≤15)∧(o.getD r.toNat 0=1→r∈sndR o (insG p m0 m)))):getM d r=gv (runG p m0 m) r:=by
 unfold getM gv;rcases hr with rfl | ⟨hb,hs⟩
 ·rw[if_neg (by omega),if_neg (by omega)]
 ·
  rw[if_pos hb,if_pos hb];rcases g8h h hb.1 hb.2 with h1 | h1
  ·
   obtain⟨t,ht,e⟩:=nC (hs h1);have:=g.ve t (by omega);rw[mA (l:=sndR o (insG p m0 m)),mC ht]at this;simp only[mj,e]at this;exact this
  ·exact g.re r hb.1 hb.2 h1
end
end Go.Proofs.Zz
