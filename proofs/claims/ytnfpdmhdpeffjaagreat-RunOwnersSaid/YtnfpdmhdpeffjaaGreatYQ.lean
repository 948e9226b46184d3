import Derived.Test.YtnfpdmhdpeffjaaGreatYP
set_option linter.unusedSimpArgs false
set_option linter.unusedVariables false
/- The core on the way: passing over instructions without cells; the requests that end. -/
set_option maxRecDepth 100000
namespace Go.Proofs.Zz
open Go
section
variable {p:a0s} {o:List Int} {s:a0g} {m0:List Int} {n j m i ka ke:Nat} {R:List a0e} {x:a0b}
theorem keepR {r:Int} (h:r≠(insG p m0 n).2.1∨5≤formM (insG p m0 n).1) (hpc:(runG p m0 n).pc < p.Code.length):(runG p m0 (n+1)).regs r = (runG p m0 n).regs r:=by
 rw [g8s hpc];show rgsG _ _ r = _;rcases h with h | h
 · exact h0W _ _ h
 · rw [h0X _ _ h]
theorem h0Q {r:Int} (h1:1≤r) (h2:r≤15):ownM o r = o.getD r.toNat 0:=by
 unfold ownM;rw [if_neg (by omega),if_neg (by omega)]
theorem h0P {i:a0o} {r:Int} (hf:1≤formM i.1∧formM i.1≤3) (hs:sideOM i o≠1) (h1:1≤r) (h2:r≤15) (ho:o.getD r.toNat 0 = 1):r≠i.2.1:=by
 rintro rfl
 apply hs;unfold sideOM;rw [if_neg (by omega),if_pos (.inl (by rw [h0Q h1 h2,ho]))]
theorem h0w {i:a0o} {r:Int} (hs:sideOM i o = 1) (h1:1≤r) (h2:r≤15) (ho:o.getD r.toNat 0 = 2):r≠i.2.1:=by
 rintro rfl
 unfold sideOM at hs;split at hs
 · omega
 ·
  split at hs
  ·
   rename_i h;rcases h with h | h
   · rw [h0Q h1 h2,ho] at h; omega
   · omega
  · omega
theorem h0V {i:a0o} {r:Int} (hs:onEM o i.2.1 = false) (h1:1≤r) (ho:o.getD r.toNat 0 = 2):r≠i.2.1:=by
 rintro rfl
 unfold onEM at hs;rw [decide_eq_true (show i.2.1 > 0 by omega),ho] at hs;simp at hs
theorem g9w {i:a0o} (h:rightIns i = true):1≤formM i.1:=by
 have h0:=b9T i.1;by_cases h1:formM i.1 = 0
 ·
  unfold rightIns at h;rw [h1] at h;simp at h
 · omega
theorem MemC.stepA (h:MemC p o m0 R x n m) (hf:fch p o m0 n = []) (hq:qst p m0 n = []) (hr:∀ r:Int,1≤r→r≤15→o.getD r.toNat 0 = 1→(runG p m0 (n+1)).regs r = (runG p m0 n).regs r):MemC p o m0 R x (n+1) m:=by
 refine ⟨h.mem,by rw [g7Z hq]; exact h.wr,h.pt,by rw [g7Z hf]; exact h.ld,?_⟩
 have l:=h.lo;refine { l with rg:=?_,ra:=?_ }
 ·
  intro q hq h1 h2;obtain ⟨a,b,c⟩:=l.rg q hq h1 h2;have h3:=l.rq q hq;unfold reqM at h3;simp only [Bool.and_eq_true,allB,List.all_cons,List.all_nil,decide_eq_true_eq] at h3;exact ⟨a,b,by rw [hr _ h2 h3.2.2.2.2.1.2 a]; exact c⟩
 ·
  intro r h1 h2 h3 h4;rw [hr r h1 h2 h3];exact l.ra r h1 h2 h3 h4
theorem MemC.stepE (h:MemC p o m0 R x n m) (hf:fch p o m0 m = []) (hq:pts p m0 m = []):MemC p o m0 R x n (m+1) :=
 ⟨h.mem,h.wr,by rw [g7Z hq]; exact h.pt,by rw [g7Z hf]; exact h.ld,h.lo⟩
theorem h0t:(sv p o m0 n).length = (sndR o (insG p m0 n)).length:=by unfold sv; rw [List.length_map]
theorem g9Z (hj:j = (sndR o (insG p m0 n)).length):evq (sv p o m0) n++(sv p o m0 n).take j = evq (sv p o m0) (n+1)++(sv p o m0 (n+1)).take 0:=by
 rw [List.take_of_length_le (by rw [h0t]; omega),List.take_zero,List.append_nil];rfl
theorem Cos.skipA (h:Spl p o s) (c:Cos p o s m0 R x n j ka m i ke) (hd:x.A.Halted = false) (hpc:(runG p m0 n).pc < p.Code.length) (hn:n≤1000000000) (hj:j = (sndR o (insG p m0 n)).length) (hl:lstS false o (insG p m0 n) (runG p m0 n).pc 0 = []) :
  Cos p o s m0 R x (n+1) 0 ka m i ke∧(runG p m0 (n+1)).pc = (runG p m0 n).pc+1:=by
 obtain ⟨g1,g2,g3⟩:=c.pa.skip h hd hpc hn hj hl;obtain ⟨hf,hs⟩:formM (insG p m0 n).1≤3∧sideOM (insG p m0 n) o≠1:=by
  rcases g3 with ⟨_,h1,h2⟩ | ⟨h1,_⟩ | ⟨h1,_⟩
  · exact ⟨h1,h2⟩
  · cases h1
  · cases h1
 have hp:=g9w (g8c h.right hpc);refine ⟨⟨g1,c.pe,by rw [← g9Z hj]; exact c.aeq,?_,?_,?_,c.re,c.tr⟩,g2⟩
 · rw [g7Z (by unfold abr; rw [if_neg (by omega)])]; exact c.abq
 · rw [g7Z (f:=ebr p o m0) (n:=n) (by unfold ebr; rw [if_neg (by omega)])]; exact c.ebq
 · exact c.mc.stepA (by unfold fch; rw [if_neg (by omega)]) (by unfold qst; rw [if_neg (by omega)]) fun r h1 h2 h3=>keepR (.inl (h0P ⟨hp,hf⟩ hs h1 h2 h3)) hpc
theorem Cos.skipE (h:Spl p o s) (c:Cos p o s m0 R x n j ka m i ke) (hd:x.E.Halted = false) (hpc:(runG p m0 m).pc < p.Code.length) (hn:m≤1000000000) (hj:i = (sndR o (insG p m0 m)).length) (hl:lstS true o (insG p m0 m) (runG p m0 m).pc 0 = []) :
  Cos p o s m0 R x n j ka (m+1) 0 ke∧(runG p m0 (m+1)).pc = (runG p m0 m).pc+1:=by
 obtain ⟨g1,g2,g3⟩:=c.pe.skip h hd hpc hn hj hl;have hf:formM (insG p m0 m).1≤4:=by
  rcases g3 with ⟨h1,_⟩ | ⟨_,h1,_⟩ | ⟨_,h1,_⟩
  · cases h1
  · omega
  · omega
 have hfe:fch p o m0 m = []:=by
  unfold fch;rcases g3 with ⟨h1,_⟩ | ⟨_,h1,_⟩ | ⟨_,h1,h2,_⟩
  · cases h1
  · rw [if_neg (by omega)]
  · rw [if_neg (by rw [h2]; simp)]
 refine ⟨⟨c.pa,g1,by rw [← g9Z hj]; exact c.aeq,?_,?_,c.mc.stepE hfe (by unfold pts; rw [if_neg (by omega)]),?_,c.tr⟩,g2⟩
 · rw [g7Z (f:=abr p o m0) (n:=m) (by unfold abr; rw [if_neg (by omega)])]; exact c.abq
 · rw [g7Z (by unfold ebr; rw [if_neg (by omega)])]; exact c.ebq
 ·
  refine ⟨fun r h1 h2 h3=>?_,fun t ht=>absurd ht (by omega),c.re.l16⟩
  rw [keepR ?_ hpc]
  · exact c.re.re r h1 h2 h3
  ·
   rcases g3 with ⟨h4,_⟩ | ⟨_,_,h4,_⟩ | ⟨_,_,h4,_⟩
   · cases h4
   · exact .inl (h0w h4 h1 h2 h3)
   · exact .inl (h0V h4 h1 h3)
def Here (p:a0s) (o:List Int) (m0:List Int) (e:Bool) (n j:Nat):Prop :=
 ((runG p m0 n).pc < p.Code.length∧(j < (sndR o (insG p m0 n)).length∨(j = (sndR o (insG p m0 n)).length∧lstS e o (insG p m0 n) (runG p m0 n).pc 0≠[])))∨¬ (runG p m0 n).pc < p.Code.length
theorem Cos.normA (h:Spl p o s) (hd:x.A.Halted = false) (hb:p.Code.length*(ka+1)≤1000000000):∀ (f n j:Nat),p.Code.length - (runG p m0 n).pc≤f→Cos p o s m0 R x n j ka m i ke→∃ n' j',n≤n'∧Cos p o s m0 R x n' j' ka m i ke∧Here p o m0 false n' j':=by
 intro f;induction f with
 | zero=>intro n j h1 c; exact ⟨n,j,Nat.le_refl _,c,.inr (by omega)⟩
 | succ f ih =>
  intro n j h1 c;by_cases hpc:(runG p m0 n).pc < p.Code.length
  ·
   have hjb:=c.pa.jb;by_cases hj:j < (sndR o (insG p m0 n)).length
   · exact ⟨n,j,Nat.le_refl _,c,.inl ⟨hpc,.inl hj⟩⟩
   ·
    by_cases hl:lstS false o (insG p m0 n) (runG p m0 n).pc 0 = []
    ·
     have hbd:=c.pa.bd;obtain ⟨c2,h2⟩:=c.skipA h hd hpc (by rw [Nat.mul_add] at hb; omega) (by omega) hl;obtain ⟨n',j',h3,h4⟩:=ih (n+1) 0 (by omega) c2;exact ⟨n',j',by omega,h4⟩
    · exact ⟨n,j,Nat.le_refl _,c,.inl ⟨hpc,.inr ⟨by omega,hl⟩⟩⟩
  · exact ⟨n,j,Nat.le_refl _,c,.inr hpc⟩
theorem Cos.normE (h:Spl p o s) (hd:x.E.Halted = false) (hb:p.Code.length*(ke+1)≤1000000000):∀ (f m i:Nat),p.Code.length - (runG p m0 m).pc≤f→Cos p o s m0 R x n j ka m i ke→∃ m' i',m≤m'∧Cos p o s m0 R x n j ka m' i' ke∧Here p o m0 true m' i':=by
 intro f;induction f with
 | zero=>intro m i h1 c; exact ⟨m,i,Nat.le_refl _,c,.inr (by omega)⟩
 | succ f ih =>
  intro m i h1 c;by_cases hpc:(runG p m0 m).pc < p.Code.length
  ·
   have hjb:=c.pe.jb;by_cases hj:i < (sndR o (insG p m0 m)).length
   · exact ⟨m,i,Nat.le_refl _,c,.inl ⟨hpc,.inl hj⟩⟩
   ·
    by_cases hl:lstS true o (insG p m0 m) (runG p m0 m).pc 0 = []
    ·
     have hbd:=c.pe.bd;obtain ⟨c2,h2⟩:=c.skipE h hd hpc (by rw [Nat.mul_add] at hb; omega) (by omega) hl;obtain ⟨n',j',h3,h4⟩:=ih (m+1) 0 (by omega) c2;exact ⟨n',j',by omega,h4⟩
    · exact ⟨m,i,Nat.le_refl _,c,.inl ⟨hpc,.inr ⟨by omega,hl⟩⟩⟩
  · exact ⟨m,i,Nat.le_refl _,c,.inr hpc⟩
/-! A request ends -/
theorem g7U {α:Type} {a q:α} {K R:List α}:a∈K++q::R↔a = q∨a∈K++R:=by
 simp only [List.mem_append,List.mem_cons];constructor
 ·
  rintro (h | h | h)
  · exact .inr (.inl h)
  · exact .inl h
  · exact .inr (.inr h)
 ·
  rintro (h | h | h)
  · exact .inr (.inl h)
  · exact .inl h
  · exact .inr (.inr h)
theorem g9x {α:Type} {S:α→α→Prop} {q:α} {K R:List α} (h:(K++q::R).Pairwise S):(K++R).Pairwise S∧∀ a∈K++R,S a q∨S q a:=by
 rw [List.pairwise_append,List.pairwise_cons] at h;obtain ⟨h1,⟨h2,h3⟩,h4⟩:=h;refine ⟨List.pairwise_append.2 ⟨h1,h3,fun a ha b hb=>h4 a ha b (List.mem_cons_of_mem _ hb)⟩,fun a ha=>?_⟩
 rcases List.mem_append.1 ha with ha | ha
 · exact .inl (h4 a ha q (List.mem_cons_self ..))
 · exact .inr (h2 a ha)
theorem h0T {q q':a0e} (h:OwnQ q' q∨OwnQ q q') (h1:q.1 = false) (h2:q'.1 = false) (h3:q'.2.2.2.2.2.2.1 = q.2.2.2.2.2.2.1) (h4:q.2.2.2.2.2.2.1≠0):q.2.2.2.2.2.2.1 < 0∧q'.2.2.2.2.2.2.2.1≠q.2.2.2.2.2.2.2.1:=by
 rcases h with h | h
 ·
  rcases h h2 h1 h3 with h | h
  · omega
  · exact ⟨by omega,h.2⟩
 ·
  rcases h h1 h2 h3.symm with h | h
  · omega
  · exact ⟨h.1,fun e=>h.2 e.symm⟩
theorem g8d {M:Int} {q:a0e} (h:reqM M q = true):-1≤q.2.2.2.2.2.2.1∧q.2.2.2.2.2.2.1≤15∧q.2.2.2.1 = sizeM q.2.1∧LieW (wrQ q) M∧formM q.2.1 = (if q.1 = true then 5 else 4):=by
 unfold reqM at h;simp only [Bool.and_eq_true,allB,List.all_cons,List.all_nil,decide_eq_true_eq] at h;exact ⟨h.2.2.2.2.1.1,h.2.2.2.2.1.2,h.1,(by have g:=of_decide_eq_true h.2.2.1; exact g),h.2.1⟩
theorem Loads.drop {q:a0e} {K:List a0e} {regs ready mem:List Int} (h:Loads p o m0 (K++q::R) regs ready mem n) (hq:q.1 = false→q.2.2.2.2.2.2.1 < 1):Loads p o m0 (K++R) regs ready mem n:=by
 obtain ⟨u1,u2⟩:=g9x h.un;refine ⟨fun a ha=>h.rg a (g7U.2 (.inr ha)),fun r h1 h2 h3=>?_,u1,fun a ha h1 b hb=>h.dj a (g7U.2 (.inr ha)) h1 b (g7U.2 (.inr hb)),fun a ha=>h.rq a (g7U.2 (.inr ha)),h.ra,h.l16⟩
 obtain ⟨a,ha,e1,e2⟩:=h.pn r h1 h2 h3;rcases g7U.1 ha with rfl | ha
 · have:=hq e1; omega
 · exact ⟨a,ha,e1,e2⟩
theorem Slots.drop {q:a0e} {K:List a0e} {l:List a0q} {mem vs:List Int} {tags:Int} (h:Slots (K++q::R) l mem tags vs) (hq:q.1 = false→0≤q.2.2.2.2.2.2.1):Slots (K++R) l mem tags vs:=by
 refine ⟨h.ln,h.fl,fun t h1 h2=>?_,fun a ha=>h.cl a (g7U.2 (.inr ha)),h.ti,h.tb⟩
 obtain ⟨a,ha,e1,e2,e3⟩:=h.em t h1 h2;rcases g7U.1 ha with rfl | ha
 · have:=hq e1; omega
 · exact ⟨a,ha,e1,e2,e3⟩
theorem Stos.drop {q:a0e} {K:List a0e} {l:List a0a} {rest:List (Nat × a0K)} (h:Stos (K++q::R) l rest) (hq:q.1 = false):Stos (K++R) l rest:=by
 refine ⟨h.ln,h.en,h.kn,fun a ha=>h.st a (g7U.2 (.inr ha)),fun hk=>?_,?_⟩
 ·
  obtain ⟨a,ha,e1⟩:=h.cn hk;rcases g7U.1 ha with rfl | ha
  · rw [hq] at e1; cases e1
  · exact ⟨a,ha,e1⟩
 ·
  have:=h.one;rw [List.countP_append,List.countP_cons] at this;rw [List.countP_append];omega
theorem g9t {l:List a0q} {t:Int} {k:Nat} (hk:(l.getD k a0q.z).1 = t∧(l.getD k a0q.z).2.1 = false) (hu:∀ u:Nat,u < k→(l.getD u a0q.z).1≠t):∀ n i:Nat,i≤k→k < i+n→findM l t n i = (k:Int)
 | 0,i,h1,h2=>by omega
 | n+1,i,h1,h2=>by
  unfold findM;by_cases e:i = k
  ·
   subst e;rw [hk.1,hk.2,if_pos (by simp)]
  ·
   rw [if_neg (by intro hh; rw [Bool.and_eq_true,beq_iff_eq] at hh; exact hu i (by omega) hh.1)];exact g9t hk hu n (i+1) (by omega) (by omega)
theorem h0B (l:List a0q) (i j:Nat) (v:a0q) (h:i < l.length):(l.set i v).getD j a0q.z = if i = j then v else l.getD j a0q.z:=by
 rw [List.getD_eq_getElem?_getD,List.getElem?_set,List.getD_eq_getElem?_getD];by_cases e:i = j
 · subst e; simp [h]
 · simp [e]
theorem g8r {α:Type} (l:List α) (d:α) (t:Nat):(l.drop 1).getD t d = l.getD (t+1) d:=by
 rw [List.getD_eq_getElem?_getD,List.getElem?_drop,List.getD_eq_getElem?_getD,Nat.add_comm]
theorem Slots.fill {q:a0e} {K:List a0e} {l:List a0q} {mem vs:List Int} {tags:Int} (h:Slots (K++q::R) l mem tags vs) (hq:q.1 = false) (hr:q.2.2.2.2.2.2.1 < 0) (hu:(K++q::R).Pairwise OwnQ) (hb:∀ a∈K++q::R,-1≤a.2.2.2.2.2.2.1) :
  Slots (K++R) (fillM l q.2.2.2.2.2.2.2.1 (loadV mem q.2.1 q.2.2.1)) mem tags vs:=by
 obtain ⟨u1,u2⟩:=g9x hu;obtain ⟨k,k1,k2,k3⟩:=h.cl q (g7U.2 (.inl rfl)) hq hr;have hqb:=hb q (g7U.2 (.inl rfl));have hlt:∀ t,t < l.length→(l.getD t a0q.z).1 = q.2.2.2.2.2.2.2.1→t = k:=by
  intro t ht e;rcases Nat.lt_trichotomy t k with h1 | h1 | h1
  · have:=h.ti t k h1 k1; omega
  · exact h1
  · have:=h.ti k t h1 ht; omega
 have hne:∀ a∈K++R,a.1 = false→a.2.2.2.2.2.2.1 < 0→a.2.2.2.2.2.2.2.1≠q.2.2.2.2.2.2.2.1:=fun a ha h1 h2 =>
  (h0T (u2 a ha) hq h1 (by have:=hb a (g7U.2 (.inr ha)); omega) (by omega)).2
 have hv:loadV mem q.2.1 q.2.2.1 = vs.getD k 0:=by
  obtain ⟨a,ha,e1,e2,e3,e4⟩:=h.em k k1 k3;rcases g7U.1 ha with rfl | ha
  · exact e4
  · exact absurd (e3.trans k2) (hne a ha e1 e2)
 have hf:fillM l q.2.2.2.2.2.2.2.1 (loadV mem q.2.1 q.2.2.1) = l.set k (q.2.2.2.2.2.2.2.1,(true,(loadV mem q.2.1 q.2.2.1,()))):=by
  unfold fillM;rw [g9t ⟨k2,k3⟩ (fun u hu e=>by have:=hlt u (by omega) e; omega) l.length 0 (by omega) (by omega),if_neg (by omega),Int.toNat_natCast,k2]
 rw [hf];have hg:=fun t=>h0B l k t (q.2.2.2.2.2.2.2.1,(true,(loadV mem q.2.1 q.2.2.1,()))) k1
 have htag:∀ t,((l.set k (q.2.2.2.2.2.2.2.1,(true,(loadV mem q.2.1 q.2.2.1,())))).getD t a0q.z).1 = (l.getD t a0q.z).1:=by
  intro t;rw [hg];split
  · rename_i e; subst e; exact k2.symm
  · rfl
 refine ⟨by rw [List.length_set]; exact h.ln,?_,?_,?_,?_,?_⟩
 ·
  intro t ht hfu;rw [List.length_set] at ht;rw [hg] at hfu ⊢;split
  · rename_i e; subst e; exact hv
  ·
   rename_i e;rw [if_neg e] at hfu;exact h.fl t ht hfu
 ·
  intro t ht hfu;rw [List.length_set] at ht;rw [htag];rw [hg] at hfu;split at hfu
  · cases hfu
  ·
   rename_i e;obtain ⟨a,ha,e1,e2,e3,e4⟩:=h.em t ht hfu;rcases g7U.1 ha with rfl | ha
   · exact absurd (hlt t ht e3.symm).symm e
   · exact ⟨a,ha,e1,e2,e3,e4⟩
 ·
  intro a ha h1 h2;obtain ⟨t,t1,t2,t3⟩:=h.cl a (g7U.2 (.inr ha)) h1 h2;refine ⟨t,by rw [List.length_set]; exact t1,by rw [htag]; exact t2,?_⟩
  rw [hg,if_neg]
  · exact t3
  ·
   rintro rfl
   exact hne a ha h1 h2 (t2.symm.trans k2)
 ·
  intro t u h1 h2;rw [List.length_set] at h2;rw [htag,htag];exact h.ti t u h1 h2
 ·
  intro t ht;rw [List.length_set] at ht;rw [htag];exact h.tb t ht
theorem Loads.put {q:a0e} {K:List a0e} {regs ready mem:List Int} (h:Loads p o m0 (K++q::R) regs ready mem n) (hq:q.1 = false) (hr:1≤q.2.2.2.2.2.2.1) {y:Int} (hy:0≤y) :
  Loads p o m0 (K++R) (regs.set q.2.2.2.2.2.2.1.toNat (loadV mem q.2.1 q.2.2.1)) (ready.set q.2.2.2.2.2.2.1.toNat y) mem n:=by
 obtain ⟨u1,u2⟩:=g9x h.un;obtain ⟨l1,l2⟩:=h.l16;have hb:=(g8d (h.rq q (g7U.2 (.inl rfl)))).2.1;obtain ⟨g1,g2,g3⟩:=h.rg q (g7U.2 (.inl rfl)) hq hr;have e1:=fun j=>g8f regs q.2.2.2.2.2.2.1.toNat j (loadV mem q.2.1 q.2.2.1) (by omega)
 have e2:=fun j=>g8f ready q.2.2.2.2.2.2.1.toNat j y (by omega)
 refine ⟨?_,?_,u1,fun a ha h1 b hb=>h.dj a (g7U.2 (.inr ha)) h1 b (g7U.2 (.inr hb)),fun a ha=>h.rq a (g7U.2 (.inr ha)),?_,by rw [List.length_set,List.length_set]; exact h.l16⟩
 ·
  intro a ha h1 h2;obtain ⟨b1,b2,b3⟩:=h.rg a (g7U.2 (.inr ha)) h1 h2;refine ⟨b1,?_,b3⟩;rw [e2,if_neg]
  · exact b2
  ·
   intro e;have:=(h0T (u2 a ha) hq h1 (by omega) (by omega)).1;omega
 ·
  intro r h1 h2 h3;rw [e2] at h3;split at h3
  · omega
  ·
   rename_i hne;obtain ⟨a,ha,b1,b2⟩:=h.pn r h1 h2 h3;rcases g7U.1 ha with rfl | ha
   · rw [b2] at hne; exact absurd rfl hne
   · exact ⟨a,ha,b1,b2⟩
 ·
  intro r h1 h2 h3 h4;rw [e1];by_cases e:q.2.2.2.2.2.2.1.toNat = r.toNat
  · rw [if_pos e,g3,show q.2.2.2.2.2.2.1 = r by omega]
  ·
   rw [if_neg e];rw [e2,if_neg e] at h4;exact h.ra r h1 h2 h3 h4
theorem MemC.done {q:a0e} {K:List a0e} (h:MemC p o m0 (K++q::R) x n m) (hc:0≤w.i64 (x.Cycle+1)) (hmm:len x.Mem≤65536):MemC p o m0 (K++R) (doneM q x) n m:=by
 obtain ⟨r1,r2,r3,r4,r5⟩:=g8d (h.lo.rq q (g7U.2 (.inl rfl)));have hm:len x.Mem = len x.Mem:=rfl;obtain ⟨dn,rest,w1,w2,w3⟩:=h.wr;obtain ⟨cn,p1,p2⟩:=h.pt;obtain ⟨vs,v1,v2⟩:=h.ld;unfold doneM;cases hq:q.1 with
 | true =>
  rw [if_pos rfl];obtain ⟨s1,s2⟩:=w3.st q (g7U.2 (.inl rfl)) hq;have hne:0 < x.Saq.length:=by
   unfold knows at s1;by_cases h0:0 < x.Saq.length
   · exact h0
   · rw [List.getD_eq_getElem?_getD,List.getElem?_eq_none (by omega)] at s1; cases s1
  have hk1:knows (x.Saq.drop 1) = false:=by
   unfold knows;rw [g8r];exact w3.kn 1 (by omega)
  have hnos:∀ a∈K++R,¬ a.1 = true:=by
   intro a ha e;have h1:=w3.one;rw [List.countP_append,List.countP_cons,if_pos hq] at h1;have h2:0 < (K++R).countP fun q=>q.1:=List.countP_pos_iff.2 ⟨a,ha,e⟩
   rw [List.countP_append] at h2;omega
  have hap:∀ a∈K++R,a.1 = false→loadV (wrOf x.Mem (wrQ q)) a.2.1 a.2.2.1 = loadV x.Mem a.2.1 a.2.2.1:=by
   intro a ha h1;obtain ⟨_,_,_,a4,_⟩:=g8d (h.lo.rq a (g7U.2 (.inr ha)));exact g8V r4 a4.2.1 (h.lo.dj a (g7U.2 (.inr ha)) h1 q (g7U.2 (.inl rfl)) hq)
  have hl:len (wrOf x.Mem (wrQ q)) = len x.Mem:=by simp only [len,g8t]
  cases rest with
  | nil=>have:=w3.ln; simp at this; omega
  | cons r0 rl =>
  refine ⟨?_,⟨dn++[r0],rl,by rw [w1]; simp,?_,?_⟩,⟨cn,p1,?_⟩,⟨vs,v1,?_⟩,?_⟩
  ·
   show wrOf x.Mem (wrQ q) = (x.Writes++[wrQ q]).foldl wrOf m0;rw [List.foldl_append,← h.mem]; rfl
  ·
   show _ = x.Writes++[wrQ q];rw [List.map_append,w2,s2]; rfl
  ·
   refine ⟨?_,?_,?_,fun a ha e=>absurd e (hnos a ha),fun e=>?_,?_⟩
   ·
    have:=w3.ln;show rl.length = (x.Saq.drop 1).length;rw [List.length_drop];simp at this;omega
   ·
    intro t ht;have ht:t < (x.Saq.drop 1).length:=ht;rw [List.length_drop] at ht;have:=w3.en (t+1) (by omega);show EntOk ((x.Saq.drop 1).getD t a0a.z) _;rw [g8r];exact this
   ·
    intro t ht;show ((x.Saq.drop 1).getD t a0a.z).2.2.2.1 = false;rw [g8r];exact w3.kn (t+1) (by omega)
   · rw [show knows (x.Saq.drop 1) = false from hk1] at e; cases e
   ·
    have h1:=w3.one;rw [List.countP_append,List.countP_cons] at h1;rw [List.countP_append];omega
  ·
   show cn.length = (x.Writes++[wrQ q]).length+knownN (x.Saq.drop 1);have:knownN x.Saq = 1:=by unfold knownN; rw [if_pos s1]
   rw [p2,this];unfold knownN;rw [hk1,if_neg (by simp),List.length_append]; rfl
  ·
   refine ⟨v2.ln,v2.fl,?_,?_,v2.ti,v2.tb⟩
   ·
    intro t h1 h2;obtain ⟨a,ha,e1,e2,e3,e4⟩:=v2.em t h1 h2;rcases g7U.1 ha with rfl | ha
    · rw [hq] at e1; cases e1
    · exact ⟨a,ha,e1,e2,e3,(hap a ha e1).trans e4⟩
   · exact fun a ha=>v2.cl a (g7U.2 (.inr ha))
  ·
   have l:=h.lo.drop (fun e=>by rw [hq] at e; cases e);refine { l with rg:=?_,rq:=?_ }
   ·
    intro a ha h1 h2;obtain ⟨b1,b2,b3⟩:=l.rg a ha h1 h2;exact ⟨b1,b2,(hap a ha h1).trans b3⟩
   ·
    intro a ha;show reqM (len (wrOf x.Mem (wrQ q))) a = true;rw [hl];exact l.rq a ha
 | false =>
  rw [if_neg (by simp)];have hub:=h.lo.un;have hbb:∀ a∈K++q::R,-1≤a.2.2.2.2.2.2.1:=fun a ha=>(g8d (h.lo.rq a ha)).1
  have z1:q.2.2.2.1 = 1∨q.2.2.2.1 = 2∨q.2.2.2.1 = 4:=r4.1;have z2:0≤q.2.2.1:=r4.2.1;have z3:q.2.2.1+q.2.2.2.1≤len x.Mem:=r4.2.2.1;rw [if_pos (show 0≤q.2.2.1∧q.2.2.1≤4294967295 by omega),h0s (by omega) (by omega)];unfold ldS;by_cases hr:q.2.2.2.2.2.2.1 < 0
  ·
   rw [if_pos hr];exact ⟨h.mem,⟨dn,rest,w1,w2,w3.drop hq⟩,⟨cn,p1,p2⟩,⟨vs,v1,v2.fill hq hr hub hbb⟩,h.lo.drop (fun _=>by omega)⟩
  ·
   rw [if_neg hr];by_cases h1:1≤q.2.2.2.2.2.2.1
   ·
    rw [if_pos ⟨r2,h1⟩];exact ⟨h.mem,⟨dn,rest,w1,w2,w3.drop hq⟩,⟨cn,p1,p2⟩,⟨vs,v1,v2.drop fun _=>by omega⟩,h.lo.put hq h1 hc⟩
   ·
    rw [if_neg (by omega)];exact ⟨h.mem,⟨dn,rest,w1,w2,w3.drop hq⟩,⟨cn,p1,p2⟩,⟨vs,v1,v2.drop fun _=>by omega⟩,h.lo.drop fun _=>by omega⟩
theorem g9V (q:a0e) (x:a0b):doneM q x = { x with A:={ x.A with Regs:=(doneM q x).A.Regs,Ready:=(doneM q x).A.Ready },Ldq:=(doneM q x).Ldq,Saq:=(doneM q x).Saq,Mem:=(doneM q x).Mem,Writes:=(doneM q x).Writes }:=by
 unfold doneM ldS
 repeat' split
 all_goals rfl
theorem g8P:∀ (T K:List a0e) (x:a0b),MemC p o m0 (K++T.map stripQ) x n m→0≤w.i64 (x.Cycle+1)→len x.Mem≤65536→MemC p o m0 (K++(T.filterMap keepQ).map stripQ) (endsM T x) n m
 | [],K,x,h,_,_=>h
 | q::r,K,x,h,hc,hm=>by
  rw [endsM,List.filterMap_cons];cases hk:keepQ q with
  | none =>
   show MemC p o m0 (K++(r.filterMap keepQ).map stripQ) (endsM r (doneM (downQ q) x)) n m;have h1:MemC p o m0 (K++r.map stripQ) (doneM (downQ q) x) n m:=h.done hc hm;have fr:=g9V (downQ q) x;refine g8P r K _ h1 ?_ ?_
   · rw [show (doneM (downQ q) x).Cycle = x.Cycle by rw [fr]]; exact hc
   ·
    have:=(d8L (downQ q) x).1;simp only [len] at hm ⊢;omega
  | some q' =>
   show MemC p o m0 (K++(q'::r.filterMap keepQ).map stripQ) (endsM r x) n m;have e:=b2B hk;have h1:=g8P r (K++[stripQ q]) x (by simpa using h) hc hm
   simpa [e] using h1
theorem g9s:∀ (T:List a0e) (x:a0b),endsM T x = { x with A:={ x.A with Regs:=(endsM T x).A.Regs,Ready:=(endsM T x).A.Ready },Ldq:=(endsM T x).Ldq,Saq:=(endsM T x).Saq,Mem:=(endsM T x).Mem,Writes:=(endsM T x).Writes }
 | [],x=>rfl
 | q::r,x=>by
  rw [endsM];split
  ·
   have h1:=g9s r (doneM (downQ q) x);have h2:=g9V (downQ q) x;rw [h2] at h1;rw [h2];exact h1
  · exact g9s r x
theorem Cos.move {c:a0f} (t:a0w) (h:Cos p o s m0 (stripped x) x n j ka m i ke) (hc:0≤w.i64 (x.Cycle+1)) (hm:len x.Mem≤65536) (hl:1≤c.Lat∧c.Lat≤1000):Cos p o s m0 (stripped (moveM c t x)) (moveM c t x) n j ka m i ke:=by
 have hb:=g7y t hl c.Banks.toNat 0 { endsM x.Table x with Table:=x.Table.filterMap keepQ };have h1:=g8P (K:=[]) x.Table x (by simpa [stripped] using h.mc) hc hm;have fr:=g9s x.Table x;have ht:stripped (moveM c t x) = (x.Table.filterMap keepQ).map stripQ:=hb.tab;have fb:moveM c t x = { ({ endsM x.Table x with Table:=x.Table.filterMap keepQ }:a0b) with Table:=(moveM c t x).Table,Lats:=(moveM c t x).Lats,Picks:=(moveM c t x).Picks }:=hb.fr;rw [ht,fb];rw [List.nil_append] at h1;generalize endsM x.Table x = y at *;obtain ⟨pa,pe,aeq,abq,ebq,mc,re,tr⟩:=h;have ea:y.A.Pos = x.A.Pos:=by rw [fr]
 have eh:y.A.Halted = x.A.Halted:=by rw [fr]
 have ee:y.E = x.E:=by rw [fr]
 have e1:y.Aeq = x.Aeq:=by rw [fr]
 have e2:y.Abq = x.Abq:=by rw [fr]
 have e3:y.Ebq = x.Ebq:=by rw [fr]
 have e4:y.Trap = x.Trap:=by rw [fr]
 exact ⟨by show Pl p o s m0 false y.A.Pos y.A.Halted n j ka; rw [ea,eh]; exact pa,by show Pl p o s m0 true y.E.Pos y.E.Halted m i ke; rw [ee]; exact pe,by show _ = _++y.Aeq; rw [e1]; exact aeq,by show _ = _++y.Abq; rw [e2]; exact abq,by show _ = _++y.Ebq; rw [e3]; exact ebq,⟨h1.mem,h1.wr,h1.pt,h1.ld,h1.lo⟩,by show RegE p o m0 y.E.Regs m i; rw [ee]; exact re,by show TrapOk p o m0 y.Trap; rw [e4]; exact tr⟩
end
end Go.Proofs.Zz

/- The core on the way: a store is sent; what a side's last cell of an instruction leaves. -/
set_option maxRecDepth 100000
namespace Go.Proofs.Zz
open Go
section
variable {p:a0s} {o:List Int} {s:a0g} {m0:List Int} {n j m i k ka ke:Nat} {R:List a0e} {x:a0b} {e hal:Bool} {pos:a0C}
/-! Stores and their words -/
theorem g9r (p:a0s) (m0:List Int):∀ N:Nat,(evq (pts p m0) N).length = (evq (qst p m0) N).length∧∀ t:Nat,t < (evq (qst p m0) N).length→((evq (qst p m0) N).getD t noSt).2.2.2.1 = maskM ((evq (pts p m0) N).getD t 0) ((evq (qst p m0) N).getD t noSt).2.2.1∧((evq (qst p m0) N).getD t noSt).1 < N
 | 0=>⟨rfl,fun t h=>absurd h (by show ¬ t < 0; omega)⟩
 | N+1=>by
  obtain ⟨h1,h2⟩:=g9r p m0 N;show (evq (pts p m0) N++pts p m0 N).length = (evq (qst p m0) N++qst p m0 N).length∧∀ t,t < (evq (qst p m0) N++qst p m0 N).length→((evq (qst p m0) N++qst p m0 N).getD t noSt).2.2.2.1 = maskM ((evq (pts p m0) N++pts p m0 N).getD t 0) ((evq (qst p m0) N++qst p m0 N).getD t noSt).2.2.1∧((evq (qst p m0) N++qst p m0 N).getD t noSt).1 < N+1
  by_cases h5:formM (insG p m0 N).1 = 5
  ·
   rw [show pts p m0 N = [gv (runG p m0 N) (insG p m0 N).2.2.2.1] from if_pos h5,show qst p m0 N = [(N,gWr (runG p m0 N) (insG p m0 N))] from if_pos h5];refine ⟨by simp [h1],fun t ht=>?_⟩
   by_cases h:t < (evq (qst p m0) N).length
   ·
    obtain ⟨a,b⟩:=h2 t h;rw [g9f _ _ _ h,g9f _ _ _ (by omega)];exact ⟨a,by omega⟩
   ·
    have e:t = (evq (qst p m0) N).length:=by simp at ht; omega
    subst e;rw [g9b];rw [← h1,g9b];exact ⟨rfl,by show N < N+1; omega⟩
  ·
   rw [show pts p m0 N = [] from if_neg h5,show qst p m0 N = [] from if_neg h5,List.append_nil,List.append_nil];exact ⟨h1,fun t ht=>⟨(h2 t ht).1,by have:=(h2 t ht).2; omega⟩⟩
theorem g8J {α:Type} {l l':List α} (d:α) (h:l <+: l') {t:Nat} (ht:t < l.length):l'.getD t d = l.getD t d:=by
 obtain ⟨r,rfl⟩:=h;rw [List.getD_eq_getElem?_getD,List.getElem?_append_left ht,← List.getD_eq_getElem?_getD]
theorem g9z {t:Nat} (h1:t < (evq (qst p m0) n).length) (h2:t < (evq (pts p m0) m).length) :
  ((evq (qst p m0) n).getD t noSt).2.2.2.1 = maskM ((evq (pts p m0) m).getD t 0) ((evq (qst p m0) n).getD t noSt).2.2.1∧((evq (qst p m0) n).getD t noSt).1 < n∧((evq (qst p m0) n).getD t noSt).1 < m:=by
 have a1:=g9e (qst p m0) (n:=n) (m:=max n m) (by omega);have a2:=g9e (pts p m0) (n:=m) (m:=max n m) (by omega);have a3:=g9e (qst p m0) (n:=m) (m:=max n m) (by omega);have b:=(g9r p m0 (max n m)).2 t (by have:=a1.length_le; omega);have l2:t < (evq (qst p m0) m).length:=by rw [← (g9r p m0 m).1]; exact h2
 have c1:=(g9r p m0 n).2 t h1;have c2:=(g9r p m0 m).2 t l2;rw [g8J noSt a1 h1,g8J 0 a2 h2] at b;refine ⟨b.1,c1.2,?_⟩;rw [← g8J noSt a1 h1,g8J noSt a3 l2];exact c2.2
theorem h1f {q q':a0K} (h1:q.1 = q'.1) (h2:q.2.1 = q'.2.1) (h3:q.2.2.1 = q'.2.2.1):q = q':=by
 obtain ⟨a,b,c,_⟩:=q;obtain ⟨a',b',c',_⟩:=q';simp only at h1 h2 h3;subst h1 h2 h3;rfl
theorem g8u {l:List a0a} (h:knows l = true):0 < l.length:=by
 unfold knows at h;by_cases h0:0 < l.length
 · exact h0
 · rw [List.getD_eq_getElem?_getD,List.getElem?_eq_none (by omega)] at h; cases h
theorem g9H {c:a0f} {x:a0b} (h:rightM c s x = true):∀ q∈stripped x,reqM (len x.Mem) q = true:=by
 intro q hq;obtain ⟨a,ha,rfl⟩:=List.mem_map.1 hq;exact ((b8f _ _).1 (b4n h a ha)).1
theorem Cos.sent {c : a0f} (h : Cos p o s m0 (stripped x) x n j ka m i ke) (hL : Lies x.Saq) (hm : len x.Mem ≤ 65536) (hr2 : rightM c s (sendM c x) = true) : Cos p o s m0 (stripped (sendM c x)) (sendM c x) n j ka m i ke := by
  have hq2 := g9H hr2
  unfold sendM at hq2 ⊢
  by_cases hc : canM c x = true
  case neg => rw [if_neg hc]; exact h
  rw [if_pos hc] at hq2 ⊢
  obtain ⟨pa, pe, aeq, abq, ebq, mc, re, tr⟩ := h
  obtain ⟨n0, n1⟩ := d8A hc
  unfold canM at hc
  simp only [Bool.and_eq_true, decide_eq_true_eq, Bool.not_eq_true'] at hc
  obtain ⟨_, hk, _, _, _, hcl⟩ := hc
  have hk : knows x.Saq = false := hk
  obtain ⟨mem, ⟨dn, rest, w1, w2, w3⟩, ⟨cn, p1, p2⟩, ⟨vs, v1, v2⟩, lo⟩ := mc
  have eR : stripped { x with Sdq := x.Sdq.drop 1, Saq := x.Saq.set 0 (sentE x), Table := x.Table ++ [sentQ x] } = stripped x ++ [sentQ x] := by
    unfold stripped
    rw [List.map_append]
    rfl
  rw [eR] at hq2 ⊢
  have hp0 : 0 < x.Saq.length := by omega
  have hnos : ∀ a ∈ stripped x, ¬ a.1 = true := fun a ha e => by have := (w3.st a ha e).1; rw [hk] at this; cases this
  have hc0 : (stripped x).countP (fun q => q.1) = 0 := List.countP_eq_zero.2 fun a ha => hnos a ha
  cases hsd : x.Sdq with
  | nil => rw [hsd] at n1; exact absurd rfl n1
  | cons v sr =>
  cases hrs : rest with
  | nil => have := w3.ln; rw [hrs] at this; simp at this; omega
  | cons r0 rl =>
  rw [hsd] at p1
  rw [hrs] at w1
  have hkn : knownN x.Saq = 0 := by unfold knownN; rw [hk]; rfl
  have hdl : dn.length = x.Writes.length := by rw [← w2, List.length_map]
  have hw := g9z (p := p) (m0 := m0) (n := n) (m := m) (t := dn.length) (by rw [w1]; simp) (by rw [p1]; simp; omega)
  have g1 : (evq (qst p m0) n).getD dn.length noSt = r0 := by rw [w1, List.getD_eq_getElem?_getD, List.getElem?_append_right (Nat.le_refl _), Nat.sub_self]; rfl
  have g2 : (evq (pts p m0) m).getD dn.length 0 = v := by rw [p1, List.getD_eq_getElem?_getD, List.getElem?_append_right (by omega), show dn.length - cn.length = 0 by omega]; rfl
  rw [g1, g2] at hw
  obtain ⟨e1, e2, e3, _⟩ := w3.en 0 hp0
  rw [hrs] at e1 e2 e3
  have e1 : (headM x).1 = r0.2.1 := e1
  have e2 : (headM x).2.1 = r0.2.2.1 := e2
  have e3 : (headM x).2.2.1 = (r0.1 : Int) := e3
  have hval : maskM (x.Sdq.getD 0 0) (headM x).2.1 = r0.2.2.2.1 := by rw [hsd, e2]; exact hw.1.symm
  have hh : headM x ∈ x.Saq := a1E a0a.z hp0
  have hhb := hL _ hh
  have hset := fun t => (show (x.Saq.set 0 (sentE x)).getD t a0a.z = if 0 = t then sentE x else x.Saq.getD t a0a.z by
    rw [List.getD_eq_getElem?_getD, List.getElem?_set, List.getD_eq_getElem?_getD]
    by_cases e : 0 = t
    · subst e; simp [hp0]
    · simp [e])
  have hkn2 : knows (x.Saq.set 0 (sentE x)) = true := by
    unfold knows
    rw [hset 0, if_pos rfl]
    rfl
  refine ⟨pa, pe, aeq, abq, ebq, ⟨mem, ⟨dn, r0 :: rl, w1, w2, ?_⟩, ⟨cn ++ [v], ?_, ?_⟩, ⟨vs, v1, ?_⟩, ?_⟩, re, tr⟩
  · rw [hrs] at w3
    refine ⟨by show _ = (x.Saq.set 0 (sentE x)).length; rw [List.length_set]; exact w3.ln, ?_, ?_, ?_, ?_, ?_⟩
    · intro t ht
      have ht : t < (x.Saq.set 0 (sentE x)).length := ht
      rw [List.length_set] at ht
      show EntOk ((x.Saq.set 0 (sentE x)).getD t a0a.z) _
      rw [hset]
      split
      · rename_i e
        subst e
        exact ⟨e1, e2, e3, fun _ => hval⟩
      · exact w3.en t ht
    · intro t ht
      show ((x.Saq.set 0 (sentE x)).getD t a0a.z).2.2.2.1 = false
      rw [hset, if_neg (by omega)]
      exact w3.kn t ht
    · intro q hq hst
      refine ⟨hkn2, ?_⟩
      rcases List.mem_append.1 hq with hq | hq
      · exact absurd hst (hnos q hq)
      · simp only [List.mem_singleton] at hq
        rw [hq]
        exact h1f e1 e2 hval
    · exact fun _ => ⟨sentQ x, by simp, rfl⟩
    · rw [List.countP_append, hc0]; exact Nat.le_of_eq rfl
  · show _ = (cn ++ [v]) ++ (v :: sr).drop 1
    rw [p1]; simp
  · show (cn ++ [v]).length = _ + knownN (x.Saq.set 0 (sentE x))
    unfold knownN
    rw [if_pos hkn2, List.length_append, p2, hkn]
    rfl
  · refine ⟨v2.ln, v2.fl, fun t h1 h2 => ?_, fun q hq h1 h2 => ?_, v2.ti, v2.tb⟩
    · obtain ⟨a, ha, h3⟩ := v2.em t h1 h2
      exact ⟨a, List.mem_append_left _ ha, h3⟩
    · rcases List.mem_append.1 hq with hq | hq
      · exact v2.cl q hq h1 h2
      · simp only [List.mem_singleton] at hq
        rw [hq] at h1; cases h1
  · have nolo : ∀ q ∈ stripped x ++ [sentQ x], q.1 = false → q ∈ stripped x := by
      intro q hq h1
      rcases List.mem_append.1 hq with hq | hq
      · exact hq
      · simp only [List.mem_singleton] at hq
        rw [hq] at h1; cases h1
    refine ⟨fun q hq h1 h2 => lo.rg q (nolo q hq h1) h1 h2, fun r h1 h2 h3 => ?_, ?_, ?_, hq2, lo.ra, lo.l16⟩
    · obtain ⟨a, ha, h4⟩ := lo.pn r h1 h2 h3
      exact ⟨a, List.mem_append_left _ ha, h4⟩
    · refine List.pairwise_append.2 ⟨lo.un, by simp, fun a ha b hb => ?_⟩
      simp only [List.mem_singleton] at hb
      rw [hb]
      intro _ h2
      cases h2
    · intro q hq h1 q' hq' h2
      have ha := nolo q hq h1
      rcases List.mem_append.1 hq' with hq' | hq'
      · exact absurd h2 (hnos q' hq')
      · simp only [List.mem_singleton] at hq'
        rw [hq']
        obtain ⟨_, _, r3, r4, _⟩ := g8d (lo.rq q ha)
        have z1 : q.2.2.2.1 = 1 ∨ q.2.2.2.1 = 2 ∨ q.2.2.2.1 = 4 := r4.1
        have z2 : 0 ≤ q.2.2.1 := r4.2.1
        have z3 : q.2.2.1 + q.2.2.2.1 ≤ len x.Mem := r4.2.2.1
        obtain ⟨b, hb, rfl⟩ := List.mem_map.1 ha
        have hov : clashQ (headM x) b = false := by
          have := hcl
          rw [List.any_eq_false] at this
          simpa using this b hb
        unfold clashQ at hov
        have h1' : b.1 = false := h1
        rw [h1', Bool.not_false, Bool.true_and] at hov
        have := g8z (a := b.2.2.1) (n := b.2.2.2.1) ⟨z2, by show b.2.2.1 ≤ _; have z3 : b.2.2.1 + b.2.2.2.1 ≤ len x.Mem := z3; have z1 : b.2.2.2.1 = 1 ∨ b.2.2.2.1 = 2 ∨ b.2.2.2.1 = 4 := z1; omega⟩ (by have z1 : b.2.2.2.1 = 1 ∨ b.2.2.2.1 = 2 ∨ b.2.2.2.1 = 4 := z1; omega) hhb.1 hhb.2 hov
        have r3 : b.2.2.2.1 = sizeM b.2.1 := r3
        show Apart b.2.2.1 (sizeM b.2.1) (headM x).1 (headM x).2.1
        unfold Apart at *
        omega
/-! A side goes on -/
theorem Pl.mono (h:Pl p o s m0 e pos hal n j k):Pl p o s m0 e pos hal n j (k+1):={ h with bd:=by have:=h.bd; rw [Nat.mul_succ]; omega }
theorem WAt.settled {pc:Nat} (hn:NextOk s) (hb:hasM s pos.Block = true) (h:WAt p o s e pc n j pos):WAt p o s e pc n j (settleM s e pos).1:=by
 obtain ⟨b,h1,h2,h3,h4⟩:=h;exact ⟨b,h1,h2,h3,(d4c hn e pos hb).trans h4⟩
theorem Pl.settled (hn:NextOk s) (hb:hasM s pos.Block = true) (h:Pl p o s m0 e pos hal n j k):Pl p o s m0 e (settleM s e pos).1 hal n j k:=⟨h.wt.settled hn hb,h.jb,fun hh=>(by rw [(h.hl hh).2.2]; exact h.hl hh),h.bd,h.ps⟩
theorem Pl.halt (h:Pl p o s m0 e pos hal n j k) (h8:formM (insG p m0 n).1 = 8) (hpc:(runG p m0 n).pc < p.Code.length) (hs:settleM s e pos = (pos,false)):Pl p o s m0 e pos true n j k:={ h with hl:=fun _=>⟨h8,hpc,hs⟩ }
theorem g8X (hn:NextOk s) (hb:hasM s pos.Block = true) (hf:(settleM s e pos).2 = false):settleM s e (settleM s e pos).1 = ((settleM s e pos).1,false):=(d4c hn e pos hb).trans (Prod.ext rfl hf)
theorem Pl.on1 (h:Spl p o s) (g:Pl p o s m0 e pos false n j k) (hpc:(runG p m0 n).pc < p.Code.length) (hn:n≤1000000000) (hj:j < (sndR o (insG p m0 n)).length):Pl p o s m0 e (goM s (settleM s e pos).1 false) false n (j+1) k:=by
 have hl:=g9o (p:=p) (o:=o) (n:=n) (e:=e) (m0:=m0);exact ⟨WAt.step h g.wt hpc hn (by omega),by omega,fun e=>(by cases e),g.bd,g.ps⟩
theorem Pl.next (h:Spl p o s) (g:Pl p o s m0 e pos false n j k) (hpc:(runG p m0 n).pc < p.Code.length) (hn:n≤1000000000) (hj:j = (sndR o (insG p m0 n)).length) (hl1:lstS e o (insG p m0 n) (runG p m0 n).pc 0≠[]) (h8:formM (insG p m0 n).1≠8) (ht:trS p o m0 e n = 0) :
  Pl p o s m0 e (goM s (settleM s e pos).1 (goes (runG p m0 n) (insG p m0 n))) false (n+1) 0 (k+1):=by
 have hl:=g9o (p:=p) (o:=o) (n:=n) (e:=e) (m0:=m0);have h0:0 < (lstS e o (insG p m0 n) (runG p m0 n).pc 0).length:=List.length_pos_iff.2 hl1;have h1:=h0z e o (insG p m0 n) (runG p m0 n).pc 0;refine ⟨WAt.nextG h g.wt hpc hn (by omega) h8,Nat.zero_le _,fun e=>(by cases e),by have:=g.bd; rw [Nat.mul_succ]; omega,fun t ht2=>?_⟩
 by_cases e1:t = n
 · subst e1; exact ⟨hpc,h8,ht⟩
 · exact g.ps t (by omega)
theorem TrapOk.note {x:a0b} {kd st pc:Int} (h:TrapOk p o m0 x.Trap) (h2:∃ n:Nat,st = (n:Int)∧TrapAt p o m0 n kd∧pc = ((runG p m0 n).pc:Int)):TrapOk p o m0 (noteM x kd st pc).Trap:=by
 unfold noteM;split
 · exact fun _=>h2
 · exact h
theorem g8x (x:a0b) (k st pc:Int):noteM x k st pc = { x with Trap:=(noteM x k st pc).Trap }:=by unfold noteM; split <;> rfl
/-! Registers that are sent -/
theorem h0e (o:List Int):∀ (l out:List Int) (r:Int),r∈l.foldl (addS o) out↔r∈out∨(r∈l∧ownM o r = 1)
 | [],out,r=>by simp
 | q::l,out,r=>by
  rw [List.foldl_cons,h0e o l];unfold addS;split
  ·
   rename_i h;simp only [List.mem_append,List.mem_singleton,List.mem_cons,List.not_mem_nil,or_false];constructor
   ·
    rintro ((h1 | rfl) | ⟨h1,h2⟩)
    · exact .inl h1
    · exact .inr ⟨.inl rfl,h.1⟩
    · exact .inr ⟨.inr h1,h2⟩
   ·
    rintro (h1 | ⟨rfl | h1,h2⟩)
    · exact .inl (.inl h1)
    · exact .inl (.inr rfl)
    · exact .inr ⟨h1,h2⟩
  ·
   rename_i h;simp only [List.mem_cons];constructor
   ·
    rintro (h1 | ⟨h1,h2⟩)
    · exact .inl h1
    · exact .inr ⟨.inr h1,h2⟩
   ·
    rintro (h1 | ⟨rfl | h1,h2⟩)
    · exact .inl h1
    · refine .inl (Classical.byContradiction fun hc=>h ⟨h2,hc⟩)
    · exact .inr ⟨h1,h2⟩
theorem g9q (i:a0o) (o:List Int) (r:Int):r∈sentOM i o↔r∈readsM i∧ownM o r = 1:=by
 unfold sentOM;rw [h0e];simp
theorem g8M {i:a0o} {o:List Int} {r:Int} (h:r∈sndR o i):(1≤r∧r≤15)∧o.getD r.toNat 0 = 1:=by
 have key:∀ r:Int,ownM o r = 1→(1≤r∧r≤15)∧o.getD r.toNat 0 = 1:=by
  intro r h;unfold ownM at h;split at h
  · omega
  ·
   split at h
   · omega
   · exact ⟨by omega,h⟩
 have hs:∀ r∈sentOM i o,(1≤r∧r≤15)∧o.getD r.toNat 0 = 1:=fun r hr=>key r ((g9q i o r).1 hr).2
 unfold sndR at h;split at h
 · cases h
 split at h
 ·
  split at h
  · cases h
  · exact hs r h
 split at h
 ·
  split at h
  ·
   rename_i h5;simp only [List.mem_singleton] at h;rw [h];exact key _ h5
  · cases h
 split at h
 ·
  split at h
  · cases h
  · exact hs r h
 · cases h
theorem h0S (g:GS) {r:Int} (h:1≤r∧r≤15):gv g r = g.regs r:=if_pos h
theorem g9Q {i:a0o} (h:rightIns i = true):(i.2.2.1 = 0∨i.2.2.1∈readsM i)∧(i.2.2.2.1 = 0∨i.2.2.2.1∈readsM i):=by
 have h':=h;unfold rightIns fieldM at h';simp only [Bool.and_eq_true] at h';obtain ⟨⟨⟨⟨_,_⟩,ha⟩,hb⟩,_⟩:=h';unfold readsM;rw [if_pos h];constructor
 ·
  by_cases h0:i.2.2.1 = 0
  · exact .inl h0
  ·
   refine .inr (List.mem_append_left _ ?_);cases hh:hasAM (formM i.1) with
   | true=>simp [h0]
   | false=>rw [hh] at ha; simp at ha; exact absurd ha h0
 ·
  by_cases h0:i.2.2.2.1 = 0
  · exact .inl h0
  ·
   refine .inr (List.mem_append_right _ ?_);cases hh:hasBM (formM i.1) with
   | true=>simp [h0]
   | false=>rw [hh] at hb; simp at hb; exact absurd hb h0
theorem g8h (h:Spl p o s) {r:Int} (h1:1≤r) (h2:r≤15):o.getD r.toNat 0 = 1∨o.getD r.toNat 0 = 2:=by
 have hc:=h.cl;unfold closedM at hc;simp only [Bool.and_eq_true] at hc;have:=List.all_eq_true.1 hc.2.2.1 r.toNat (List.mem_range'.2 ⟨r.toNat - 1,by omega,by omega⟩);unfold okOwn at this;exact of_decide_eq_true this
theorem RegE.val (h:Spl p o s) {d:a0v} (g:RegE p o m0 d.Regs m i) (hi:i = (sndR o (insG p m0 m)).length) {r:Int} (hr:r = 0∨((1≤r∧r≤15)∧(o.getD r.toNat 0 = 1→r∈sndR o (insG p m0 m)))):getM d r = gv (runG p m0 m) r:=by
 unfold getM gv;rcases hr with rfl | ⟨hb,hs⟩
 · rw [if_neg (by omega),if_neg (by omega)]
 ·
  rw [if_pos hb,if_pos hb];rcases g8h h hb.1 hb.2 with h1 | h1
  ·
   obtain ⟨t,ht,e⟩:=List.getElem_of_mem (hs h1);have:=g.ve t (by omega);rw [List.getD_eq_getElem?_getD (l:=sndR o (insG p m0 m)),List.getElem?_eq_getElem ht] at this;simp only [Option.getD_some,e] at this;exact this
  · exact g.re r hb.1 hb.2 h1
end
end Go.Proofs.Zz
