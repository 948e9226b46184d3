import Derived.Test.YtpplgkggclddiaaYP
set_option linter.unusedSimpArgs false
set_option linter.unusedVariables false
/- The core on the way: passing over instructions without cells; the requests that end. -/
set_option maxRecDepth 100000
namespace Go.Proofs.Zz
open Go
section
variable {p:api_Program} {o:List Int} {s:api_Split} {m0:List Int} {n j m i ka ke:Nat} {R:List api_Request}
theorem keepR {r:Int} (h:r≠(insG p m0 n).2.1∨5≤formM (insG p m0 n).1) (hpc:(runG p m0 n).pc < p.Code.length):(runG p m0 (n+1)).regs r = (runG p m0 n).regs r:=by
 rw [runG_pc hpc];show rgsG _ _ r = _;rcases h with h | h
 · exact rgsG_ne _ _ h
 · rw [rgsG_hi _ _ h]
theorem form_pos {i:api_Ins} (h:rightIns i = true):1≤formM i.1:=by
 have h0:=formM_range i.1;by_cases h1:formM i.1 = 0
 ·
  unfold rightIns at h;rw [h1] at h;simp at h
 · omega
/-! A request ends -/
theorem mem_mid {α:Type} {a q:α} {K R:List α}:a∈K++q::R↔a = q∨a∈K++R:=by
 simp only [List.mem_append,List.mem_cons];constructor
 ·
  rintro (h | h | h)
  · exact .inr (.inl h)
  · exact .inl h
  · exact .inr (.inr h)
 ·
  rintro (h | h | h)
  · exact .inr (.inl h)
  · exact .inl h
  · exact .inr (.inr h)
theorem pair_mid {α:Type} {S:α→α→Prop} {q:α} {K R:List α} (h:(K++q::R).Pairwise S):(K++R).Pairwise S∧∀ a∈K++R,S a q∨S q a:=by
 rw [List.pairwise_append,List.pairwise_cons] at h;obtain ⟨h1,⟨h2,h3⟩,h4⟩:=h;refine ⟨List.pairwise_append.2 ⟨h1,h3,fun a ha b hb=>h4 a ha b (List.mem_cons_of_mem _ hb)⟩,fun a ha=>?_⟩
 rcases List.mem_append.1 ha with ha | ha
 · exact .inl (h4 a ha q (List.mem_cons_self ..))
 · exact .inr (h2 a ha)
theorem own_ne {q q':api_Request} (h:OwnQ q' q∨OwnQ q q') (h1:q.1 = false) (h2:q'.1 = false) (h3:q'.2.2.2.2.2.2.1 = q.2.2.2.2.2.2.1) (h4:q.2.2.2.2.2.2.1≠0):q.2.2.2.2.2.2.1 < 0∧q'.2.2.2.2.2.2.2.1≠q.2.2.2.2.2.2.2.1:=by
 rcases h with h | h
 ·
  rcases h h2 h1 h3 with h | h
  · omega
  · exact ⟨by omega,h.2⟩
 ·
  rcases h h1 h2 h3.symm with h | h
  · omega
  · exact ⟨h.1,fun e=>h.2 e.symm⟩
theorem req_reg {M:Int} {q:api_Request} (h:reqM M q = true):-1≤q.2.2.2.2.2.2.1∧q.2.2.2.2.2.2.1≤15∧q.2.2.2.1 = sizeM q.2.1∧LieW (wrQ q) M∧formM q.2.1 = (if q.1 = true then 5 else 4):=by
 unfold reqM at h;simp only [Bool.and_eq_true,allB,List.all_cons,List.all_nil,decide_eq_true_eq] at h;exact ⟨h.2.2.2.2.1.1,h.2.2.2.2.1.2,h.1,(by have g:=of_decide_eq_true h.2.2.1; exact g),h.2.1⟩
theorem Loads.drop {q:api_Request} {K:List api_Request} {regs ready mem:List Int} (h:Loads p o m0 (K++q::R) regs ready mem n) (hq:q.1 = false→q.2.2.2.2.2.2.1 < 1):Loads p o m0 (K++R) regs ready mem n:=by
 obtain ⟨u1,u2⟩:=pair_mid h.un;refine ⟨fun a ha=>h.rg a (mem_mid.2 (.inr ha)),fun r h1 h2 h3=>?_,u1,fun a ha h1 b hb=>h.dj a (mem_mid.2 (.inr ha)) h1 b (mem_mid.2 (.inr hb)),fun a ha=>h.rq a (mem_mid.2 (.inr ha)),h.ra,h.l16⟩
 obtain ⟨a,ha,e1,e2⟩:=h.pn r h1 h2 h3;rcases mem_mid.1 ha with rfl | ha
 · have:=hq e1; omega
 · exact ⟨a,ha,e1,e2⟩
theorem Slots.drop {q:api_Request} {K:List api_Request} {l:List api_Slot} {mem vs:List Int} {tags:Int} (h:Slots (K++q::R) l mem tags vs) (hq:q.1 = false→0≤q.2.2.2.2.2.2.1):Slots (K++R) l mem tags vs:=by
 refine ⟨h.ln,h.fl,fun t h1 h2=>?_,fun a ha=>h.cl a (mem_mid.2 (.inr ha)),h.ti,h.tb⟩
 obtain ⟨a,ha,e1,e2,e3⟩:=h.em t h1 h2;rcases mem_mid.1 ha with rfl | ha
 · have:=hq e1; omega
 · exact ⟨a,ha,e1,e2,e3⟩
theorem Stos.drop {q:api_Request} {K:List api_Request} {l:List api_Entry} {rest:List (Nat × api_Write)} (h:Stos (K++q::R) l rest) (hq:q.1 = false):Stos (K++R) l rest:=by
 refine ⟨h.ln,h.en,h.kn,fun a ha=>h.st a (mem_mid.2 (.inr ha)),fun hk=>?_,?_⟩
 ·
  obtain ⟨a,ha,e1⟩:=h.cn hk;rcases mem_mid.1 ha with rfl | ha
  · rw [hq] at e1; cases e1
  · exact ⟨a,ha,e1⟩
 ·
  have:=h.one;rw [List.countP_append,List.countP_cons] at this;rw [List.countP_append];omega
theorem findM_at {l:List api_Slot} {t:Int} {k:Nat} (hk:(l.getD k api_Slot.z).1 = t∧(l.getD k api_Slot.z).2.1 = false) (hu:∀ u:Nat,u < k→(l.getD u api_Slot.z).1≠t):∀ n i:Nat,i≤k→k < i+n→findM l t n i = (k:Int)
 | 0,i,h1,h2=>by omega
 | n+1,i,h1,h2=>by
  unfold findM;by_cases e:i = k
  ·
   subst e;rw [hk.1,hk.2,if_pos (by simp)]
  ·
   rw [if_neg (by intro hh; rw [Bool.and_eq_true,beq_iff_eq] at hh; exact hu i (by omega) hh.1)];exact findM_at hk hu n (i+1) (by omega) (by omega)
theorem getD_setS (l:List api_Slot) (i j:Nat) (v:api_Slot) (h:i < l.length):(l.set i v).getD j api_Slot.z = if i = j then v else l.getD j api_Slot.z:=by
 rw [List.getD_eq_getElem?_getD,List.getElem?_set,List.getD_eq_getElem?_getD];by_cases e:i = j
 · subst e; simp [h]
 · simp [e]
theorem Slots.fill {q:api_Request} {K:List api_Request} {l:List api_Slot} {mem vs:List Int} {tags:Int} (h:Slots (K++q::R) l mem tags vs) (hq:q.1 = false) (hr:q.2.2.2.2.2.2.1 < 0) (hu:(K++q::R).Pairwise OwnQ) (hb:∀ a∈K++q::R,-1≤a.2.2.2.2.2.2.1) :
  Slots (K++R) (fillM l q.2.2.2.2.2.2.2.1 (loadV mem q.2.1 q.2.2.1)) mem tags vs:=by
 obtain ⟨u1,u2⟩:=pair_mid hu;obtain ⟨k,k1,k2,k3⟩:=h.cl q (mem_mid.2 (.inl rfl)) hq hr;have hqb:=hb q (mem_mid.2 (.inl rfl));have hlt:∀ t,t < l.length→(l.getD t api_Slot.z).1 = q.2.2.2.2.2.2.2.1→t = k:=by
  intro t ht e;rcases Nat.lt_trichotomy t k with h1 | h1 | h1
  · have:=h.ti t k h1 k1; omega
  · exact h1
  · have:=h.ti k t h1 ht; omega
 have hne:∀ a∈K++R,a.1 = false→a.2.2.2.2.2.2.1 < 0→a.2.2.2.2.2.2.2.1≠q.2.2.2.2.2.2.2.1:=fun a ha h1 h2 =>
  (own_ne (u2 a ha) hq h1 (by have:=hb a (mem_mid.2 (.inr ha)); omega) (by omega)).2
 have hv:loadV mem q.2.1 q.2.2.1 = vs.getD k 0:=by
  obtain ⟨a,ha,e1,e2,e3,e4⟩:=h.em k k1 k3;rcases mem_mid.1 ha with rfl | ha
  · exact e4
  · exact absurd (e3.trans k2) (hne a ha e1 e2)
 have hf:fillM l q.2.2.2.2.2.2.2.1 (loadV mem q.2.1 q.2.2.1) = l.set k (q.2.2.2.2.2.2.2.1,(true,(loadV mem q.2.1 q.2.2.1,()))):=by
  unfold fillM;rw [findM_at ⟨k2,k3⟩ (fun u hu e=>by have:=hlt u (by omega) e; omega) l.length 0 (by omega) (by omega),if_neg (by omega),Int.toNat_natCast,k2]
 rw [hf];have hg:=fun t=>getD_setS l k t (q.2.2.2.2.2.2.2.1,(true,(loadV mem q.2.1 q.2.2.1,()))) k1
 have htag:∀ t,((l.set k (q.2.2.2.2.2.2.2.1,(true,(loadV mem q.2.1 q.2.2.1,())))).getD t api_Slot.z).1 = (l.getD t api_Slot.z).1:=by
  intro t;rw [hg];split
  · rename_i e; subst e; exact k2.symm
  · rfl
 refine ⟨by rw [List.length_set]; exact h.ln,?_,?_,?_,?_,?_⟩
 ·
  intro t ht hfu;rw [List.length_set] at ht;rw [hg] at hfu ⊢;split
  · rename_i e; subst e; exact hv
  ·
   rename_i e;rw [if_neg e] at hfu;exact h.fl t ht hfu
 ·
  intro t ht hfu;rw [List.length_set] at ht;rw [htag];rw [hg] at hfu;split at hfu
  · cases hfu
  ·
   rename_i e;obtain ⟨a,ha,e1,e2,e3,e4⟩:=h.em t ht hfu;rcases mem_mid.1 ha with rfl | ha
   · exact absurd (hlt t ht e3.symm).symm e
   · exact ⟨a,ha,e1,e2,e3,e4⟩
 ·
  intro a ha h1 h2;obtain ⟨t,t1,t2,t3⟩:=h.cl a (mem_mid.2 (.inr ha)) h1 h2;refine ⟨t,by rw [List.length_set]; exact t1,by rw [htag]; exact t2,?_⟩
  rw [hg,if_neg]
  · exact t3
  ·
   rintro rfl
   exact hne a ha h1 h2 (t2.symm.trans k2)
 ·
  intro t u h1 h2;rw [List.length_set] at h2;rw [htag,htag];exact h.ti t u h1 h2
 ·
  intro t ht;rw [List.length_set] at ht;rw [htag];exact h.tb t ht
theorem Loads.put {q:api_Request} {K:List api_Request} {regs ready mem:List Int} (h:Loads p o m0 (K++q::R) regs ready mem n) (hq:q.1 = false) (hr:1≤q.2.2.2.2.2.2.1) {y:Int} (hy:0≤y) :
  Loads p o m0 (K++R) (regs.set q.2.2.2.2.2.2.1.toNat (loadV mem q.2.1 q.2.2.1)) (ready.set q.2.2.2.2.2.2.1.toNat y) mem n:=by
 obtain ⟨u1,u2⟩:=pair_mid h.un;obtain ⟨l1,l2⟩:=h.l16;have hb:=(req_reg (h.rq q (mem_mid.2 (.inl rfl)))).2.1;obtain ⟨g1,g2,g3⟩:=h.rg q (mem_mid.2 (.inl rfl)) hq hr;have e1:=fun j=>getD_setI regs q.2.2.2.2.2.2.1.toNat j (loadV mem q.2.1 q.2.2.1) (by omega)
 have e2:=fun j=>getD_setI ready q.2.2.2.2.2.2.1.toNat j y (by omega)
 refine ⟨?_,?_,u1,fun a ha h1 b hb=>h.dj a (mem_mid.2 (.inr ha)) h1 b (mem_mid.2 (.inr hb)),fun a ha=>h.rq a (mem_mid.2 (.inr ha)),?_,by rw [List.length_set,List.length_set]; exact h.l16⟩
 ·
  intro a ha h1 h2;obtain ⟨b1,b2,b3⟩:=h.rg a (mem_mid.2 (.inr ha)) h1 h2;refine ⟨b1,?_,b3⟩;rw [e2,if_neg]
  · exact b2
  ·
   intro e;have:=(own_ne (u2 a ha) hq h1 (by omega) (by omega)).1;omega
 ·
  intro r h1 h2 h3;rw [e2] at h3;split at h3
  · omega
  ·
   rename_i hne;obtain ⟨a,ha,b1,b2⟩:=h.pn r h1 h2 h3;rcases mem_mid.1 ha with rfl | ha
   · rw [b2] at hne; exact absurd rfl hne
   · exact ⟨a,ha,b1,b2⟩
 ·
  intro r h1 h2 h3 h4;rw [e1];by_cases e:q.2.2.2.2.2.2.1.toNat = r.toNat
  · rw [if_pos e,g3,show q.2.2.2.2.2.2.1 = r by omega]
  ·
   rw [if_neg e];rw [e2,if_neg e] at h4;exact h.ra r h1 h2 h3 h4
end
end Go.Proofs.Zz

/- The core on the way: a store is sent; what a side's last cell of an instruction leaves. -/
set_option maxRecDepth 100000
namespace Go.Proofs.Zz
open Go
section
variable {p:api_Program} {o:List Int} {s:api_Split} {m0:List Int} {n j m i k ka ke:Nat} {R:List api_Request} {e hal:Bool} {pos:api_Pos} {dn:Int}
/-! Stores and their words -/
/-! A side goes on -/
theorem Pl.mono (h:Pl p o s m0 e pos hal dn n j k):Pl p o s m0 e pos hal dn n j (k+1):={ h with bd:=by have:=h.bd; rw [Nat.mul_succ]; omega }
theorem Pl.on1 (h:Spl p o s) (g:Pl p o s m0 e pos false dn n j k) (hpc:(runG p m0 n).pc < p.Code.length) (hn:n≤1000000000) (hj:j < (sndR o (insG p m0 n)).length):Pl p o s m0 e (goM s (settleM s e pos).1 false) false (dn+1) n (j+1) k:=by
 have hl:=em_len (p:=p) (o:=o) (n:=n) (e:=e) (m0:=m0);exact ⟨by rw [g.dc]; simp; omega,WAt.step h g.wt hpc hn (by omega),by omega,fun e=>(by cases e),g.bd,g.ps⟩
theorem Pl.next (h:Spl p o s) (g:Pl p o s m0 e pos false dn n j k) (hpc:(runG p m0 n).pc < p.Code.length) (hn:n≤1000000000) (hj:j = (sndR o (insG p m0 n)).length) (hl1:lstS e o (insG p m0 n) (runG p m0 n).pc 0≠[]) (h8:formM (insG p m0 n).1≠8) (ht:trS p o m0 e n = 0) :
  Pl p o s m0 e (goM s (settleM s e pos).1 (goes (runG p m0 n) (insG p m0 n))) false (dn+1) (n+1) 0 (k+1):=by
 have hl:=em_len (p:=p) (o:=o) (n:=n) (e:=e) (m0:=m0);have h0:0 < (lstS e o (insG p m0 n) (runG p m0 n).pc 0).length:=List.length_pos_iff.2 hl1;have h1:=lst_len e o (insG p m0 n) (runG p m0 n).pc 0;refine ⟨?_,WAt.nextG h g.wt hpc hn (by omega) h8,Nat.zero_le _,fun e=>(by cases e),by have:=g.bd; rw [Nat.mul_succ]; omega,fun t ht2=>?_⟩
 ·
  rw [g.dc];show _ = ((cntS p o m0 e n+(sndR o (insG p m0 n)).length+(lstS e o (insG p m0 n) (runG p m0 n).pc 0).length+0:Nat):Int)+_;rw [show (lstS e o (insG p m0 n) (runG p m0 n).pc 0).length = 1 by omega,hj];simp
 by_cases e1:t = n
 · subst e1; exact ⟨hpc,h8,ht⟩
 · exact g.ps t (by omega)
/-! Registers that are sent -/
end
end Go.Proofs.Zz
