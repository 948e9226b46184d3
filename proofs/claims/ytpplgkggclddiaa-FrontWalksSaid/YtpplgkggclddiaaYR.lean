import Derived.Test.YtpplgkggclddiaaYQ
set_option linter.unusedSimpArgs false
set_option linter.unusedVariables false
/- The core on the way: E's turn. -/
set_option maxRecDepth 100000
namespace Go.Proofs.Zz
open Go
section
variable {p:api_Program} {o:List Int} {s:api_Split} {m0:List Int} {n j m i k ka ke:Nat} {R:List api_Request} {e hal:Bool} {pos:api_Pos} {dn:Int}
end
end Go.Proofs.Zz

/- The core on the way: what A has, what it loads. -/
set_option maxRecDepth 100000
namespace Go.Proofs.Zz
open Go
section
variable {p:api_Program} {o:List Int} {s:api_Split} {m0:List Int} {n j m i k ka ke:Nat} {R R':List api_Request} {e hal:Bool} {pos:api_Pos} {dn:Int}
/-! Registers are words, memory keeps its size -/
theorem updG_U32 {f:Int→Int} {r v q:Int} (h:U32 (f q)) (hv:U32 v):U32 (updG f r v q):=by
 unfold updG;by_cases e:q = r
 · rw [if_pos e]; exact hv
 · rw [if_neg e]; exact h
theorem runG_U32 (p:api_Program) (m0:List Int):∀ (n:Nat) (r:Int),U32 ((runG p m0 n).regs r)
 | 0,r=>⟨by show (0:Int)≤0; omega,by show (0:Int)≤4294967295; omega⟩
 | n+1,r=>by
  have ih:=runG_U32 p m0 n;have hg:∀ r,U32 (gv (runG p m0 n) r):=by
   intro r;unfold gv;split
   · exact ih r
   · exact ⟨by show (0:Int)≤0; omega,by show (0:Int)≤4294967295; omega⟩
  show U32 ((stG p (runG p m0 n)).regs r);unfold stG;split
  ·
   show U32 (rgsG _ _ r);unfold rgsG;split
   · exact ih r
   ·
    split
    · exact updG_U32 (ih r) (doM_U32 _ (hg _) (hg _))
    ·
     split
     · exact updG_U32 (ih r) (loadV_U32 _ _ _)
     · exact ih r
  · exact ih r
theorem gv_U32 (n:Nat) (r:Int):U32 (gv (runG p m0 n) r):=by
 unfold gv;split
 · exact runG_U32 p m0 n r
 · exact ⟨by show (0:Int)≤0; omega,by show (0:Int)≤4294967295; omega⟩
theorem runG_mem (p:api_Program) (m0:List Int):∀ n:Nat,(∀ t,t < n→(runG p m0 t).pc < p.Code.length∧(formM (insG p m0 t).1 = 5→gTrap (runG p m0 t) (insG p m0 t) = 0))→(runG p m0 n).mem = ((evq (qst p m0) n).map (·.2)).foldl wrOf m0
 | 0,_=>rfl
 | n+1,h=>by
  have ih:=runG_mem p m0 n (fun t ht=>h t (by omega));obtain ⟨h1,h2⟩:=h n (by omega);rw [runG_pc h1];show gMem _ _ = ((evq (qst p m0) n++qst p m0 n).map _).foldl wrOf m0;rw [List.map_append,List.foldl_append,← ih];unfold gMem qst;by_cases h5:formM (insG p m0 n).1 = 5
  · rw [if_pos ⟨h5,h2 h5⟩,if_pos h5]; rfl
  · rw [if_neg (fun g=>h5 g.1),if_neg h5]; rfl
theorem runG_len (p:api_Program) (m0:List Int):∀ n:Nat,(runG p m0 n).mem.length = m0.length
 | 0=>rfl
 | n+1=>by
  have ih:=runG_len p m0 n;show (stG p (runG p m0 n)).mem.length = _;unfold stG;split
  ·
   show (gMem _ _).length = _;unfold gMem;split
   · rw [wrOf_ln]; exact ih
   · exact ih
  · exact ih
/-! What A has in a register -/
theorem Loads.step {regs ready mem:List Int} (l:Loads p o m0 R regs ready mem n) (hr:∀ r:Int,1≤r→r≤15→o.getD r.toNat 0 = 1→(runG p m0 (n+1)).regs r = (runG p m0 n).regs r):Loads p o m0 R regs ready mem (n+1):=by
 refine { l with rg:=?_,ra:=?_ }
 ·
  intro q hq h1 h2;obtain ⟨a,b,c⟩:=l.rg q hq h1 h2;exact ⟨a,b,by rw [hr _ h2 (req_reg (l.rq q hq)).2.1 a]; exact c⟩
 ·
  intro r h1 h2 h3 h4;rw [hr r h1 h2 h3];exact l.ra r h1 h2 h3 h4
/-! A store is put into the queue, a slot into the other -/
theorem getD_snoc {α:Type} (l:List α) (v d:α) (t:Nat):(l++[v]).getD t d = if t < l.length then l.getD t d else if t = l.length then v else d:=by
 by_cases h:t < l.length
 · rw [if_pos h,List.getD_eq_getElem?_getD,List.getElem?_append_left h,← List.getD_eq_getElem?_getD]
 ·
  rw [if_neg h,List.getD_eq_getElem?_getD,List.getElem?_append_right (by omega)];by_cases e:t = l.length
  · rw [if_pos e,e,Nat.sub_self]; rfl
  · rw [if_neg e,List.getElem?_eq_none (by simp; omega)]; rfl
theorem Slots.open_ {l:List api_Slot} {mem vs:List Int} {tags:Int} (h:Slots R l mem tags vs) {q:api_Request} (hq:q.1 = false∧q.2.2.2.2.2.2.1 < 0∧q.2.2.2.2.2.2.2.1 = tags):Slots (R++[q]) (l++[(tags,(false,(0,())))]) mem (tags+1) (vs++[loadV mem q.2.1 q.2.2.1]):=by
 have hl:=h.ln;have g:=fun t=>getD_snoc l (tags,(false,(0,()))) api_Slot.z t
 have g2:=fun t=>getD_snoc vs (loadV mem q.2.1 q.2.2.1) 0 t
 have hlen:∀ t,t < (l++[(tags,(false,(0,())))]:List api_Slot).length→t < l.length∨t = l.length:=fun t ht=>by rw [List.length_append] at ht; have ht:t < l.length+1:=ht; omega
 refine ⟨by simp [hl],?_,?_,?_,?_,?_⟩
 ·
  intro t ht hf;rw [g] at hf ⊢;rw [g2,hl];rcases hlen t ht with h1 | h1
  · rw [if_pos h1] at hf ⊢; rw [if_pos h1]; exact h.fl t h1 hf
  · rw [if_neg (by omega),if_pos h1] at hf; cases hf
 ·
  intro t ht hf;rw [g] at hf ⊢;rw [g2,hl];rcases hlen t ht with h1 | h1
  ·
   rw [if_pos h1] at hf ⊢;rw [if_pos h1];obtain ⟨a,ha,e1⟩:=h.em t h1 hf;exact ⟨a,List.mem_append_left _ ha,e1⟩
  ·
   rw [if_neg (by omega),if_pos h1,if_neg (by omega),if_pos h1];exact ⟨q,by simp,hq.1,hq.2.1,hq.2.2,rfl⟩
 ·
  intro a ha h1 h2;rcases List.mem_append.1 ha with ha | ha
  ·
   obtain ⟨t,t1,t2,t3⟩:=h.cl a ha h1 h2;exact ⟨t,by simp; omega,by rw [g,if_pos t1]; exact t2,by rw [g,if_pos t1]; exact t3⟩
  ·
   simp only [List.mem_singleton] at ha;subst ha;exact ⟨l.length,by simp,by rw [g,if_neg (by omega),if_pos rfl]; exact hq.2.2.symm,by rw [g,if_neg (by omega),if_pos rfl]⟩
 ·
  intro t u h1 h2;rw [g,g];rcases hlen u h2 with h3 | h3
  · rw [if_pos (by omega),if_pos h3]; exact h.ti t u h1 h3
  · rw [if_pos (by omega),if_neg (by omega),if_pos h3]; exact h.tb t (by omega)
 ·
  intro t ht;rw [g];rcases hlen t ht with h3 | h3
  · rw [if_pos h3]; have:=h.tb t h3; omega
  · rw [if_neg (by omega),if_pos h3]; show tags < tags+1; omega
theorem Stos.load {l:List api_Entry} {rest:List (Nat × api_Write)} (h:Stos R l rest) {q:api_Request} (hq:q.1 = false):Stos (R++[q]) l rest:=by
 refine ⟨h.ln,h.en,h.kn,fun a ha e1=>?_,fun hk=>?_,?_⟩
 ·
  rcases List.mem_append.1 ha with ha | ha
  · exact h.st a ha e1
  ·
   simp only [List.mem_singleton] at ha;rw [ha,hq] at e1; cases e1
 ·
  obtain ⟨a,ha,e1⟩:=h.cn hk;exact ⟨a,List.mem_append_left _ ha,e1⟩
 · rw [List.countP_append,List.countP_cons,if_neg (by simp [hq])]; simpa using h.one
end
end Go.Proofs.Zz

/- The core on the way: A's turn. -/
set_option maxRecDepth 100000
namespace Go.Proofs.Zz
open Go
section
variable {p:api_Program} {o:List Int} {s:api_Split} {m0:List Int} {n j m i k ka ke:Nat} {R R':List api_Request} {e hal:Bool} {pos:api_Pos} {dn:Int}
end
end Go.Proofs.Zz
