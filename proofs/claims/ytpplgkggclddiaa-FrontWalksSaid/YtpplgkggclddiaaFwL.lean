import Derived.Test.YtpplgkggclddiaaZZ
import Derived.Test.YtpplgkggclddiaaYU
set_option linter.unusedSimpArgs false
set_option linter.unusedVariables false
/- A stream that goes on by the program's own branches has just the cells of the instructions that are done: the law's answer. -/
set_option maxRecDepth 100000
namespace Go.Proofs.Zz
open Go
variable {N:Nat}
abbrev oH0:List Int:=0::List.replicate 15 2
abbrev pH0:api_Program:=api_Program.mk [(41,(0,api_Write.z))] 0 ([]:List Int)
abbrev sH0:api_Split:=⟨[(0,(1,(-1,(-1,([cellR 12 0 0 0],([cellR 12 0 0 0],()))))))],oH0⟩
theorem walk_alive (hN:2000 < N):l20_alive N = some (0,gB.dv true []):=by
 have h1:withS pH0 (ownerM pH0) = sH0:=by kernel_rfl
 unfold l20_alive;rw [Split_ex _ hN,on1_some,gg_dv,gg_dv,gg_nil,h1,front_Next_is sH0 false _ (by decide) (by show 1 < N; omega),on1_some,gg_dv,gg_dv,gg_dv,gg_nil,front_Settle_is sH0 true _ (by decide) (by show 1 < N; omega),on1_some,gg_dv,gg_dv,gg_nil];have h2:nextM sH0 false ⟨0,0,7⟩ = (cellR 12 0 0 0,7,true):=by kernel_rfl
 have h3:settleM sH0 true ⟨0,1,0⟩ = (⟨0,1,0⟩,true):=by kernel_rfl
 rw [h2,h3,front_Go_is];rfl
theorem gTrap_not4 (g:GS) (i:api_Ins):gTrap g i≠4:=by
 unfold gTrap checkX checkM
 repeat' split
 all_goals omega
section
variable {p:api_Program} {o:List Int} {s:api_Split} {m0:List Int} {e:Bool} {pos:api_Pos} {dn:Int} {n j k:Nat}
theorem nk_1:(1:Int)≠9∧(1:Int)≠10∧(1:Int)≠11:=by decide
theorem nk_2:(2:Int)≠9∧(2:Int)≠10∧(2:Int)≠11:=by decide
theorem nk_3:(3:Int)≠9∧(3:Int)≠10∧(3:Int)≠11:=by decide
theorem nk_4:(4:Int)≠9∧(4:Int)≠10∧(4:Int)≠11:=by decide
theorem nk_7:(7:Int)≠9∧(7:Int)≠10∧(7:Int)≠11:=by decide
theorem nk_8:(8:Int)≠9∧(8:Int)≠10∧(8:Int)≠11:=by decide
theorem nk_12:(12:Int)≠9∧(12:Int)≠10∧(12:Int)≠11:=by decide
theorem lst_kind {i:api_Ins} {pc off:Int} {c:api_Cell} (hr:rightIns i = true) (h:lstS e o i pc off = [c]) :
  ((c.1 = 11∧formM i.1 = 7)∨((c.1 = 9∨c.1 = 10)∧formM i.1 = 6)∨((c.1≠9∧c.1≠10∧c.1≠11)∧formM i.1≠6∧formM i.1≠7))∧lstS e o i pc 0 = [(c.1,(c.2.1,(c.2.2.1,(c.2.2.2.1,(0,())))))]:=by
 have hI:∀ (kd o1:Int),[cellI kd i pc o1] = [c]→c = cellI kd i pc o1:=fun kd o1 h=>((List.cons.inj h).1).symm
 have hR:∀ (kd r o1:Int),[cellR kd r pc o1] = [c]→c = cellR kd r pc o1:=fun kd r o1 h=>((List.cons.inj h).1).symm
 unfold lstS lstA lstE at h ⊢;rw [hr] at h ⊢;simp only [Bool.true_eq_false,if_false] at h ⊢;cases e <;> simp only [Bool.false_eq_true,if_false,if_true] at h ⊢
 ·
  by_cases f3:formM i.1≤3
  ·
   simp only [if_pos f3] at h ⊢;by_cases hs:sideOM i o = 1
   ·
    simp only [if_pos hs] at h ⊢;rw [hI _ _ h];exact ⟨.inr (.inr ⟨nk_1,by omega,by omega⟩),rfl⟩
   · simp only [if_neg hs] at h; cases h
  simp only [if_neg f3] at h ⊢;by_cases f4:formM i.1 = 4
  ·
   simp only [if_pos f4] at h ⊢;by_cases hs:onEM o i.2.1 = true
   ·
    simp only [if_pos hs] at h ⊢;rw [hI _ _ h];exact ⟨.inr (.inr ⟨nk_3,by omega,by omega⟩),rfl⟩
   ·
    simp only [if_neg hs] at h ⊢;rw [hI _ _ h];exact ⟨.inr (.inr ⟨nk_2,by omega,by omega⟩),rfl⟩
  simp only [if_neg f4] at h ⊢;by_cases f5:formM i.1 = 5
  ·
   simp only [if_pos f5] at h ⊢;rw [hI _ _ h];exact ⟨.inr (.inr ⟨nk_4,by omega,by omega⟩),rfl⟩
  simp only [if_neg f5] at h ⊢;by_cases f6:formM i.1 = 6
  ·
   simp only [if_pos f6] at h ⊢;by_cases hs:anyEM o (readsM i) = false
   ·
    simp only [if_pos hs] at h ⊢;rw [hI _ _ h];exact ⟨.inr (.inl ⟨.inl rfl,f6⟩),rfl⟩
   ·
    simp only [if_neg hs] at h ⊢;rw [hR _ _ _ h];exact ⟨.inr (.inl ⟨.inr rfl,f6⟩),rfl⟩
  simp only [if_neg f6] at h ⊢;by_cases f7:formM i.1 = 7
  ·
   simp only [if_pos f7] at h ⊢;rw [hR _ _ _ h];exact ⟨.inl ⟨rfl,f7⟩,rfl⟩
  ·
   simp only [if_neg f7] at h ⊢;rw [hR _ _ _ h];exact ⟨.inr (.inr ⟨nk_12,f6,f7⟩),rfl⟩
 ·
  by_cases f3:formM i.1≤3
  ·
   simp only [if_pos f3] at h ⊢;by_cases hs:sideOM i o = 1
   · simp only [if_pos hs] at h; cases h
   ·
    simp only [if_neg hs] at h ⊢;rw [hI _ _ h];exact ⟨.inr (.inr ⟨nk_1,by omega,by omega⟩),rfl⟩
  simp only [if_neg f3] at h ⊢;by_cases f4:formM i.1 = 4
  ·
   simp only [if_pos f4] at h ⊢;by_cases hs:onEM o i.2.1 = true
   ·
    simp only [if_pos hs] at h ⊢;rw [hI _ _ h];exact ⟨.inr (.inr ⟨nk_7,by omega,by omega⟩),rfl⟩
   · simp only [if_neg hs] at h; cases h
  simp only [if_neg f4] at h ⊢;by_cases f5:formM i.1 = 5
  ·
   simp only [if_pos f5] at h ⊢;rw [hR _ _ _ h];exact ⟨.inr (.inr ⟨nk_8,by omega,by omega⟩),rfl⟩
  simp only [if_neg f5] at h ⊢;by_cases f6:formM i.1 = 6
  ·
   simp only [if_pos f6] at h ⊢;by_cases hs:anyEM o (readsM i) = false
   ·
    simp only [if_pos hs] at h ⊢;rw [hR _ _ _ h];exact ⟨.inr (.inl ⟨.inr rfl,f6⟩),rfl⟩
   ·
    simp only [if_neg hs] at h ⊢;rw [hI _ _ h];exact ⟨.inr (.inl ⟨.inl rfl,f6⟩),rfl⟩
  simp only [if_neg f6] at h ⊢;by_cases f7:formM i.1 = 7
  ·
   simp only [if_pos f7] at h ⊢;rw [hR _ _ _ h];exact ⟨.inl ⟨rfl,f7⟩,rfl⟩
  ·
   simp only [if_neg f7] at h ⊢;rw [hR _ _ _ h];exact ⟨.inr (.inr ⟨nk_12,f6,f7⟩),rfl⟩
theorem walk_place (hw:WAt p o s e (runG p m0 n).pc n 0 pos) (hps:∀ u,u < n→(runG p m0 u).pc < p.Code.length∧formM (insG p m0 u).1≠8∧gTrap (runG p m0 u) (insG p m0 u) = 0) (hp:rightP p = true) :
  Pl p o s m0 e pos false ((cntS p o m0 e n+0:Nat):Int) n 0 n:=by
 refine ⟨by simp,hw,Nat.zero_le _,fun hh=>by (cases hh),?_,fun u hu=>⟨(hps u hu).1,(hps u hu).2.1,?_⟩⟩
 ·
  have:=(rightP_Right hp).1;have:=Nat.mul_le_mul this (Nat.le_refl n);omega
 ·
  rcases trS_or (p:=p) (o:=o) (m0:=m0) e u with g | g
  · rw [g]; exact (hps u hu).2.2
  · exact g
end
end Go.Proofs.Zz

/- A stream that goes on by the program's own branches has just the cells of the instructions that are done: the law's answer. -/
set_option maxRecDepth 100000
namespace Go.Proofs.Zz
open Go
variable {N:Nat}
section
variable {p:api_Program} {o:List Int} {s:api_Split} {m0:List Int} {e:Bool} {n:Nat}
theorem taken_is (i:api_Ins) (r:api_Result) (g:GS) (hA:(0≤i.2.2.1∧i.2.2.1≤15)∧r.Regs.getD i.2.2.1.toNat 0 = gv g i.2.2.1) (hB:(0≤i.2.2.2.1∧i.2.2.2.1≤15)∧r.Regs.getD i.2.2.2.1.toNat 0 = gv g i.2.2.2.1) (uA:U32 (gv g i.2.2.1)) (uB:U32 (gv g i.2.2.2.1)) :
  l20_taken N i r = some (0,gB.dv (gTk g i) []):=by
 unfold l20_taken;rw [idx_t (by omega) (by omega),gd_true,idx_t (by omega) (by omega),gd_true,hA.2,hB.2,r1_Taken_is _ uA uB,on1_some,gg_dv,gg_nil];rfl
theorem walk_loop2 (h : Spl p o s) (hl : s.Blocks.length ≤ 100000) (hN : s.Blocks.length < N) (hpc : (runG p m0 n).pc < p.Code.length) (hn : n ≤ 100000) (f c : Int) (pc' : Int) (r' : api_Result)
    (hpc' : formM (insG p m0 n).1 = 6 → pc' = ((gPc p (runG p m0 n) (insG p m0 n) : Nat) : Int))
    (htk : formM (insG p m0 n).1 = 6 → l20_taken N (insG p m0 n) r' = some (0, gB.dv (gTk (runG p m0 n) (insG p m0 n)) [])) : ∀ (k j : Nat) (pos : api_Pos), j ≤ (emS e (insG p m0 n) o (runG p m0 n).pc 0).length → (emS e (insG p m0 n) o (runG p m0 n).pc 0).length - j < k →
    ((j ≤ (sndR o (insG p m0 n)).length ∧ ∃ dn u, Pl p o s m0 e pos false dn n j u) ∨ (j = (emS e (insG p m0 n) o (runG p m0 n).pc 0).length ∧ (sndR o (insG p m0 n)).length < j ∧ (formM (insG p m0 n).1 ≠ 8 → WAt p o s e (runG p m0 (n + 1)).pc (n + 1) 0 pos))) →
    ∃ pos', l20_FrontWalks_l2 N k e f pc' c ((runG p m0 n).pc : Int) (n : Int) (emS e (insG p m0 n) o (runG p m0 n).pc 0) (j : Int) p s r' pos = some (3, gB.dv e (gI.dv f (gI.dv pc' (gI.dv c (g_api_Program.dv p (g_api_Split.dv s (g_api_Result.dv r' (g_api_Pos.dv pos' [])))))))) ∧ (formM (insG p m0 n).1 ≠ 8 → WAt p o s e (runG p m0 (n + 1)).pc (n + 1) 0 pos') := by
  have hr := insG_right h.right hpc
  have hll : (emS e (insG p m0 n) o (runG p m0 n).pc 0).length = (sndR o (insG p m0 n)).length + (lstS e o (insG p m0 n) (runG p m0 n).pc 0).length := em_len (p := p) (o := o) (n := n) (e := e) (m0 := m0)
  have h1l := lst_len e o (insG p m0 n) (runG p m0 n).pc 0
  have hsl : (sndR o (insG p m0 n)).length ≤ 2 := by
    have := sentOM_len (insG p m0 n) o
    unfold sndR
    repeat' split
    all_goals first | omega | simp
  have hcl := (rightP_Right h.right).2.1
  have wpc : w.i64 (((runG p m0 n).pc : Int) + 1) = ((runG p m0 n).pc : Int) + 1 := wI (by omega) (by omega)
  have hins : List.getD p.Code ((runG p m0 n).pc : Int).toNat api_Ins.z = insG p m0 n := by rw [Int.toNat_natCast]; rfl
  intro k
  induction k with
  | zero => intro j pos h1 h2; omega
  | succ k ih =>
    intro j pos h1 h2 hW
    show ∃ pos', l20_FrontWalks_r2 N (l20_FrontWalks_l2 N k) e f pc' c ((runG p m0 n).pc : Int) (n : Int) (emS e (insG p m0 n) o (runG p m0 n).pc 0) (j : Int) p s r' pos = _ ∧ _
    unfold l20_FrontWalks_r2
    by_cases hj : j < (emS e (insG p m0 n) o (runG p m0 n).pc 0).length
    · obtain ⟨hjs, dn, u, hP⟩ : j ≤ (sndR o (insG p m0 n)).length ∧ ∃ dn u, Pl p o s m0 e pos false dn n j u := by
        rcases hW with hW | hW
        · exact hW
        · omega
      rw [lt_len hj, bi_true, front_Next_is s e pos hl hN, on1_some, gg_dv, gg_dv, gg_dv, gg_nil, idx_n hj, gd_true, Int.toNat_natCast]
      simp only [front_Settle_is s e pos hl hN, front_Go_is, on1_some, gg_dv, gg_nil, wpc, hins, idx_n hpc, gd_true, wS (show j ≤ 100000000 by omega)]
      by_cases hs : j < (sndR o (insG p m0 n)).length
      · obtain ⟨_, off, hx⟩ := hP.send h hpc (by omega) hs
        have hL : (emS e (insG p m0 n) o (runG p m0 n).pc 0).getD j api_Cell.z = cellR (sndK e) ((sndR o (insG p m0 n)).getD j 0) (runG p m0 n).pc 0 := by
          rw [emit_parts, getD_appL _ _ _ (by rw [List.length_map]; exact hs), getD_mapD _ _ 0 _ hs]
        have hP2 := hP.on1 h hpc (by omega) hs
        rw [hx, hL]
        have n11 : ((cellR (sndK e) ((sndR o (insG p m0 n)).getD j 0) (runG p m0 n).pc off).1 == 11) = false := by cases e <;> rfl
        have n9 : ((cellR (sndK e) ((sndR o (insG p m0 n)).getD j 0) (runG p m0 n).pc off).1 == 9) = false := by cases e <;> rfl
        have n10 : ((cellR (sndK e) ((sndR o (insG p m0 n)).getD j 0) (runG p m0 n).pc off).1 == 10) = false := by cases e <;> rfl
        simp only [n11, n9, n10, bi_false, Bool.not_true, bne_self_eq_false]
        rw [show (!((cellR (sndK e) ((sndR o (insG p m0 n)).getD j 0) (runG p m0 n).pc off).1 == (cellR (sndK e) ((sndR o (insG p m0 n)).getD j 0) (runG p m0 n).pc 0).1 && _)) = false by simp [cellR], bi_false]
        exact ih (j + 1) _ (by omega) (by omega) (.inl ⟨by omega, _, _, hP2⟩)
      · have hje : j = (sndR o (insG p m0 n)).length := by omega
        have hne : lstS e o (insG p m0 n) (runG p m0 n).pc 0 ≠ [] := fun g => by rw [g] at hll; simp at hll; omega
        obtain ⟨_, off, kc, hk, hx⟩ := hP.last h hpc (by omega) hje hne
        obtain ⟨hkind, hl0⟩ := lst_kind hr hk
        have hL : (emS e (insG p m0 n) o (runG p m0 n).pc 0).getD j api_Cell.z = (kc.1, (kc.2.1, (kc.2.2.1, (kc.2.2.2.1, (0, ()))))) := by
          have hm := getD_appR ((sndR o (insG p m0 n)).map (fun r => cellR (sndK e) r (runG p m0 n).pc 0)) (lstS e o (insG p m0 n) (runG p m0 n).pc 0) api_Cell.z
          rw [List.length_map, ← hje, ← emit_parts] at hm
          rw [hm, hl0]; rfl
        rw [hl0] at hll
        have hlen : j + 1 = (emS e (insG p m0 n) o (runG p m0 n).pc 0).length := by rw [hll, hje]; rfl
        have cont : ∀ t : Bool, t = goes (runG p m0 n) (insG p m0 n) ∨ formM (insG p m0 n).1 = 8 → ∃ pos', l20_FrontWalks_l2 N k e f pc' c ((runG p m0 n).pc : Int) (n : Int) (emS e (insG p m0 n) o (runG p m0 n).pc 0) ((j + 1 : Nat) : Int) p s r' (goM s (settleM s e pos).1 t) = some (3, gB.dv e (gI.dv f (gI.dv pc' (gI.dv c (g_api_Program.dv p (g_api_Split.dv s (g_api_Result.dv r' (g_api_Pos.dv pos' [])))))))) ∧ (formM (insG p m0 n).1 ≠ 8 → WAt p o s e (runG p m0 (n + 1)).pc (n + 1) 0 pos') := by
          intro t ht
          refine ih (j + 1) _ (by omega) (by omega) (.inr ⟨hlen, by omega, fun h8 => ?_⟩)
          rcases ht with rfl | ht
          · refine WAt.nextG h hP.wt hpc (by omega) ?_ h8
            exact hlen
          · exact absurd ht h8
        rw [hx, hL]
        simp only [bne_self_eq_false, bi_false, Bool.not_true, beq_self_eq_true, Bool.and_self]
        rcases hkind with ⟨k1, f7⟩ | ⟨k1, f6⟩ | ⟨⟨k9, k10, k11⟩, f6, f7⟩
        · rw [bt k1, bi_true]
          exact cont true (.inl (by unfold goes; rw [decide_eq_true f7]; rfl))
        · have hgo : goes (runG p m0 n) (insG p m0 n) = gTk (runG p m0 n) (insG p m0 n) := by
            unfold goes
            rw [decide_eq_false (by omega), decide_eq_true f6]; simp
          have hne : pc' ≠ ((runG p m0 n).pc : Int) + 1 → goes (runG p m0 n) (insG p m0 n) = true := fun g => by
            cases hg : goes (runG p m0 n) (insG p m0 n) with
            | true => rfl
            | false =>
              exfalso
              apply g
              rw [hpc' f6]
              unfold gPc
              rw [hg, if_neg (by simp), if_neg (by omega)]
              omega
          rw [htk f6, on1_some, gg_dv, gg_nil, bf (show ¬ kc.1 = 11 by omega), bi_false]
          have both : bi (pc' != ((runG p m0 n).pc : Int) + 1) (l20_FrontWalks_l2 N k e f pc' c ((runG p m0 n).pc : Int) (n : Int) (emS e (insG p m0 n) o (runG p m0 n).pc 0) ((j + 1 : Nat) : Int) p s r' (goM s (settleM s e pos).1 true)) (l20_FrontWalks_l2 N k e f pc' c ((runG p m0 n).pc : Int) (n : Int) (emS e (insG p m0 n) o (runG p m0 n).pc 0) ((j + 1 : Nat) : Int) p s r' (goM s (settleM s e pos).1 (gTk (runG p m0 n) (insG p m0 n)))) = l20_FrontWalks_l2 N k e f pc' c ((runG p m0 n).pc : Int) (n : Int) (emS e (insG p m0 n) o (runG p m0 n).pc 0) ((j + 1 : Nat) : Int) p s r' (goM s (settleM s e pos).1 (goes (runG p m0 n) (insG p m0 n))) := by
            by_cases hq : pc' = ((runG p m0 n).pc : Int) + 1
            · rw [show (pc' != ((runG p m0 n).pc : Int) + 1) = false by rw [hq]; simp, bi_false, hgo]
            · rw [show (pc' != ((runG p m0 n).pc : Int) + 1) = true from bne_iff_ne.2 hq, bi_true, hne hq]
          rcases k1 with k1 | k1
          · rw [bt k1, bi_true, bi_true, both]
            exact cont _ (.inl rfl)
          · rw [bf (show ¬ kc.1 = 9 by omega), bi_false, bt k1, bi_true, bi_false, bi_true, both]
            exact cont _ (.inl rfl)
        · rw [bf k11, bi_false, bf k9, bi_false, bf k10, bi_false, bi_false, bi_false]
          refine cont false (.inl ?_)
          unfold goes
          rw [decide_eq_false f7, decide_eq_false f6]; rfl
    · have hje : j = (emS e (insG p m0 n) o (runG p m0 n).pc 0).length := by omega
      rw [ge_len (by omega), bi_false]
      refine ⟨pos, rfl, fun h8 => ?_⟩
      rcases hW with ⟨hjs, dn, u, hP⟩ | ⟨_, _, hW⟩
      · have hl0 : lstS e o (insG p m0 n) (runG p m0 n).pc 0 = [] := List.length_eq_zero_iff.1 (by omega)
        exact (hP.skip h rfl hpc (by omega) (by omega) hl0).1.wt
      · exact hW h8
theorem walk_loop0 (h:Spl p o s) (hl:s.Blocks.length≤100000) (hN:s.Blocks.length < N) (hN2:100000 < N) (hm:len m0 = p.Size) (hso:s.Owner = o) (f:Nat) (hf:f≤60):∀ (k n:Nat) (r:api_Result) (pc:Int) (pos:api_Pos),n≤f→f - n < k→At1 p m0 n r pc→r.Writes.length≤n→WAt p o s e (runG p m0 n).pc n 0 pos →
  l20_FrontWalks_l0 N k e (f:Int) pc (n:Int) p s r pos = some (1,[])∨l20_FrontWalks_l0 N k e (f:Int) pc (n:Int) p s r pos = some (0,gB.dv true []):=by
 have hp:=h.right;intro k;induction k with
 | zero=>intro n r pc pos h1 h2; omega
 | succ k ih =>
  intro n r pc pos h1 h2 hA hw hW;show l20_FrontWalks_r0 N (l20_FrontWalks_l0 N k) e (f:Int) pc (n:Int) p s r pos = _∨l20_FrontWalks_r0 N (l20_FrontWalks_l0 N k) e (f:Int) pc (n:Int) p s r pos = _;unfold l20_FrontWalks_r0;by_cases hi:n < f
  ·
   obtain ⟨s1,s2,s3,s4⟩:=Step1_is (N:=N) hp hm hA (by omega) (by omega) hN2;rw [dt (show (n:Int) < (f:Int) by omega),bi_true,bt hA.en,bi_true];have hpl:=walk_place hW hA.ps hp;have hpcz:=hA.pc;subst hpcz;have stop:∀ (r':api_Result) (pc':Int) (pos':api_Pos),r'.End≠0→l20_FrontWalks_l0 N k e (f:Int) pc' ((n+1:Nat):Int) p s r' pos' = some (1,[]):=by
    intro r' pc' pos' he;cases k with
    | zero=>omega
    | succ k =>
     show l20_FrontWalks_r0 N (l20_FrontWalks_l0 N k) e (f:Int) pc' ((n+1:Nat):Int) p s r' pos' = _;unfold l20_FrontWalks_r0;by_cases hj:n+1 < f
     · rw [dt (show ((n+1:Nat):Int) < (f:Int) by omega),bi_true,bf he,bi_false]
     · rw [df (show ¬ ((n+1:Nat):Int) < (f:Int) by omega),bi_false]
   by_cases hpc:(runG p m0 n).pc < p.Code.length
   ·
    have hidx:idx ((runG p m0 n).pc:Int) p.Code.length = true:=idx_n hpc;have hins:List.getD p.Code ((runG p m0 n).pc:Int).toNat api_Ins.z = insG p m0 n:=by rw [Int.toNat_natCast]; rfl
    have hemit:r10_Emit N (insG p m0 n) s.Owner ((runG p m0 n).pc:Int) 0 = some (0,(gD (.sl t_api_Cell)).dv (emS false (insG p m0 n) o (runG p m0 n).pc 0) ((gD (.sl t_api_Cell)).dv (emS true (insG p m0 n) o (runG p m0 n).pc 0) [])):=by
     rw [hso];exact Emit_ex _ _ _ _ (by omega)
    have pick:∀ (A:Bool→Option Rs),bi e (A true) (A false) = A e:=by intro A; cases e <;> rfl
    have hr:=insG_right hp hpc;obtain ⟨_,⟨a0,a1⟩,b0,b1⟩:=rightIns_regs hr;by_cases ht:gTrap (runG p m0 n) (insG p m0 n) = 0
    ·
     by_cases h8:formM (insG p m0 n).1 = 8
     ·
      rw [s3 hpc h8,on1_some,gg_dv,gg_dv,gg_nil];obtain ⟨pos',l1,_⟩:=walk_loop2 (N:=N) (e:=e) h hl hN hpc (by omega) (f:Int) (n:Int) ((runG p m0 n).pc:Int) { r with End:=1,Steps:=(n:Int)+1 } (fun g=>by omega) (fun g=>by omega) N 0 pos (by omega) (by
       have:=em_len (p:=p) (o:=o) (n:=n) (e:=e) (m0:=m0);have h1l:=lst_len e o (insG p m0 n) (runG p m0 n).pc 0;have:(sndR o (insG p m0 n)).length = 0:=by rw [no_snd hp hpc h8]; rfl
       have e2:(emS e (insG p m0 n) o (runG p m0 n).pc 0).length = (emAt p o e (runG p m0 n).pc 0).length:=rfl;omega) (.inl ⟨Nat.zero_le _,_,_,hpl⟩)
      refine .inl ?_;show bi ((1:Int) == 2) _ _ = _;rw [show ((1:Int) == 2) = false from rfl,bi_false,hidx,gd_true,hins,hemit,on1_some,gg_dv,gg_dv,gg_nil,hA.st];rw [pick fun b=>onB 0 3 (l20_FrontWalks_l2 N N e (f:Int) ((runG p m0 n).pc:Int) (n:Int) ((runG p m0 n).pc:Int) (n:Int) (emS b (insG p m0 n) o (runG p m0 n).pc 0) 0 p s { r with End:=1,Steps:=(n:Int)+1 } pos) (gg [pB] fun (x24:Bool)=>some (0,gB.dv x24 [])) (gg [pB,pI,pI,pI,p_api_Program,p_api_Split,p_api_Result,p_api_Pos] fun (x25:Bool) (x26:Int) (x27:Int) (x28:Int) (x29:api_Program) (x30:api_Split) (x31:api_Result) (x32:api_Pos)=>l20_FrontWalks_l0 N k x25 x26 x27 (w.i64 (x28+1)) x29 x30 x31 x32)];rw [show l20_FrontWalks_l2 N N e (f:Int) ((runG p m0 n).pc:Int) (n:Int) ((runG p m0 n).pc:Int) (n:Int) (emS e (insG p m0 n) o (runG p m0 n).pc 0) 0 p s { r with End:=1,Steps:=(n:Int)+1 } pos = _ from l1,onB_snd _ _ (by decide)];simp only [gg_dv,gg_nil,wS (show n≤100000000 by omega)];exact stop _ _ _ (by show (1:Int)≠0; omega)
     ·
      obtain ⟨r',pc',g1,g2⟩:=s4 hpc ht h8;rw [g1,on1_some,gg_dv,gg_dv,gg_nil];have eG:=runG_pc (m0:=m0) hpc;have hregs:formM (insG p m0 n).1 = 6→∀ q:Int,0≤q→q≤15→r'.Regs.getD q.toNat 0 = gv (runG p m0 n) q:=fun h6 q q0 q1=>by
       unfold gv;by_cases hq:1≤q∧q≤15
       ·
        rw [if_pos hq,g2.rg q hq.1 hq.2];exact keepR (.inr (by omega)) hpc
       · rw [if_neg hq,show q = 0 by omega]; exact g2.r0
      obtain ⟨pos',l1,l2⟩:=walk_loop2 (N:=N) (e:=e) h hl hN hpc (by omega) (f:Int) (n:Int) pc' r' (fun g=>by rw [g2.pc,eG]) (fun g=>taken_is _ _ _ ⟨⟨a0,a1⟩,hregs g _ a0 a1⟩ ⟨⟨b0,b1⟩,hregs g _ b0 b1⟩ (gv_U32 _ _) (gv_U32 _ _)) N 0 pos (by omega) (by
       have:=em_len (p:=p) (o:=o) (n:=n) (e:=e) (m0:=m0);have h1l:=lst_len e o (insG p m0 n) (runG p m0 n).pc 0;have h2l:(sndR o (insG p m0 n)).length≤2:=by
        have:=sentOM_len (insG p m0 n) o;unfold sndR
        repeat' split
        all_goals first | omega | simp
       have e2:(emS e (insG p m0 n) o (runG p m0 n).pc 0).length = (emAt p o e (runG p m0 n).pc 0).length:=rfl;omega) (.inl ⟨Nat.zero_le _,_,_,hpl⟩)
      rw [bf (show ¬ r'.End = 2 by rw [g2.en]; omega),bi_false,hidx,gd_true,hins,hemit,on1_some,gg_dv,gg_dv,gg_nil,hA.st];rw [pick fun b=>onB 0 3 (l20_FrontWalks_l2 N N e (f:Int) pc' (n:Int) ((runG p m0 n).pc:Int) (n:Int) (emS b (insG p m0 n) o (runG p m0 n).pc 0) 0 p s r' pos) (gg [pB] fun (x24:Bool)=>some (0,gB.dv x24 [])) (gg [pB,pI,pI,pI,p_api_Program,p_api_Split,p_api_Result,p_api_Pos] fun (x25:Bool) (x26:Int) (x27:Int) (x28:Int) (x29:api_Program) (x30:api_Split) (x31:api_Result) (x32:api_Pos)=>l20_FrontWalks_l0 N k x25 x26 x27 (w.i64 (x28+1)) x29 x30 x31 x32)];rw [show l20_FrontWalks_l2 N N e (f:Int) pc' (n:Int) ((runG p m0 n).pc:Int) (n:Int) (emS e (insG p m0 n) o (runG p m0 n).pc 0) 0 p s r' pos = _ from l1,onB_snd _ _ (by decide)];simp only [gg_dv,gg_nil,wS (show n≤100000000 by omega)];refine ih (n+1) r' pc' pos' (by omega) (by omega) g2 ?_ (l2 h8);rw [g2.wr];have hwl:=hw;rw [hA.wr] at hwl;show ((evq (qst p m0) n++qst p m0 n).map (·.2)).length≤n+1;unfold wrG at hwl;rw [List.length_map] at hwl ⊢;rw [List.length_append];have:(qst p m0 n).length≤1:=by unfold qst; split <;> simp
      omega
    ·
     rw [s2 hpc ht,on1_some,gg_dv,gg_dv,gg_nil];refine .inr ?_;show bi ((2:Int) == 2) (bi (gTrap (runG p m0 n) (insG p m0 n) == 4) _ _) _ = _;rw [show ((2:Int) == 2) = true from rfl,bi_true,bf (gTrap_not4 _ _),bi_false]
   ·
    rw [s1 hpc,on1_some,gg_dv,gg_dv,gg_nil];obtain ⟨q,_,hx,_,_⟩:=hpl.fell h hpc (by omega);refine .inr ?_;show bi ((2:Int) == 2) (bi ((4:Int) == 4) _ _) _ = _;rw [show ((2:Int) == 2) = true from rfl,bi_true,show ((4:Int) == 4) = true from rfl,bi_true,front_Next_is s e pos hl hN,on1_some,gg_dv,gg_dv,gg_dv,gg_nil,hx,Bool.not_false,bi_true,hA.st,beq_self_eq_true]
  ·
   have:n = f:=by omega
   subst this;rw [df (show ¬ ((n:Int) < (n:Int)) by omega),bi_false];exact .inl rfl
end
theorem FrontWalks_true (p:api_Program) (e:Bool) (f:Int):l20_FrontWalks 200000 p e f = some (0,gB.dv true []):=by
 unfold l20_FrontWalks;rw [walk_alive (by omega),on1_some,gg_dv,gg_nil,Split_ex p (by omega),on1_some,gg_dv,gg_dv,gg_nil,Bool.not_true,bi_false,Few_is,on1_some,gg_dv,gg_nil];cases decide (p.Code.length≤200∧p.Data.length≤500) with
 | false=>rfl
 | true =>
  rw [Bool.not_true,bi_false];by_cases h1:p.Size > 300
  · rw [dt h1]; rfl
  rw [df h1,bi_false];unfold withE;cases hcl:closedM p (ownerM p) with
  | false=>rw [if_neg (by simp)]; rfl
  | true =>
   rw [if_pos rfl,bne_self_eq_false,bi_false];by_cases h2:f < 0
   · rw [dt h2]; rfl
   rw [df h2,bi_false];by_cases h3:f > 60
   · rw [dt h3]; rfl
   rw [df h3,bi_false];obtain ⟨hsp,hr,hll,hlp,hm⟩:=with_spl hcl;have hs:=right_size hr;have hm0:len (memM p) = p.Size:=by simp only [len,memM_len hr]; omega
   obtain ⟨m,rfl⟩:∃ m:Nat,f = (m:Int):=⟨f.toNat,by omega⟩
   have hl:=walk_loop0 (N:=200000) (e:=e) hsp (by omega) (by omega) (by omega) hm0 (by rw [hsp.eq]) m (by omega) 200000 0 _ 0 api_Pos.z (by omega) (by omega) (At1.first p (memM p)) (Nat.le_refl _) hsp.first
   rw [r1_First_is hr,on1_some,gg_dv,gg_nil];rcases hl with hl | hl
   ·
    rw [show l20_FrontWalks_l0 200000 200000 e (m:Int) 0 0 p (withS p (ownerM p)) (api_Result.mk 0 api_Trap.z 0 (List.replicate 16 (0:Int)) (memM p) ([]:List api_Write)) api_Pos.z = _ from hl,onB_snd _ _ (by decide)];rfl
   · rw [show l20_FrontWalks_l0 200000 200000 e (m:Int) 0 0 p (withS p (ownerM p)) (api_Result.mk 0 api_Trap.z 0 (List.replicate 16 (0:Int)) (memM p) ([]:List api_Write)) api_Pos.z = _ from hl,onB_fst,gg_dv,gg_nil]
end Go.Proofs.Zz
