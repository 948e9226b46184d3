import Derived.Test.YtpplgkggclddiaaYT
import Derived.Test.YtpplgkggclddiaaF2
set_option linter.unusedSimpArgs false
set_option linter.unusedVariables false
/- The document's run, an instruction at a time: it goes the program's way. -/
set_option maxRecDepth 100000
namespace Go.Proofs.Zz
open Go
variable {N:Nat}
structure At1 (p:api_Program) (m0:List Int) (n:Nat) (r:api_Result) (pc:Int):Prop where
 en:r.End = 0
 tp:r.Trap = api_Trap.z
 st:r.Steps = (n:Int)
 l16:r.Regs.length = 16
 r0:r.Regs.getD 0 0 = 0
 rg:∀ k:Int,1≤k→k≤15→r.Regs.getD k.toNat 0 = (runG p m0 n).regs k
 me:r.Mem = (runG p m0 n).mem
 wr:r.Writes = wrG p m0 n
 pc:pc = ((runG p m0 n).pc:Int)
 le:(runG p m0 n).pc≤p.Code.length
 ps:∀ u,u < n→(runG p m0 u).pc < p.Code.length∧formM (insG p m0 u).1≠8∧gTrap (runG p m0 u) (insG p m0 u) = 0
section
variable {p:api_Program} {m0:List Int} {n:Nat} {r r':api_Result} {pc pc':Int}
theorem At1.next (h:At1 p m0 n r pc) (hp:rightP p = true) (hpc:(runG p m0 n).pc < p.Code.length) (h8:formM (insG p m0 n).1≠8) (ht:gTrap (runG p m0 n) (insG p m0 n) = 0)
  (fr:r' = { r with Steps:=(n:Int)+1,Regs:=r'.Regs,Mem:=gMem (runG p m0 n) (insG p m0 n),Writes:=r.Writes++(qst p m0 n).map (·.2) })
  (hr:r'.Regs.length = 16∧r'.Regs.getD 0 0 = 0∧∀ k:Int,1≤k→k≤15→r'.Regs.getD k.toNat 0 = rgsG (runG p m0 n) (insG p m0 n) k) (hpc':pc' = ((gPc p (runG p m0 n) (insG p m0 n):Nat):Int)):At1 p m0 (n+1) r' pc':=by
 have e1:=runG_pc (m0:=m0) hpc;refine ⟨by rw [fr]; exact h.en,by rw [fr]; exact h.tp,by rw [fr]; show (n:Int)+1 = _; omega,hr.1,hr.2.1,fun k k1 k2=>?_,?_,?_,?_,?_,fun u hu=>?_⟩
 · rw [e1]; exact hr.2.2 k k1 k2
 · rw [e1,fr]
 ·
  rw [fr];show r.Writes++_ = ((evq (qst p m0) n++qst p m0 n).map (·.2));rw [List.map_append,h.wr]; rfl
 · rw [e1]; exact hpc'
 ·
  rw [e1];show gPc p (runG p m0 n) (insG p m0 n)≤_;unfold gPc;split
  ·
   by_cases hneg:0≤tgtM p ((runG p m0 n).pc:Int)
   · have:=tgtM_lt hneg; omega
   · omega
  · omega
 ·
  by_cases e:u = n
  · subst e; exact ⟨hpc,h8,ht⟩
  · exact h.ps u (by omega)
theorem tgt_right (hp:rightP p = true) (hpc:(runG p m0 n).pc < p.Code.length) (hb:brM (insG p m0 n) = true):0≤tgtM p ((runG p m0 n).pc:Int)∧tgtM p ((runG p m0 n).pc:Int) = ((runG p m0 n).pc:Int)+(insG p m0 n).2.2.2.2.1:=by
 have hr:=hp;have ht:0≤tgtM p ((runG p m0 n).pc:Int):=by
  unfold rightP tgtsOk at hr;simp only [Bool.and_eq_true] at hr;have:=List.all_eq_true.1 hr.2.2 (runG p m0 n).pc (List.mem_range'.2 ⟨(runG p m0 n).pc,hpc,by omega⟩);unfold tgtOk at this;rw [show codeM p (runG p m0 n).pc = insG p m0 n from rfl,hb] at this;simp only [Bool.true_and,Bool.not_eq_true',decide_eq_false_iff_not] at this;omega
 refine ⟨ht,?_⟩;unfold tgtM at ht ⊢;rw [Int.toNat_natCast] at ht ⊢;rw [show codeM p (runG p m0 n).pc = insG p m0 n from rfl] at ht ⊢;split at ht
 · rename_i g; rw [if_pos g]
 · omega
theorem setR_is (h:At1 p m0 n r pc) {D v:Int} (h0:0≤D) (h1:D≤15):r1_set_Regs N D v r = some (0,g_api_Result.dv { r with Regs:=if D = 0 then r.Regs else r.Regs.set D.toNat v } []):=by
 unfold r1_set_Regs;have:=h.l16;by_cases e:D = 0
 · rw [show (D != 0) = false by rw [e]; rfl,bi_false,if_pos e]
 · rw [show (D != 0) = true from bne_iff_ne.2 e,bi_true,idx_t (by omega) (by omega),gd_true,if_neg e]
theorem setR_regs (h:At1 p m0 n r pc) {D v:Int} (h0:0≤D) (h1:D≤15) :
  (if D = 0 then r.Regs else r.Regs.set D.toNat v).length = 16∧(if D = 0 then r.Regs else r.Regs.set D.toNat v).getD 0 0 = 0∧∀ k:Int,1≤k→k≤15→(if D = 0 then r.Regs else r.Regs.set D.toNat v).getD k.toNat 0 = updG (runG p m0 n).regs D v k:=by
 have hl:=h.l16;by_cases e:D = 0
 ·
  rw [if_pos e];exact ⟨hl,h.r0,fun k k1 k2=>by rw [updG_ne (by omega)]; exact h.rg k k1 k2⟩
 ·
  rw [if_neg e];refine ⟨by rw [List.length_set]; exact hl,?_,fun k k1 k2=>?_⟩
  · rw [getD_setI _ _ _ _ (by omega),if_neg (by omega)]; exact h.r0
  ·
   rw [getD_setI _ _ _ _ (by omega)];by_cases ek:k = D
   · rw [if_pos (by omega),ek,updG_eq]
   · rw [if_neg (by omega),updG_ne ek]; exact h.rg k k1 k2
theorem Step1_is (hp:rightP p = true) (hm:len m0 = p.Size) (h:At1 p m0 n r pc) (hn:n≤1000000) (hw:r.Writes.length≤1000000) (hN:100000 < N) :
    (¬ (runG p m0 n).pc < p.Code.length→r1_Step N p r pc = some (0,g_api_Result.dv { r with End:=2,Trap:=⟨4,(n:Int),pc⟩ } (gI.dv pc []))) ∧
    ((runG p m0 n).pc < p.Code.length→gTrap (runG p m0 n) (insG p m0 n)≠0→r1_Step N p r pc = some (0,g_api_Result.dv { r with End:=2,Trap:=⟨gTrap (runG p m0 n) (insG p m0 n),(n:Int),pc⟩ } (gI.dv pc []))) ∧
    ((runG p m0 n).pc < p.Code.length→formM (insG p m0 n).1 = 8→r1_Step N p r pc = some (0,g_api_Result.dv { r with End:=1,Steps:=(n:Int)+1 } (gI.dv pc []))) ∧
    ((runG p m0 n).pc < p.Code.length→gTrap (runG p m0 n) (insG p m0 n) = 0→formM (insG p m0 n).1≠8→∃ r' pc',r1_Step N p r pc = some (0,g_api_Result.dv r' (gI.dv pc' []))∧At1 p m0 (n+1) r' pc'):=by
  have hsz:=right_size hp;have hml:r.Mem.length = m0.length:=by rw [h.me]; exact runG_len p m0 n
  have hlen:len r.Mem = p.Size:=by simp only [len,hml]; exact hm
  have hl16:=h.l16;have hcl:=(rightP_Right hp).2.1;have hpc0:=h.pc;have hle:=h.le;have hcopy:r1_Copy N r = some (0,g_api_Result.dv r []):=by
    unfold r1_Copy;rw [rm0 (l:=r.Mem) (n:=1) (by simp only [len] at hlen; omega),gd_true,rm0 (l:=r.Writes) (n:=24) (by omega),gd_true,List.nil_append,List.nil_append]
  have htrap:∀ k:Int,r1_trap N r k pc = some (0,g_api_Result.dv { r with End:=2,Trap:=⟨k,(n:Int),pc⟩ } (gI.dv pc [])):=fun k=>by
    unfold r1_trap;rw [h.st]
  have hval:∀ k:Int,0≤k→k≤15→r1_value N r.Regs k = some (0,gW.dv (gv (runG p m0 n) k) []):=fun k k0 k1=>by
    unfold r1_value gv;by_cases e:k = 0
    · rw [bt e,bi_true,if_neg (by omega)]
    · rw [bf e,bi_false,idx_t (by omega) (by omega),gd_true,if_pos (by omega),h.rg k (by omega) k1]
  have hst:w.i64 (r.Steps+1) = (n:Int)+1:=by rw [h.st]; exact wI (by omega) (by omega)
  have hen:(r.End == 1) = false:=by rw [h.en]; rfl
  have hchk:∀ {op a:Int},26≤op→op≤33→U32 a→r1_Check N (sizeM op) a p.Size = some (0,gI.dv (checkX (sizeM op) a (len (runG p m0 n).mem)) []):=fun {op a} o1 o2 ha=>by
    have hz:=size_of (op:=op) ⟨o1,o2⟩;have e1:len (runG p m0 n).mem = p.Size:=by rw [← h.me]; exact hlen
    rw [show r1_Check N (sizeM op) a p.Size = _ from Check_is (N:=N) hz ha (by omega),e1];unfold checkX;rw [if_neg (by omega)]
  have hstart:∀ X,(pc≥len p.Code→X = (some (0,g_api_Result.dv { r with End:=2,Trap:=⟨4,(n:Int),pc⟩ } (gI.dv pc [])):Option Rs))→r1_Step N p r pc = X∨True:=fun _ _=>.inr trivial
  have hfirst:¬ (runG p m0 n).pc < p.Code.length→r1_Step N p r pc = some (0,g_api_Result.dv { r with End:=2,Trap:=⟨4,(n:Int),pc⟩ } (gI.dv pc [])):=fun hpc=>by
    unfold r1_Step;rw [hcopy,on1_some,gg_dv,gg_nil,show (r.End != 0) = false by rw [h.en]; rfl,bi_false,RightP_is p (by omega),on1_some,gg_dv,gg_nil,hp,Bool.not_true,bi_false,show (len r.Mem != p.Size) = false by rw [hlen]; simp,bi_false,df (show ¬ pc < 0 by omega),bi_false,dt (show pc≥len p.Code by simp only [len]; omega),bi_true,htrap,on1_some,gg_dv,gg_dv,gg_nil]
  refine ⟨hfirst,?_⟩;by_cases hpc:(runG p m0 n).pc < p.Code.length
  case neg=>exact ⟨fun g=>absurd g hpc,fun g=>absurd g hpc,fun g=>absurd g hpc⟩
  have hr:=insG_right hp hpc;obtain ⟨⟨d0,d1⟩,⟨a0,a1⟩,b0,b1⟩:=rightIns_regs hr;have hf0:=form_pos hr;have hf8:=(formM_range (insG p m0 n).1).2;have hins:List.getD p.Code pc.toNat api_Ins.z = insG p m0 n:=by rw [hpc0,Int.toNat_natCast]; rfl
  have wA:=gv_U32 (p:=p) (m0:=m0) n (insG p m0 n).2.2.1;have wB:=gv_U32 (p:=p) (m0:=m0) n (insG p m0 n).2.2.2.1;have wpc:w.i64 (pc+1) = ((runG p m0 n).pc+1:Nat):=by rw [hpc0]; rw [wI (by omega) (by omega)]; omega
  have wp:∀ t:Int,0≤tgtM p ((runG p m0 n).pc:Int)∧tgtM p ((runG p m0 n).pc:Int) = ((runG p m0 n).pc:Int)+t→w.i64 (pc+t) = ((tgtM p ((runG p m0 n).pc:Int)).toNat:Int):=fun t ht=>by
    have:=tgtM_lt ht.1;rw [hpc0,wI (by omega) (by omega)];omega
  have hU:U32 (w.u32 (gv (runG p m0 n) (insG p m0 n).2.2.1+w.u32 (insG p m0 n).2.2.2.2.1)):=w_U32 _;have ha64:w.i64 (w.u32 (gv (runG p m0 n) (insG p m0 n).2.2.1+w.u32 (insG p m0 n).2.2.2.2.1)) = gAddr (runG p m0 n) (insG p m0 n):=by
    have:=hU;unfold U32 at this;exact wI (by omega) (by omega)
  have hgo:formM (insG p m0 n).1≤5→gPc p (runG p m0 n) (insG p m0 n) = (runG p m0 n).pc+1:=fun h5=>by
    unfold gPc goes;rw [decide_eq_false (by omega),decide_eq_false (by omega),if_neg (by simp),if_neg (by omega)]
  have hmem:formM (insG p m0 n).1≠5→gMem (runG p m0 n) (insG p m0 n) = r.Mem:=fun h5=>by
    unfold gMem;rw [if_neg (fun g=>h5 g.1),h.me]
  have hq:formM (insG p m0 n).1≠5→r.Writes++(qst p m0 n).map (·.2) = r.Writes:=fun h5=>by
    rw [show qst p m0 n = [] from if_neg h5]; simp
  have keep:5≤formM (insG p m0 n).1→r.Regs.length = 16∧r.Regs.getD 0 0 = 0∧∀ k:Int,1≤k→k≤15→r.Regs.getD k.toNat 0 = rgsG (runG p m0 n) (insG p m0 n) k:=fun h5 =>
    ⟨hl16,h.r0,fun k k1 k2=>by rw [rgsG_hi _ _ h5]; exact h.rg k k1 k2⟩
  unfold r1_Step;rw [hcopy,on1_some,gg_dv,gg_nil,show (r.End != 0) = false by rw [h.en]; rfl,bi_false,RightP_is p (by omega),on1_some,gg_dv,gg_nil,hp,Bool.not_true,bi_false,show (len r.Mem != p.Size) = false by rw [hlen]; simp,bi_false,df (show ¬ pc < 0 by omega),bi_false,df (show ¬ pc≥len p.Code by simp only [len]; omega),bi_false,idx_t (by omega) (by omega),gd_true,hins,hval _ a0 a1,on1_some,gg_dv,gg_nil,hval _ b0 b1,on1_some,gg_dv,gg_nil,r1_Form_is,on1_some,gg_dv,gg_nil];by_cases f3:formM (insG p m0 n).1≤3
  · have hD:=@setR_is N p m0 n r pc h (insG p m0 n).2.1 (gDo (runG p m0 n) (insG p m0 n)).1 d0 d1
    have hR:=setR_regs h (v:=(gDo (runG p m0 n) (insG p m0 n)).1) d0 d1;have hdo:r1_Do N (insG p m0 n) (gv (runG p m0 n) (insG p m0 n).2.2.1) (gv (runG p m0 n) (insG p m0 n).2.2.2.1) = some (0,gW.dv (gDo (runG p m0 n) (insG p m0 n)).1 (gB.dv (gDo (runG p m0 n) (insG p m0 n)).2 [])):=r1_Do_is _ wA wB;rw [bf (show ¬ formM (insG p m0 n).1 = 4 by omega),bi_false,bf (show ¬ formM (insG p m0 n).1 = 5 by omega),bi_false];have hdone:∀ Y:Option Rs,on1 (r1_Do N (insG p m0 n) (gv (runG p m0 n) (insG p m0 n).2.2.1) (gv (runG p m0 n) (insG p m0 n).2.2.2.1)) (gg [pW,pB] fun (x16:Int) (x17:Bool) =>
       bi (!x17) (
        on1 (r1_trap N r 3 pc)<|gg [p_api_Result,pI]<|fun (x18:api_Result) (x19:Int)=>some (0,g_api_Result.dv x18 (gI.dv x19 []))) <|
       on1 (r1_set_Regs N ((insG p m0 n).2.1) x16 r)<|gg [p_api_Result]<|fun (x20:api_Result) =>
       bi (x20.End == 1) (some (0,g_api_Result.dv ({ x20 with Steps:=(w.i64 (x20.Steps+1)) }:api_Result) (gI.dv pc []))) <|
       some (0,g_api_Result.dv ({ x20 with Steps:=(w.i64 (x20.Steps+1)) }:api_Result) (gI.dv (w.i64 (pc+1)) []))) = Y →
       (gTrap (runG p m0 n) (insG p m0 n)≠0→Y = some (0,g_api_Result.dv { r with End:=2,Trap:=⟨gTrap (runG p m0 n) (insG p m0 n),(n:Int),pc⟩ } (gI.dv pc []))) ∧
       (gTrap (runG p m0 n) (insG p m0 n) = 0→∃ r' pc',Y = some (0,g_api_Result.dv r' (gI.dv pc' []))∧At1 p m0 (n+1) r' pc'):=by
      intro Y hY;subst hY;rw [hdo,on1_some,gg_dv,gg_dv,gg_nil];cases hg:(gDo (runG p m0 n) (insG p m0 n)).2 with
      | false =>
        have htr:gTrap (runG p m0 n) (insG p m0 n) = 3:=by unfold gTrap; rw [if_pos f3,if_neg (by simp [hg])]
        rw [Bool.not_false,bi_true,htrap,on1_some,gg_dv,gg_dv,gg_nil,htr];exact ⟨fun _=>rfl,fun g=>by omega⟩
      | true =>
        have htr:gTrap (runG p m0 n) (insG p m0 n) = 0:=by unfold gTrap; rw [if_pos f3,if_pos hg]
        rw [Bool.not_true,bi_false,hD,on1_some,gg_dv,gg_nil];refine ⟨fun g=>absurd htr g,fun _=>⟨_,_,by rw [show (({ r with Regs:=if (insG p m0 n).2.1 = 0 then r.Regs else r.Regs.set (insG p m0 n).2.1.toNat (gDo (runG p m0 n) (insG p m0 n)).1 }:api_Result).End == 1) = false from hen,bi_false],?_⟩⟩
        refine h.next hp hpc (by omega) htr ?_ ?_ (by rw [wpc,hgo (by omega)])
        · rw [hmem (by omega),hq (by omega),← hst]
        · refine ⟨hR.1,hR.2.1,fun k k1 k2=>?_⟩
          unfold rgsG;rw [if_neg (show ¬ gTrap (runG p m0 n) (insG p m0 n)≠0 by rw [htr]; simp),if_pos f3];exact hR.2.2 k k1 k2
    by_cases f1:formM (insG p m0 n).1 = 1
    · rw [bt f1,bi_true]
      obtain ⟨k1,k2⟩:=hdone _ rfl;exact ⟨fun _=>k1,fun _ g=>by omega,fun _ g _=>k2 g⟩
    rw [bf f1,bi_false];by_cases f2:formM (insG p m0 n).1 = 2
    · rw [bt f2,bi_true]
      obtain ⟨k1,k2⟩:=hdone _ rfl;exact ⟨fun _=>k1,fun _ g=>by omega,fun _ g _=>k2 g⟩
    rw [bf f2,bi_false,bt (show formM (insG p m0 n).1 = 3 by omega),bi_true];obtain ⟨k1,k2⟩:=hdone _ rfl;exact ⟨fun _=>k1,fun _ g=>by omega,fun _ g _=>k2 g⟩
  by_cases f4:formM (insG p m0 n).1 = 4
  · have ho:=form4_op f4
    have htr:gTrap (runG p m0 n) (insG p m0 n) = checkX (sizeM (insG p m0 n).1) (gAddr (runG p m0 n) (insG p m0 n)) (len (runG p m0 n).mem):=by unfold gTrap; rw [if_neg f3,if_pos (by omega)]
    rw [bt f4,bi_true,r1_Size_is,on1_some,gg_dv,gg_nil,hchk (by omega) (by omega) hU,on1_some,gg_dv,gg_nil,show checkX (sizeM (insG p m0 n).1) (w.u32 (gv (runG p m0 n) (insG p m0 n).2.2.1+w.u32 (insG p m0 n).2.2.2.2.1)) (len (runG p m0 n).mem) = gTrap (runG p m0 n) (insG p m0 n) from htr.symm];by_cases ht:gTrap (runG p m0 n) (insG p m0 n) = 0
    · refine ⟨fun _ g=>absurd ht g,fun _ g=>by omega,fun _ _ _=>?_⟩
      rw [show (gTrap (runG p m0 n) (insG p m0 n) != 0) = false by rw [ht]; rfl,bi_false,bf (show ¬ formM (insG p m0 n).1 = 1 by omega),bi_false,bf (show ¬ formM (insG p m0 n).1 = 2 by omega),bi_false,bf (show ¬ formM (insG p m0 n).1 = 3 by omega),bi_false,bi_true,LoadR_is r.Mem (insG p m0 n).1 hU (by simp only [len] at hlen; omega) (by omega),on1_some,gg_dv,gg_nil,setR_is h d0 d1,on1_some,gg_dv,gg_nil];have hR:=setR_regs h (v:=loadV r.Mem (insG p m0 n).1 (w.u32 (gv (runG p m0 n) (insG p m0 n).2.2.1+w.u32 (insG p m0 n).2.2.2.2.1))) d0 d1;refine ⟨_,_,by rw [show (({ r with Regs:=if (insG p m0 n).2.1 = 0 then r.Regs else r.Regs.set (insG p m0 n).2.1.toNat (loadV r.Mem (insG p m0 n).1 (w.u32 (gv (runG p m0 n) (insG p m0 n).2.2.1+w.u32 (insG p m0 n).2.2.2.2.1))) }:api_Result).End == 1) = false from hen,bi_false],?_⟩
      refine h.next hp hpc (by omega) ht ?_ ?_ (by rw [wpc,hgo (by omega)])
      · rw [hmem (by omega),hq (by omega),← hst]
      · refine ⟨hR.1,hR.2.1,fun k k1 k2=>?_⟩
        unfold rgsG;rw [if_neg (show ¬ gTrap (runG p m0 n) (insG p m0 n)≠0 by rw [ht]; simp),if_neg f3,if_pos f4,← h.me];exact hR.2.2 k k1 k2
    · rw [show (gTrap (runG p m0 n) (insG p m0 n) != 0) = true from bne_iff_ne.2 ht,bi_true,htrap,on1_some,gg_dv,gg_dv,gg_nil]
      exact ⟨fun _ _=>rfl,fun _ g=>by omega,fun _ g=>absurd g ht⟩
  rw [bf f4,bi_false];by_cases f5:formM (insG p m0 n).1 = 5
  · have ho:=form5_op f5
    have htr:gTrap (runG p m0 n) (insG p m0 n) = checkX (sizeM (insG p m0 n).1) (gAddr (runG p m0 n) (insG p m0 n)) (len (runG p m0 n).mem):=by unfold gTrap; rw [if_neg f3,if_pos (by omega)]
    have hz:=size_of (op:=(insG p m0 n).1) ⟨by omega,by omega⟩
    rw [bt f5,bi_true,r1_Size_is,on1_some,gg_dv,gg_nil,hchk (by omega) (by omega) hU,on1_some,gg_dv,gg_nil,show checkX (sizeM (insG p m0 n).1) (w.u32 (gv (runG p m0 n) (insG p m0 n).2.2.1+w.u32 (insG p m0 n).2.2.2.2.1)) (len (runG p m0 n).mem) = gTrap (runG p m0 n) (insG p m0 n) from htr.symm];by_cases ht:gTrap (runG p m0 n) (insG p m0 n) = 0
    · refine ⟨fun _ g=>absurd ht g,fun _ g=>by omega,fun _ _ _=>?_⟩
      have hlie:LieW (gWr (runG p m0 n) (insG p m0 n)) (len r.Mem):=by
        have h0:=ht;rw [htr,← h.me] at h0;unfold checkX checkM at h0;rw [if_neg (by omega)] at h0;have hU2:=hU;unfold U32 at hU2;split at h0
        · omega
        · rename_i g1
          split at h0
          · omega
          · rename_i g2
            refine ⟨hz,hU2.1,?_,?_⟩
            · show gAddr (runG p m0 n) (insG p m0 n)+sizeM (insG p m0 n).1≤len r.Mem
              omega
            · exact Classical.not_not.1 g1
      rw [show (gTrap (runG p m0 n) (insG p m0 n) != 0) = false by rw [ht]; rfl,bi_false,bf (show ¬ formM (insG p m0 n).1 = 1 by omega),bi_false,bf (show ¬ formM (insG p m0 n).1 = 2 by omega),bi_false,bf (show ¬ formM (insG p m0 n).1 = 3 by omega),bi_false,bi_false,bi_true];simp only [r1_Size_is,MaskR_is,on1_some,gg_dv,gg_nil,ha64];rw [show r1_Store N r.Mem (gAddr (runG p m0 n) (insG p m0 n),(sizeM (insG p m0 n).1,(maskM (gv (runG p m0 n) (insG p m0 n).2.2.2.1) (sizeM (insG p m0 n).1),()))) = _ from StoreR_is (gWr (runG p m0 n) (insG p m0 n)) r.Mem hlie (by simp only [len] at hlen ⊢; omega) (by omega),on1_some,gg_dv,gg_nil,rmT (by simp; omega),gd_true,hen,bi_false];refine ⟨_,_,rfl,?_⟩;refine h.next hp hpc (by omega) ht ?_ (keep (by omega)) (by rw [wpc,hgo (by omega)])
      have e1:gMem (runG p m0 n) (insG p m0 n) = wrOf r.Mem (gWr (runG p m0 n) (insG p m0 n)):=by unfold gMem; rw [if_pos ⟨f5,ht⟩,h.me]
      rw [e1,show qst p m0 n = [(n,gWr (runG p m0 n) (insG p m0 n))] from if_pos f5,← hst];rfl
    · rw [show (gTrap (runG p m0 n) (insG p m0 n) != 0) = true from bne_iff_ne.2 ht,bi_true,htrap,on1_some,gg_dv,gg_dv,gg_nil]
      exact ⟨fun _ _=>rfl,fun _ g=>by omega,fun _ g=>absurd g ht⟩
  have ht:gTrap (runG p m0 n) (insG p m0 n) = 0:=by unfold gTrap; rw [if_neg f3,if_neg (by omega)]
  rw [bf f5,bi_false,bf (show ¬ formM (insG p m0 n).1 = 1 by omega),bi_false,bf (show ¬ formM (insG p m0 n).1 = 2 by omega),bi_false,bf (show ¬ formM (insG p m0 n).1 = 3 by omega),bi_false,bi_false,bi_false];refine ⟨fun _ g=>absurd ht g,?_⟩
  by_cases f6:formM (insG p m0 n).1 = 6
  · refine ⟨fun _ g=>by omega,fun _ _ _=>?_⟩
    have hb:brM (insG p m0 n) = true:=by unfold brM; exact decide_eq_true (.inl f6)
    rw [bt f6,bi_true,r1_Taken_is _ wA wB,on1_some,gg_dv,gg_nil];have hgoes:goes (runG p m0 n) (insG p m0 n) = takenM (insG p m0 n).1 (gv (runG p m0 n) (insG p m0 n).2.2.1) (gv (runG p m0 n) (insG p m0 n).2.2.2.1):=by
      unfold goes gTk;rw [decide_eq_false (show ¬ formM (insG p m0 n).1 = 7 by omega),decide_eq_true f6]; simp
    cases htk:takenM (insG p m0 n).1 (gv (runG p m0 n) (insG p m0 n).2.2.1) (gv (runG p m0 n) (insG p m0 n).2.2.2.1) with
    | true =>
      rw [htk] at hgoes;rw [bi_true,hen,bi_false];refine ⟨_,_,rfl,h.next hp hpc (by omega) ht (by rw [hmem f5,hq f5,← hst]) (keep (by omega)) ?_⟩
      rw [wp _ (tgt_right hp hpc hb)];unfold gPc;rw [hgoes,if_pos rfl]
    | false =>
      rw [htk] at hgoes;rw [bi_false,hen,bi_false];refine ⟨_,_,rfl,h.next hp hpc (by omega) ht (by rw [hmem f5,hq f5,← hst]) (keep (by omega)) ?_⟩
      rw [wpc];unfold gPc;rw [hgoes,if_neg (by simp),if_neg (by omega)]
  rw [bf f6,bi_false];by_cases f7:formM (insG p m0 n).1 = 7
  · refine ⟨fun _ g=>by omega,fun _ _ _=>?_⟩
    have hb:brM (insG p m0 n) = true:=by unfold brM; exact decide_eq_true (.inr f7)
    rw [bt f7,bi_true,hen,bi_false];refine ⟨_,_,rfl,h.next hp hpc (by omega) ht (by rw [hmem f5,hq f5,← hst]) (keep (by omega)) ?_⟩
    rw [wp _ (tgt_right hp hpc hb)];unfold gPc goes;rw [decide_eq_true f7,Bool.true_or,if_pos rfl]
  · rw [bf f7,bi_false,bt (show formM (insG p m0 n).1 = 8 by omega),bi_true,hst]
    exact ⟨fun _ _=>rfl,fun _ _ g=>absurd (show formM (insG p m0 n).1 = 8 by omega) g⟩
end
end Go.Proofs.Zz

/- The document's run: it ends where the program's way stops. -/
set_option maxRecDepth 100000
namespace Go.Proofs.Zz
open Go
variable {N:Nat}
section
variable {p:api_Program} {m0:List Int}
theorem At1.first (p:api_Program) (m0:List Int):At1 p m0 0 (api_Result.mk 0 api_Trap.z 0 (List.replicate 16 (0:Int)) m0 ([]:List api_Write)) 0 :=
 ⟨rfl,rfl,rfl,rfl,getD_rep _ _,fun k _ _=>getD_rep _ _,rfl,rfl,rfl,Nat.zero_le _,fun u hu=>absurd hu (by omega)⟩
theorem At1.mem {n:Nat} {r:api_Result} {pc:Int} (h:At1 p m0 n r pc):r.Mem = (wrG p m0 n).foldl wrOf m0:=by
 rw [h.me];exact runG_mem p m0 n fun t ht=>⟨(h.ps t ht).1,fun _=>(h.ps t ht).2.2⟩
theorem At1.regs {n:Nat} {r:api_Result} {pc:Int} (h:At1 p m0 n r pc):r.Regs = regsG (runG p m0 n):=by
 have hl:=h.l16;refine list_getD_ext (by rw [hl]; simp [regsG]) fun k hk=>?_
 have e1:(regsG (runG p m0 n)).getD k 0 = gv (runG p m0 n) (k:Int):=by
  unfold regsG;rw [List.getD_eq_getElem?_getD,List.getElem?_map,List.getElem?_range (by omega)];rfl
 rw [e1];unfold gv;by_cases h0:1≤(k:Int)∧(k:Int)≤15
 ·
  rw [if_pos h0];have:=h.rg k h0.1 h0.2;rw [Int.toNat_natCast] at this;exact this
 ·
  rw [if_neg h0,show k = 0 by omega];exact h.r0
end
end Go.Proofs.Zz
