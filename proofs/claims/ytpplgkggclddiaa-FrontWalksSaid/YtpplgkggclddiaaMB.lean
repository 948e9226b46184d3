import Derived.Test.YtpplgkggclddiaaMA
set_option linter.unusedSimpArgs false
set_option linter.unusedVariables false
/- Streams: program and reference answer as the model says. -/
namespace Go.Proofs.Zz
open Go
variable {N:Nat}
theorem hasM_iff {s:api_Split} {b:Int}:hasM s b = true↔0≤b∧b < s.Blocks.length:=by simp only [hasM,len,decide_eq_true_eq]
theorem has_idx {s:api_Split} {b:Int} (h:hasM s b = true):idx b s.Blocks.length = true:=by rw [hasM_iff] at h; exact idx_t h.1 h.2
theorem front_has_is (s:api_Split) (b:Int):front_has N s b = some (0,gB.dv (hasM s b) []):=by
 unfold front_has hasM;simp only [bi_if,decide_eq_true_eq];split
 · refine retB ?_; rw [Bool.eq_iff_iff]; simp only [decide_eq_true_eq]; omega
 · refine retB ?_; rw [df (by omega)]
theorem front_cells_is (s:api_Split) (e:Bool) (b:Int):front_cells N s e b = some (0,(gD (.sl t_api_Cell)).dv (cellsM s e b) []):=by
 unfold front_cells cellsM blockM;simp only [front_has_is,on1_some,gg_dv,gg_nil];cases h:hasM s b with
 | false=>rfl
 | true =>
  simp only [has_idx h,gd_true,Bool.not_true,bi_false,if_true];cases e <;> rfl
theorem front_End_is (s:api_Split) (p:api_Pos):front_End N s p = some (0,gI.dv (endM s p) []):=by
 unfold front_End endM blockM;simp only [front_has_is,on1_some,gg_dv,gg_nil];cases h:hasM s p.Block with
 | false=>rfl
 | true=>simp only [has_idx h,gd_true,Bool.not_true,bi_false,if_true]
theorem settle_loop (s:api_Split) (e:Bool) (z:api_Pos) (hl:s.Blocks.length≤100000):∀ (n m i:Nat) (p:api_Pos),m+i = s.Blocks.length→m < n →
  (front_Settle_l0 N n e (len s.Blocks) (i:Int) s p z = some (0,gB.dv (settleN s e m p).2 (g_api_Pos.dv (settleN s e m p).1 []))) ∨
  (∃ p',front_Settle_l0 N n e (len s.Blocks) (i:Int) s p z = some (1,gB.dv e (g_api_Split.dv s (g_api_Pos.dv p' (g_api_Pos.dv z []))))∧settleN s e m p = settleN s e 0 p'):=by
 intro n;induction n with
 | zero=>intro m i p h0 h1; omega
 | succ n ih =>
  intro m i p h0 h1;show (front_Settle_r0 N (front_Settle_l0 N n) e (len s.Blocks) (i:Int) s p z = _)∨(∃ p',front_Settle_r0 N (front_Settle_l0 N n) e (len s.Blocks) (i:Int) s p z = _∧_);unfold front_Settle_r0;cases m with
  | zero =>
   rw [ge_len (by omega)];exact .inr ⟨p,rfl,rfl⟩
  | succ m =>
   rw [lt_len (by omega)];simp only [bi_true,front_has_is,front_cells_is,front_End_is,on1_some,gg_dv,gg_nil,wS (show i≤100000000 by omega)];unfold settleN;cases h:hasM s p.Block with
   | false=>exact .inl rfl
   | true =>
    simp only [has_idx h,gd_true,Bool.not_true,bi_false,Bool.true_eq_false,if_false,show s.Blocks.getD p.Block.toNat api_Block.z = blockM s p.Block from rfl];by_cases h2:p.Index < len (cellsM s e p.Block)
    · rw [dt h2,if_pos h2]; exact .inl rfl
    ·
     rw [df h2,if_neg h2,bi_false];by_cases h3:(blockM s p.Block).2.2.1 < 0
     · rw [dt h3,if_pos h3]; exact .inl rfl
     ·
      rw [df h3,if_neg h3,bi_false];exact ih m (i+1) _ (by omega) (by omega)
theorem front_Settle_is (s:api_Split) (e:Bool) (p:api_Pos) (hl:s.Blocks.length≤100000) (hN:s.Blocks.length < N):front_Settle N s e p = some (0,g_api_Pos.dv (settleM s e p).1 (gB.dv (settleM s e p).2 [])):=by
 unfold front_Settle settleM;rcases settle_loop (N:=N) s e api_Pos.z hl N s.Blocks.length 0 p (by omega) hN with h | ⟨p',h,h2⟩
 ·
  simp only [Int.natCast_zero] at h;rw [h];simp only [onB_fst,gg_dv,gg_nil]
 ·
  simp only [Int.natCast_zero] at h;rw [h,h2,onB_snd _ _ (by decide)];simp only [gg_dv,gg_nil,front_has_is,front_cells_is,on1_some];unfold settleN;cases hasM s p'.Block <;> rfl
theorem settleN_spec (s:api_Split) (e:Bool):∀ (m:Nat) (p:api_Pos),(settleN s e m p).2 = false→hasM s (settleN s e m p).1.Block = true∧(settleN s e m p).1.Index < len (cellsM s e (settleN s e m p).1.Block)
 | 0,p,h=>by
  unfold settleN at *;simp only [Bool.or_eq_false_iff,Bool.not_eq_false',decide_eq_false_iff_not] at h;exact ⟨h.1,by simp only; omega⟩
 | m+1,p,h=>by
  unfold settleN at *;split at h
  · simp at h
  ·
   rename_i h1;rw [if_neg h1];split at h
   ·
    rename_i h2;rw [if_pos h2];exact ⟨by simpa using h1,h2⟩
   ·
    rename_i h2;rw [if_neg h2];split at h
    · simp at h
    ·
     rename_i h3;rw [if_neg h3];exact settleN_spec s e m _ h
theorem front_Next_is (s:api_Split) (e:Bool) (p:api_Pos) (hl:s.Blocks.length≤100000) (hN:s.Blocks.length < N):front_Next N s e p = some (0,g_api_Cell.dv (nextM s e p).1 (gI.dv (nextM s e p).2.1 (gB.dv (nextM s e p).2.2 []))):=by
 unfold front_Next nextM;simp only [front_Settle_is s e p hl hN,on1_some,gg_dv,gg_nil,front_End_is,front_cells_is];have hs:=settleN_spec s e s.Blocks.length p;rw [show settleN s e s.Blocks.length p = settleM s e p from rfl] at hs;generalize settleM s e p = q at *;obtain ⟨q,f⟩:=q;cases f with
 | true=>simp only [bi_true,true_or,if_true]
 | false =>
  obtain ⟨h1,h2⟩:=hs rfl;simp only [bi_false,Bool.false_eq_true,false_or];by_cases h3:q.Index < 0
  · rw [dt h3,if_pos h3,bi_true]
  ·
   rw [df h3,if_neg h3,bi_false];simp only [len] at h2;rw [idx_t (by omega) h2,gd_true];rfl
theorem front_Go_is (s:api_Split) (p:api_Pos) (t:Bool):front_Go N s p t = some (0,g_api_Pos.dv (goM s p t) []):=by
 unfold front_Go goM;simp only [front_has_is,front_End_is,on1_some,gg_dv,gg_nil];cases t with
 | false=>rfl
 | true =>
  cases h:hasM s p.Block with
  | false=>rfl
  | true =>
   simp only [has_idx h,gd_true,bi_true,true_and,blockM];cases hasM s (s.Blocks.getD p.Block.toNat api_Block.z).2.2.2.1 <;> rfl
end Go.Proofs.Zz

/- Sides and arithmetic: program and reference answer as the model says. -/
namespace Go.Proofs.Zz
open Go
variable {N:Nat}
theorem lit_32:decide ((32:Int) < (0:Int)) = false:=rfl
def U32 (x:Int):Prop:=0≤x∧x≤4294967295
theorem w_U32 (x:Int):U32 (w.u32 x):=by simp only [w.u32,IntKind.wrap_u32,U32]; omega
theorem sg_is {a:Int} (h:U32 a):sg a = if a≥2147483648 then a - 4294967296 else a:=by
 simp only [sg,w.i32,IntKind.wrap_i32];simp only [U32] at h;split <;> omega
theorem r1_Int_is {a:Int} (h:U32 a):r1_Int N a = some (0,gI.dv (sg a) []):=by
 unfold r1_Int;simp only [U32] at h;rw [sg_is h,wI (x:=a) (by omega) (by omega),wI (by omega) (by omega)];simp only [bi_if,decide_eq_true_eq];split <;> rfl
theorem r1_Taken_is (op:Int) {a b:Int} (ha:U32 a) (hb:U32 b):r1_Taken N op a b = some (0,gB.dv (takenM op a b) []):=by
 unfold r1_Taken takenM;simp only [r1_Int_is ha,r1_Int_is hb,on1_some,gg_dv,gg_nil];simp only [bi_if,beq_iff_eq]
 repeat' split
 all_goals rfl
theorem r1_one_is (b:Bool):r1_one N b = some (0,gW.dv (one01 b) []):=by cases b <;> rfl
theorem sg_range {a:Int} (h:U32 a):-2147483648≤sg a∧sg a≤2147483647:=by
 rw [sg_is h]; simp only [U32] at h; split <;> omega
theorem sg_zero {a:Int} (h:U32 a) (h0:a≠0):sg a≠0:=by
 rw [sg_is h]; simp only [U32] at h; split <;> omega
theorem bitAnd_nn (a b:Int):decide (bitAnd .u32 a b < 0) = false:=df (by
 unfold bitAnd;have:=w_U32 (((BitVec.ofInt IntKind.u32.bits a &&& BitVec.ofInt IntKind.u32.bits b).toNat:Nat):Int);simp only [w.u32,U32] at this;omega)
theorem mul_le {a b:Int} (ha:-2147483648≤a∧a≤2147483647) (hb:-2147483648≤b∧b≤2147483647):-4611686018427387904≤a*b∧a*b≤4611686018427387904:=by
 have h1:a*b≤a.natAbs*b.natAbs:=by
  have:a*b≤((a*b).natAbs:Int):=Int.le_natAbs
  rwa [Int.natAbs_mul,Int.natCast_mul] at this
 have h2:-(a*b)≤a.natAbs*b.natAbs:=by
  have:-(a*b)≤((-(a*b)).natAbs:Int):=Int.le_natAbs
  rwa [Int.natAbs_neg,Int.natAbs_mul,Int.natCast_mul] at this
 have h3:a.natAbs*b.natAbs≤2147483648*2147483648:=Nat.mul_le_mul (by omega) (by omega);omega
theorem tdiv_range {a b:Int} (ha:U32 a) (hb:U32 b):U32 (Int.tdiv a b):=by
 simp only [U32] at *;rw [Int.tdiv_eq_ediv_of_nonneg ha.1];refine ⟨Int.ediv_nonneg ha.1 hb.1,?_⟩;have:=Int.ediv_le_self (a:=a) b ha.1;omega
end Go.Proofs.Zz
