import Derived.Test.YtpplgkggclddiaaMX
set_option linter.unusedSimpArgs false
set_option linter.unusedVariables false
/- With a trap noted no cell of its step, or a later one, is done: the model's law, and the reference law's answer. -/
namespace Go.Proofs.Zz
open Go
variable {N:Nat}
/-! A settled place is settled -/
/-! Where E comes to -/
end Go.Proofs.Zz

/- The reference's operations. -/
namespace Go.Proofs.Zz
open Go
variable {N:Nat}
theorem and31 (b:Int):(bitAnd .u32 b 31).toNat≤31:=by
 unfold bitAnd;have h:((BitVec.ofInt IntKind.u32.bits b &&& BitVec.ofInt IntKind.u32.bits 31).toNat)≤31:=by
  rw [BitVec.toNat_and];exact Nat.and_le_right
 rw [show IntKind.u32.wrap (((BitVec.ofInt IntKind.u32.bits b &&& BitVec.ofInt IntKind.u32.bits 31).toNat:Nat):Int) = (((BitVec.ofInt IntKind.u32.bits b &&& BitVec.ofInt IntKind.u32.bits 31).toNat:Nat):Int) from IntWalk.u32_in _ (by omega)];omega
theorem shr_64 (x b:Int):shr .i64 x (bitAnd .u32 b 31) = shr .i32 x (bitAnd .u32 b 31):=by
 have:=and31 b;unfold shr;rw [show min (bitAnd .u32 b 31).toNat IntKind.i64.bits = (bitAnd .u32 b 31).toNat from Nat.min_eq_left (show _≤64 by omega),show min (bitAnd .u32 b 31).toNat IntKind.i32.bits = (bitAnd .u32 b 31).toNat from Nat.min_eq_left (show _≤32 by omega)]
theorem u32_i64 (x:Int):w.u32 (w.i64 x) = w.u32 x:=by simp only [w.u32,w.i64,IntKind.wrap_u32,IntKind.wrap_i64]; omega
theorem u32_is (x:Int):w.u32 x = x % 4294967296:=by simp only [w.u32,IntKind.wrap_u32]
theorem sg_mod {a:Int} (h:U32 a):sg a % 4294967296 = a % 4294967296:=by
 rw [sg_is h]; split <;> omega
theorem sg_mul {a b:Int} (ha:U32 a) (hb:U32 b):w.u32 (sg a*sg b) = w.u32 (a*b):=by
 rw [u32_is,u32_is,Int.mul_emod,sg_mod ha,sg_mod hb,← Int.mul_emod]
theorem div_is {a b:Int} (h:b≠0):r1_div N a b = some (0,gI.dv (w.i64 (Int.tdiv a b)) (gI.dv (Int.tmod a b) [])):=by
 unfold r1_div;rw [df h]; rfl
theorem ref_op {op a b im : Int} (ha : U32 a) (hb : U32 b) (h1 : 1 ≤ op) (h2 : op ≤ 16) : ( 
 bi (op == 1) (
  some (0, gW.dv (w.u32 (a + b)) (gB.dv true []))) <|
 bi (op == 2) (
  some (0, gW.dv (w.u32 (a - b)) (gB.dv true []))) <|
 bi (op == 3) (
  some (0, gW.dv (bitAnd .u32 a b) (gB.dv true []))) <|
 bi (op == 4) (
  some (0, gW.dv (bitOr .u32 a b) (gB.dv true []))) <|
 bi (op == 5) (
  some (0, gW.dv (bitXor .u32 a b) (gB.dv true []))) <|
 bi (op == 6) (
  gf (decide ((bitAnd .u32 b 31) < 0)) <|
  some (0, gW.dv (shl .u32 a (bitAnd .u32 b 31)) (gB.dv true []))) <|
 bi (op == 7) (
  gf (decide ((bitAnd .u32 b 31) < 0)) <|
  some (0, gW.dv (shr .u32 a (bitAnd .u32 b 31)) (gB.dv true []))) <|
 bi (op == 8) (
  gf (decide ((bitAnd .u32 b 31) < 0)) <|
  some (0, gW.dv (w.u32 (shr .i64 (sg a) (bitAnd .u32 b 31))) (gB.dv true []))) <|
 bi (op == 9) (
  on1 (r1_one N (decide ((sg a) < (sg b)))) <| gg [pW] <| fun (x13 : Int) => 
  some (0, gW.dv x13 (gB.dv true []))) <|
 bi (op == 10) (
  on1 (r1_one N (decide (a < b))) <| gg [pW] <| fun (x14 : Int) => 
  some (0, gW.dv x14 (gB.dv true []))) <|
 bi (op == 11) (
  some (0, gW.dv (w.u32 (w.i64 ((sg a) * (sg b)))) (gB.dv true []))) <|
 bi (op == 12) (
  gf (decide ((32 : Int) < (0 : Int))) <|
  some (0, gW.dv (w.u32 (shr .i64 (w.i64 ((sg a) * (sg b))) 32)) (gB.dv true []))) <|
 bi (op == 25) (
  gf (decide ((18 : Int) < (0 : Int))) <|
  some (0, gW.dv (shl .u32 (w.u32 im) 18) (gB.dv true []))) <|
 bi (b == 0) (
  some (0, gW.dv 0 (gB.dv false []))) <|
 on1 (r1_div N (sg a) (sg b)) <| gg [pI, pI] <| fun (x15 : Int) (x16 : Int) => 
 bi (op == 13) (
  some (0, gW.dv (w.u32 x15) (gB.dv true []))) <|
 bi (op == 15) (
  some (0, gW.dv (w.u32 x16) (gB.dv true []))) <|
 bi (op == 14) (
  gf (decide (b = 0)) <|
  some (0, gW.dv (w.u32 (Int.tdiv a b)) (gB.dv true []))) <|
 gf (decide (b = 0)) <|
 some (0, gW.dv (Int.tmod a b) (gB.dv true [])) : Option Rs) = some (0, gW.dv (opM op a b).1 (gB.dv (opM op a b).2 [])) := by
  have hm : w.i64 (sg a * sg b) = sg a * sg b := by
    have := mul_le (sg_range ha) (sg_range hb)
    exact wI (by omega) (by omega)
  simp only [bitAnd_nn, gf_false, lit_32, r1_one_is, on1_some, gg_dv, gg_nil, shr_64, u32_i64, sg_mul ha hb]
  by_cases hz : b = 0
  · rw [bt hz, bi_true]
    have hop : op = 1 ∨ op = 2 ∨ op = 3 ∨ op = 4 ∨ op = 5 ∨ op = 6 ∨ op = 7 ∨ op = 8 ∨ op = 9 ∨ op = 10 ∨ op = 11 ∨ op = 12 ∨ 12 < op := by omega
    rcases hop with rfl | rfl | rfl | rfl | rfl | rfl | rfl | rfl | rfl | rfl | rfl | rfl | hop
    all_goals first
      | rfl
      | (rw [hm]; rfl)
      | (rw [bf (show op ≠ 1 by omega), bf (show op ≠ 2 by omega), bf (show op ≠ 3 by omega), bf (show op ≠ 4 by omega), bf (show op ≠ 5 by omega), bf (show op ≠ 6 by omega), bf (show op ≠ 7 by omega), bf (show op ≠ 8 by omega), bf (show op ≠ 9 by omega), bf (show op ≠ 10 by omega), bf (show op ≠ 11 by omega), bf (show op ≠ 12 by omega), bf (show op ≠ 25 by omega)]
         simp only [bi_false]
         unfold opM
         rw [if_neg (show op ≠ 1 by omega), if_neg (show op ≠ 2 by omega), if_neg (show op ≠ 3 by omega), if_neg (show op ≠ 4 by omega), if_neg (show op ≠ 5 by omega), if_neg (show op ≠ 6 by omega), if_neg (show op ≠ 7 by omega), if_neg (show op ≠ 8 by omega), if_neg (show op ≠ 9 by omega), if_neg (show op ≠ 10 by omega), if_neg (show op ≠ 11 by omega), if_neg (show op ≠ 12 by omega), if_pos hz])
  · have hs := sg_zero hb hz
    rw [bf hz, bi_false, df hz, div_is hs]
    simp only [on1_some, gg_dv, gg_nil, gf_false, u32_i64]
    have hop : op = 1 ∨ op = 2 ∨ op = 3 ∨ op = 4 ∨ op = 5 ∨ op = 6 ∨ op = 7 ∨ op = 8 ∨ op = 9 ∨ op = 10 ∨ op = 11 ∨ op = 12 ∨ op = 13 ∨ op = 14 ∨ op = 15 ∨ op = 16 := by omega
    have e1 : w.u32 (Int.tdiv a b) = Int.tdiv a b := by
      have := tdiv_range ha hb
      simp only [U32] at this
      exact IntWalk.u32_in _ (by omega)
    have ho : ∀ k : Int, 13 ≤ k → k ≤ 16 → opM k a b = (if k = 13 then (w.u32 (Int.tdiv (sg a) (sg b)), true) else if k = 15 then (w.u32 (Int.tmod (sg a) (sg b)), true) else if k = 14 then (Int.tdiv a b, true) else (Int.tmod a b, true)) := by
      intro op h1 h2
      unfold opM
      rw [if_neg (show op ≠ 1 by omega), if_neg (show op ≠ 2 by omega), if_neg (show op ≠ 3 by omega), if_neg (show op ≠ 4 by omega), if_neg (show op ≠ 5 by omega), if_neg (show op ≠ 6 by omega), if_neg (show op ≠ 7 by omega), if_neg (show op ≠ 8 by omega), if_neg (show op ≠ 9 by omega), if_neg (show op ≠ 10 by omega), if_neg (show op ≠ 11 by omega), if_neg (show op ≠ 12 by omega), if_neg hz]
    rcases hop with rfl | rfl | rfl | rfl | rfl | rfl | rfl | rfl | rfl | rfl | rfl | rfl | rfl | rfl | rfl | rfl
    all_goals first
      | (rw [hm]; rfl)
      | (rw [ho 13 (by decide) (by decide)]; rfl)
      | (rw [ho 14 (by decide) (by decide), e1]; rfl)
      | (rw [ho 15 (by decide) (by decide)]; rfl)
      | (rw [ho 16 (by decide) (by decide)]; rfl)
      | rfl
theorem plain_range {op:Int} (h1:17≤op) (h2:op≤24):1≤plainM op∧plainM op≤16:=by
 have h:op = 17∨op = 18∨op = 19∨op = 20∨op = 21∨op = 22∨op = 23∨op = 24:=by omega
 rcases h with rfl | rfl | rfl | rfl | rfl | rfl | rfl | rfl <;> exact ⟨by decide,by decide⟩
theorem plain_list {op:Int} (h1:17≤op) (h2:op≤24):List.getD [(1:Int),3,4,5,9,6,7,8] (Int.toNat (w.i64 (op - 17))) 0 = plainM op∧idx (w.i64 (op - 17)) (List.length [(1:Int),3,4,5,9,6,7,8]) = true:=by
 have h:op = 17∨op = 18∨op = 19∨op = 20∨op = 21∨op = 22∨op = 23∨op = 24:=by omega
 rcases h with rfl | rfl | rfl | rfl | rfl | rfl | rfl | rfl <;> exact ⟨rfl,rfl⟩
theorem form_range (op:Int):(formM op = 1→1≤op∧op≤16)∧(formM op = 2→17≤op∧op≤24)∧(formM op = 3→op = 25)∧0≤formM op:=by
 unfold formM
 repeat' split
 all_goals omega
theorem lui_is (im:Int):shl .u32 (w.u32 im) 18 = w.u32 (shl .i64 im 18):=by
 show IntKind.u32.wrap (IntKind.u32.wrap im*2 ^ 18) = IntKind.u32.wrap (IntKind.i64.wrap (im*2 ^ 18));simp only [IntKind.wrap_u32,IntKind.wrap_i64];omega
theorem r1_Do_is (i:api_Ins) {a b:Int} (ha:U32 a) (hb:U32 b):r1_Do N i a b = some (0,gW.dv (doM i a b).1 (gB.dv (doM i a b).2 [])):=by
 unfold r1_Do;simp only [r1_Form_is,r1_RightIns_is,on1_some,gg_dv,gg_nil,r1_Int_is ha,r1_Int_is hb,r1_Int_is (w_U32 _)];obtain ⟨f1,f2,f3,f4⟩:=form_range i.1;cases hr:rightIns i with
 | false =>
  have e:doM i a b = (0,true):=if_pos (.inl hr);rw [e]; rfl
 | true =>
  rw [Bool.not_true,bi_false];have hf:formM i.1≠0:=by
   intro h;unfold rightIns at hr;rw [h] at hr;simp at hr
  rw [df (show ¬ formM i.1 < 1 by omega),bi_false];by_cases h3:formM i.1 > 3
  ·
   have e:doM i a b = (0,true):=if_pos (.inr h3);rw [e,dt h3,bi_true]
  rw [df h3,bi_false];have e0:doM i a b = (if formM i.1 = 3 then (w.u32 (shl .i64 i.2.2.2.2.1 18),true) else opM (plainM i.1) a (if formM i.1 = 2 then w.u32 i.2.2.2.2.1 else b)):=if_neg (by rw [hr]; simp; omega);rw [e0];by_cases h2:formM i.1 = 2
  ·
   obtain ⟨g1,g2⟩:=f2 h2;rw [bt h2,bi_true,(plain_list g1 g2).2,gd_true,(plain_list g1 g2).1,if_neg (show ¬ formM i.1 = 3 by omega),if_pos h2];obtain ⟨g3,g4⟩:=plain_range g1 g2;exact ref_op (N:=N) (im:=i.2.2.2.2.1) ha (w_U32 i.2.2.2.2.1) g3 g4
  ·
   rw [bf h2,bi_false];by_cases h1:formM i.1 = 1
   ·
    obtain ⟨g1,g2⟩:=f1 h1;have e1:plainM i.1 = i.1:=by
     unfold plainM;rw [if_neg (show i.1≠17 by omega),if_neg (show i.1≠18 by omega),if_neg (show i.1≠19 by omega),if_neg (show i.1≠20 by omega),if_neg (show i.1≠21 by omega),if_neg (show i.1≠22 by omega),if_neg (show i.1≠23 by omega),if_neg (show i.1≠24 by omega)]
    rw [if_neg (show ¬ formM i.1 = 3 by omega),if_neg h2,e1];exact ref_op (N:=N) (im:=i.2.2.2.2.1) ha hb g1 g2
   ·
    have h3:formM i.1 = 3:=by omega
    rw [if_pos h3,f3 h3,← lui_is];rfl
end Go.Proofs.Zz

/- What E does in a cycle: the reference answers as the model says. -/
namespace Go.Proofs.Zz
open Go
variable {N:Nat}
end Go.Proofs.Zz

/- What E names, whether it is free, what is noted, what a cycle of E does: the reference law's answer. -/
namespace Go.Proofs.Zz
open Go
variable {N:Nat}
end Go.Proofs.Zz
