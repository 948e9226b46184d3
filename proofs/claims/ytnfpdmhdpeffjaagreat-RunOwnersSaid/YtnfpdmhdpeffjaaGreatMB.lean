import Derived.Test.YtnfpdmhdpeffjaaGreatMA
set_option linter.unusedSimpArgs false
set_option linter.unusedVariables false
/- Streams: program and reference answer as the model says. -/
namespace Go.Proofs.Zz
open Go
variable {N:Nat}
theorem a2u {s:a0g} {b:Int}:hasM s b = true↔0≤b∧b < s.Blocks.length:=by simp only [hasM,len,decide_eq_true_eq]
theorem a7X {s:a0g} {b:Int} (h:hasM s b = true):idx b s.Blocks.length = true:=by rw [a2u] at h; exact a1l h.1 h.2
theorem a8D (s:a0g) (b:Int):a7o N s b = some (0,gB.dv (hasM s b) []):=by
 unfold a7o hasM;simp only [a1u,decide_eq_true_eq];split
 · refine retB ?_; rw [Bool.eq_iff_iff]; simp only [decide_eq_true_eq]; omega
 · refine retB ?_; rw [df (by omega)]
theorem b2y (s:a0g) (e:Bool) (b:Int):a7Z N s e b = some (0,(gD (.sl a0i)).dv (cellsM s e b) []):=by
 unfold a7Z cellsM blockM;simp only [a8D,g7j,g7m,g7l];cases h:hasM s b with
 | false=>rfl
 | true =>
  simp only [a7X h,g7n,Bool.not_true,g7i,if_true];cases e <;> rfl
theorem b6X (s:a0g) (p:a0C):b0G N s p = some (0,gI.dv (endM s p) []):=by
 unfold b0G endM blockM;simp only [a8D,g7j,g7m,g7l];cases h:hasM s p.Block with
 | false=>rfl
 | true=>simp only [a7X h,g7n,Bool.not_true,g7i,if_true]
def I64 (x:Int):Prop:=-9223372036854775808≤x∧x≤9223372036854775807
theorem wI64 {x:Int} (h:I64 x):w.i64 x = x:=IntWalk.i64_in _ h
theorem e5f (x:Int):I64 (w.i64 x):=by simp only [w.i64,IntKind.wrap_i64,I64]; omega
theorem d7e (s:a0g) (e:Bool) (z:a0C) (hl:s.Blocks.length≤100000):∀ (n m i:Nat) (p:a0C),m+i = s.Blocks.length→m < n →
  (a3r N n e (len s.Blocks) (i:Int) s p z = some (0,gB.dv (settleN s e m p).2 (a0P.dv (settleN s e m p).1 []))) ∨
  (∃ p',a3r N n e (len s.Blocks) (i:Int) s p z = some (1,gB.dv e (a0H.dv s (a0P.dv p' (a0P.dv z []))))∧settleN s e m p = settleN s e 0 p'):=by
 intro n;induction n with
 | zero=>intro m i p h0 h1; omega
 | succ n ih =>
  intro m i p h0 h1;show (a4y N (a3r N n) e (len s.Blocks) (i:Int) s p z = _)∨(∃ p',a4y N (a3r N n) e (len s.Blocks) (i:Int) s p z = _∧_);unfold a4y;cases m with
  | zero =>
   rw [a1e (by omega)];exact .inr ⟨p,rfl,rfl⟩
  | succ m =>
   rw [a1f (by omega)];simp only [g7k,a8D,b2y,b6X,g7j,g7m,g7l,wS (show i≤100000000 by omega)];unfold settleN;cases h:hasM s p.Block with
   | false=>exact .inl rfl
   | true =>
    simp only [a7X h,g7n,Bool.not_true,g7i,Bool.true_eq_false,if_false,show s.Blocks.getD p.Block.toNat a0x.z = blockM s p.Block from rfl];by_cases h2:p.Index < len (cellsM s e p.Block)
    · rw [dt h2,if_pos h2]; exact .inl rfl
    ·
     rw [df h2,if_neg h2,g7i];by_cases h3:(blockM s p.Block).2.2.1 < 0
     · rw [dt h3,if_pos h3]; exact .inl rfl
     ·
      rw [df h3,if_neg h3,g7i];exact ih m (i+1) _ (by omega) (by omega)
theorem b0l (s:a0g) (e:Bool) (p:a0C) (hl:s.Blocks.length≤100000) (hN:s.Blocks.length < N):a6v N s e p = some (0,a0P.dv (settleM s e p).1 (gB.dv (settleM s e p).2 [])):=by
 unfold a6v settleM;rcases d7e (N:=N) s e a0C.z hl N s.Blocks.length 0 p (by omega) hN with h | ⟨p',h,h2⟩
 ·
  simp only [Int.natCast_zero] at h;rw [h];simp only [g7v,g7m,g7l]
 ·
  simp only [Int.natCast_zero] at h;rw [h,h2,g7t _ _ (by decide)];simp only [g7m,g7l,a8D,b2y,g7j];unfold settleN;cases hasM s p'.Block <;> rfl
theorem b6D (s:a0g) (e:Bool):∀ (m:Nat) (p:a0C),(settleN s e m p).2 = false→hasM s (settleN s e m p).1.Block = true∧(settleN s e m p).1.Index < len (cellsM s e (settleN s e m p).1.Block)
 | 0,p,h=>by
  unfold settleN at *;simp only [Bool.or_eq_false_iff,Bool.not_eq_false',decide_eq_false_iff_not] at h;exact ⟨h.1,by simp only; omega⟩
 | m+1,p,h=>by
  unfold settleN at *;split at h
  · simp at h
  ·
   rename_i h1;rw [if_neg h1];split at h
   ·
    rename_i h2;rw [if_pos h2];exact ⟨by simpa using h1,h2⟩
   ·
    rename_i h2;rw [if_neg h2];split at h
    · simp at h
    ·
     rename_i h3;rw [if_neg h3];exact b6D s e m _ h
theorem a6W (s:a0g) (e:Bool) (p:a0C) (hl:s.Blocks.length≤100000) (hN:s.Blocks.length < N):a6o N s e p = some (0,a0G.dv (nextM s e p).1 (gI.dv (nextM s e p).2.1 (gB.dv (nextM s e p).2.2 []))):=by
 unfold a6o nextM;simp only [b0l s e p hl hN,g7j,g7m,g7l,b6X,b2y];have hs:=b6D s e s.Blocks.length p;rw [show settleN s e s.Blocks.length p = settleM s e p from rfl] at hs;generalize settleM s e p = q at *;obtain ⟨q,f⟩:=q;cases f with
 | true=>simp only [g7k,true_or,if_true]
 | false =>
  obtain ⟨h1,h2⟩:=hs rfl;simp only [g7i,Bool.false_eq_true,false_or];by_cases h3:q.Index < 0
  · rw [dt h3,if_pos h3,g7k]
  ·
   rw [df h3,if_neg h3,g7i];simp only [len] at h2;rw [a1l (by omega) h2,g7n];rfl
theorem c8w (s:a0g) (p:a0C) (t:Bool):c2D N s p t = some (0,a0P.dv (goM s p t) []):=by
 unfold c2D goM;simp only [a8D,b6X,g7j,g7m,g7l];cases t with
 | false=>rfl
 | true =>
  cases h:hasM s p.Block with
  | false=>rfl
  | true =>
   simp only [a7X h,g7n,g7k,true_and,blockM];cases hasM s (s.Blocks.getD p.Block.toNat a0x.z).2.2.2.1 <;> rfl
end Go.Proofs.Zz

/- Sides and arithmetic: program and reference answer as the model says. -/
namespace Go.Proofs.Zz
open Go
variable {N:Nat}
theorem e2Z {r:Int} (h:1≤r∧r≤15):idx r 16 = true:=a1l (by omega) (by omega)
theorem a3A (d:a0v) (r:Int):a2s N d r = some (0,gW.dv (getM d r) []):=by
 unfold a2s getM;simp only [a1u,decide_eq_true_eq];by_cases h:1≤r∧r≤15
 · rw [if_neg (by omega),if_neg (by omega),if_pos h,e2Z h,g7n]
 ·
  rw [if_neg h];split
  · rfl
  · rw [if_pos (by omega)]
theorem e6u {x:a0b} {r:Int} {a b:Option Rs} (h1:1≤r∧r≤15→a = b) (h2:¬ (1≤r∧r≤15)→some (0,a0c.dv x []) = b) :
  bi (decide (r≥1)) (bi (decide (r≤15)) (gd (idx r 16) (gd (idx r 16) a)) (some (0,a0c.dv x []))) (some (0,a0c.dv x [])) = b:=by
 simp only [a1u,decide_eq_true_eq];by_cases h:1≤r∧r≤15
 · rw [if_pos h.1,if_pos h.2,e2Z h,g7n,g7n]; exact h1 h
 ·
  split
  · rw [if_neg (by omega)]; exact h2 h
  · exact h2 h
theorem a8u (r v ready:Int) (x:a0b):a7S N r v ready x = some (0,a0c.dv { x with E:=setM x.E r v ready } []):=by
 unfold a7S setM;exact e6u (fun h=>by rw [if_pos h]) (fun h=>by rw [if_neg h])
theorem b2z (r v ready:Int) (x:a0b):b0W N r v ready x = some (0,a0c.dv { x with A:=setM x.A r v ready } []):=by
 unfold b0W setM;exact e6u (fun h=>by rw [if_pos h]) (fun h=>by rw [if_neg h])
theorem a5e (x:a0b):a3V N x = some (0,a0c.dv { x with E:=behindM x.E } []):=rfl
theorem a3t (x:a0b):a1i N x = some (0,a0c.dv { x with A:=behindM x.A } []):=rfl
theorem c7y (x:a0b):b6p N x = some (0,a0c.dv { x with E:=haltM x.E } []):=rfl
theorem c8v (x:a0b):b1F N x = some (0,a0c.dv { x with A:=haltM x.A } []):=rfl
theorem b3P (s:a0g) (t:Bool) (x:a0b):b0f N s t x = some (0,a0c.dv { x with E:=goD s x.Cycle x.E t } []):=by
 unfold b0f goD;rw [c8w,g7j,g7m,g7l];cases t <;> rfl
theorem b4E (s:a0g) (t:Bool) (x:a0b):a7P N s t x = some (0,a0c.dv { x with A:=goD s x.Cycle x.A t } []):=by
 unfold a7P goD;rw [c8w,g7j,g7m,g7l];cases t <;> rfl
theorem e6D:decide ((1:Int) < (1:Int)) = false:=rfl
theorem e6G:decide ((1:Int) > (50:Int)) = false:=rfl
theorem d9G:decide ((32:Int) < (0:Int)) = false:=rfl
theorem e2l (a:Int):bi (decide (a < 1)) (some (0,gI.dv (1:Int) [])) (bi (decide (a > 50)) (some (0,gI.dv (1:Int) [])) (some (0,gI.dv a []))) = (some (0,gI.dv (if a < 1∨a > 50 then 1 else a) []):Option Rs):=by
 simp only [a1u,decide_eq_true_eq];split
 · rw [if_pos (.inl (by assumption))]
 ·
  split
  · rw [if_pos (.inr (by assumption))]
  · rw [if_neg (by omega)]
theorem b9w (c:a0f) (op:Int):b0K N c op = some (0,gI.dv (latM c op) []):=by
 unfold b0K latM;simp only [e2l,e6D,e6G,g7i];simp only [a1u,beq_iff_eq]
 repeat' split
 all_goals first | rfl | omega
theorem c5r (op a b:Int):b6n N op a b = some (0,gB.dv (takenM op a b) []):=by
 unfold b6n takenM sg;simp only [a1u,beq_iff_eq]
 repeat' split
 all_goals rfl
def U32 (x:Int):Prop:=0≤x∧x≤4294967295
theorem a5x (x:Int):U32 (w.u32 x):=by simp only [w.u32,IntKind.wrap_u32,U32]; omega
theorem d8w {a:Int} (h:U32 a):sg a = if a≥2147483648 then a - 4294967296 else a:=by
 simp only [sg,w.i32,IntKind.wrap_i32];simp only [U32] at h;split <;> omega
theorem d5D (op:Int):b6L N op = some (0,gI.dv (plainM op) []):=by
 unfold b6L plainM;simp only [a1u,beq_iff_eq]
 repeat' split
 all_goals rfl
theorem e1o (b:Bool):d3f N b = some (0,gW.dv (one01 b) []):=by cases b <;> rfl
theorem c6q {a:Int} (h:U32 a):-2147483648≤sg a∧sg a≤2147483647:=by
 rw [d8w h]; simp only [U32] at h; split <;> omega
theorem e2K {a:Int} (h:U32 a) (h0:a≠0):sg a≠0:=by
 rw [d8w h]; simp only [U32] at h; split <;> omega
theorem d3O (a b:Int):decide (bitAnd .u32 a b < 0) = false:=df (by
 unfold bitAnd;have:=a5x (((BitVec.ofInt IntKind.u32.bits a &&& BitVec.ofInt IntKind.u32.bits b).toNat:Nat):Int);simp only [w.u32,U32] at this;omega)
theorem e6p {a b:Int} (ha:-2147483648≤a∧a≤2147483647) (hb:-2147483648≤b∧b≤2147483647):-4611686018427387904≤a*b∧a*b≤4611686018427387904:=by
 have h1:a*b≤a.natAbs*b.natAbs:=by
  have:a*b≤((a*b).natAbs:Int):=Int.le_natAbs
  rwa [Int.natAbs_mul,Int.natCast_mul] at this
 have h2:-(a*b)≤a.natAbs*b.natAbs:=by
  have:-(a*b)≤((-(a*b)).natAbs:Int):=Int.le_natAbs
  rwa [Int.natAbs_neg,Int.natAbs_mul,Int.natCast_mul] at this
 have h3:a.natAbs*b.natAbs≤2147483648*2147483648:=Nat.mul_le_mul (by omega) (by omega);omega
theorem d7d {a b:Int} (ha:U32 a) (hb:U32 b):c6w N (w.i32 a) (w.i32 b) = some (0,gW.dv (w.u32 (shr .i64 (sg a*sg b) 32)) []):=by
 unfold c6w;have h1:=c6q ha;have h2:=c6q hb;have h3:=e6p h1 h2;rw [d9G,g7w,show w.i32 a = sg a from rfl,show w.i32 b = sg b from rfl,wI (x:=sg a) (by omega) (by omega),wI (x:=sg b) (by omega) (by omega),wI (x:=sg a*sg b) (by omega) (by omega)]
theorem e3t {a:Int} (h:U32 a):bitOr .u64 (shl .u64 (w.u64 0) 32) (w.u64 a) = a:=by
 simp only [U32] at h;have e:w.u64 a = a:=IntWalk.u64_in _ (by omega);rw [e,show shl .u64 (w.u64 0) 32 = 0 from rfl];show IntKind.u64.wrap (((BitVec.ofInt 64 0 ||| BitVec.ofInt 64 a).toNat:Nat):Int) = a;rw [show BitVec.ofInt 64 0 = 0#64 from rfl,BitVec.zero_or,BitVec.toNat_ofInt];rw [IntWalk.u64_in _ (by omega)];omega
theorem d1B {a b:Int} (ha:U32 a) (hb:U32 b):U32 (Int.tdiv a b):=by
 simp only [U32] at *;rw [Int.tdiv_eq_ediv_of_nonneg ha.1];refine ⟨Int.ediv_nonneg ha.1 hb.1,?_⟩;have:=Int.ediv_le_self (a:=a) b ha.1;omega
theorem d0H {a b:Int} (ha:U32 a) (hb:U32 b) (h0:b≠0):U32 (Int.tmod a b):=by
 simp only [U32] at *;rw [Int.tmod_eq_emod_of_nonneg ha.1];have:=Int.emod_nonneg a h0;have:=Int.emod_lt_of_pos a (show 0 < b by omega);omega
theorem e5Y {a b:Int} (ha:U32 a) (hb:U32 b) (h0:b≠0):a4v N 0 a b = some (0,gW.dv (Int.tdiv a b) (gW.dv (Int.tmod a b) [])):=by
 unfold a4v;have hb2:=hb;simp only [U32] at hb2;have e:w.u64 b = b:=IntWalk.u64_in _ (by omega);have h1:=d1B ha hb;have h2:=d0H ha hb h0;simp only [U32] at h1 h2;have e2:w.u64 (Int.tdiv a b) = Int.tdiv a b:=IntWalk.u64_in _ (by omega);have e3:w.u32 (Int.tdiv a b) = Int.tdiv a b:=IntWalk.u32_in _ (by omega);have e4:w.u32 (Int.tmod a b) = Int.tmod a b:=IntWalk.u32_in _ (by omega);rw [e3t ha,e,e2,e3,e4,show (b != 0) = true from bne_iff_ne.2 h0,g7k,df (show ¬ b≤0 by omega),d9G,df h0];rfl
theorem e5N {a b:Int} (ha:U32 a) (hb:U32 b) (h0:b≠0):a4r N 0 a b = some (0,gW.dv (Int.tmod a b) []):=by
 unfold a4r;have hb2:=hb;simp only [U32] at hb2;have e:w.u64 b = b:=IntWalk.u64_in _ (by omega);have h2:=d0H ha hb h0;simp only [U32] at h2;have e4:w.u32 (Int.tmod a b) = Int.tmod a b:=IntWalk.u32_in _ (by omega);rw [e3t ha,e,e4,d9G,df h0];rfl
theorem e6Q (x:Int):w.u32 (w.i32 x) = w.u32 x:=by simp only [w.u32,w.i32,IntKind.wrap_u32,IntKind.wrap_i32]; omega
theorem d2K {op a b:Int} (ho:13≤op∧op≤16) (ha:U32 a) (hb:U32 b) (h0:b≠0):b8o N op a b = some (0,gW.dv (opM op a b).1 []):=by
 have hop:op = 13∨op = 14∨op = 15∨op = 16:=by omega
 have hz:=e2K hb h0;unfold b8o;rw [e5Y ha hb h0,e5N ha hb h0,show w.i32 a = sg a from rfl,show w.i32 b = sg b from rfl,df hz];simp only [g7j,g7m,g7l,g7w,e6Q];have key1:sg a = -2147483648→sg b = -1→w.u32 (Int.tdiv (sg a) (sg b)) = a:=by
  intro h1 h2;rw [h1,h2];rw [d8w ha] at h1;simp only [U32] at ha;have:a = 2147483648:=by split at h1 <;> omega
  rw [this]; rfl
 have key2:sg a = -2147483648→sg b = -1→w.u32 (Int.tmod (sg a) (sg b)) = 0:=by
  intro h1 h2;rw [h1,h2]; rfl
 rcases hop with rfl | rfl | rfl | rfl
 ·
  simp only [opM,show (13:Int)≠1 by decide,show (13:Int)≠2 by decide,show (13:Int)≠3 by decide,show (13:Int)≠4 by decide,show (13:Int)≠5 by decide,show (13:Int)≠6 by decide,show (13:Int)≠7 by decide,show (13:Int)≠8 by decide,show (13:Int)≠9 by decide,show (13:Int)≠10 by decide,show (13:Int)≠11 by decide,show (13:Int)≠12 by decide,h0,if_false,if_true,show ((13:Int) == 14) = false from rfl,show ((13:Int) == 16) = false from rfl,show ((13:Int) == 13) = true from rfl,g7k,g7i];simp only [a1u,beq_iff_eq];split
  ·
   split
   · rw [key1 (by assumption) (by assumption)]
   · rfl
  · rfl
 ·
  simp only [opM,show (14:Int)≠1 by decide,show (14:Int)≠2 by decide,show (14:Int)≠3 by decide,show (14:Int)≠4 by decide,show (14:Int)≠5 by decide,show (14:Int)≠6 by decide,show (14:Int)≠7 by decide,show (14:Int)≠8 by decide,show (14:Int)≠9 by decide,show (14:Int)≠10 by decide,show (14:Int)≠11 by decide,show (14:Int)≠12 by decide,show (14:Int)≠13 by decide,show (14:Int)≠15 by decide,h0,if_false,if_true,show ((14:Int) == 14) = true from rfl,g7k,g7i];cases (sg a == -2147483648) <;> rfl
 ·
  simp only [opM,show (15:Int)≠1 by decide,show (15:Int)≠2 by decide,show (15:Int)≠3 by decide,show (15:Int)≠4 by decide,show (15:Int)≠5 by decide,show (15:Int)≠6 by decide,show (15:Int)≠7 by decide,show (15:Int)≠8 by decide,show (15:Int)≠9 by decide,show (15:Int)≠10 by decide,show (15:Int)≠11 by decide,show (15:Int)≠12 by decide,show (15:Int)≠13 by decide,h0,if_false,if_true,show ((15:Int) == 14) = false from rfl,show ((15:Int) == 16) = false from rfl,show ((15:Int) == 13) = false from rfl,g7k,g7i];simp only [a1u,beq_iff_eq];split
  ·
   split
   · rw [key2 (by assumption) (by assumption)]
   · rfl
  · rfl
 ·
  simp only [opM,show (16:Int)≠1 by decide,show (16:Int)≠2 by decide,show (16:Int)≠3 by decide,show (16:Int)≠4 by decide,show (16:Int)≠5 by decide,show (16:Int)≠6 by decide,show (16:Int)≠7 by decide,show (16:Int)≠8 by decide,show (16:Int)≠9 by decide,show (16:Int)≠10 by decide,show (16:Int)≠11 by decide,show (16:Int)≠12 by decide,show (16:Int)≠13 by decide,show (16:Int)≠14 by decide,show (16:Int)≠15 by decide,h0,if_false,if_true,show ((16:Int) == 14) = false from rfl,show ((16:Int) == 16) = true from rfl,g7k,g7i];cases (sg a == -2147483648) <;> rfl
theorem e9q {op a b:Int} (h0:op≤12∨b≠0) (h1:1≤op):(opM op a b).2 = true:=by
 unfold opM;by_cases g1:op = 1
 · rw [if_pos g1]
 rw [if_neg g1];by_cases g2:op = 2
 · rw [if_pos g2]
 rw [if_neg g2];by_cases g3:op = 3
 · rw [if_pos g3]
 rw [if_neg g3];by_cases g4:op = 4
 · rw [if_pos g4]
 rw [if_neg g4];by_cases g5:op = 5
 · rw [if_pos g5]
 rw [if_neg g5];by_cases g6:op = 6
 · rw [if_pos g6]
 rw [if_neg g6];by_cases g7:op = 7
 · rw [if_pos g7]
 rw [if_neg g7];by_cases g8:op = 8
 · rw [if_pos g8]
 rw [if_neg g8];by_cases g9:op = 9
 · rw [if_pos g9]
 rw [if_neg g9];by_cases g10:op = 10
 · rw [if_pos g10]
 rw [if_neg g10];by_cases g11:op = 11
 · rw [if_pos g11]
 rw [if_neg g11];by_cases g12:op = 12
 · rw [if_pos g12]
 rw [if_neg g12];rw [if_neg (show ¬ b = 0 by omega)];by_cases g13:op = 13
 · rw [if_pos g13]
 rw [if_neg g13];by_cases g15:op = 15
 · rw [if_pos g15]
 rw [if_neg g15];by_cases g14:op = 14
 · rw [if_pos g14]
 rw [if_neg g14]
theorem e6h {op a:Int} (h:13≤op):opM op a 0 = (0,false):=by
 unfold opM;rw [if_neg (show ¬ op = 1 by omega),if_neg (show ¬ op = 2 by omega),if_neg (show ¬ op = 3 by omega),if_neg (show ¬ op = 4 by omega),if_neg (show ¬ op = 5 by omega),if_neg (show ¬ op = 6 by omega),if_neg (show ¬ op = 7 by omega),if_neg (show ¬ op = 8 by omega),if_neg (show ¬ op = 9 by omega),if_neg (show ¬ op = 10 by omega),if_neg (show ¬ op = 11 by omega),if_neg (show ¬ op = 12 by omega),if_pos rfl]
theorem d4M {op a b:Int} (ho:1≤op∧op≤16) (ha:U32 a) (hb:U32 b):d1q N op a b = some (0,gW.dv (opM op a b).1 (gB.dv (opM op a b).2 [])):=by
 by_cases hd:13≤op∧b≠0
 ·
  have e:=d2K (N:=N) (op:=op) ⟨hd.1,ho.2⟩ ha hb hd.2;rw [e9q (.inr hd.2) ho.1];unfold d1q;rw [bf (show op≠1 by omega),bf (show op≠2 by omega),bf (show op≠3 by omega),bf (show op≠4 by omega),bf (show op≠5 by omega),bf (show op≠6 by omega),bf (show op≠7 by omega),bf (show op≠8 by omega),bf (show op≠9 by omega),bf (show op≠10 by omega),bf (show op≠11 by omega),bf (show op≠12 by omega),bf hd.2,e];rfl
 ·
  unfold d1q;simp only [e1o,d7d ha hb,g7j,g7m,g7l,d3O,g7w];simp only [a1u,beq_iff_eq];by_cases g1:op = 1
  · rw [if_pos g1]; subst g1; rfl
  rw [if_neg g1];by_cases g2:op = 2
  · rw [if_pos g2]; subst g2; rfl
  rw [if_neg g2];by_cases g3:op = 3
  · rw [if_pos g3]; subst g3; rfl
  rw [if_neg g3];by_cases g4:op = 4
  · rw [if_pos g4]; subst g4; rfl
  rw [if_neg g4];by_cases g5:op = 5
  · rw [if_pos g5]; subst g5; rfl
  rw [if_neg g5];by_cases g6:op = 6
  · rw [if_pos g6]; subst g6; rfl
  rw [if_neg g6];by_cases g7:op = 7
  · rw [if_pos g7]; subst g7; rfl
  rw [if_neg g7];by_cases g8:op = 8
  · rw [if_pos g8]; subst g8; rfl
  rw [if_neg g8];by_cases g9:op = 9
  · rw [if_pos g9]; subst g9; rfl
  rw [if_neg g9];by_cases g10:op = 10
  · rw [if_pos g10]; subst g10; rfl
  rw [if_neg g10];by_cases g11:op = 11
  · rw [if_pos g11]; subst g11; rfl
  rw [if_neg g11];by_cases g12:op = 12
  · rw [if_pos g12]; subst g12; rfl
  rw [if_neg g12];have gb:b = 0:=by omega
  rw [if_pos gb]; subst gb;rw [e6h (by omega)]
theorem e1v {i:a0o} (h:formM i.1 = 1∨formM i.1 = 2):1≤plainM i.1∧plainM i.1≤16:=by
 unfold formM at h;unfold plainM
 repeat' split
 all_goals first | omega | (split at h <;> omega)
theorem d3k {i:a0o} (h:rightIns i = true):formM i.1≠0:=by
 unfold rightIns at h;simp only [Bool.and_eq_true,decide_eq_true_eq] at h;exact h.1.1.1.1
theorem d6i (i:a0o) {a b:Int} (ha:U32 a) (hb:U32 b):d5P N i a b = some (0,gW.dv (doM i a b).1 (gB.dv (doM i a b).2 [])):=by
 unfold d5P doM c2M;simp only [b4v,b6S,d5D,g7j,g7m,g7l];cases hr:rightIns i with
 | false=>rfl
 | true =>
  have h0:=d3k hr;have h1:=b9T i.1;simp only [Bool.not_true,g7i,Bool.true_eq_false,false_or];by_cases h3:formM i.1 > 3
  · rw [dt h3,if_pos h3]; rfl
  ·
   rw [df h3,if_neg h3,g7i];by_cases h4:formM i.1 = 3
   · rw [bt h4,if_pos h4]; rfl
   ·
    have hp:=e1v (i:=i) (by omega);rw [bf h4,if_neg h4,g7i,d4M hp ha (a5x _),d4M hp ha hb];simp only [g7j,g7m,g7l];by_cases h5:formM i.1 = 2
    · rw [bt h5,if_pos h5]; rfl
    · rw [bf h5,if_neg h5]; rfl
end Go.Proofs.Zz
