import Derived.Test.YtnfpdmhdpeffjaaGreatMX
set_option linter.unusedSimpArgs false
set_option linter.unusedVariables false
/- With a trap noted no cell of its step, or a later one, is done: the model's law, and the reference law's answer. -/
namespace Go.Proofs.Zz
open Go
variable {N:Nat}
/-! A settled place is settled -/
theorem a6J {s:a0g} (h:NextOk s) (e:Bool):∀ (n:Nat) (p:a0C),hasM s p.Block = true→s.Blocks.length - p.Block.toNat≤n →
  hasM s (settleN s e n p).1.Block = true∧(((settleN s e n p).2 = false∧(settleN s e n p).1.Index < len (cellsM s e (settleN s e n p).1.Block))∨((settleN s e n p).2 = true∧¬ (settleN s e n p).1.Index < len (cellsM s e (settleN s e n p).1.Block)∧(blockM s (settleN s e n p).1.Block).2.2.1 < 0))
 | 0,p,hp,hn=>by
  have:=a2u.1 hp;omega
 | n+1,p,hp,hn=>by
  unfold settleN;rw [if_neg (by rw [hp]; simp)];split
  · rename_i h2; exact ⟨hp,.inl ⟨rfl,h2⟩⟩
  ·
   split
   · rename_i h2 h3; exact ⟨hp,.inr ⟨rfl,h2,h3⟩⟩
   ·
    rename_i h3;have h4:=(h _ hp).resolve_left h3;have h5:=a2u.1 hp;exact a6J h e n _ h4.2 (by simp only; omega)
theorem d4c {s:a0g} (h:NextOk s) (e:Bool) (p:a0C) (hp:hasM s p.Block = true):settleM s e (settleM s e p).1 = settleM s e p:=by
 have h1:=a6J h e s.Blocks.length p hp (by omega);have h0:=a2u.1 hp;obtain ⟨k,hk⟩:∃ k,s.Blocks.length = k+1:=⟨s.Blocks.length - 1,by omega⟩
 unfold settleM;rw [hk] at h1 ⊢;generalize settleN s e (k+1) p = q at *;obtain ⟨q,f⟩:=q;obtain ⟨h2,h3⟩:=h1;simp only at h2 h3 ⊢;unfold settleN;rw [if_neg (by rw [h2]; simp)];rcases h3 with ⟨rfl,h4⟩ | ⟨rfl,h4,h5⟩
 · rw [if_pos h4]
 · rw [if_neg h4,if_pos h5]
theorem a1r {s:a0g} (h:NextOk s) (e:Bool) (p:a0C) (hp:hasM s p.Block = true):nextM s e (settleM s e p).1 = nextM s e p:=by
 unfold nextM;rw [d4c h e p hp]
theorem c1H {s:a0g} {e:Bool} {p:a0C} (h:(settleM s e p).2 = true):(nextM s e p).2.2 = false:=by
 unfold nextM;rw [if_pos (.inl h)]
/-! Where E comes to -/
theorem d8k {s:a0g} {x:a0b} (h:x.E.Halted = true∨x.E.Wait > x.Cycle):atE s x = (a0h.z,0,false,x):=if_pos h
theorem d8m {s:a0g} {x:a0b} (hn:NextOk s) (hb:hasM s x.E.Pos.Block = true) (h:¬ (x.E.Halted = true∨x.E.Wait > x.Cycle)) (hf:(settleM s true x.E.Pos).2 = true) :
  (atE s x).2.2.1 = false∧(atE s x).2.2.2 = noteM { x with E:={ x.E with Pos:=(settleM s true x.E.Pos).1 } } 4 (nextM s true x.E.Pos).2.1 (blockM s (settleM s true x.E.Pos).1.Block).2.1:=by
 unfold atE;rw [if_neg h];simp only [a1r hn true _ hb,c1H hf,hf,if_true,Bool.false_and,and_self]
theorem at_cell {s:a0g} {x:a0b} (hn:NextOk s) (hb:hasM s x.E.Pos.Block = true) (h:¬ (x.E.Halted = true∨x.E.Wait > x.Cycle)) (hf:(settleM s true x.E.Pos).2 = false) :
  atE s x = ((nextM s true x.E.Pos).1,(nextM s true x.E.Pos).2.1,(nextM s true x.E.Pos).2.2 && !stoppedM x (nextM s true x.E.Pos).2.1,{ x with E:={ x.E with Pos:=(settleM s true x.E.Pos).1 } }):=by
 unfold atE;rw [if_neg h];simp only [a1r hn true _ hb,hf];rfl
theorem c9e {c:a0f} {s:a0g} {x:a0b} (h:rightM c s x = true):I64 x.E.Pos.Base:=by
 have:=b1P h;unfold sideM at this;simp only [Bool.and_eq_true,allB,List.all_cons,List.all_nil,decide_eq_true_eq,most] at this;have h2:=of_decide_eq_true this.2.2.1.1;unfold I64; omega
end Go.Proofs.Zz

/- The reference's operations. -/
namespace Go.Proofs.Zz
open Go
variable {N:Nat}
theorem and31 (b:Int):(bitAnd .u32 b 31).toNat≤31:=by
 unfold bitAnd;have h:((BitVec.ofInt IntKind.u32.bits b &&& BitVec.ofInt IntKind.u32.bits 31).toNat)≤31:=by
  rw [BitVec.toNat_and];exact Nat.and_le_right
 rw [show IntKind.u32.wrap (((BitVec.ofInt IntKind.u32.bits b &&& BitVec.ofInt IntKind.u32.bits 31).toNat:Nat):Int) = (((BitVec.ofInt IntKind.u32.bits b &&& BitVec.ofInt IntKind.u32.bits 31).toNat:Nat):Int) from IntWalk.u32_in _ (by omega)];omega
theorem e8m (x b:Int):shr .i64 x (bitAnd .u32 b 31) = shr .i32 x (bitAnd .u32 b 31):=by
 have:=and31 b;unfold shr;rw [show min (bitAnd .u32 b 31).toNat IntKind.i64.bits = (bitAnd .u32 b 31).toNat from Nat.min_eq_left (show _≤64 by omega),show min (bitAnd .u32 b 31).toNat IntKind.i32.bits = (bitAnd .u32 b 31).toNat from Nat.min_eq_left (show _≤32 by omega)]
theorem e2W (x:Int):w.u32 (w.i64 x) = w.u32 x:=by simp only [w.u32,w.i64,IntKind.wrap_u32,IntKind.wrap_i64]; omega
theorem e6t (x:Int):w.u32 x = x % 4294967296:=by simp only [w.u32,IntKind.wrap_u32]
theorem e6q {a:Int} (h:U32 a):sg a % 4294967296 = a % 4294967296:=by
 rw [d8w h]; split <;> omega
theorem e8Z {a b:Int} (ha:U32 a) (hb:U32 b):w.u32 (sg a*sg b) = w.u32 (a*b):=by
 rw [e6t,e6t,Int.mul_emod,e6q ha,e6q hb,← Int.mul_emod]
theorem e9b {a b:Int} (h:b≠0):d1P N a b = some (0,gI.dv (w.i64 (Int.tdiv a b)) (gI.dv (Int.tmod a b) [])):=by
 unfold d1P;rw [df h]; rfl
theorem e6C {op a b im : Int} (ha : U32 a) (hb : U32 b) (h1 : 1 ≤ op) (h2 : op ≤ 16) : ( 
 bi (op == 1) (
  some (0, gW.dv (w.u32 (a + b)) (gB.dv true []))) <|
 bi (op == 2) (
  some (0, gW.dv (w.u32 (a - b)) (gB.dv true []))) <|
 bi (op == 3) (
  some (0, gW.dv (bitAnd .u32 a b) (gB.dv true []))) <|
 bi (op == 4) (
  some (0, gW.dv (bitOr .u32 a b) (gB.dv true []))) <|
 bi (op == 5) (
  some (0, gW.dv (bitXor .u32 a b) (gB.dv true []))) <|
 bi (op == 6) (
  gf (decide ((bitAnd .u32 b 31) < 0)) <|
  some (0, gW.dv (shl .u32 a (bitAnd .u32 b 31)) (gB.dv true []))) <|
 bi (op == 7) (
  gf (decide ((bitAnd .u32 b 31) < 0)) <|
  some (0, gW.dv (shr .u32 a (bitAnd .u32 b 31)) (gB.dv true []))) <|
 bi (op == 8) (
  gf (decide ((bitAnd .u32 b 31) < 0)) <|
  some (0, gW.dv (w.u32 (shr .i64 (sg a) (bitAnd .u32 b 31))) (gB.dv true []))) <|
 bi (op == 9) (
  on1 (c5n N (decide ((sg a) < (sg b)))) <| gg [pW] <| fun (x13 : Int) => 
  some (0, gW.dv x13 (gB.dv true []))) <|
 bi (op == 10) (
  on1 (c5n N (decide (a < b))) <| gg [pW] <| fun (x14 : Int) => 
  some (0, gW.dv x14 (gB.dv true []))) <|
 bi (op == 11) (
  some (0, gW.dv (w.u32 (w.i64 ((sg a) * (sg b)))) (gB.dv true []))) <|
 bi (op == 12) (
  gf (decide ((32 : Int) < (0 : Int))) <|
  some (0, gW.dv (w.u32 (shr .i64 (w.i64 ((sg a) * (sg b))) 32)) (gB.dv true []))) <|
 bi (op == 25) (
  gf (decide ((18 : Int) < (0 : Int))) <|
  some (0, gW.dv (shl .u32 (w.u32 im) 18) (gB.dv true []))) <|
 bi (b == 0) (
  some (0, gW.dv 0 (gB.dv false []))) <|
 on1 (d1P N (sg a) (sg b)) <| gg [pI, pI] <| fun (x15 : Int) (x16 : Int) => 
 bi (op == 13) (
  some (0, gW.dv (w.u32 x15) (gB.dv true []))) <|
 bi (op == 15) (
  some (0, gW.dv (w.u32 x16) (gB.dv true []))) <|
 bi (op == 14) (
  gf (decide (b = 0)) <|
  some (0, gW.dv (w.u32 (Int.tdiv a b)) (gB.dv true []))) <|
 gf (decide (b = 0)) <|
 some (0, gW.dv (Int.tmod a b) (gB.dv true [])) : Option Rs) = some (0, gW.dv (opM op a b).1 (gB.dv (opM op a b).2 [])) := by
  have hm : w.i64 (sg a * sg b) = sg a * sg b := by
    have := e6p (c6q ha) (c6q hb)
    exact wI (by omega) (by omega)
  simp only [d3O, g7w, d9G, e2v, g7j, g7m, g7l, e8m, e2W, e8Z ha hb]
  by_cases hz : b = 0
  · rw [bt hz, g7k]
    have hop : op = 1 ∨ op = 2 ∨ op = 3 ∨ op = 4 ∨ op = 5 ∨ op = 6 ∨ op = 7 ∨ op = 8 ∨ op = 9 ∨ op = 10 ∨ op = 11 ∨ op = 12 ∨ 12 < op := by omega
    rcases hop with rfl | rfl | rfl | rfl | rfl | rfl | rfl | rfl | rfl | rfl | rfl | rfl | hop
    all_goals first
      | rfl
      | (rw [hm]; rfl)
      | (rw [bf (show op ≠ 1 by omega), bf (show op ≠ 2 by omega), bf (show op ≠ 3 by omega), bf (show op ≠ 4 by omega), bf (show op ≠ 5 by omega), bf (show op ≠ 6 by omega), bf (show op ≠ 7 by omega), bf (show op ≠ 8 by omega), bf (show op ≠ 9 by omega), bf (show op ≠ 10 by omega), bf (show op ≠ 11 by omega), bf (show op ≠ 12 by omega), bf (show op ≠ 25 by omega)]
         simp only [g7i]
         unfold opM
         rw [if_neg (show op ≠ 1 by omega), if_neg (show op ≠ 2 by omega), if_neg (show op ≠ 3 by omega), if_neg (show op ≠ 4 by omega), if_neg (show op ≠ 5 by omega), if_neg (show op ≠ 6 by omega), if_neg (show op ≠ 7 by omega), if_neg (show op ≠ 8 by omega), if_neg (show op ≠ 9 by omega), if_neg (show op ≠ 10 by omega), if_neg (show op ≠ 11 by omega), if_neg (show op ≠ 12 by omega), if_pos hz])
  · have hs := e2K hb hz
    rw [bf hz, g7i, df hz, e9b hs]
    simp only [g7j, g7m, g7l, g7w, e2W]
    have hop : op = 1 ∨ op = 2 ∨ op = 3 ∨ op = 4 ∨ op = 5 ∨ op = 6 ∨ op = 7 ∨ op = 8 ∨ op = 9 ∨ op = 10 ∨ op = 11 ∨ op = 12 ∨ op = 13 ∨ op = 14 ∨ op = 15 ∨ op = 16 := by omega
    have e1 : w.u32 (Int.tdiv a b) = Int.tdiv a b := by
      have := d1B ha hb
      simp only [U32] at this
      exact IntWalk.u32_in _ (by omega)
    have ho : ∀ k : Int, 13 ≤ k → k ≤ 16 → opM k a b = (if k = 13 then (w.u32 (Int.tdiv (sg a) (sg b)), true) else if k = 15 then (w.u32 (Int.tmod (sg a) (sg b)), true) else if k = 14 then (Int.tdiv a b, true) else (Int.tmod a b, true)) := by
      intro op h1 h2
      unfold opM
      rw [if_neg (show op ≠ 1 by omega), if_neg (show op ≠ 2 by omega), if_neg (show op ≠ 3 by omega), if_neg (show op ≠ 4 by omega), if_neg (show op ≠ 5 by omega), if_neg (show op ≠ 6 by omega), if_neg (show op ≠ 7 by omega), if_neg (show op ≠ 8 by omega), if_neg (show op ≠ 9 by omega), if_neg (show op ≠ 10 by omega), if_neg (show op ≠ 11 by omega), if_neg (show op ≠ 12 by omega), if_neg hz]
    rcases hop with rfl | rfl | rfl | rfl | rfl | rfl | rfl | rfl | rfl | rfl | rfl | rfl | rfl | rfl | rfl | rfl
    all_goals first
      | (rw [hm]; rfl)
      | (rw [ho 13 (by decide) (by decide)]; rfl)
      | (rw [ho 14 (by decide) (by decide), e1]; rfl)
      | (rw [ho 15 (by decide) (by decide)]; rfl)
      | (rw [ho 16 (by decide) (by decide)]; rfl)
      | rfl
theorem d8b {op:Int} (h1:17≤op) (h2:op≤24):1≤plainM op∧plainM op≤16:=by
 have h:op = 17∨op = 18∨op = 19∨op = 20∨op = 21∨op = 22∨op = 23∨op = 24:=by omega
 rcases h with rfl | rfl | rfl | rfl | rfl | rfl | rfl | rfl <;> exact ⟨by decide,by decide⟩
theorem d0T {op:Int} (h1:17≤op) (h2:op≤24):List.getD [(1:Int),3,4,5,9,6,7,8] (Int.toNat (w.i64 (op - 17))) 0 = plainM op∧idx (w.i64 (op - 17)) (List.length [(1:Int),3,4,5,9,6,7,8]) = true:=by
 have h:op = 17∨op = 18∨op = 19∨op = 20∨op = 21∨op = 22∨op = 23∨op = 24:=by omega
 rcases h with rfl | rfl | rfl | rfl | rfl | rfl | rfl | rfl <;> exact ⟨rfl,rfl⟩
theorem d9I (op:Int):(formM op = 1→1≤op∧op≤16)∧(formM op = 2→17≤op∧op≤24)∧(formM op = 3→op = 25)∧0≤formM op:=by
 unfold formM
 repeat' split
 all_goals omega
theorem e8d (im:Int):shl .u32 (w.u32 im) 18 = w.u32 (shl .i64 im 18):=by
 show IntKind.u32.wrap (IntKind.u32.wrap im*2 ^ 18) = IntKind.u32.wrap (IntKind.i64.wrap (im*2 ^ 18));simp only [IntKind.wrap_u32,IntKind.wrap_i64];omega
theorem d9l (i:a0o) {a b:Int} (ha:U32 a) (hb:U32 b):e3j N i a b = some (0,gW.dv (doM i a b).1 (gB.dv (doM i a b).2 [])):=by
 unfold e3j;simp only [a1T,a5D,g7j,g7m,g7l,b0P ha,b0P hb,b0P (a5x _)];obtain ⟨f1,f2,f3,f4⟩:=d9I i.1;cases hr:rightIns i with
 | false =>
  have e:doM i a b = (0,true):=if_pos (.inl hr);rw [e]; rfl
 | true =>
  rw [Bool.not_true,g7i];have hf:formM i.1≠0:=by
   intro h;unfold rightIns at hr;rw [h] at hr;simp at hr
  rw [df (show ¬ formM i.1 < 1 by omega),g7i];by_cases h3:formM i.1 > 3
  ·
   have e:doM i a b = (0,true):=if_pos (.inr h3);rw [e,dt h3,g7k]
  rw [df h3,g7i];have e0:doM i a b = (if formM i.1 = 3 then (w.u32 (shl .i64 i.2.2.2.2.1 18),true) else opM (plainM i.1) a (if formM i.1 = 2 then w.u32 i.2.2.2.2.1 else b)):=if_neg (by rw [hr]; simp; omega);rw [e0];by_cases h2:formM i.1 = 2
  ·
   obtain ⟨g1,g2⟩:=f2 h2;rw [bt h2,g7k,(d0T g1 g2).2,g7n,(d0T g1 g2).1,if_neg (show ¬ formM i.1 = 3 by omega),if_pos h2];obtain ⟨g3,g4⟩:=d8b g1 g2;exact e6C (N:=N) (im:=i.2.2.2.2.1) ha (a5x i.2.2.2.2.1) g3 g4
  ·
   rw [bf h2,g7i];by_cases h1:formM i.1 = 1
   ·
    obtain ⟨g1,g2⟩:=f1 h1;have e1:plainM i.1 = i.1:=by
     unfold plainM;rw [if_neg (show i.1≠17 by omega),if_neg (show i.1≠18 by omega),if_neg (show i.1≠19 by omega),if_neg (show i.1≠20 by omega),if_neg (show i.1≠21 by omega),if_neg (show i.1≠22 by omega),if_neg (show i.1≠23 by omega),if_neg (show i.1≠24 by omega)]
    rw [if_neg (show ¬ formM i.1 = 3 by omega),if_neg h2,e1];exact e6C (N:=N) (im:=i.2.2.2.2.1) ha hb g1 g2
   ·
    have h3:formM i.1 = 3:=by omega
    rw [if_pos h3,f3 h3,← e8d];rfl
end Go.Proofs.Zz

/- What E does in a cycle: the reference answers as the model says. -/
namespace Go.Proofs.Zz
open Go
variable {N:Nat}
theorem d0m (s:a0g) (b:Int) (h:hasM s b = true):c7V N s b = some (0,gI.dv (blockM s b).2.1 []):=by
 have h2:=a2u.1 h;unfold c7V;rw [df (show ¬ b < 0 by omega),g7i,df (show ¬ b≥len s.Blocks by simp only [len]; omega),g7i,a7X h,g7n];rfl
theorem e7R (s:a0g) (p:a0C) (h:I64 p.Base):I64 (endM s p):=by
 unfold endM;split
 · exact e5f _
 · exact h
theorem b4S {s:a0g} (e:Bool):∀ (n:Nat) (p:a0C),I64 p.Base→0≤p.Index→I64 (settleN s e n p).1.Base∧0≤(settleN s e n p).1.Index
 | 0,p,h,hi=>⟨h,hi⟩
 | n+1,p,h,hi=>by
  unfold settleN;split
  · exact ⟨h,hi⟩
  ·
   split
   · exact ⟨h,hi⟩
   ·
    split
    · exact ⟨h,hi⟩
    · exact b4S e n _ (e7R s p h) (by simp)
theorem d3W {c:a0f} {s:a0g} {x:a0b} (h:rightM c s x = true):0≤x.E.Pos.Index:=by
 have:=b1P h;unfold sideM at this;simp only [Bool.and_eq_true,allB,List.all_cons,List.all_nil,decide_eq_true_eq] at this;exact this.2.1.1.1
theorem Wf.pos {x:a0b} (h:Wf x) (p:a0C):Wf { x with E:={ x.E with Pos:=p } } :=
 { rA:=h.rA,rE:=h.rE,mem:=h.mem,saq:=h.saq,tab:=h.tab,ldq:=h.ldq,sdq:=h.sdq,aeq:=h.aeq,abq:=h.abq,ebq:=h.ebq,wri:=h.wri,gA:=h.gA,gE:=h.gE }
theorem d5j {s:a0g} {e:Bool} {p:a0C} (h:(settleM s e p).2 = false) (h2:0≤(settleM s e p).1.Index):(nextM s e p).2.2 = true:=by
 unfold nextM;rw [if_neg (by rw [h]; simp; omega)]
theorem d6p {c:a0f} {s:a0g} {x:a0b} (h:x.E.Halted = true∨x.E.Wait > x.Cycle):turnE c s x = x:=by
 unfold turnE;rw [d8k h,if_pos (.inl rfl)]
theorem e1M (c:a0f) (s:a0g) (x:a0b) (h:Wf x) (hl:s.Blocks.length≤100000) (hN:s.Blocks.length < N) (hN2:1001 < N) (hn:NextOk s) :
  b7Y N c s x = some (0,a0c.dv (issueE c s x) []):=by
 unfold b7Y;simp only [b6Q x h,a6E c s x h.toStOk hN2,g7j,g7m,g7l];cases hr:rightM c s x with
 | false=>rw [show issueE c s x = x from if_neg (by rw [hr]; simp)]; rfl
 | true =>
  rw [show issueE c s x = turnE c s x from if_pos hr,Bool.not_true,g7i];have hb:=a6O (b1P hr);have hk:=b4S (s:=s) true s.Blocks.length x.E.Pos (c9e hr) (d3W hr);rw [show settleN s true s.Blocks.length x.E.Pos = settleM s true x.E.Pos from rfl] at hk;have bif0:∀ {X:Type} {b:Bool} (A B:X),b = false→bi b A B = B:=by rintro X b A B rfl; rfl
  have bit0:∀ {X:Type} {b:Bool} (A B:X),b = true→bi b A B = A:=by rintro X b A B rfl; rfl
  rcases Bool.eq_false_or_eq_true x.E.Halted with hh | hh
  · rw [d6p (.inl hh),bit0 _ _ hh]
  ·
   rw [bif0 _ _ hh];by_cases hw2:x.E.Wait > x.Cycle
   · rw [d6p (.inr hw2),dt hw2,g7k]
   rw [df hw2,g7i];have hw:¬ (x.E.Halted = true∨x.E.Wait > x.Cycle):=by rw [hh]; simp [hw2]
   simp only [b4k s true x.E.Pos (c9e hr) hl hN,g7j,g7m,g7l,b0A s true _ hk.1 hl hN,a1r hn true _ hb];cases hf:(settleM s true x.E.Pos).2 with
   | true =>
    obtain ⟨h1,h2⟩:=d8m hn hb hw hf;have hs:=a3G hn true s.Blocks.length x.E.Pos hb;rw [show settleN s true s.Blocks.length x.E.Pos = settleM s true x.E.Pos from rfl] at hs;have e:turnE c s x = (atE s x).2.2.2:=by
     unfold turnE;rw [if_pos (.inl h1)]
    rw [e,h2,g7k,d0m s _ hs];simp only [g7j,g7m,g7l,b6a _ (h.pos _)]
   | false =>
    have hi:=d5j hf hk.2;have ha:=at_cell hn hb hw hf;have hx:=h.pos (settleM s true x.E.Pos).1;unfold turnE;rw [ha,g7i];have hk1:=hk.1;generalize (settleM s true x.E.Pos).1 = q at *;generalize nextM s true x.E.Pos = nx at *;obtain ⟨k,st,is⟩:=nx;simp only at hi;subst hi;simp only [b6W,c9p _ _ _ hN2,g7j,g7m,g7l];rw [show stoppedM { x with E:={ x.E with Pos:=q } } st = stoppedM x st from rfl];cases stoppedM x st with
    | true=>rw [g7k,if_pos (.inl rfl)]
    | false =>
     rw [g7i];cases hfr:freeM { x.E with Pos:=q } k x.Cycle with
     | false=>rw [if_pos (.inr rfl)]; rfl
     | true =>
      rw [if_neg (by simp),Bool.not_true,g7i];have hg:∀ r,U32 (getM { x.E with Pos:=q } r):=fun r=>b1T h.gE r
      simp only [b7l,g7j,g7m,g7l,d9l k.2.1 (hg _) (hg _),b6a _ hx,c2C,d4L,d7H,e5A x.Ldq h.ldq,c9m _ (hg _) (hg _)];have ht:∀ (t:Bool) (cy:Int) (y:a0b),y.E.Pos = q→a7Y N s t cy y = some (0,a0c.dv { y with E:=goD s cy y.E t } []):=fun t cy y e=>d2T s t cy y (by rw [e]; exact hk1)
      by_cases h1:k.1 = 1
      ·
       unfold actE;rw [bt h1,g7k,if_pos h1];cases (doM k.2.1 (getM { x.E with Pos:=q } k.2.1.2.2.1) (getM { x.E with Pos:=q } k.2.1.2.2.2.1)).2 <;> rfl
      rw [bf h1,g7i];by_cases h6:k.1 = 6
      ·
       unfold actE;rw [bt h6,g7k,if_neg h1,if_pos h6];by_cases hq:x.Aeq.length = 0
       · rw [df (show ¬ len x.Aeq > 0 by simp only [len]; omega),if_pos hq]; rfl
       · rw [dt (show len x.Aeq > 0 by simp only [len]; omega),if_neg hq,g7k,a1l (i:=0) (by omega) (by omega),g7n,sb_1 hq,g7n]
      rw [bf h6,g7i];by_cases h7:k.1 = 7
      ·
       unfold actE;rw [bt h7,g7k,if_neg h1,if_neg h6,if_pos h7];cases (popM x.Ldq).2.2 <;> rfl
      rw [bf h7,g7i];by_cases h8:k.1 = 8
      ·
       unfold actE;rw [bt h8,g7k,if_neg h1,if_neg h6,if_neg h7,if_pos h8];by_cases hq:len x.Sdq < c.Sdq
       · rw [dt hq,if_pos hq,g7k,rmT (show (x.Sdq.length+[getM { x.E with Pos:=q } k.2.2.1].length)*4≤35184372088832 by have:=h.sdq; simp; omega),g7n]
       · rw [df hq,if_neg hq]; rfl
      rw [bf h8,g7i];by_cases h9:k.1 = 9
      ·
       unfold actE;rw [bt h9,g7k,if_neg h1,if_neg h6,if_neg h7,if_neg h8,if_pos h9];by_cases hq:len x.Ebq < c.Ebq
       · rw [dt hq,if_neg (show ¬ len x.Ebq≥c.Ebq by omega),g7k,rmT (show (x.Ebq.length+[takenM k.2.1.1 (getM { x.E with Pos:=q } k.2.1.2.2.1) (getM { x.E with Pos:=q } k.2.1.2.2.2.1)].length)*1≤35184372088832 by have:=h.ebq; simp; omega),g7n,ht _ _ _ rfl] <;> rfl
       · rw [df hq,if_pos (show len x.Ebq≥c.Ebq by omega)]; rfl
      rw [bf h9,g7i];by_cases h10:k.1 = 10
      ·
       unfold actE;rw [bt h10,g7k,if_neg h1,if_neg h6,if_neg h7,if_neg h8,if_neg h9,if_pos h10];by_cases hq:x.Abq.length = 0
       · rw [df (show ¬ len x.Abq > 0 by simp only [len]; omega),if_pos hq]; rfl
       · rw [dt (show len x.Abq > 0 by simp only [len]; omega),if_neg hq,g7k,a1l (i:=0) (by omega) (by omega),g7n,sb_1 hq,g7n,ht _ _ _ rfl] <;> rfl
      rw [bf h10,g7i];by_cases h11:k.1 = 11
      ·
       unfold actE;rw [bt h11,g7k,if_neg h1,if_neg h6,if_neg h7,if_neg h8,if_neg h9,if_neg h10,if_pos h11,ht _ _ _ rfl] <;> rfl
      rw [bf h11,g7i];by_cases h12:k.1 = 12
      ·
       unfold actE;rw [bt h12,g7k,if_neg h1,if_neg h6,if_neg h7,if_neg h8,if_neg h9,if_neg h10,if_neg h11,if_pos h12];rfl
      ·
       unfold actE;rw [bf h12,g7i,if_neg h1,if_neg h6,if_neg h7,if_neg h8,if_neg h9,if_neg h10,if_neg h11,if_neg h12]
end Go.Proofs.Zz

/- What E names, whether it is free, what is noted, what a cycle of E does: the reference law's answer. -/
namespace Go.Proofs.Zz
open Go
variable {N:Nat}
end Go.Proofs.Zz
