import Derived.Test.YtnfpdmhdpeffjaaGreatMX
set_option linter.unusedSimpArgs false
set_option linter.unusedVariables false
/- With a trap noted no cell of its step, or a later one, is done: the model's law, and the reference law's answer. -/
namespace Go.Proofs.Zz
open Go
variable {N:Nat}
/-! A settled place is settled -/
theorem a6J {s:a0g} (h:NextOk s) (e:Bool):∀ (n:Nat) (p:a0C),hasM s p.Block = true→s.Blocks.length - p.Block.toNat≤n →
  hasM s (settleN s e n p).1.Block = true∧(((settleN s e n p).2 = false∧(settleN s e n p).1.Index < len (cellsM s e (settleN s e n p).1.Block))∨((settleN s e n p).2 = true∧¬ (settleN s e n p).1.Index < len (cellsM s e (settleN s e n p).1.Block)∧(blockM s (settleN s e n p).1.Block).2.2.1 < 0))
 | 0,p,hp,hn=>by
  have:=a2u.1 hp;omega
 | n+1,p,hp,hn=>by
  unfold settleN;rw [if_neg (by rw [hp]; simp)];split
  · rename_i h2; exact ⟨hp,.inl ⟨rfl,h2⟩⟩
  ·
   split
   · rename_i h2 h3; exact ⟨hp,.inr ⟨rfl,h2,h3⟩⟩
   ·
    rename_i h3;have h4:=(h _ hp).resolve_left h3;have h5:=a2u.1 hp;exact a6J h e n _ h4.2 (by simp only; omega)
theorem d4c {s:a0g} (h:NextOk s) (e:Bool) (p:a0C) (hp:hasM s p.Block = true):settleM s e (settleM s e p).1 = settleM s e p:=by
 have h1:=a6J h e s.Blocks.length p hp (by omega);have h0:=a2u.1 hp;obtain ⟨k,hk⟩:∃ k,s.Blocks.length = k+1:=⟨s.Blocks.length - 1,by omega⟩
 unfold settleM;rw [hk] at h1 ⊢;generalize settleN s e (k+1) p = q at *;obtain ⟨q,f⟩:=q;obtain ⟨h2,h3⟩:=h1;simp only at h2 h3 ⊢;unfold settleN;rw [if_neg (by rw [h2]; simp)];rcases h3 with ⟨rfl,h4⟩ | ⟨rfl,h4,h5⟩
 · rw [if_pos h4]
 · rw [if_neg h4,if_pos h5]
theorem a1r {s:a0g} (h:NextOk s) (e:Bool) (p:a0C) (hp:hasM s p.Block = true):nextM s e (settleM s e p).1 = nextM s e p:=by
 unfold nextM;rw [d4c h e p hp]
theorem c1H {s:a0g} {e:Bool} {p:a0C} (h:(settleM s e p).2 = true):(nextM s e p).2.2 = false:=by
 unfold nextM;rw [if_pos (.inl h)]
/-! Where E comes to -/
theorem d8k {s:a0g} {x:a0b} (h:x.E.Halted = true∨x.E.Wait > x.Cycle):atE s x = (a0h.z,0,false,x):=if_pos h
theorem d8m {s:a0g} {x:a0b} (hn:NextOk s) (hb:hasM s x.E.Pos.Block = true) (h:¬ (x.E.Halted = true∨x.E.Wait > x.Cycle)) (hf:(settleM s true x.E.Pos).2 = true) :
  (atE s x).2.2.1 = false∧(atE s x).2.2.2 = noteM { x with E:={ x.E with Pos:=(settleM s true x.E.Pos).1 } } 4 (nextM s true x.E.Pos).2.1 (blockM s (settleM s true x.E.Pos).1.Block).2.1:=by
 unfold atE;rw [if_neg h];simp only [a1r hn true _ hb,c1H hf,hf,if_true,Bool.false_and,and_self]
theorem at_cell {s:a0g} {x:a0b} (hn:NextOk s) (hb:hasM s x.E.Pos.Block = true) (h:¬ (x.E.Halted = true∨x.E.Wait > x.Cycle)) (hf:(settleM s true x.E.Pos).2 = false) :
  atE s x = ((nextM s true x.E.Pos).1,(nextM s true x.E.Pos).2.1,(nextM s true x.E.Pos).2.2 && !stoppedM x (nextM s true x.E.Pos).2.1,{ x with E:={ x.E with Pos:=(settleM s true x.E.Pos).1 } }):=by
 unfold atE;rw [if_neg h];simp only [a1r hn true _ hb,hf];rfl
end Go.Proofs.Zz

/- The reference's operations. -/
namespace Go.Proofs.Zz
open Go
variable {N:Nat}
end Go.Proofs.Zz

/- What E does in a cycle: the reference answers as the model says. -/
namespace Go.Proofs.Zz
open Go
variable {N:Nat}
theorem Wf.pos {x:a0b} (h:Wf x) (p:a0C):Wf { x with E:={ x.E with Pos:=p } } :=
 { rA:=h.rA,rE:=h.rE,mem:=h.mem,saq:=h.saq,tab:=h.tab,ldq:=h.ldq,sdq:=h.sdq,aeq:=h.aeq,abq:=h.abq,ebq:=h.ebq,wri:=h.wri,gA:=h.gA,gE:=h.gE }
end Go.Proofs.Zz

/- What E names, whether it is free, what is noted, what a cycle of E does: the reference law's answer. -/
namespace Go.Proofs.Zz
open Go
variable {N:Nat}
end Go.Proofs.Zz
