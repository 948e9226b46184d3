import Derived.Test.YtnfpdmhdpeffjaaGreatMX
set_option linter.unusedSimpArgs false
set_option linter.unusedVariables false
namespace Go.Proofs.Zz
open Go
variable {N:Nat}
theorem a6J {s:ao} (h:NextOk s) (e:Bool):∀(n:Nat) (p:bc),hasM s p.Block=true→s.Blocks.length-p.Block.toNat≤n →
  hasM s (bL s e n p).1.Block=true∧(((bL s e n p).2=false∧(bL s e n p).1.Index<len (cu s e (bL s e n p).1.Block))∨((bL s e n p).2=true∧¬(bL s e n p).1.Index<len (cu s e (bL s e n p).1.Block)∧(bz s (bL s e n p).1.Block).2.2.1<0))
 | 0,p,hp,hn=>by
  have:=fq.1 hp;omega
 | n+1,p,hp,hn=>by
  unfold bL;rw[if_neg (by rw[hp]; simp)];split
  ·rename_i h2; exact⟨hp,.inl ⟨rfl,h2⟩⟩
  ·
   split
   ·rename_i h2 h3; exact⟨hp,.inr ⟨rfl,h2,h3⟩⟩
   ·
    rename_i h3;have h4:=(h _ hp).resolve_left h3;have h5:=fq.1 hp;exact a6J h e n _ h4.2 (by simp only; omega)
theorem d4c {s:ao} (h:NextOk s) (e:Bool) (p:bc) (hp:hasM s p.Block=true):kx s e (kx s e p).1=kx s e p:=by
 have h1:=a6J h e s.Blocks.length p hp (by omega);have h0:=fq.1 hp;obtain⟨k,hk⟩:∃k,s.Blocks.length=k+1:=⟨s.Blocks.length-1,by omega⟩
 unfold kx;rw[hk]at h1 ⊢;generalize bL s e (k+1) p=q at *;obtain⟨q,f⟩:=q;obtain⟨h2,h3⟩:=h1;simp only at h2 h3 ⊢;unfold bL;rw[if_neg (by rw[h2]; simp)];rcases h3 with⟨rfl,h4⟩ | ⟨rfl,h4,h5⟩
 ·rw[if_pos h4]
 ·rw[if_neg h4,if_pos h5]
theorem je {s:ao} (h:NextOk s) (e:Bool) (p:bc) (hp:hasM s p.Block=true):aT s e (kx s e p).1=aT s e p:=by
 unfold aT;rw[d4c h e p hp]
theorem c1H {s:ao} {e:Bool} {p:bc} (h:(kx s e p).2=true):(aT s e p).2.2=false:=by
 unfold aT;rw[if_pos (.inl h)]
theorem d8k {s:ao} {x:aa} (h:x.E.Halted=true∨x.E.Wait>x.Cycle):atE s x=(ak.z,0,false,x):=if_pos h
theorem d8m {s:ao} {x:aa} (hn:NextOk s) (hb:hasM s x.E.Pos.Block=true) (h:¬(x.E.Halted=true∨x.E.Wait>x.Cycle)) (hf:(kx s true x.E.Pos).2=true) :
  (atE s x).2.2.1=false∧(atE s x).2.2.2=bG {x with E:={x.E with Pos:=(kx s true x.E.Pos).1}} 4 (aT s true x.E.Pos).2.1 (bz s (kx s true x.E.Pos).1.Block).2.1:=by
 unfold atE;rw[if_neg h];simp only[je hn true _ hb,c1H hf,hf,if_true,mZ,and_self]
theorem at_cell {s:ao} {x:aa} (hn:NextOk s) (hb:hasM s x.E.Pos.Block=true) (h:¬(x.E.Halted=true∨x.E.Wait>x.Cycle)) (hf:(kx s true x.E.Pos).2=false) :
  atE s x=((aT s true x.E.Pos).1,(aT s true x.E.Pos).2.1,(aT s true x.E.Pos).2.2&&!dk x (aT s true x.E.Pos).2.1,{x with E:={x.E with Pos:=(kx s true x.E.Pos).1}}):=by
 unfold atE;rw[if_neg h];simp only[je hn true _ hb,hf];rfl
theorem h0K (c:ay) (s:ao) (k:ak) (st:Int) (x:aa):(actE c s k st x).Trap=x.Trap∨(actE c s k st x).Trap=(bG x 3 st k.2.2.2.1).Trap:=by
 unfold actE;split
 ·
  split
  ·exact .inl rfl
  ·exact .inr rfl
 split
 ·split<;>exact .inl rfl
 split
 ·split<;>exact .inl rfl
 split
 ·split<;>exact .inl rfl
 split
 ·split<;>exact .inl rfl
 split
 ·split<;>exact .inl rfl
 split
 ·exact .inl rfl
 split<;>exact .inl rfl
variable {N:Nat}
variable {N:Nat}
theorem Wf.pos {x:aa} (h:Wf x) (p:bc):Wf {x with E:={x.E with Pos:=p}} :=
 {rA:=h.rA,rE:=h.rE,mem:=h.mem,saq:=h.saq,tab:=h.tab,ldq:=h.ldq,sdq:=h.sdq,aeq:=h.aeq,abq:=h.abq,ebq:=h.ebq,wri:=h.wri,gA:=h.gA,gE:=h.gE}
variable {N:Nat}
end Go.Proofs.Zz
