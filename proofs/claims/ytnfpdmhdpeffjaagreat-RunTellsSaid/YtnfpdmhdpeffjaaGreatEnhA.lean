import Derived.Test.YtnfpdmhdpeffjaaGreatEngX
set_option linter.unusedSimpArgs false
set_option linter.unusedVariables false
/- Calls. -/
namespace Go.Proofs.Zz
open Go

structure SigOut (c:CS) (β:Nat→EI) (F:Nat→Prop) (w:World) (es:List EI) (q:List DV) (v:Value) (w':World) (F':Nat→Prop) (fs:List EI):Prop where
 ex:∃ β' p1 p2 e1 e2 rs,(∀ j,j < c.i.bx.length→β' j = β j)∧q = p1++p2∧fs = e1++e2∧RepAs β' F' w' c.r p1 e1 rs∧rs.length = c.r.length∧(match c.one with | true=>rs = [v] | false=>v = .tuple rs.toArray)∧RepBs β' F' w' c.ob 0 p2 e2
 sz:w.heap.size≤w'.heap.size
 os:w'.os = w.os
 tape:w'.tape = w.tape
 output:w'.output = w.output
 ff:∀ b,F b→F' b
 fb:∀ b,F' b→b < w'.heap.size
 uf:∀ b,F' b→F b∨ownB c.i.bx.length β es b∨w.heap.size≤b
 kp:∀ b,b < w.heap.size→¬ ownB c.i.bx.length β es b→w'.heap[b]? = w.heap[b]?
 fbx:∀ j,j < c.i.bx.length→¬ F' (β j).blk
 ed:fs.Pairwise fun a b=>a.nil = false→b.nil = false→a.blk≠b.blk
 be:∀ j,j < c.i.bx.length→∀ e∈fs,e.nil = false→(β j).blk≠e.blk
 ef:∀ e∈fs,e.nil = false→¬ F' e.blk
 fo:∀ e∈fs,e.nil = false→ownB c.i.bx.length β es e.blk∨w.heap.size≤e.blk

def WrOK (P:Program) (f:Nat) (t:Ty) (p q:List DV):Prop :=
 ∃ xs ys:List (Den t),p = [⟨.sl t,xs⟩]∧q = [⟨.sl t,ys⟩]∧∀ (F:Nat→Prop) (w:World) (e:EI) (v:Value),RepArrO F w e t xs→Win e 0 e.len [v] →
  Calls P f #[v] w fun out w'=>out = .returned (.tuple #[])∧((e.nil = true∧w' = w∧ys = []) ∨
   (e.nil = false∧RepArrO F w' e t ys∧w.heap.size≤w'.heap.size∧(∀ b,b < w.heap.size→b≠e.blk→w'.heap[b]? = w.heap[b]?)∧w'.os = w.os∧w'.tape = w.tape∧w'.output = w.output))
def CallOK (P:Program) (c:CS) (p q:List DV):Prop :=
 (∀ args w,(callFunc c.fn args).run P w = .ok (.enter c.fn args) w) ∧
 (∀ (β:Nat→EI) (F:Nat→Prop) (w:World) (es:List EI) (vs:List Value),(∀ b,F b→b < w.heap.size)→vs.length = c.i.av.length→SigIn c.i β F w p es vs →
  Calls P c.fn vs.toArray w fun out w'=>∃ v F' fs,out = .returned v∧SigOut c β F w es q v w' F' fs) ∧
 ∀ t,c.i.av = [.one (.w t)]→WrOK P c.fn t p q

theorem b5S {F F':Nat→Prop} {w:World}:∀ {t:Ty},t.hasSl = false→∀ {v:Den t} {cs:List Value},RepD F w t v cs→RepD F' w t v cs
 | .int _,_,_,_,h=>by rw [RepD] at h ⊢; exact h
 | .bool,_,_,_,h=>by rw [RepD] at h ⊢; exact h
 | .str,_,_,_,h=>by rw [RepD] at h ⊢; exact h
 | .unit,_,_,_,h=>by rw [RepD] at h ⊢; exact h
 | .nl,_,_,_,h=>by rw [RepD] at h ⊢; exact h
 | .pair a b,hs,_,_,h=>by
  rw [RepD] at h ⊢;simp only [Ty.hasSl,Bool.or_eq_false_iff] at hs;obtain ⟨c,d,e,h1,h2⟩:=h;exact ⟨c,d,e,b5S hs.1 h1,b5S hs.2 h2⟩
 | .ar n a,hs,v,_,h=>by
  rw [RepD] at h ⊢;simp only [Ty.hasSl] at hs;exact ⟨h.1,h.2.imp fun x c hc=>b5S hs hc⟩
 | .sl a,hs,_,_,_=>by simp [Ty.hasSl] at hs
section
variable {β:Nat→EI} {F F':Nat→Prop} {w:World}
theorem RepK.to {k:LK} {p:List DV} {es:List EI} {cs:List Value} (h:RepK β F w k p es cs) (hF:k.hasSl = false∨∀ b,F b→F' b):RepK β F' w k p es cs:=by
 cases h with
 | any h1 h2=>exact .any h1 h2
 | d h1=>exact .d (hF.elim (fun hs=>b5S hs h1) (fun hF=>h1.mono hF))
 | o h1 h2 =>
  refine .o h1 ?_;rcases hF with hs | hF
  ·
   obtain ⟨q1,q2,q3,q4,q5,q6⟩:=h2;refine ⟨q1,q2,q3,q4,q5,fun hn=>?_⟩
   obtain ⟨cs,u,fr,ds,k1,k2,k3,k4,k5⟩:=q6 hn;exact ⟨cs,u,fr,ds,k1,k2,k3.imp fun x c hc=>b5S hs hc,k4,k5⟩
  · exact h2.mono hF
 | r h1 h2 h3=>exact hF.elim (fun hs=>by simp [LK.hasSl] at hs) (fun hF=>.r (hF _ h1) (h2.mono hF) h3)
 | p h1=>exact .p h1
 | f h1=>exact .f h1
 | np=>exact .np
 | cst h1=>exact .cst h1
 | hd h1 h2 h3=>exact .hd h1 h2 h3
 | oh h1=>exact .oh h1
theorem RepKs.to {ks:List LK} {p:List DV} {es:List EI} {cs:List Value} (h:RepKs β F w ks p es cs) (hF:anySl ks = false∨∀ b,F b→F' b):RepKs β F' w ks p es cs:=by
 induction h with
 | nil=>exact .nil
 | cons a _ ih =>
  simp only [anySl,Bool.or_eq_false_iff] at hF;exact .cons (a.to (hF.imp And.left id)) (ih (hF.imp And.right id))
theorem RepA.to {a:AK} {p:List DV} {es:List EI} {v:Value} (h:RepA β F w a p es v) (hF:a.hasSl = false∨∀ b,F b→F' b):RepA β F' w a p es v:=by
 cases h with
 | no v=>exact .no v
 | any n v=>exact .any n v
 | one h1 h2 h3=>exact .one h1 h2 (h3.to hF)
 | agg h=>exact .agg (h.to hF)
theorem RepAs.to {as:List AK} {p:List DV} {es:List EI} {vs:List Value} (h:RepAs β F w as p es vs) (hF:as.any AK.hasSl = false∨∀ b,F b→F' b):RepAs β F' w as p es vs:=by
 induction h with
 | nil vs=>exact .nil vs
 | cons a _ ih =>
  simp only [List.any_cons,Bool.or_eq_false_iff] at hF;exact .cons (a.to (hF.imp And.left id)) (ih (hF.imp And.right id))
theorem RepBs.to {kss:List (List LK)} {j:Nat} {p:List DV} {es:List EI} (h:RepBs β F w kss j p es) (hF:kss.any anySl = false∨∀ b,F b→F' b) (hn:∀ b,F' b→F b):RepBs β F' w kss j p es:=by
 induction h with
 | nil j=>exact .nil j
 | cons a b c d _ ih =>
  simp only [List.any_cons,Bool.or_eq_false_iff] at hF;exact .cons a (b.to (hF.imp And.left id)) (fun h=>c (hn _ h)) d (ih (hF.imp And.right id))
end

theorem c1M:∀ (l:List (Nat × Obj)) (s:St),(apply (obs l) s).tm = s.tm∧∀ k,(lookO (apply (obs l) s).ob k = lookO s.ob k∧∀ o,(k,o)∉l)∨(k,lookO (apply (obs l) s).ob k)∈l
 | [],s=>⟨rfl,fun k=>.inl ⟨rfl,by simp⟩⟩
 | p::r,s=>by
  obtain ⟨h1,h2⟩:=c1M r { s with ob:=putO s.ob p.1 p.2 };refine ⟨h1,fun k=>?_⟩
  show (lookO (apply (obs r) { s with ob:=putO s.ob p.1 p.2 }).ob k = _∧_)∨(k,lookO (apply (obs r) { s with ob:=putO s.ob p.1 p.2 }).ob k)∈_;rcases h2 k with ⟨g1,g2⟩ | g
  ·
   simp only [a0J] at g1;by_cases e:p.1 = k
   ·
    subst e;right
    rw [g1,if_pos rfl]; simp
   ·
    left
    rw [if_neg e] at g1;exact ⟨g1,fun o ho=>by
     rcases List.mem_cons.1 ho with ho | ho
     · exact e (by rw [← ho])
     · exact g2 o ho⟩
  · right; simp [g]
theorem c7E:∀ (l:List Nat) (s:St),(apply (deads l) s).tm = s.tm∧∀ k,lookO (apply (deads l) s).ob k = if k∈l then .dead else lookO s.ob k
 | [],s=>⟨rfl,fun k=>by simp [deads,apply]⟩
 | n::r,s=>by
  obtain ⟨h1,h2⟩:=c7E r { s with ob:=putO s.ob n .dead };refine ⟨h1,fun k=>?_⟩
  show lookO (apply (deads r) { s with ob:=putO s.ob n .dead }).ob k = _;rw [h2];simp only [a0J];by_cases hk:k∈r
  · simp [hk]
  ·
   by_cases e:n = k
   · subst e; simp
   ·
    have e':¬ k = n:=fun h=>e h.symm
    simp [hk,e,e']
theorem d6q {ok:Nat→List DV→List DV→Prop} {s:St} {r:Wr}:∀ {bw:List Nat} {wr:Wr} {k:Wr→Rd Wr},Ev ok (freeze bw wr k) s r →
  ∃ fz:List (Nat × Obj),Ev ok (k (obs fz++wr)) s r∧(∀ n∈bw,∃ o,(n,o)∈fz)∧∀ n o,(n,o)∈fz→n∈bw∧∃ t xs ro,lookO s.ob n = .arr t xs ro∧o = .arr t xs true
 | [],wr,k,h=>⟨[],h,by simp,by simp⟩
 | n::q,wr,k,h=>by
  simp only [freeze] at h;have h:=h.get;simp only [look] at h;split at h
  ·
   rename_i t xs ro hobj;simp only [Cn.o.injEq] at hobj;obtain ⟨fz,h1,h2,h3⟩:=d6q h;have e:obs fz++(Loc.ob n,Cn.o (.arr t xs true))::wr = obs (fz++[(n,.arr t xs true)])++wr:=by
    have:∀ a b:List (Nat × Obj),obs (a++b) = obs a++obs b:=by
     intro a b;induction a with
     | nil=>rfl
     | cons x y ih=>simp [obs,ih]
    rw [this]; simp [obs]
   rw [e] at h1;refine ⟨_,h1,fun m hm=>?_,fun m o hm=>?_⟩
   ·
    rcases List.mem_cons.1 hm with rfl | hm
    · exact ⟨.arr t xs true,by simp⟩
    ·
     obtain ⟨o,ho⟩:=h2 m hm;exact ⟨o,by simp [ho]⟩
   ·
    rcases List.mem_append.1 hm with hm | hm
    ·
     obtain ⟨g1,g2⟩:=h3 m o hm;exact ⟨by simp [g1],g2⟩
    ·
     simp only [List.mem_singleton,Prod.mk.injEq] at hm;obtain ⟨rfl,rfl⟩:=hm;exact ⟨by simp,t,xs,ro,hobj,rfl⟩
  · exact h.fail.elim
end Go.Proofs.Zz
