import Derived.Test.YtnfpdmhdpeffjaaGreatYU
import Derived.Test.YtnfpdmhdpeffjaaGreatVK
set_option linter.unusedSimpArgs false
set_option linter.unusedVariables false
/- It is one who owns what: the law's answer. -/
set_option maxRecDepth 100000
namespace Go.Proofs.Zz
open Go
variable {N:Nat}
theorem g9O {p:a0s} {o:List Int} (c:a0f) (t:a0w) (s:a0g) (m0:List Int) (h:Spl p o s) (hlp:p.Code.length≤2000) (hl:s.Blocks.length≤100000):∀ (m k:Nat) (x:a0b),RI k c s x→k+m≤12000→(∃ a b d e,Cos p o s m0 (stripped x) x a b k d e k) →
  ∃ k',k'≤k+m∧RI k' c s (runN c s t m x)∧∃ a b d e,Cos p o s m0 (stripped (runN c s t m x)) (runN c s t m x) a b k' d e k'
 | 0,k,x,hR,_,hC=>⟨k,by omega,hR,hC⟩
 | m+1,k,x,hR,hk,hC=>by
  rw [g6N];cases ho:overS c s x with
  | true=>rw [if_pos rfl]; exact ⟨k,by omega,hR,hC⟩
  | false =>
   rw [if_neg (by simp)];obtain ⟨h2,_⟩:=e4R t h.next.2 hR (by omega) hl
   obtain ⟨a,b,d,e,hC⟩:=hC;have hpl:p.Code.length*(k+1)≤1000000000:=by
    have:=Nat.mul_le_mul hlp (show k+1≤12001 by omega);omega
   obtain ⟨a',b',d',e',_,_,hC'⟩:=hC.step t h hR (by omega) hl hpl hpl;obtain ⟨k',k1,k2,k3⟩:=g9O c t s m0 h hlp hl m (k+1) _ h2 (by omega) ⟨a',b',d',e',hC'⟩;exact ⟨k',by omega,k2,k3⟩
theorem g9F {p:a0s} {o:List Int} (c:a0f) (t:a0w) (hcl:closedM p o = true) (hc:cfgM c = true) (f:Nat) (hf:f≤10000) :
  (outM c (withS p o) (runN c (withS p o) t f (st0 (memM p)))).End = 3∨∃ u,Stops p (memM p) u∧outM c (withS p o) (runN c (withS p o) t f (st0 (memM p))) = resG p (memM p) u:=by
 obtain ⟨hsp,hr,hll,hlp,hm⟩:=g8N hcl;obtain ⟨k,k1,hR,a,b,d,e,hC⟩:=g9O c t (withS p o) (memM p) hsp hlp (by omega) f 0 _ (e4P hc hsp.next.2 hm) (by omega) ⟨0,0,0,0,Cos.first hsp⟩
 generalize runN c (withS p o) t f (st0 (memM p)) = x at *;unfold outM;cases hov:overS c (withS p o) x with
 | false=>rw [if_neg (by simp)]; exact .inl rfl
 | true =>
  rw [if_pos rfl];have hpl:p.Code.length*(k+1)≤1000000000:=by
   have:=Nat.mul_le_mul hlp (show k+1≤10001 by omega);omega
  exact .inr (h0N hsp hC (hR.right (by omega)) hov hpl hpl)
theorem g9k (p:a0s) (a b:Int) (c:a0f) (t:a0w):g8j 200000 p a b c t = some (0,gB.dv true []):=by
 unfold g8j c3E;obtain ⟨o,ho,hlo⟩:=g6U (N:=200000) (bitOr .i64 a b) (List.replicate 16 0) 200000 1 (List.replicate 16 0) (by omega) (by omega) (by omega) rfl;obtain ⟨sm,hb,hsm⟩:=g5o (N:=200000) p;simp only [ho,g7u,g4n,hb,g3z p _ (show 2000 < 200000 by omega),g5e p (show 2000 < 200000 by omega),g7j,g7m,g7l,Bool.not_true,g7i];cases sm with
 | false=>rfl
 | true =>
  rw [Bool.not_true,g7i];by_cases h1:len t.Lats > 60
  · rw [dt h1]; rfl
  rw [df h1,g7i];by_cases h2:len t.Picks > 60
  · rw [dt h2]; rfl
  rw [df h2,g7i];unfold withE;cases hcl:closedM p o with
  | false=>rw [if_neg (by simp)]; rfl
  | true =>
   cases hcu:closedM p (ownerM p) with
   | false=>rw [if_pos rfl,if_neg (by simp)]; rfl
   | true =>
    rw [if_pos rfl,bne_self_eq_false,g7i,g7i,b9P c (by omega),g7j,g7m,g7l];cases hc:cfgM c with
    | false=>rfl
    | true =>
     rw [Bool.not_true,g7i];by_cases h3:c.Lat > 6
     · rw [dt h3]; rfl
     rw [df h3,g7i];by_cases h4:c.Mul > 6
     · rw [dt h4]; rfl
     rw [df h4,g7i];by_cases h5:c.Div > 6
     · rw [dt h5]; rfl
     rw [df h5,g7i];obtain ⟨r1,e1⟩:=g1O hcl;obtain ⟨r2,e2⟩:=g1O hcu;rw [f9J p (withS p o) c t 3000 (by rw [e1]; exact hlo) (by omega) (by omega),if_pos ⟨hc,r1⟩,g7j,g7m,g7m,g7m,g7l,
      f9J p (withS p (ownerM p)) c t 3000 (by rw [e2]; exact g4r p) (by omega) (by omega),if_pos ⟨hc,r2⟩,g7j,g7m,g7m,g7m,g7l]
     have c1:=g9F (p:=p) c t hcl hc 3000 (by omega);have c2:=g9F (p:=p) c t hcu hc 3000 (by omega);have hw:(outM c (withS p o) (runN c (withS p o) t 3000 (st0 (memM p)))).Writes.length≤100000:=by
      obtain ⟨hsp,hr,hll,hlp,hm⟩:=g8N hcl;obtain ⟨j,j1,j2,_⟩:=g2i c t (withS p o) hsp.next.2 (by omega) 3000 0 _ (e4P hc hsp.next.2 hm) (by omega)
      exact g4m (j2.inv.wf (by omega))
     rw [show ((3000:Int)).toNat = 3000 from rfl];generalize outM c (withS p o) (runN c (withS p o) t 3000 (st0 (memM p))) = x at *;generalize outM c (withS p (ownerM p)) (runN c (withS p (ownerM p)) t 3000 (st0 (memM p))) = y at *;unfold f8G;simp only [g7j,g7m,g7l];rw [bt (show (0:Int) = 0 from rfl),g7k,g7k];by_cases hx:x.End = 3
     · rw [bt hx,g7k]
     rw [bf hx,g7i];by_cases hy:y.End = 3
     · rw [bt hy,g7k]
     rw [bf hy,g7i];rcases c1 with c1 | ⟨u,u1,u2⟩
     · exact absurd c1 hx
     rcases c2 with c2 | ⟨v,v1,v2⟩
     · exact absurd c2 hy
     have huv:=u1.uniq v1;subst huv;rw [v2,← u2,g1d x hw (by omega:100000 < 200000),g7j,g7m,g7l]
end Go.Proofs.Zz
