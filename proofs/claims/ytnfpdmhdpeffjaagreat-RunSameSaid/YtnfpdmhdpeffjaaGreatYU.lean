import Derived.Test.YtnfpdmhdpeffjaaGreatYT
import Derived.Test.YtnfpdmhdpeffjaaGreatPB
import Derived.Test.YtnfpdmhdpeffjaaGreatVK
set_option linter.unusedSimpArgs false
set_option linter.unusedVariables false
set_option maxRecDepth 100000
namespace Go.Proofs.Zz
open Go
variable {N:Nat}
def TrLess (a b:cQ):Prop:=b=a∨(b.C2≠0∧(a.C2≠0→b.C5<a.C5))
theorem TrLess.trans {a b c:cQ} (h:TrLess a b) (g:TrLess b c):TrLess a c:=by
 rcases g with rfl | ⟨g1,g2⟩
 ·exact h
 ·
  rcases h with rfl | ⟨h1,h2⟩
  ·exact .inr ⟨g1,g2⟩
  ·exact .inr ⟨g1,λhk=>by have:=g2 h1; have:=h2 hk; omega⟩
theorem g8i (x:aa) {k:Int} (hk:k≠0) (st pc:Int):TrLess x.A9 (bG x k st pc).A9:=by
 unfold bG;split
 ·
  rename_i h;refine .inr ⟨hk,λh0=>?_⟩
  show st<x.A9.C5;rcases h with h | h
  ·exact absurd h h0
  ·exact h
 ·exact .inl rfl
theorem h0f (c:ay) (s:ao) (x:aa):TrLess x.A9 (aG c s x).A9:=by
 have ha:TrLess x.A9 (atE s x).2.2.2.A9:=by
  unfold atE;split
  ·exact .inl rfl
  ·
   simp only[];split
   ·exact g8i {x with E:={x.E with A6:=(kx s true x.E.A6).1}} (by omega) _ _
   ·exact .inl rfl
 unfold aG;split
 ·exact ha
 ·
  rcases h0K c s (atE s x).1 (atE s x).2.1 (atE s x).2.2.2 with e | e
  ·rw[e]; exact ha
  ·rw[e]; exact ha.trans (g8i _ (by omega) _ _)
theorem h0E (c:ay) (s:ao) (k:ak) (st:Int) (x:aa):TrLess x.A9 (actA c s k st x).A9:=by
 unfold actA;split
 ·
  unfold doA;split
  ·exact .inl rfl
  ·exact g8i _ (by omega) _ _
 split
 ·
  unfold gM;split
  ·rename_i h; exact g8i _ h _ _
  ·
   split
   ·
    split
    ·
     unfold gX resM
     repeat' split
     all_goals exact .inl rfl
    ·exact .inl rfl
   ·
    split
    ·
     unfold askM resM
     repeat' split
     all_goals exact .inl rfl
    ·exact .inl rfl
 split
 ·
  unfold gj;split
  ·rename_i h; exact g8i _ h _ _
  ·split<;>exact .inl rfl
 split
 ·split<;>exact .inl rfl
 split
 ·
  unfold gN;split<;>exact .inl rfl
 split
 ·
  unfold gP;split<;>exact .inl rfl
 split
 ·exact .inl rfl
 split<;>exact .inl rfl
theorem h0g (c:ay) (s:ao) (x:aa):TrLess x.A9 (aP c s x).A9:=by
 have ha:TrLess x.A9 (atA s x).2.2.2.A9:=by
  unfold atA;split
  ·exact .inl rfl
  ·
   simp only[];split
   ·exact g8i {x with A:={x.A with A6:=(kx s false x.A.A6).1}} (by omega) _ _
   ·exact .inl rfl
 unfold aP;split
 ·exact ha
 ·exact ha.trans (h0E _ _ _ _ _)
variable {N:Nat}
theorem g8N {p:aw} {o:List Int} (h:dK p o=true):Spl p o (ky p o)∧cg p=true∧(ky p o).A3.length≤2000∧p.Code.length≤2000∧len (memM p)≤65536:=by
 have hs:=Spl.of h;have hr:=hs.right;have h1:=(fm p).len;have h2:=(dW hr).2.1;have h3:=kO hr;refine⟨hs,hr,by rw[hs.len]; omega,h2,by simp only[len,g1Z hr]; omega⟩
variable {N:Nat}
theorem g9O {p:aw} {o:List Int} (c:ay) (t:bH) (s:ao) (m0:List Int) (h:Spl p o s) (hlp:p.Code.length≤2000) (hl:s.A3.length≤100000):∀(m k:Nat) (x:aa),RI k c s x→k+m≤12000→(∃a b d e,Cos p o s m0 (bo x) x a b k d e k) →
  ∃k',k'≤k+m∧RI k' c s (runN c s t m x)∧∃a b d e,Cos p o s m0 (bo (runN c s t m x)) (runN c s t m x) a b k' d e k'
 | 0,k,x,hR,_,hC=>⟨k,by omega,hR,hC⟩
 | m+1,k,x,hR,hk,hC=>by
  rw[g6N];cases ho:da c s x with
  | true=>rw[if_pos rfl]; exact⟨k,by omega,hR,hC⟩
  | false =>
   rw[if_neg (by simp)];obtain⟨h2,_⟩:=e4R t h.next.2 hR (by omega) hl
   obtain⟨a,b,d,e,hC⟩:=hC;have hpl:p.Code.length*(k+1)≤1000000000:=by
    have:=oz hlp (show k+1≤12001 by omega);omega
   obtain⟨a',b',d',e',_,_,hC'⟩:=hC.step t h hR (by omega) hl hpl hpl;obtain⟨k',k1,k2,k3⟩:=g9O c t s m0 h hlp hl m (k+1) _ h2 (by omega) ⟨a',b',d',e',hC'⟩;exact⟨k',by omega,k2,k3⟩
end Go.Proofs.Zz
