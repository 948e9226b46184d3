import Derived.Test.YtnfpdmhdpeffjaaGreatMB
import Derived.Test.YtnfpdmhdpeffjaaGreatEnhL
set_option linter.unusedSimpArgs false
set_option linter.unusedVariables false
/- The reference's targets, programs that may be, owners: what their plain functions answer. -/
namespace Go.Proofs.Zz
open Go
variable {N:Nat}
def RegsOk (i:a0o):Prop:=(0≤i.2.1∧i.2.1≤15)∧(0≤i.2.2.1∧i.2.2.1≤15)∧(0≤i.2.2.2.1∧i.2.2.2.1≤15)
theorem c2U {n:Int} {h:Bool} (hf:fieldM n h 0 15 = true):0≤n∧n≤15:=by
 unfold fieldM at hf
 split at hf <;> simp only [decide_eq_true_eq] at hf <;> omega
theorem a9Q {i:a0o} (h:rightIns i = true):RegsOk i:=by
 unfold rightIns at h
 simp only [Bool.and_eq_true] at h
 exact ⟨c2U h.1.1.1.2,c2U h.1.1.2,c2U h.1.2⟩
theorem b4s (i:a0o):∀ x∈readsM i,1≤x∧x≤15:=by
 intro x hx
 unfold readsM at hx
 split at hx
 ·
  obtain ⟨_,⟨a0,a1⟩,b0,b1⟩:=a9Q (by assumption)
  rw [List.mem_append] at hx
  rcases hx with hx | hx
  ·
   split at hx
   ·
    rename_i h
    simp only [List.mem_singleton] at hx
    have:=h.2; omega
   · simp at hx
  ·
   split at hx
   ·
    rename_i h
    simp only [List.mem_singleton] at hx
    have:=h.2; omega
   · simp at hx
 · simp at hx
theorem c1K (p:a0s) (i:Int) (h0:0≤i) (h1:i < (p.Code.length:Int)):∃ t:Int,a3N N p i = some (0,gI.dv t [])∧(0≤t→t < p.Code.length):=by
 unfold a3N
 rw [a1l h0 h1]
 simp only [gd_true,a1T,on1_some,gg_dv,gg_nil]
 simp only [a1u,bne_iff_ne,decide_eq_true_eq,len]
 repeat' split
 all_goals refine ⟨_,rfl,fun h=>?_⟩
 all_goals omega
theorem d3N (p:a0s) (hl:p.Code.length≤100000):∀ (n i:Nat),i≤p.Code.length→p.Code.length - i < n →
  (∃ y:Int,a5h N n (i:Int) p = some (0,gI.dv y []))∨a5h N n (i:Int) p = some (1,[]):=by
 intro n
 induction n with
 | zero=>intro i h1 h2; omega
 | succ n ih =>
  intro i h1 h2
  show (∃ y:Int,a6H N (a5h N n) (i:Int) p = _)∨a6H N (a5h N n) (i:Int) p = _
  unfold a6H
  by_cases hi:i < p.Code.length
  ·
   obtain ⟨t,ht,_⟩:=c1K (N:=N) p (i:Int) (by omega) (by omega)
   have hrec:=ih (i+1) (by omega) (by omega)
   rw [a1f hi]
   simp only [bi_true,a1Q hi,gd_true,a1T,ht,on1_some,gg_dv,gg_nil,wS (show i≤100000000 by omega)]
   simp only [a1u]
   repeat' split
   all_goals first | exact .inl ⟨_,rfl⟩ | exact hrec
  ·
   rw [a1e (by omega)]
   exact .inr rfl
theorem d9M (p:a0s) (hl:p.Code.length≤100000) (hN:p.Code.length < N):∃ y:Int,b7X N p = some (0,gI.dv y []):=by
 unfold b7X
 rcases d3N (N:=N) p hl N 0 (by omega) (by omega) with ⟨y,h⟩ | h
 ·
  simp only [Int.natCast_zero] at h
  rw [h]; simp only [onB_fst,gg_dv,gg_nil]; exact ⟨_,rfl⟩
 ·
  simp only [Int.natCast_zero] at h
  rw [h,onB_snd _ _ (by decide)]; simp only [gg_nil]; exact ⟨_,rfl⟩
def Right (p:a0s):Prop:=1≤p.Code.length∧p.Code.length≤2000∧∀ j:Nat,j < p.Code.length→rightIns (p.Code.getD j a0o.z) = true
theorem d9J (p:a0s) (hl:p.Code.length≤100000):∀ (n i:Nat),i≤p.Code.length→p.Code.length - i < n→(∀ j:Nat,j < i→rightIns (p.Code.getD j a0o.z) = true) →
  a1Z N n (i:Int) p = some (0,gB.dv false [])∨(a1Z N n (i:Int) p = some (1,a1d.dv p [])∧∀ j:Nat,j < p.Code.length→rightIns (p.Code.getD j a0o.z) = true):=by
 intro n
 induction n with
 | zero=>intro i h1 h2; omega
 | succ n ih =>
  intro i h1 h2 hr
  show a2P N (a1Z N n) (i:Int) p = _∨(a2P N (a1Z N n) (i:Int) p = _∧_)
  unfold a2P
  by_cases hi:i < p.Code.length
  ·
   rw [a1f hi]
   simp only [bi_true,a1Q hi,gd_true,Int.toNat_natCast,a5D,on1_some,gg_dv,gg_nil,wS (show i≤100000000 by omega)]
   cases h:rightIns (p.Code.getD i a0o.z) with
   | false=>exact .inl rfl
   | true =>
    refine ih (i+1) (by omega) (by omega) fun j hj=>?_
    by_cases e:j = i
    · rw [e]; exact h
    · exact hr j (by omega)
  ·
   rw [a1e (by omega)]
   exact .inr ⟨rfl,fun j hj=>hr j (by omega)⟩
theorem b0k (p:a0s) (hN:2000 < N):∃ y:Bool,a1h N p = some (0,gB.dv y [])∧(y = true→Right p):=by
 unfold a1h
 have hf:∃ y:Bool,(some (0,gB.dv false []):Option Rs) = some (0,gB.dv y [])∧(y = true→Right p):=⟨false,rfl,fun h=>by simp at h⟩
 by_cases h1:((p.Code.length:Nat):Int) < 1
 · rw [show decide (len p.Code < 1) = true from dt h1]; exact hf
 rw [show decide (len p.Code < 1) = false from df h1]
 by_cases h2:((p.Code.length:Nat):Int) > 2000
 · rw [show decide (len p.Code > 2000) = true from dt h2]; exact hf
 rw [show decide (len p.Code > 2000) = false from df h2]
 have hl:p.Code.length≤2000:=by omega
 simp only [bi_false]
 generalize decide (p.Size < 0) = c1
 generalize decide (p.Size > 65536) = c2
 generalize decide (len p.Data > p.Size) = c3
 cases c1 with
 | true=>exact hf
 | false =>
  cases c2 with
  | true=>exact hf
  | false =>
   cases c3 with
   | true=>exact hf
   | false =>
    simp only [bi_false]
    rcases d9J (N:=N) p (by omega) N 0 (by omega) (by omega) (fun j hj=>by omega) with h | ⟨h,hr⟩
    ·
     simp only [Int.natCast_zero] at h
     rw [h]; simp only [onB_fst,gg_dv,gg_nil]; exact hf
    ·
     obtain ⟨y,hy⟩:=d9M (N:=N) p (by omega) (by omega)
     simp only [Int.natCast_zero] at h
     rw [h,onB_snd _ _ (by decide)]; simp only [gg_dv,gg_nil,hy,on1_some]
     exact ⟨_,rfl,fun _=>⟨by omega,hl,hr⟩⟩
theorem e2x (o:List Int) (n:Int) (h:n≤15):∃ y:Bool,b7k N o n = some (0,gB.dv y []):=by
 unfold b7k
 by_cases h1:n > 0
 · rw [dt h1,a1l (by omega) (by omega)]; exact ⟨_,rfl⟩
 · rw [df h1]; exact ⟨_,rfl⟩
theorem e3A (o l:List Int) (hl:l.length≤100) (hb:∀ x∈l,x≤15):∀ (n i:Nat),i≤l.length→l.length - i < n →
  a8c N n l (i:Int) o = some (0,gB.dv true [])∨a8c N n l (i:Int) o = some (1,[]):=by
 intro n
 induction n with
 | zero=>intro i h1 h2; omega
 | succ n ih =>
  intro i h1 h2
  show b0R N (a8c N n) l (i:Int) o = _∨b0R N (a8c N n) l (i:Int) o = _
  unfold b0R
  by_cases hi:i < l.length
  ·
   obtain ⟨y,hy⟩:=e2x (N:=N) o (l.getD i 0) (hb _ (a1E 0 hi))
   rw [a1f hi]
   simp only [bi_true,a1Q hi,gd_true,Int.toNat_natCast,hy,on1_some,gg_dv,gg_nil,wS (show i≤100000000 by omega)]
   cases y with
   | true=>exact .inl rfl
   | false=>exact ih (i+1) (by omega) (by omega)
  ·
   rw [a1e (by omega)]
   exact .inr rfl
theorem d7h (o l:List Int) (hl:l.length≤2) (hb:∀ x∈l,x≤15) (hN:2000 < N):∃ y:Bool,b2c N o l = some (0,gB.dv y []):=by
 unfold b2c
 rcases e3A (N:=N) o l (by omega) hb N 0 (by omega) (by omega) with h | h
 ·
  simp only [Int.natCast_zero] at h
  rw [h]; simp only [onB_fst,gg_dv,gg_nil]; exact ⟨_,rfl⟩
 ·
  simp only [Int.natCast_zero] at h
  rw [h,onB_snd _ _ (by decide)]; simp only [gg_nil]; exact ⟨_,rfl⟩
end Go.Proofs.Zz

/- The reference's least owner, closed owners: what their plain functions answer. -/
namespace Go.Proofs.Zz
open Go
variable {N:Nat}
theorem wS' {i:Int} (h0:0≤i) (h:i≤100000000):w.i64 (i+1) = i+1:=wI (by omega) (by omega)
theorem e4o (p:a0s) (o1:List Int):∀ (n:Nat) (i:Int) (o:List Int),0≤i→i≤16→16 - i < n →
  ∃ o',b2j N n i p o1 o = some (1,a1d.dv p ((gD (.ar 16 tI)).dv o1 ((gD (.ar 16 tI)).dv o' []))):=by
 intro n
 induction n with
 | zero=>intro i o h0 h1 h2; omega
 | succ n ih =>
  intro i o h0 h1 h2
  show ∃ o',b1v N (b2j N n) i p o1 o = _
  unfold b1v
  by_cases hi:i < 16
  ·
   rw [dt hi,a1l h0 (by omega),bi_true,gd_true,wS' h0 (by omega)]
   exact ih _ _ (by omega) (by omega) (by omega)
  ·
   rw [df hi]
   exact ⟨_,rfl⟩
theorem e1F (a b:Int) (l:List Int) (hl:l.length≤100) (hb:∀ x∈l,1≤x∧x≤15) (p:a0s) (o1:List Int):∀ (n i:Nat) (o:List Int),i≤l.length→l.length - i < n →
  ∃ o',a2D N n a b l (i:Int) p o1 o = some (7,gI.dv a (gI.dv b (a1d.dv p ((gD (.ar 16 tI)).dv o1 ((gD (.ar 16 tI)).dv o' []))))):=by
 intro n
 induction n with
 | zero=>intro i o h1 h2; omega
 | succ n ih =>
  intro i o h1 h2
  show ∃ o',b1D N (a2D N n) a b l (i:Int) p o1 o = _
  unfold b1D
  by_cases hi:i < l.length
  ·
   have hm:=hb _ (a1E 0 hi)
   rw [a1f hi,bi_true,a1Q hi,gd_true,Int.toNat_natCast,a1l (i:=l.getD i 0) (n:=16) (by omega) (by omega),gd_true,wS (by omega)]
   exact ih _ _ (by omega) (by omega)
  ·
   rw [a1e (by omega)]
   exact ⟨_,rfl⟩
theorem e4f (a:Int) (p:a0s) (hc:Right p) (o1:List Int) (hN:2000 < N):∀ (n i:Nat) (o:List Int),i≤p.Code.length→p.Code.length - i < n →
  ∃ o',a6n N n a (i:Int) p o1 o = some (5,gI.dv a (a1d.dv p ((gD (.ar 16 tI)).dv o1 ((gD (.ar 16 tI)).dv o' [])))):=by
 obtain ⟨hc1,hc2,hc3⟩:=hc
 intro n
 induction n with
 | zero=>intro i o h1 h2; omega
 | succ n ih =>
  intro i o h1 h2
  show ∃ o',b1x N (a6n N n) a (i:Int) p o1 o = _
  unfold b1x
  by_cases hi:i < p.Code.length
  ·
   obtain ⟨⟨d0,d1⟩,⟨a0,a1⟩,_⟩:=a9Q (hc3 i hi)
   have hrec:∀ o,∃ o',a6n N n a ((i+1:Nat):Int) p o1 o = some (5,gI.dv a (a1d.dv p ((gD (.ar 16 tI)).dv o1 ((gD (.ar 16 tI)).dv o' [])))):=fun o=>ih _ _ (by omega) (by omega)
   have hl1:=b4s (p.Code.getD i a0o.z)
   have hl2:=a6r (p.Code.getD i a0o.z)
   have h6:=fun o=>e1F (N:=N) a (i:Int) (readsM (p.Code.getD i a0o.z)) (by omega) hl1 p o1 N 0 o (by omega) (by omega)
   rw [a1f hi]
   simp only [bi_true,a1Q hi,gd_true,Int.toNat_natCast,a1T,a7Q,on1_some,gg_dv,gg_nil,wS (show i≤100000000 by omega),a1l (i:=(p.Code.getD i a0o.z).2.2.1) (n:=16) a0 (by omega),a1l (i:=(p.Code.getD i a0o.z).2.1) (n:=16) d0 (by omega)]
   simp only [Int.natCast_zero] at h6
   have h7:∀ o,∃ o',onA 7 (a2D N N a (i:Int) (readsM (p.Code.getD i a0o.z)) (0:Int) p o1 o) (gg [pI,pI,a0p,pD (.ar 16 tI),pD (.ar 16 tI)] fun (x7:Int) (x8:Int) (x9:a0s) (x10:List Int) (x11:List Int)=>a6n N n x7 (w.i64 (x8+1)) x9 x10 x11) = some (5,gI.dv a (a1d.dv p ((gD (.ar 16 tI)).dv o1 ((gD (.ar 16 tI)).dv o' [])))):=by
    intro o
    obtain ⟨o2,h⟩:=h6 o
    rw [h]
    simp only [onA_some,gg_dv,gg_nil,wS (show i≤100000000 by omega)]
    exact hrec o2
   simp only [a1u]
   repeat' split
   all_goals first | exact hrec _ | exact h7 _
  ·
   rw [a1e (by omega)]
   exact ⟨_,rfl⟩
theorem e2T (p:a0s) (hc:Right p) (o1:List Int) (hN:2000 < N):∀ (n:Nat) (i:Int) (o:List Int),0≤i→i≤17→17 - i < n →
  ∃ o',b1X N n i p o1 o = some (3,(gD (.ar 16 tI)).dv o1 ((gD (.ar 16 tI)).dv o' [])):=by
 intro n
 induction n with
 | zero=>intro i o h0 h1 h2; omega
 | succ n ih =>
  intro i o h0 h1 h2
  show ∃ o',b2n N (b1X N n) i p o1 o = _
  unfold b2n
  by_cases hi:i < 17
  ·
   obtain ⟨o2,h⟩:=e4f (N:=N) i p hc o1 hN N 0 o (by omega) (by have:=hc.2.1; omega)
   rw [dt hi,bi_true,show (0:Int) = ((0:Nat):Int) from rfl,h]
   simp only [onA_some,gg_dv,gg_nil,wS' h0 (show i≤100000000 by omega)]
   exact ih _ _ (by omega) (by omega) (by omega)
  ·
   rw [df hi]
   exact ⟨_,rfl⟩
theorem e4N (p:a0s) (hN:2000 < N):∃ o:List Int,c1s N p = some (0,(gD (.ar 16 tI)).dv o []):=by
 unfold c1s
 obtain ⟨y,hy,hr⟩:=b0k (N:=N) p hN
 rw [hy,on1_some,gg_dv,gg_nil]
 cases y with
 | false=>exact ⟨_,rfl⟩
 | true =>
  obtain ⟨o,h⟩:=e4o (N:=N) p (List.replicate 16 0) N 1 (List.replicate 16 0) (by omega) (by omega) (by omega)
  obtain ⟨o2,h2⟩:=e2T (N:=N) p (hr rfl) (List.replicate 16 0) hN N 0 o (by omega) (by omega) (by omega)
  simp only [Bool.not_true,bi_false,h,onA_some,gg_dv,gg_nil,h2]
  exact ⟨_,rfl⟩
theorem d3G (p:a0s) (o:List Int):∀ (n:Nat) (i:Int),0≤i→i≤16→16 - i < n →
  a4P N n i p o = some (0,gB.dv false [])∨a4P N n i p o = some (1,a1d.dv p ((gD (.ar 16 tI)).dv o [])):=by
 intro n
 induction n with
 | zero=>intro i h0 h1 h2; omega
 | succ n ih =>
  intro i h0 h1 h2
  show a7t N (a4P N n) i p o = _∨a7t N (a4P N n) i p o = _
  unfold a7t
  by_cases hi:i < 16
  ·
   have:=ih (i+1) (by omega) (by omega) (by omega)
   rw [dt hi,a1l h0 (by omega),wS' h0 (by omega)]
   simp only [bi_true,gd_true]
   simp only [a1u]
   repeat' split
   all_goals first | exact .inl rfl | exact this
  ·
   rw [df hi]
   exact .inr rfl
theorem d6t (p:a0s) (hc:Right p) (o:List Int) (hN:2000 < N):∀ (n i:Nat),i≤p.Code.length→p.Code.length - i < n →
  a4I N n (i:Int) p o = some (0,gB.dv false [])∨a4I N n (i:Int) p o = some (3,[]):=by
 obtain ⟨hc1,hc2,hc3⟩:=hc
 intro n
 induction n with
 | zero=>intro i h1 h2; omega
 | succ n ih =>
  intro i h1 h2
  show a6Y N (a4I N n) (i:Int) p o = _∨a6Y N (a4I N n) (i:Int) p o = _
  unfold a6Y
  by_cases hi:i < p.Code.length
  ·
   obtain ⟨⟨d0,d1⟩,⟨a0,a1⟩,_⟩:=a9Q (hc3 i hi)
   have hrec:=ih (i+1) (by omega) (by omega)
   have hl1:=b4s (p.Code.getD i a0o.z)
   have hl2:=a6r (p.Code.getD i a0o.z)
   obtain ⟨y1,h1'⟩:=e2x (N:=N) o (p.Code.getD i a0o.z).2.2.1 a1
   obtain ⟨y2,h2'⟩:=d7h (N:=N) o (readsM (p.Code.getD i a0o.z)) hl2 (fun x hx=>(hl1 x hx).2) hN
   rw [a1f hi]
   simp only [bi_true,a1Q hi,gd_true,Int.toNat_natCast,a1T,a7Q,h1',h2',on1_some,gg_dv,gg_nil,wS (show i≤100000000 by omega),a1l (i:=(p.Code.getD i a0o.z).2.1) (n:=16) d0 (by omega)]
   simp only [a1u]
   repeat' split
   all_goals first | exact .inl rfl | exact hrec
  ·
   rw [a1e (by omega)]
   exact .inr rfl
theorem e3B (p:a0s) (o:List Int) (hN:2000 < N):∃ y:Bool,b3f N p o = some (0,gB.dv y [])∧(y = true→Right p∧a1h N p = some (0,gB.dv true [])):=by
 obtain ⟨y,hy,hr⟩:=b0k (N:=N) p hN
 have key:∃ y':Bool,b3f N p o = some (0,gB.dv y' [])∧(y' = true→y = true):=by
  have hf:∃ y':Bool,(some (0,gB.dv false []):Option Rs) = some (0,gB.dv y' [])∧(y' = true→y = true):=⟨false,rfl,fun h=>by simp at h⟩
  unfold b3f
  rw [hy,on1_some,gg_dv,gg_nil]
  cases y with
  | false=>exact hf
  | true =>
   have hc:=hr rfl
   rw [Bool.not_true,bi_false,a1l (i:=0) (n:=16) (by omega) (by omega),gd_true]
   generalize (List.getD o 0 0 != 0) = c
   cases c with
   | true=>exact hf
   | false =>
    rw [bi_false]
    rcases d3G (N:=N) p o N 1 (by omega) (by omega) (by omega) with h | h
    · rw [h,onB_fst,gg_dv,gg_nil]; exact hf
    ·
     rw [h,onB_snd _ _ (by decide),gg_dv,gg_dv,gg_nil]
     rcases d6t (N:=N) p hc o hN N 0 (by omega) (by have:=hc.2.1; omega) with h | h
     ·
      simp only [Int.natCast_zero] at h
      rw [h,onB_fst,gg_dv,gg_nil]; exact hf
     ·
      simp only [Int.natCast_zero] at h
      rw [h,onB_snd _ _ (by decide),gg_nil]; exact ⟨_,rfl,fun _=>rfl⟩
 obtain ⟨y',h1,h2⟩:=key
 exact ⟨y',h1,fun h=>by have:=h2 h; subst this; exact ⟨hr rfl,hy⟩⟩
end Go.Proofs.Zz

/- The reference's leaders: what their plain functions answer. -/
namespace Go.Proofs.Zz
open Go
variable {N:Nat}
theorem e7G (i:a0o):∃ y:Bool,c1A N i = some (0,gB.dv y []):=by
 unfold c1A
 simp only [a1T,on1_some,gg_dv,gg_nil,a1u]
 repeat' split
 all_goals exact ⟨_,rfl⟩
theorem c3y (l:List Bool) (i:Nat):(l.set i true).length = l.length:=by simp
theorem c1w {l:List Bool} (h:l.getD 0 false = true) (i:Nat):(l.set i true).getD 0 false = true:=by
 cases l with
 | nil=>simp at h
 | cons x r=>cases i <;> simp_all
theorem e0A (p:a0s) (hc:p.Code.length≤2000):∀ (n i:Nat) (s:List Bool),i≤p.Code.length→p.Code.length - i < n→s.length = p.Code.length→s.getD 0 false = true →
  ∃ s',a5z N n s (i:Int) p = some (1,(gD (.sl tB)).dv s' [])∧s'.length = p.Code.length∧s'.getD 0 false = true:=by
 intro n
 induction n with
 | zero=>intro i s h1 h2; omega
 | succ n ih =>
  intro i s h1 h2 hs hz
  show ∃ s',a8l N (a5z N n) s (i:Int) p = _∧_
  unfold a8l
  by_cases hi:i < p.Code.length
  ·
   obtain ⟨t,ht,ht2⟩:=c1K (N:=N) p (i:Int) (by omega) (by omega)
   obtain ⟨y,hy⟩:=e7G (N:=N) (p.Code.getD i a0o.z)
   have hrec:∀ s:List Bool,s.length = p.Code.length→s.getD 0 false = true→∃ s',a5z N n s ((i+1:Nat):Int) p = some (1,(gD (.sl tB)).dv s' [])∧s'.length = p.Code.length∧s'.getD 0 false = true :=
    fun s h3 h4=>ih (i+1) s (by omega) (by omega) h3 h4
   rw [a1f hi]
   simp only [bi_true,ht,on1_some,gg_dv,gg_nil,a1Q hi,gd_true,Int.toNat_natCast,hy,wS (show i≤100000000 by omega),c3y,hs]
   by_cases htt:t≥0
   ·
    rw [dt htt,bi_true,a1l htt (ht2 htt),gd_true]
    cases y with
    | false=>exact hrec _ (by rw [c3y,hs]) (c1w hz _)
    | true =>
     by_cases hj:i+1 < p.Code.length
     ·
      rw [a1f hj,bi_true,bi_true,a1Q hj,gd_true]
      exact hrec _ (by rw [c3y,c3y,hs]) (c1w (c1w hz _) _)
     ·
      rw [a1e (by omega),bi_true,bi_false]
      exact hrec _ (by rw [c3y,hs]) (c1w hz _)
   ·
    rw [df htt,bi_false]
    cases y with
    | false=>exact hrec _ hs hz
    | true =>
     by_cases hj:i+1 < p.Code.length
     ·
      rw [a1f hj,bi_true,bi_true,a1Q hj,gd_true]
      exact hrec _ (by rw [c3y,hs]) (c1w hz _)
     ·
      rw [a1e (by omega),bi_true,bi_false]
      exact hrec _ hs hz
  ·
   rw [a1e (by omega)]
   exact ⟨_,rfl,hs,hz⟩
structure Lead (l:List Int) (n:Int):Prop where
 lo:∀ k:Nat,k < l.length→0≤l.getD k 0∧l.getD k 0 < n
 up:∀ j k:Nat,j < k→k < l.length→l.getD j 0 < l.getD k 0
 len:(l.length:Int)≤n
theorem b8n {α:Type} {l:List α} {x d:α} (k:Nat):(l++[x]).getD k d = if k < l.length then l.getD k d else if k = l.length then x else d:=by
 simp only [List.getD_eq_getElem?_getD]
 by_cases h:k < l.length
 · rw [List.getElem?_append_left h,if_pos h]
 ·
  rw [if_neg h,List.getElem?_append_right (by omega)]
  by_cases e:k = l.length
  · subst e; simp
  · rw [if_neg e,List.getElem?_eq_none (by simp; omega)]; rfl
theorem Lead.snoc {l:List Int} {i:Int} (h:Lead l i) (h0:0≤i):Lead (l++[i]) (i+1):=by
 refine ⟨fun k hk=>?_,fun j k hj hk=>?_,by have:=h.len; simp; omega⟩
 ·
  simp only [List.length_append,List.length_singleton] at hk
  rw [b8n]
  by_cases e:k < l.length
  · rw [if_pos e]; have:=h.lo k e; omega
  · rw [if_neg e,if_pos (by omega)]; omega
 ·
  simp only [List.length_append,List.length_singleton] at hk
  rw [b8n,b8n,if_pos (show j < l.length by omega)]
  by_cases e:k < l.length
  · rw [if_pos e]; exact h.up j k hj e
  · rw [if_neg e,if_pos (by omega)]; exact (h.lo j (by omega)).2
theorem Lead.next {l:List Int} {i:Int} (h:Lead l i):Lead l (i+1):=⟨fun k hk=>by have:=h.lo k hk; omega,h.up,by have:=h.len; omega⟩
theorem d9U (s:List Bool) (hc:s.length≤2000) (hz:s.getD 0 false = true):∀ (n i:Nat) (l:List Int),i≤s.length→s.length - i < n→Lead l i→(0 < i→l≠[]) →
  ∃ l',a8s N n s l (i:Int) = some (3,(gD (.sl tI)).dv l' [])∧Lead l' s.length∧(0 < s.length→l'≠[]):=by
 intro n
 induction n with
 | zero=>intro i l h1 h2; omega
 | succ n ih =>
  intro i l h1 h2 hl hne
  show ∃ l',a8B N (a8s N n) s l (i:Int) = _∧_
  unfold a8B
  by_cases hi:i < s.length
  ·
   have hlen:=hl.len
   have hsn:Lead (l++[(i:Int)]) ((i+1:Nat):Int):=by have:=hl.snoc (by omega); rwa [show ((i:Int)+1) = ((i+1:Nat):Int) by omega] at this
   have hnx:Lead l ((i+1:Nat):Int):=by have:=hl.next; rwa [show ((i:Int)+1) = ((i+1:Nat):Int) by omega] at this
   rw [a1f hi]
   simp only [bi_true,a1Q hi,gd_true,Int.toNat_natCast,wS (show i≤100000000 by omega),rmT (show (l.length+[(i:Int)].length)*8≤35184372088832 by simp; omega)]
   cases hf:s.getD i false with
   | true=>exact ih (i+1) _ (by omega) (by omega) hsn (fun _=>by simp)
   | false =>
    refine ih (i+1) _ (by omega) (by omega) hnx (fun _=>?_)
    by_cases e:i = 0
    ·
     subst e
     rw [hz] at hf; simp at hf
    · exact hne (by omega)
  ·
   rw [a1e (by omega)]
   have:i = s.length:=by omega
   subst this
   exact ⟨_,rfl,hl,fun h=>hne (by omega)⟩
theorem e6a:reach = 35184372088832:=by kernel_rfl
theorem e0N (p:a0s) (hN:2000 < N) (hc:Right p) (h22:a1h N p = some (0,gB.dv true [])):∃ l:List Int,b4W N p = some (0,(gD (.sl tI)).dv l [])∧Lead l p.Code.length∧l≠[]:=by
 unfold b4W
 obtain ⟨hc1,hc2,_⟩:=hc
 have hlen:(List.replicate (Int.toNat (len p.Code)) false).length = p.Code.length:=by simp [len]
 rw [h22]
 rw [show decide (0≤(len p.Code)∧(len p.Code)≤(len p.Code)∧(len p.Code)*((1:Nat):Int)≤((reach:Nat):Int)∧(len p.Code)≤((reach:Nat):Int)) = true by
  rw [e6a]; simp [len]; omega]
 obtain ⟨s,h1,h2,h3⟩:=e0A (N:=N) p hc2 N 0 ((List.replicate (Int.toNat (len p.Code)) false).set 0 true) (by omega) (by omega) (by simp [len]) (by
  obtain ⟨m,hm⟩:∃ m,p.Code.length = m+1:=⟨p.Code.length - 1,by omega⟩
  simp [len,hm,List.replicate_succ])
 obtain ⟨l,h4,h5,h6⟩:=d9U (N:=N) s (by omega) h3 N 0 [] (by omega) (by omega) ⟨by simp,by simp,by simp⟩ (fun h=>by omega)
 simp only [Int.natCast_zero] at h1 h4
 simp only [on1_some,gg_dv,gg_nil,Bool.not_true,bi_false,gd_true,hlen,a1l (i:=0) (n:=p.Code.length) (by omega) (by omega),h1,onA_some,h4]
 exact ⟨l,rfl,by rw [h2] at h5; exact h5,h6 (by omega)⟩
theorem e2A (l:List Int) (x:Int) (hl:l.length≤100000):∀ (n i:Nat),i≤l.length→l.length - i < n →
  (∃ r:Int,a7L N n l x (i:Int) = some (0,gI.dv r [])∧0≤r∧r < l.length∧l.getD r.toNat 0 = x)∨a7L N n l x (i:Int) = some (1,[]):=by
 intro n
 induction n with
 | zero=>intro i h1 h2; omega
 | succ n ih =>
  intro i h1 h2
  show (∃ r:Int,b1b N (a7L N n) l x (i:Int) = _∧_)∨b1b N (a7L N n) l x (i:Int) = _
  unfold b1b
  by_cases hi:i < l.length
  ·
   rw [a1f hi]
   simp only [bi_true,a1Q hi,gd_true,Int.toNat_natCast,wS (show i≤100000000 by omega)]
   cases he:(l.getD i 0 == x) with
   | true=>exact .inl ⟨i,rfl,by omega,by omega,by simpa using he⟩
   | false=>exact ih (i+1) (by omega) (by omega)
  ·
   rw [a1e (by omega)]
   exact .inr rfl
theorem c7n (l:List Int) (x:Int) (hl:l.length≤2000) (hN:2000 < N):∃ r:Int,a5H N l x = some (0,gI.dv r [])∧(r = -1∨(0≤r∧r < l.length∧l.getD r.toNat 0 = x)):=by
 unfold a5H
 rcases e2A (N:=N) l x (by omega) N 0 (by omega) (by omega) with ⟨r,h,h1,h2,h3⟩ | h
 ·
  simp only [Int.natCast_zero] at h
  rw [h]; simp only [onB_fst,gg_dv,gg_nil]; exact ⟨r,rfl,.inr ⟨h1,h2,h3⟩⟩
 ·
  simp only [Int.natCast_zero] at h
  rw [h,onB_snd _ _ (by decide)]; simp only [gg_nil]; exact ⟨-1,rfl,.inl rfl⟩
end Go.Proofs.Zz

/- The reference's blocks: what their plain function answers. -/
namespace Go.Proofs.Zz
open Go
variable {N:Nat}
abbrev D0:=Int × (Int × (Int × (Int × (Unit × (Unit × Unit)))))
abbrev tB0:Ty:=B4 .nl
def BlkOk (L:Nat) (n:Int) (k:Nat) (f t nx:Int):Prop:=0≤f∧f < t∧t≤n∧(nx = -1∨((k:Int) < nx∧nx < L))
abbrev Z0:D0:=((0:Int),((0:Int),((0:Int),((0:Int),((),((),()))))))
theorem e5h (p:a0s) (hc1:1≤p.Code.length) (hc:p.Code.length≤2000) (l:List Int) (hl:Lead l p.Code.length) (hN:2000 < N):∀ (n i:Nat) (bs:List D0),i≤l.length→l.length - i < n →
  bs.length = i→(∀ k:Nat,k < bs.length→BlkOk l.length p.Code.length k (bs.getD k Z0).1 (bs.getD k Z0).2.1 (bs.getD k Z0).2.2.1) →
  ∃ bs':List D0,b2N N n l bs (i:Int) p = some (1,(gD (.sl tB0)).dv bs' [])∧bs'.length = l.length∧∀ k:Nat,k < bs'.length→BlkOk l.length p.Code.length k (bs'.getD k Z0).1 (bs'.getD k Z0).2.1 (bs'.getD k Z0).2.2.1:=by
 intro n
 have hL:=hl.len
 induction n with
 | zero=>intro i bs h1 h2; omega
 | succ n ih =>
  intro i bs h1 h2 hb hok
  show ∃ bs':List D0,b8g N (b2N N n) l bs (i:Int) p = _∧_
  unfold b8g
  by_cases hi:i < l.length
  ·
   have hw:=wS (show i≤100000000 by omega)
   have hfr:=hl.lo i (by omega)
   have hrec:∀ (to nx tk:Int),BlkOk l.length p.Code.length i (l.getD i 0) to nx→∃ bs':List D0,b2N N n l (bs++[(l.getD i 0,(to,(nx,(tk,((),((),()))))))]) ((i+1:Nat):Int) p = some (1,(gD (.sl tB0)).dv bs' [])∧bs'.length = l.length∧∀ k:Nat,k < bs'.length→BlkOk l.length p.Code.length k (bs'.getD k Z0).1 (bs'.getD k Z0).2.1 (bs'.getD k Z0).2.2.1:=by
    intro to nx tk h
    refine ih (i+1) _ (by omega) (by omega) (by simp; omega) fun k hk=>?_
    simp only [List.length_append,List.length_singleton] at hk
    rw [b8n]
    by_cases e:k < bs.length
    · rw [if_pos e]; exact hok k e
    ·
     rw [if_neg e,if_pos (by omega)]
     have:k = i:=by omega
     rw [this]; exact h
   have hre:∀ x:D0,rm bs [x] 80 = true:=fun x=>rmT (by simp; omega)
   rw [a1f hi]
   simp only [bi_true,a1Q hi,gd_true,Int.toNat_natCast,hw]
   by_cases hj:i+1 < l.length
   ·
    have hto:=hl.lo (i+1) (by omega)
    have hup:=hl.up i (i+1) (by omega) (by omega)
    have hw2:w.i64 (l.getD (i+1) 0 - 1) = l.getD (i+1) 0 - 1:=wI (by omega) (by omega)
    obtain ⟨r,hr,hr2⟩:=c7n (N:=N) l (l.getD (i+1) 0) (by omega) hN
    obtain ⟨t,ht,_⟩:=c1K (N:=N) p (l.getD (i+1) 0 - 1) (by omega) (by omega)
    obtain ⟨r3,hr3,_⟩:=c7n (N:=N) l t (by omega) hN
    have hbk:BlkOk l.length p.Code.length i (l.getD i 0) (l.getD (i+1) 0) r:=by
     refine ⟨hfr.1,hup,by omega,?_⟩
     rcases hr2 with h | ⟨g1,g2,g3⟩
     · exact .inl h
     ·
      refine .inr ⟨?_,g2⟩
      by_cases h:(i:Int) < r
      · exact h
      ·
       exfalso
       by_cases e:r.toNat = i
       · rw [e] at g3; omega
       ·
        have:=hl.up r.toNat i (by omega) (by omega)
        omega
    have hbn:BlkOk l.length p.Code.length i (l.getD i 0) (l.getD (i+1) 0) (-1):=⟨hfr.1,hup,by omega,.inl rfl⟩
    rw [a1f hj,bi_true,a1Q hj,gd_true]
    simp only [hw2,a1l (i:=l.getD (i+1) 0 - 1) (n:=p.Code.length) (by omega) (by omega),gd_true,hr,on1_some,gg_dv,gg_nil,ht,hr3,hre]
    simp only [a1u]
    repeat' split
    all_goals first | exact hrec _ _ _ hbk | exact hrec _ _ _ hbn
   ·
    have hw2:w.i64 (len p.Code - 1) = len p.Code - 1:=wI (by simp only [len]; omega) (by simp only [len]; omega)
    obtain ⟨r,hr,hr2⟩:=c7n (N:=N) l (len p.Code) (by omega) hN
    obtain ⟨t,ht,_⟩:=c1K (N:=N) p (len p.Code - 1) (by simp only [len]; omega) (by simp only [len]; omega)
    obtain ⟨r3,hr3,_⟩:=c7n (N:=N) l t (by omega) hN
    have hbk:BlkOk l.length p.Code.length i (l.getD i 0) (len p.Code) r:=by
     refine ⟨hfr.1,by simp only [len]; exact hfr.2,by simp only [len]; omega,?_⟩
     rcases hr2 with h | ⟨g1,g2,g3⟩
     · exact .inl h
     · have:=hl.lo r.toNat (by omega); simp only [len] at g3; omega
    have hbn:BlkOk l.length p.Code.length i (l.getD i 0) (len p.Code) (-1):=⟨hfr.1,by simp only [len]; exact hfr.2,by simp only [len]; omega,.inl rfl⟩
    rw [a1e (by omega),bi_false]
    simp only [hw2,a1l (i:=len p.Code - 1) (n:=p.Code.length) (by simp only [len]; omega) (by simp only [len]; omega),gd_true,hr,on1_some,gg_dv,gg_nil,ht,hr3,hre]
    simp only [a1u]
    repeat' split
    all_goals first | exact hrec _ _ _ hbk | exact hrec _ _ _ hbn
  ·
   rw [a1e (by omega)]
   exact ⟨bs,rfl,by omega,hok⟩
theorem e8L (p:a0s) (hN:2000 < N) (hc:Right p) (h22:a1h N p = some (0,gB.dv true [])) :
  ∃ bs:List D0,d2H N p = some (0,(gD (.sl tB0)).dv bs [])∧bs.length≤p.Code.length∧bs≠[]∧∀ k:Nat,k < bs.length→BlkOk bs.length p.Code.length k (bs.getD k Z0).1 (bs.getD k Z0).2.1 (bs.getD k Z0).2.2.1:=by
 unfold d2H
 obtain ⟨l,h1,h2,h3⟩:=e0N (N:=N) p hN hc h22
 have:=h2.len
 have:=hc.2.1
 obtain ⟨bs,h4,h5,h6⟩:=e5h (N:=N) p hc.1 hc.2.1 l h2 hN N 0 [] (by omega) (by omega) rfl (by simp)
 simp only [Int.natCast_zero] at h4
 simp only [h1,on1_some,gg_dv,gg_nil]
 refine ⟨bs,?_,by omega,fun e=>?_,by rw [h5] at h6 ⊢; exact h6⟩
 · rw [h4]; exact onA_some 1 _ _
 ·
  rw [e] at h5
  exact h3 (List.length_eq_zero_iff.1 h5.symm)
end Go.Proofs.Zz

/- The reference's cells: what their plain functions answer. -/
namespace Go.Proofs.Zz
open Go
variable {N:Nat}
def InsK (kd:Int) (i:a0o):Prop:=(kd = 2∨kd = 3→26≤i.1∧i.1≤30∧0≤i.2.1∧i.2.1≤15)∧(kd = 4→31≤i.1∧i.1≤33)
theorem d7F {kd:Int} {i:a0o} (h2:kd≠2) (h3:kd≠3) (h4:kd≠4):InsK kd i:=⟨fun h=>by omega,fun h=>by omega⟩
theorem e7b {kd:Int} {i:a0o} (hd:0≤i.2.1∧i.2.1≤15) (h:(formM i.1 == 4) = true) (h4:kd≠4):InsK kd i:=by
 have h:=beq_iff_eq.1 h
 refine ⟨fun _=>?_,fun h=>by omega⟩
 have:26≤i.1∧i.1≤30:=by
  unfold formM at h
  repeat' split at h
  all_goals omega
 omega
theorem e7q {kd:Int} {i:a0o} (h:(formM i.1 == 5) = true) (h2:kd≠2) (h3:kd≠3):InsK kd i:=by
 have h:=beq_iff_eq.1 h
 refine ⟨fun h=>by omega,fun _=>?_⟩
 unfold formM at h
 repeat' split at h
 all_goals omega
structure CellsOk (ks:List Int) (pc off:Int) (l:List a0h) (m:Nat):Prop where
 len:l.length≤m
 all:∀ c∈l,c.2.2.2.1 = pc∧c.2.2.2.2.1 = off
 kin:∀ c∈l,c.1∈ks
 ins:∀ c∈l,InsK c.1 c.2.1
theorem CellsOk.nil (pc off:Int) (ks:List Int):CellsOk ks pc off [] 0:=⟨Nat.le_refl _,by simp,by simp,by simp⟩
theorem CellsOk.mono {ks:List Int} {pc off:Int} {l:List a0h} {m m':Nat} (h:CellsOk ks pc off l m) (hm:m≤m'):CellsOk ks pc off l m':=⟨Nat.le_trans h.len hm,h.all,h.kin,h.ins⟩
theorem CellsOk.sub {ks ks':List Int} {pc off:Int} {l:List a0h} {m:Nat} (h:CellsOk ks pc off l m) (hm:∀ x∈ks,x∈ks'):CellsOk ks' pc off l m:=⟨h.len,h.all,fun c hc=>hm _ (h.kin c hc),h.ins⟩
theorem CellsOk.snoc {ks:List Int} {pc off:Int} {l:List a0h} {m:Nat} (h:CellsOk ks pc off l m) (k:Int) (i:a0o) (r:Int) (hk:k∈ks) (hx:InsK k i):CellsOk ks pc off (l++[(k,(i,(r,(pc,(off,())))))]) (m+1):=by
 refine ⟨by have:=h.len; simp; omega,fun c hc=>?_,fun c hc=>?_,fun c hc=>?_⟩
 ·
  rcases List.mem_append.1 hc with hc | hc
  · exact h.all c hc
  · simp only [List.mem_singleton] at hc; subst hc; exact ⟨rfl,rfl⟩
 ·
  rcases List.mem_append.1 hc with hc | hc
  · exact h.kin c hc
  · simp only [List.mem_singleton] at hc; subst hc; exact hk
 ·
  rcases List.mem_append.1 hc with hc | hc
  · exact h.ins c hc
  · simp only [List.mem_singleton] at hc; subst hc; exact hx
def KA:List Int:=[1,2,3,4,5,9,10,11,12]
def KE:List Int:=[1,6,7,8,9,10,11,12]
def MkOk (ks:List Int) (pc off:Int) (m:a0u) (k:Nat):Prop:=m.Pc = pc∧m.Off = off∧CellsOk ks pc off m.L k
theorem MkOk.mk0 (pc off:Int):MkOk [] pc off (a0u.mk pc off []) 0:=⟨rfl,rfl,CellsOk.nil pc off []⟩
theorem MkOk.cons {ks:List Int} {pc off:Int} {m:a0u} {k:Nat} (h:MkOk ks pc off m k) (kd:Int):MkOk (kd::ks) pc off m k:=⟨h.1,h.2.1,h.2.2.sub fun x hx=>List.mem_cons_of_mem _ hx⟩
theorem d2N (o:List Int) (n:Int):∃ y:Int,b0u N o n = some (0,gI.dv y []):=by
 unfold b0u
 by_cases h1:n < 1
 · rw [dt h1]; exact ⟨_,rfl⟩
 rw [df h1]
 by_cases h2:n > 15
 · rw [dt h2]; exact ⟨_,rfl⟩
 rw [df h2,a1l (by omega) (by omega)]
 exact ⟨_,rfl⟩
theorem e6T (i:a0o) (o:List Int) (hN:2000 < N):∃ y:Int,b4r N i o = some (0,gI.dv y []):=by
 unfold b4r
 obtain ⟨w,hw⟩:=d2N (N:=N) o i.2.1
 obtain ⟨y,hy⟩:=d7h (N:=N) o (readsM i) (a6r i) (fun x hx=>(b4s i x hx).2) hN
 simp only [a1T,a7Q,hw,hy,on1_some,gg_dv,gg_nil,a1u]
 repeat' split
 all_goals exact ⟨_,rfl⟩
theorem e2O (l o:List Int) (hl:l.length≤2) (hN:2000 < N):∀ (n i:Nat) (out:List Int),i≤l.length→l.length - i < n→out.length≤i →
  ∃ out':List Int,b4H N n l out (i:Int) o = some (1,(gD (.sl tI)).dv out' [])∧out'.length≤l.length:=by
 intro n
 induction n with
 | zero=>intro i out h1 h2; omega
 | succ n ih =>
  intro i out h1 h2 h3
  show ∃ out':List Int,b4a N (b4H N n) l out (i:Int) o = _∧_
  unfold b4a
  by_cases hi:i < l.length
  ·
   obtain ⟨w,hw⟩:=d2N (N:=N) o (l.getD i 0)
   obtain ⟨r,hr,_⟩:=c7n (N:=N) out (l.getD i 0) (by omega) hN
   have ha:=ih (i+1) out (by omega) (by omega) (by omega)
   have hb:=ih (i+1) (out++[l.getD i 0]) (by omega) (by omega) (by simp; omega)
   rw [a1f hi]
   simp only [bi_true,a1Q hi,gd_true,Int.toNat_natCast,hw,hr,on1_some,gg_dv,gg_nil,wS (show i≤100000000 by omega),rmT (show (out.length+[l.getD i 0].length)*8≤35184372088832 by simp; omega)]
   simp only [a1u]
   repeat' split
   all_goals first | exact ha | exact hb
  ·
   rw [a1e (by omega)]
   exact ⟨out,rfl,by omega⟩
theorem e7z (i:a0o) (o:List Int) (hN:2000 < N):∃ l:List Int,a5F N i o = some (0,(gD (.sl tI)).dv l [])∧l.length≤2:=by
 unfold a5F
 have h2:=a6r i
 obtain ⟨out,h,h1⟩:=e2O (N:=N) (readsM i) o h2 hN N 0 [] (by omega) (by omega) (by simp)
 simp only [Int.natCast_zero] at h
 simp only [a7Q,on1_some,gg_dv,gg_nil,h,onA_some]
 exact ⟨out,rfl,by omega⟩
section
variable {ks:List Int} {pc off:Int} {m:a0u} {k:Nat}
theorem e7Q (kd:Int) (i:a0o) (h:MkOk ks pc off m k) (hm:k≤1000) (hk:kd∈ks) (hx:InsK kd i):∃ m':a0u,a0Y N kd i m = some (0,a2t.dv m' [])∧MkOk ks pc off m' (k+1):=by
 unfold a0Y
 obtain ⟨rfl,rfl,h⟩:=h
 have:=h.len
 rw [rmT (by simp; omega),gd_true]
 exact ⟨_,rfl,rfl,rfl,h.snoc kd i 0 hk hx⟩
theorem e4j (kd r:Int) (h:MkOk ks pc off m k) (hm:k≤1000) (hk:kd∈ks) (hx:InsK kd a0o.z):∃ m':a0u,a2f N kd r m = some (0,a2t.dv m' [])∧MkOk ks pc off m' (k+1):=by
 unfold a2f
 obtain ⟨rfl,rfl,h⟩:=h
 have:=h.len
 rw [rmT (by simp; omega),gd_true]
 exact ⟨_,rfl,rfl,rfl,h.snoc kd a0o.z r hk hx⟩
theorem e4d (kd:Int) (h:MkOk ks pc off m k) (hm:k≤1000) (hk:kd∈ks) (hx:InsK kd a0o.z):∃ m':a0u,a1n N kd m = some (0,a2t.dv m' [])∧MkOk ks pc off m' (k+1):=by
 unfold a1n
 obtain ⟨rfl,rfl,h⟩:=h
 have:=h.len
 rw [rmT (by simp; omega),gd_true]
 exact ⟨_,rfl,rfl,rfl,h.snoc kd a0o.z 0 hk hx⟩
end
theorem MkOk.mono {ks:List Int} {pc off:Int} {m:a0u} {k k':Nat} (h:MkOk ks pc off m k) (hk:k≤k'):MkOk ks pc off m k':=⟨h.1,h.2.1,h.2.2.mono hk⟩
theorem e2g (kd:Int) (r:List Int) (hr:r.length≤2) (pc off:Int) (ks:List Int) (hk:kd∈ks) (hx:InsK kd a0o.z):∀ (n i:Nat) (m:a0u) (k:Nat),i≤r.length→r.length - i < n→MkOk ks pc off m k→k≤900+i →
  ∃ m':a0u,a5f N n kd r (i:Int) m = some (1,a2t.dv m' [])∧MkOk ks pc off m' (k+(r.length - i)):=by
 intro n
 induction n with
 | zero=>intro i m k h1 h2; omega
 | succ n ih =>
  intro i m k h1 h2 h3 h4
  show ∃ m':a0u,a4S N (a5f N n) kd r (i:Int) m = _∧_
  unfold a4S
  by_cases hi:i < r.length
  ·
   obtain ⟨m1,h5,h6⟩:=e4j (N:=N) kd (r.getD i 0) h3 (by omega) hk hx
   rw [a1f hi]
   simp only [bi_true,a1Q hi,gd_true,Int.toNat_natCast,h5,on1_some,gg_dv,gg_nil,wS (show i≤100000000 by omega)]
   obtain ⟨m',g1,g2⟩:=ih (i+1) m1 (k+1) (by omega) (by omega) h6 (by omega)
   exact ⟨m',g1,g2.mono (by omega)⟩
  ·
   rw [a1e (by omega)]
   exact ⟨m,rfl,h3.mono (by omega)⟩
theorem e4L (kd:Int) (r:List Int) (hr:r.length≤2) {ks:List Int} {pc off:Int} {m:a0u} {k:Nat} (h:MkOk ks pc off m k) (hm:k≤900) (hx:InsK kd a0o.z) (hN:2000 < N) :
  ∃ m':a0u,a1j N kd r m = some (0,a2t.dv m' [])∧MkOk (kd::ks) pc off m' (k+2):=by
 unfold a1j
 obtain ⟨m',h1,h2⟩:=e2g (N:=N) kd r hr pc off (kd::ks) (by simp) hx N 0 m k (by omega) (by omega) (h.cons kd) (by omega)
 simp only [Int.natCast_zero] at h1
 rw [h1]
 simp only [onA_some,gg_dv,gg_nil]
 exact ⟨m',rfl,h2.mono (by omega)⟩
def GoodC (pc off:Int) (r:Option Rs):Prop:=∃ A E:List a0h,r = some (0,(gD (.sl a0i)).dv A ((gD (.sl a0i)).dv E []))∧CellsOk KA pc off A 8∧CellsOk KE pc off E 8
section
variable {ks:List Int} {pc off:Int} {m:a0u} {k:Nat}
theorem gIns {kd:Int} {i:a0o} {K:a0u→Option Rs} (h:MkOk ks pc off m k) (hm:k≤900) (hx:InsK kd i) (hk:∀ m',MkOk (kd::ks) pc off m' (k+1)→GoodC pc off (K m')):GoodC pc off (on1 (a0Y N kd i m) (gg [a0z] K)):=by
 obtain ⟨m',h1,h2⟩:=e7Q (N:=N) kd i (h.cons kd) (by omega) (by simp) hx
 rw [h1,on1_some,gg_dv,gg_nil]; exact hk m' h2
theorem gReg {kd r:Int} {K:a0u→Option Rs} (h:MkOk ks pc off m k) (hm:k≤900) (hx:InsK kd a0o.z) (hk:∀ m',MkOk (kd::ks) pc off m' (k+1)→GoodC pc off (K m')):GoodC pc off (on1 (a2f N kd r m) (gg [a0z] K)):=by
 obtain ⟨m',h1,h2⟩:=e4j (N:=N) kd r (h.cons kd) (by omega) (by simp) hx
 rw [h1,on1_some,gg_dv,gg_nil]; exact hk m' h2
theorem gPlain {kd:Int} {K:a0u→Option Rs} (h:MkOk ks pc off m k) (hm:k≤900) (hx:InsK kd a0o.z) (hk:∀ m',MkOk (kd::ks) pc off m' (k+1)→GoodC pc off (K m')):GoodC pc off (on1 (a1n N kd m) (gg [a0z] K)):=by
 obtain ⟨m',h1,h2⟩:=e4d (N:=N) kd (h.cons kd) (by omega) (by simp) hx
 rw [h1,on1_some,gg_dv,gg_nil]; exact hk m' h2
theorem gRegs {kd:Int} {r:List Int} {K:a0u→Option Rs} (hN:2000 < N) (h:MkOk ks pc off m k) (hr:r.length≤2) (hm:k≤900) (hx:InsK kd a0o.z) (hk:∀ m',MkOk (kd::ks) pc off m' (k+2)→GoodC pc off (K m')):GoodC pc off (on1 (a1j N kd r m) (gg [a0z] K)):=by
 obtain ⟨m',h1,h2⟩:=e4L (N:=N) kd r hr h hm hx hN
 rw [h1,on1_some,gg_dv,gg_nil]; exact hk m' h2
theorem gSent {i:a0o} {o:List Int} {K:List Int→Option Rs} (hN:2000 < N) (hk:∀ r:List Int,r.length≤2→GoodC pc off (K r)):GoodC pc off (on1 (a5F N i o) (gg [pD (.sl tI)] K)):=by
 obtain ⟨r,h1,h2⟩:=e7z (N:=N) i o hN
 rw [h1,on1_some,gg_dv,gg_nil]; exact hk r h2
theorem gSide {i:a0o} {o:List Int} {K:Int→Option Rs} (hN:2000 < N) (hk:∀ y,GoodC pc off (K y)):GoodC pc off (on1 (b4r N i o) (gg [pI] K)):=by
 obtain ⟨r,h1⟩:=e6T (N:=N) i o hN
 rw [h1,on1_some,gg_dv,gg_nil]; exact hk r
theorem gOwned {o:List Int} {n:Int} {K:Int→Option Rs} (hk:∀ y,GoodC pc off (K y)):GoodC pc off (on1 (b0u N o n) (gg [pI] K)):=by
 obtain ⟨r,h1⟩:=d2N (N:=N) o n
 rw [h1,on1_some,gg_dv,gg_nil]; exact hk r
theorem gOnE {o:List Int} {n:Int} {K:Bool→Option Rs} (hn:n≤15) (hk:∀ y,GoodC pc off (K y)):GoodC pc off (on1 (b7k N o n) (gg [pB] K)):=by
 obtain ⟨r,h1⟩:=e2x (N:=N) o n hn
 rw [h1,on1_some,gg_dv,gg_nil]; exact hk r
theorem gBi {c:Bool} {a b:Option Rs} (ha:c = true→GoodC pc off a) (hb:c = false→GoodC pc off b):GoodC pc off (bi c a b):=by
 cases c with
 | true=>exact ha rfl
 | false=>exact hb rfl
theorem gEnd {A E:a0u} {ka ke:List Int} {m n:Nat} (hA:MkOk ka pc off A m) (hE:MkOk ke pc off E n) (hm:m≤8) (hn:n≤8) (ha:∀ x∈ka,x∈KA) (he:∀ x∈ke,x∈KE):GoodC pc off (some (0,(gD (.sl a0i)).dv A.L ((gD (.sl a0i)).dv E.L []))):=⟨A.L,E.L,rfl,(hA.2.2.mono hm).sub ha,(hE.2.2.mono hn).sub he⟩
theorem gEndA {A:a0u} {ka:List Int} {m:Nat} (hA:MkOk ka pc off A m) (hm:m≤8) (ha:∀ x∈ka,x∈KA):GoodC pc off (some (0,(gD (.sl a0i)).dv A.L ((gD (.sl a0i)).dv ([]:List a0h) []))):=⟨A.L,[],rfl,(hA.2.2.mono hm).sub ha,(CellsOk.nil pc off _).mono (by omega)⟩
theorem gEnd0:GoodC pc off (some (0,(gD (.sl a0i)).dv ([]:List a0h) ((gD (.sl a0i)).dv ([]:List a0h) []))):=⟨[],[],rfl,(CellsOk.nil pc off _).mono (by omega),(CellsOk.nil pc off _).mono (by omega)⟩
end
theorem e7Z (i:a0o) (o:List Int) (pc off:Int) (hN:2000 < N):GoodC pc off (c6D N i o pc off):=by
 unfold c6D
 have h0:=MkOk.mk0 pc off
 rw [a5D,on1_some,gg_dv,gg_nil]
 cases hi:rightIns i with
 | false=>exact gEnd0
 | true =>
  obtain ⟨⟨d0,d1⟩,_,_⟩:=a9Q hi
  obtain ⟨z,hz⟩:=d7h (N:=N) o (readsM i) (a6r i) (fun x hx=>(b4s i x hx).2) hN
  simp only [Bool.not_true,bi_false,a1T,a7Q,hz,on1_some,gg_dv,gg_nil]
  repeat' first
   | assumption
   | omega
   | decide
   | exact d7F (by decide) (by decide) (by decide)
   | exact e7b ⟨d0,d1⟩ (by assumption) (by decide)
   | exact e7q (by assumption) (by decide) (by decide)
   | intro l' hl'
   | intro y'
   | with_reducible apply gBi
   | with_reducible apply gIns
   | with_reducible apply gReg
   | with_reducible apply gPlain
   | with_reducible apply gSent hN
   | with_reducible apply gRegs hN
   | with_reducible apply gSide hN
   | with_reducible apply gOwned
   | with_reducible apply gOnE d1
   | with_reducible apply gEnd0
   | with_reducible apply gEndA
   | with_reducible apply gEnd
end Go.Proofs.Zz

/- The reference's splits: what their plain functions answer. -/
set_option maxRecDepth 100000
namespace Go.Proofs.Zz
open Go
variable {N:Nat}
structure SpanOk (ks:List Int) (f k:Int) (l:List a0h):Prop where
 len:(l.length:Int)≤8*(k - f)
 all:∀ c∈l,f≤c.2.2.2.1∧c.2.2.2.1 < k∧c.2.2.2.2.1 = c.2.2.2.1 - f
 kin:∀ c∈l,c.1∈ks
 ins:∀ c∈l,InsK c.1 c.2.1
theorem SpanOk.app {ks:List Int} {f k:Int} {l r:List a0h} (h:SpanOk ks f k l) (hk:f≤k) (h':CellsOk ks k (k - f) r 8):SpanOk ks f (k+1) (l++r):=by
 refine ⟨?_,fun c hc=>?_,fun c hc=>(List.mem_append.1 hc).elim (h.kin c) (h'.kin c),fun c hc=>(List.mem_append.1 hc).elim (h.ins c) (h'.ins c)⟩
 · have:=h.len; have:=h'.len; simp; omega
 ·
  rcases List.mem_append.1 hc with hc | hc
  · have:=h.all c hc; omega
  · have:=h'.all c hc; omega
theorem e1k (ii nn i2:Int) (p:a0s) (hc:Right p) (o:List Int) (rb:List a0x) (ro so:List Int) (f t nx tk:Int) (hf:0≤f) (ht:t≤p.Code.length) (hN:2000 < N):∀ (n:Nat) (k:Int) (A E:List a0h),f≤k→k≤t→t - k < n→SpanOk KA f k A→SpanOk KE f k E →
  ∃ A' E':List a0h,a4q N n ii k p.Code p.Size p.Data o rb ro nn i2 so f t nx tk A E = some (3,dvG UW (ii,p.Code,p.Size,p.Data,o,rb,ro,nn,i2,so,f,t,nx,tk,A',E',()))∧SpanOk KA f t A'∧SpanOk KE f t E':=by
 obtain ⟨hc1,hc2,hc3⟩:=hc
 intro n
 induction n with
 | zero=>intro k A E h0 h1 h2; omega
 | succ n ih =>
  intro k A E h0 h1 h2 hA hE
  show ∃ A' E':List a0h,b4U N (a4q N n) ii k p.Code p.Size p.Data o rb ro nn i2 so f t nx tk A E = _∧_
  unfold b4U
  by_cases hi:k < t
  ·
   have hw:w.i64 (k - f) = k - f:=wI (by omega) (by omega)
   obtain ⟨X,Y,h3,h4,h5⟩:=e7Z (N:=N) (p.Code.getD k.toNat a0o.z) o k (k - f) hN
   have hlA:=hA.len
   have hlE:=hE.len
   have hlX:=h4.len
   have hlY:=h5.len
   rw [dt hi]
   simp only [bi_true,a1l (i:=k) (n:=p.Code.length) (by omega) (by omega),gd_true,hw,h3,on1_some,gg_dv,gg_nil,wS' (show 0≤k by omega) (show k≤100000000 by omega),rmT (show (A.length+X.length)*72≤35184372088832 by omega),rmT (show (E.length+Y.length)*72≤35184372088832 by omega)]
   exact ih (k+1) _ _ (by omega) (by omega) (by omega) (hA.app h0 h4) (hE.app h0 h5)
  ·
   rw [df hi]
   have:k = t:=by omega
   subst this
   exact ⟨A,E,rfl,hA,hE⟩
theorem f1P (p:a0s) (hc:Right p) (o:List Int) (rb:List a0x) (ro so:List Int) (n i:Int) (h0:0≤i) (h1:i < n) (h2:n≤2000) (v:D0) (hv0:0≤v.1) (hv1:v.1≤v.2.1) (hv2:v.2.1≤p.Code.length) (hN:2000 < N) :
  ∃ A E:List a0h,st_W N n i (dvG XW (p.Code,p.Size,p.Data,o,rb,ro,())) (dvG SW (so,())) v = some (dvG XW (p.Code,p.Size,p.Data,o,rb,ro,()),dvG SW (so,()),(v.1,(v.2.1,(v.2.2.1,(v.2.2.2.1,(A,(E,())))))))∧SpanOk KA v.1 v.2.1 A∧SpanOk KE v.1 v.2.1 E:=by
 obtain ⟨A,E,h3,h4,h5⟩:=e1k (N:=N) i n i p hc o rb ro so v.1 v.2.1 v.2.2.1 v.2.2.2.1 hv0 hv2 hN N v.1 [] [] (by omega) hv1 (by have:=hc.2.1; omega) ⟨by simp,by simp,by simp,by simp⟩ ⟨by simp,by simp,by simp,by simp⟩
 refine ⟨A,E,?_,h4,h5⟩
 unfold st_W
 refine (c5e XW _ (p.Code,p.Size,p.Data,o,rb,ro,())).trans ?_
 refine (c5e SW _ (so,())).trans ?_
 show onA 3 (a4q N N i v.1 p.Code p.Size p.Data o rb ro n i so v.1 v.2.1 v.2.2.1 v.2.2.2.1 [] []) _ = _
 rw [h3,onA_some]
 refine (c5e UW _ (i,p.Code,p.Size,p.Data,o,rb,ro,n,i,so,v.1,v.2.1,v.2.2.1,v.2.2.2.1,A,E,())).trans ?_
 show stW n i i n i _ = _
 unfold stW
 rw [if_pos ⟨h0,h1,rfl,rfl,rfl,wS' h0 (by omega)⟩]
def Kept (v:D0) (z:a0x):Prop:=z.1 = v.1∧z.2.1 = v.2.1∧z.2.2.1 = v.2.2.1∧SpanOk KA z.1 z.2.1 z.2.2.2.2.1∧SpanOk KE z.1 z.2.1 z.2.2.2.2.2.1
theorem e3n (p:a0s) (hc:Right p) (o:List Int) (rb:List a0x) (ro so:List Int) (n:Int) (h2:n≤2000) (hN:2000 < N):∀ (rest:List D0) (i:Int),0≤i→i+rest.length = n→(∀ v∈rest,0≤v.1∧v.1≤v.2.1∧v.2.1≤p.Code.length) →
  ∃ zs:List a0x,(ol_W N).walk n rest i (dvG XW (p.Code,p.Size,p.Data,o,rb,ro,())) (dvG SW (so,())) = some (dvG XW (p.Code,p.Size,p.Data,o,rb,ro,()),dvG SW (so,()),zs)∧zs.length = rest.length∧∀ k:Nat,k < rest.length→Kept (rest.getD k Z0) (zs.getD k a0x.z)
 | [],i,_,_,_=>⟨[],rfl,rfl,by simp⟩
 | v::rest,i,h0,h1,hv=>by
  simp only [List.length_cons] at h1
  obtain ⟨g1,g2,g3⟩:=hv v (by simp)
  obtain ⟨A,E,h3,h4,h5⟩:=f1P (N:=N) p hc o rb ro so n i h0 (by omega) h2 v g1 g2 g3 hN
  obtain ⟨zs,h6,h7,h8⟩:=e3n p hc o rb ro so n h2 hN rest (i+1) (by omega) (by omega) (fun u hu=>hv u (by simp [hu]))
  refine ⟨(v.1,(v.2.1,(v.2.2.1,(v.2.2.2.1,(A,(E,()))))))::zs,?_,by simp [h7],fun k hk=>?_⟩
  ·
   have h3':(ol_W N).step n i (dvG XW (p.Code,p.Size,p.Data,o,rb,ro,())) (dvG SW (so,())) v = some (dvG XW (p.Code,p.Size,p.Data,o,rb,ro,()),dvG SW (so,()),(v.1,(v.2.1,(v.2.2.1,(v.2.2.2.1,(A,(E,()))))))):=h3
   refine (OL.walk_cons (ol_W N) n v rest i _ _).trans ?_
   rw [h3']
   simp only []
   rw [h6]
   rfl
  ·
   cases k with
   | zero=>exact ⟨rfl,rfl,rfl,h4,h5⟩
   | succ k=>exact h8 k (by simpa using hk)
structure SplitOk (zs:List a0x):Prop where
 ne:zs≠[]
 len:zs.length≤2000
 blk:∀ k:Nat,k < zs.length→0≤(zs.getD k a0x.z).1∧(zs.getD k a0x.z).1 < (zs.getD k a0x.z).2.1∧(zs.getD k a0x.z).2.1≤2000∧((zs.getD k a0x.z).2.2.1 = -1∨((k:Int) < (zs.getD k a0x.z).2.2.1∧(zs.getD k a0x.z).2.2.1 < zs.length)) ∧
  SpanOk KA (zs.getD k a0x.z).1 (zs.getD k a0x.z).2.1 (zs.getD k a0x.z).2.2.2.2.1∧SpanOk KE (zs.getD k a0x.z).1 (zs.getD k a0x.z).2.1 (zs.getD k a0x.z).2.2.2.2.2.1
theorem e4p (p:a0s) (o:List Int) (hN:2000 < N):∃ (s:a0g) (e:Int),c1Q N p o = some (0,a0H.dv s (gI.dv e []))∧s.Blocks.length≤2000∧(e = 0→SplitOk s.Blocks):=by
 unfold c1Q
 obtain ⟨y,hy,hp⟩:=e3B (N:=N) p o hN
 rw [hy,on1_some,gg_dv,gg_nil]
 cases y with
 | false=>exact ⟨_,_,rfl,by simp,fun h=>by simp at h⟩
 | true =>
  obtain ⟨hc,h22⟩:=hp rfl
  obtain ⟨bs,h1,h2,h3,h4⟩:=e8L (N:=N) p hN hc h22
  have hc2:=hc.2.1
  obtain ⟨zs,h5,h6,h7⟩:=e3n (N:=N) p hc o [] (List.replicate 16 0) o (bs.length:Int) (by omega) hN bs 0 (by omega) (by omega) (fun v hv=>by
   obtain ⟨k,hk,e⟩:=List.getElem_of_mem hv
   have:=h4 k hk
   rw [List.getD_eq_getElem?_getD,List.getElem?_eq_getElem hk,Option.getD_some,e] at this
   exact ⟨this.1,by have:=this.2.1; omega,this.2.2.1⟩)
  have hl:a6e N N 0 p.Code p.Size p.Data o [] (List.replicate 16 0) bs o = some (1,dvG LX (p.Code,p.Size,p.Data,o,[],List.replicate 16 0,zs,o,())):=by
   unfold a6e
   rw [if_pos rfl,h5]
   rfl
  rw [Bool.not_true,bi_false,h1,on1_some]
  refine ⟨⟨zs,o⟩,0,?_,by simp only; omega,fun _=>⟨fun e=>?_,by simp only; omega,fun k hk=>?_⟩⟩
  ·
   refine (gg_dv _ _ _ _ _).trans ?_
   rw [gg_nil]
   show onA 1 (a6e N N 0 p.Code p.Size p.Data o [] (List.replicate 16 0) bs o) _ = _
   rw [hl,onA_some]
   exact c5e LX _ (p.Code,p.Size,p.Data,o,[],List.replicate 16 0,zs,o,())
  · simp only at e; rw [e] at h6; exact h3 (List.length_eq_zero_iff.1 h6.symm)
  ·
   simp only at hk ⊢
   obtain ⟨k1,k2,k3,k4,k5⟩:=h7 k (by omega)
   obtain ⟨g1,g2,g3,g4⟩:=h4 k (by omega)
   rw [k1,k2,k3]
   rw [k1,k2] at k4 k5
   exact ⟨g1,g2,by omega,by rw [h6]; exact g4,k4,k5⟩
theorem e6F (p:a0s):d6y N p = some (0,gB.dv (decide (p.Code.length≤200∧p.Data.length≤500)) []):=by
 unfold d6y
 simp only [a1u,decide_eq_true_eq,len]
 split
 · refine retB ?_; rw [Bool.eq_iff_iff]; simp only [decide_eq_true_eq]; omega
 · refine retB ?_; rw [df (by omega)]
end Go.Proofs.Zz
