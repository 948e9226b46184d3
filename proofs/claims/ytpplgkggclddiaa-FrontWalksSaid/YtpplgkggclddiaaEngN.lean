import Derived.Test.YtpplgkggclddiaaEngI
import Derived.Laws.IdiomStrings
import Derived.Laws.CopyRow
import Derived.Laws.MakeOwn
set_option linter.unusedSimpArgs false
set_option linter.unusedVariables false
/- Cuts, lengths, bytes of strings, conversions that make nothing, structs built. -/
namespace Go.Proofs.Zz
open Go

section
variable {P:Program} {ok:Nat→List DV→List DV→Prop} {cx:Cx} {hi:Hi} {o:Oper}
section
variable {α:Type} {s:St} {r:α} {E:Env} {F:Nat→Prop} {w:World} {a:Act}
def RepOpt (E:Env) (F:Nat→Prop) (w:World):Option V→Option Value→Prop
 | none,none=>True
 | some x,some v=>RepV E F w x v
 | _,_=>False
theorem evO_ok {x:Option Operand} {k:Option V→Rd α} (h:Ev ok (evO x k) s r) (ht:Tms E F s.tm a w):∃ y,RepOpt E F w y (x.map a.eval)∧Ev ok (k y) s r:=by
 cases x with
 | none=>exact ⟨none,trivial,h⟩
 | some x=>obtain ⟨X,h1,h2⟩:=ev_ok h ht; exact ⟨some X,h1,h2⟩
theorem run_sliceBound {k:IntKind} {i:Int} {y:Nat} {c:BoundsCode} (h0:0≤i) (h1:i≤y):(Instr.sliceBound (.int k i) y c).run P w = .ok i.toNat w:=by
 simp [Instr.sliceBound,asIntOf,h0,h1]
theorem cutLo_int {n cap:Nat} {kl:IntKind} {lv:Int} {k:Nat→Rd α} (h:Ev ok (.ite (decide (0≤lv∧lv≤(n:Int))) (k lv.toNat) .fail) s r) :
  ∃ l,l≤n∧Ev ok (k l) s r∧∀ isS:Bool,(isS = true∨cap = n)→(Instr.sliceBounds isS n cap (some (.int kl lv)) none none).run P w = .ok (l,n,cap) w:=by
 rcases h.ite with ⟨hb,h⟩ | ⟨_,h⟩
 ·
  simp only [decide_eq_true_eq] at hb;refine ⟨lv.toNat,by omega,h,fun isS hc=>?_⟩
  have:(if isS = true then n else cap) = n:=by rcases hc with h | h <;> simp [h]
  simp [Instr.sliceBounds,run_sliceBound hb.1 hb.2,this]
 · exact h.fail.elim
theorem cutLo_ok {n cap:Nat} {lo:V} {lov:Value} {k:Nat→Rd α} (h:Ev ok (cutLo n lo k) s r) (hl:RepV E F w lo lov) :
  ∃ l,l≤n∧Ev ok (k l) s r∧∀ isS:Bool,(isS = true∨cap = n)→(Instr.sliceBounds isS n cap (some lov) none none).run P w = .ok (l,n,cap) w:=by
 unfold cutLo at h;split at h
 ·
  have:=of_int hl; subst this;exact cutLo_int h
 · exact h.fail.elim
theorem cutHi_int {n cap:Nat} (hcap:n≤cap) {kh kl:IntKind} {hv lv:Int} {k:Nat→Nat→Rd α} {isS:Bool}
  (h:Ev ok (.ite (decide (0≤hv∧hv≤(n:Int))) (.ite (decide (0≤lv∧lv≤hv)) (k lv.toNat hv.toNat) .fail) .fail) s r) :
  ∃ l m,l≤m∧m≤n∧Ev ok (k l m) s r∧(Instr.sliceBounds isS n cap (some (.int kl lv)) (some (.int kh hv)) none).run P w = .ok (l,m,cap) w:=by
 rcases h.ite with ⟨hb,h⟩ | ⟨_,h⟩
 ·
  rcases h.ite with ⟨hb',h⟩ | ⟨_,h⟩
  ·
   simp only [decide_eq_true_eq] at hb hb';refine ⟨lv.toNat,hv.toNat,by omega,by omega,h,?_⟩
   simp [Instr.sliceBounds,run_sliceBound hb.1 (show hv≤(cap:Int) by omega),run_sliceBound hb'.1 (show lv≤((hv.toNat:Nat):Int) by omega)]
  · exact h.fail.elim
 · exact h.fail.elim
theorem cutHi_ok {n cap:Nat} (hcap:n≤cap) {kh:IntKind} {hv:Int} {lo:Option V} {lov:Option Value} {k:Nat→Nat→Rd α} {isS:Bool} (h:Ev ok (cutHi n lo hv k) s r) (hl:RepOpt E F w lo lov) :
  ∃ l m,l≤m∧m≤n∧Ev ok (k l m) s r∧(Instr.sliceBounds isS n cap lov (some (.int kh hv)) none).run P w = .ok (l,m,cap) w:=by
 unfold cutHi at h;split at h
 ·
  rcases h.ite with ⟨hb,h⟩ | ⟨_,h⟩
  ·
   simp only [decide_eq_true_eq] at hb;cases lov with
   | some v=>exact hl.elim
   | none =>
    refine ⟨0,hv.toNat,Nat.zero_le _,by omega,h,?_⟩
    simp [Instr.sliceBounds,run_sliceBound hb.1 (show hv≤(cap:Int) by omega)]
  · exact h.fail.elim
 ·
  cases lov with
  | none=>exact hl.elim
  | some v =>
   have:=of_int hl; subst this;exact cutHi_int hcap h
 · exact h.fail.elim
theorem cut_ok {n cap:Nat} (hcap:n≤cap) {lo hi:Option V} {lov hiv:Option Value} {k:Nat→Nat→Rd α} {isS:Bool} (h:Ev ok (cut n lo hi k) s r) (hl:RepOpt E F w lo lov) (hh:RepOpt E F w hi hiv) (hcs:isS = true∨cap = n) :
  ∃ l m,l≤m∧m≤n∧Ev ok (k l m) s r∧(Instr.sliceBounds isS n cap lov hiv none).run P w = .ok (l,m,cap) w:=by
 unfold cut at h;split at h
 ·
  rename_i kh hv;cases hiv with
  | none=>exact hh.elim
  | some v =>
   have:=of_int hh; subst this;exact cutHi_ok hcap h hl
 ·
  cases hiv with
  | some v=>exact hh.elim
  | none =>
   split at h
   ·
    cases lov with
    | some v=>exact hl.elim
    | none=>exact ⟨0,n,Nat.zero_le _,Nat.le_refl _,h,by simp [Instr.sliceBounds]⟩
   ·
    cases lov with
    | none=>exact hl.elim
    | some v =>
     obtain ⟨l,g1,g2,g3⟩:=cutLo_ok (P:=P) (cap:=cap) h hl;exact ⟨l,n,g1,Nat.le_refl _,g2,g3 isS hcs⟩
 · exact h.fail.elim
theorem rep_slice {l:L} {v:Option Addr} {n c:Nat} (h:RepL E F w l [.slice v n c]):RepV E F w (.one l) (.slice v n c):=by
 cases l <;> first | trivial | exact ⟨trivial,h⟩
theorem run_slice_cut {t e:TypeId} {f:TypeInfo} (hu:P.underlying t = some (.slice e)) (hf:P.info? e = some f) {a:Option Addr} {len cap:Nat} {lov hiv:Option Value} {l m:Nat}
  (hb:(Instr.sliceBounds true len cap lov hiv none).run P w = .ok (l,m,cap) w) :
  (Instr.sliceAt t (.slice a len cap) lov hiv none).run P w = .ok (.slice (if cap = l then a else a.map (·.add (l*f.size))) (m - l) (cap - l)) w:=by
 simp [Instr.sliceAt,Instr.slice,run_underlying hu,hb,sizeOf,typeInfo,hf]
theorem Win.sub {e:EI} {off n l m c:Nat} {v:Option Addr} (h:Win e off n [.slice v n c]) (h1:l≤m) (h2:m≤n) (hc:e.len≤e.cap) (sz:Nat) (hsz:sz = e.esz) :
  Win e (off+l) (m - l) [.slice (if c = l then v else v.map (·.add (l*sz))) (m - l) (c - l)]:=by
 obtain ⟨k1,a,k2,k3⟩:=h;simp only [List.cons.injEq,Value.slice.injEq,and_true,true_and] at k2;obtain ⟨rfl,rfl⟩:=k2;refine ⟨by omega,_,by rw [Nat.sub_sub],fun h=>?_⟩
 have hne:¬ (e.cap - off = l):=by omega
 obtain ⟨g1,g2⟩:=k3 (by omega);refine ⟨g1,?_⟩;rw [if_neg hne,g2,hsz];simp [add_lit,Nat.add_mul,Nat.add_assoc]
theorem All_sub {R:α→List Value→Prop} {n l m:Nat} (hR:∀ x c,R x c→c.length = n) {xs:List α} {ds:List Value} (h:All R xs ds) (hm:l≤xs.length):∃ c d e,ds = c++(d++e)∧c.length = l*n∧All R ((xs.drop l).take m) d:=by
 have e:xs = xs.take l++((xs.drop l).take m++(xs.drop l).drop m):=by rw [List.take_append_drop,List.take_append_drop]
 rw [e] at h;obtain ⟨c1,d,rfl,h1,h2⟩:=h.split;obtain ⟨c2,c3,rfl,h3,h4⟩:=h2.split;refine ⟨c1,c2,c3,rfl,?_,h3⟩;rw [h1.len hR]; simp [Nat.min_eq_left hm]
theorem RepD_sub {t:Ty} {xs:List (Den t)} {v:Option Addr} {cap l m:Nat} (h:RepD F w (.sl t) xs [.slice v xs.length cap]) (h1:l≤m) (h2:m≤xs.length) (sz:Nat) (hsz:sz = t.sz) :
  RepD F w (.sl t) ((xs.drop l).take (m - l)) [.slice (if cap = l then v else v.map (·.add (l*sz))) (m - l) (cap - l)]:=by
 rw [RepD] at h ⊢;obtain ⟨ad,c,k1,k2,k3⟩:=h;simp only [List.cons.injEq,Value.slice.injEq,and_true,true_and] at k1;obtain ⟨rfl,rfl⟩:=k1;have hlen:List.length ((xs.drop l).take (m - l)) = m - l:=by simp; omega
 refine ⟨_,_,by rw [hlen],by rw [hlen]; omega,?_⟩
 rcases k3 with rfl | ⟨b,o,ds,rfl,k4,k5,k6⟩
 · left; simp
 ·
  by_cases hz:m - l = 0
  · left; rw [hz]; simp
  ·
   right
   have hne:¬ (cap = l):=by omega
   obtain ⟨c,d,e,rfl,g1,g2⟩:=All_sub (m:=m - l) (fun x c=>RepD_len) k5 (show l≤xs.length by omega);refine ⟨b,o+l*sz,d,by rw [if_neg hne]; simp [add_lit],k4,g2,?_⟩
   have:=(k6.append.2).append.1;rw [g1] at this;rw [hsz]; exact this
end
theorem op_slice (hti:TIok P cx) {t:TypeId} {x:Operand} {lo hj:Option Operand} {mx:Option Operand} (ho:o.op = .slice t x lo hj mx):OpP P ok cx hi o:=by
 intro C rg ix key A s a w wr K Q h hr hA hK;simp only [opSem,ho] at h;obtain ⟨E,F,hm,ht⟩:=hr;cases mx with
 | some m=>exact h.fail.elim
 | none =>
 obtain ⟨i,hi',h⟩:=Cx.t_ev h;have hT:=hti t i hi';obtain ⟨X,h1,h2⟩:=ev_ok h ht;obtain ⟨LO,h3,h4⟩:=evO_ok h2 ht;obtain ⟨HI,h5,h6⟩:=evO_ok h4 ht;have run:∀ v,(Instr.sliceAt t (a.eval x) (lo.map a.eval) (hj.map a.eval) none).run P w = .ok v w→(execOp a.eval o).run P w = .ok (.value v) w:=by
  intro v hv;simp only [execOp,ho,Sem.run_bind,Option.map_none,hv];rfl
 unfold sliceS at h6;split at h6
 ·
  rename_i sv htd;have hx:=of_str h1;have hu:=hT.str htd;obtain ⟨l,m,g1,g2,g3,g4⟩:=cut_ok (P:=P) (isS:=false) (Nat.le_refl _) h6 h3 h5 (.inr rfl);refine pure_rel (run (.string (sv.extract l m)) ?_) g3 hm ht (rep_str _) hK;rw [hx];simp [Instr.sliceAt,Instr.slice,run_underlying hu,g4]
 ·
  rename_i n htd;obtain ⟨e,hu,⟨f,z,f1,f2,f3,f4,f5⟩⟩:=hT.slice htd;have h6:=h6.get;simp only [look] at h6;split at h6
  ·
   rename_i a' xs ro hobj;simp only [Cn.o.injEq] at hobj;have e6:=castL_eq h6; subst e6; have h6:=castL_same h6;obtain ⟨q1,q2,q3,q4,ds,q5,q6⟩:=arr_at hm hobj;have h1':=h1;obtain ⟨_,p1,p2⟩:=h1;obtain ⟨w1,ad,w2,w3⟩:=id p2;simp only [List.cons.injEq,and_true] at w2;have hsz:f.size = (E.e n).esz:=by rw [f2,q3]
   rw [w2] at p2;split at h6
   ·
    -- the whole
    have e5:hj.map a.eval = none:=by cases hq:hj.map a.eval with
     | none=>rfl
     | some v=>rw [hq] at h5; exact h5.elim
    have e3:lo.map a.eval = none:=by cases hq:lo.map a.eval with
     | none=>rfl
     | some v=>rw [hq] at h3; exact h3.elim
    refine pure_rel (run _ ?_) h6 hm ht h1' hK;rw [w2,e3,e5,run_slice_cut hu f1 (l:=0) (m:=(E.e n).len) (by simp [Instr.sliceBounds])];simp only [Nat.zero_mul,Nat.sub_zero];split
    · rfl
    ·
     cases ad with
     | none=>rfl
     | some ad=>simp [Addr.add]
   ·
    rename_i lov;have e5:hj.map a.eval = none:=by cases hq:hj.map a.eval with
     | none=>rfl
     | some v=>rw [hq] at h5; exact h5.elim
    obtain ⟨lv,e3⟩:∃ lv,lo.map a.eval = some lv:=by cases hq:lo.map a.eval with
     | none=>rw [hq] at h3; exact h3.elim
     | some v=>exact ⟨v,rfl⟩
    rw [e3] at h3;obtain ⟨l,g1,g2,g3⟩:=cutLo_ok (P:=P) (cap:=(E.e n).cap - 0) h6 h3;rw [q1] at g1 g3;have hw:=p2.sub (l:=l) (m:=(E.e n).len) g1 (Nat.le_refl _) q2 f.size hsz;rw [Nat.zero_add] at hw;refine pure_rel (run _ ?_) g2 hm ht (rep_slice ⟨p1,g1,hw⟩) hK;rw [w2,e3,e5,run_slice_cut hu f1 (g3 true (.inl rfl))]
   ·
    obtain ⟨l,m,g1,g2,g3,g4⟩:=cut_ok (P:=P) (isS:=true) (cap:=(E.e n).cap - 0) (by rw [q1]; omega) h6 h3 h5 (.inl rfl);rw [q1] at g2 g4;have hw:=p2.sub (l:=l) (m:=m) g1 g2 q2 f.size hsz;rw [Nat.zero_add] at hw;refine pure_rel (run _ ?_) g3 hm ht (rep_slice ⟨p1,hw⟩) hK;rw [w2,run_slice_cut hu f1 g4]
  · exact h6.fail.elim
 ·
  rename_i n off htd;obtain ⟨e,hu,⟨f,z,f1,f2,f3,f4,f5⟩⟩:=hT.slice htd;have h6:=h6.get;simp only [look] at h6;split at h6
  ·
   rename_i a' xs ro hobj;simp only [Cn.o.injEq] at hobj;have e6:=castL_eq h6; subst e6; have h6:=castL_same h6;obtain ⟨q1,q2,q3,q4,ds,q5,q6⟩:=arr_at hm hobj;have h1':=h1;obtain ⟨_,p1,p0,p2⟩:=h1;obtain ⟨w1,ad,w2,w3⟩:=id p2;simp only [List.cons.injEq,and_true] at w2;have hsz:f.size = (E.e n).esz:=by rw [f2,q3]
   rw [w2] at p2;split at h6
   ·
    have e5:hj.map a.eval = none:=by cases hq:hj.map a.eval with
     | none=>rfl
     | some v=>rw [hq] at h5; exact h5.elim
    have e3:lo.map a.eval = none:=by cases hq:lo.map a.eval with
     | none=>rfl
     | some v=>rw [hq] at h3; exact h3.elim
    refine pure_rel (run _ ?_) h6 hm ht h1' hK;rw [w2,e3,e5,run_slice_cut hu f1 (l:=0) (m:=(E.e n).len - off) (by simp [Instr.sliceBounds])];simp only [Nat.zero_mul,Nat.sub_zero];split
    · rfl
    ·
     cases ad with
     | none=>rfl
     | some ad=>simp [Addr.add]
   ·
    rename_i lov;have e5:hj.map a.eval = none:=by cases hq:hj.map a.eval with
     | none=>rfl
     | some v=>rw [hq] at h5; exact h5.elim
    obtain ⟨lv,e3⟩:∃ lv,lo.map a.eval = some lv:=by cases hq:lo.map a.eval with
     | none=>rw [hq] at h3; exact h3.elim
     | some v=>exact ⟨v,rfl⟩
    rw [e3] at h3;obtain ⟨l,g1,g2,g3⟩:=cutLo_ok (P:=P) (cap:=(E.e n).cap - off) h6 h3;rw [q1] at g1 g3;have hw:=p2.sub (l:=l) (m:=(E.e n).len - off) g1 (Nat.le_refl _) q2 f.size hsz;refine pure_rel (run _ ?_) g2 hm ht (rep_slice ⟨p1,by omega,by rw [← Nat.sub_sub]; exact hw⟩) hK;rw [w2,e3,e5,run_slice_cut hu f1 (g3 true (.inl rfl))]
   ·
    obtain ⟨l,m,g1,g2,g3,g4⟩:=cut_ok (P:=P) (isS:=true) (cap:=(E.e n).cap - off) (by rw [q1]; omega) h6 h3 h5 (.inl rfl);rw [q1] at g2 g4;have hw:=p2.sub (l:=l) (m:=m) g1 g2 q2 f.size hsz;refine pure_rel (run _ ?_) g3 hm ht (rep_slice ⟨p1,hw⟩) hK;rw [w2,run_slice_cut hu f1 g4]
  · exact h6.fail.elim
 ·
  rename_i n off len htd;obtain ⟨e,hu,⟨f,z,f1,f2,f3,f4,f5⟩⟩:=hT.slice htd;have h6:=h6.get;simp only [look] at h6;split at h6
  ·
   rename_i a' xs ro hobj;simp only [Cn.o.injEq] at hobj;have e6:=castL_eq h6; subst e6; have h6:=castL_same h6;obtain ⟨q1,q2,q3,q4,ds,q5,q6⟩:=arr_at hm hobj;obtain ⟨_,p1,p2⟩:=h1;obtain ⟨w1,ad,w2,w3⟩:=id p2;simp only [List.cons.injEq,and_true] at w2;have hsz:f.size = (E.e n).esz:=by rw [f2,q3]
   rw [w2] at p2;obtain ⟨l,m,g1,g2,g3,g4⟩:=cut_ok (P:=P) (isS:=true) (cap:=(E.e n).cap - off) (by omega) h6 h3 h5 (.inl rfl);have hw:=p2.sub (l:=l) (m:=m) g1 g2 q2 f.size hsz;refine pure_rel (run _ ?_) g3 hm ht (rep_slice ⟨p1,hw⟩) hK;rw [w2,run_slice_cut hu f1 g4]
  · exact h6.fail.elim
 ·
  rename_i a' xs htd;obtain ⟨e,hu,⟨f,z,f1,f2,f3,f4,f5⟩⟩:=hT.slice htd;have e6:=castL_eq h6; subst e6; have h6:=castL_same h6;have h1':=h1;obtain ⟨_,p2⟩:=h1;rw [RepL] at p2;have p3:=p2;rw [RepD] at p3;obtain ⟨ad,cap,w2,w3,_⟩:=p3;simp only [List.cons.injEq,and_true] at w2;rw [w2] at p2;split at h6
  ·
   have e5:hj.map a.eval = none:=by cases hq:hj.map a.eval with
    | none=>rfl
    | some v=>rw [hq] at h5; exact h5.elim
   have e3:lo.map a.eval = none:=by cases hq:lo.map a.eval with
    | none=>rfl
    | some v=>rw [hq] at h3; exact h3.elim
   refine pure_rel (run _ ?_) h6 hm ht h1' hK;rw [w2,e3,e5,run_slice_cut hu f1 (l:=0) (m:=List.length xs) (by simp [Instr.sliceBounds])];simp only [Nat.zero_mul,Nat.sub_zero];split
   · rfl
   ·
    cases ad with
    | none=>rfl
    | some ad=>simp [Addr.add]
  ·
   rename_i lov;have e5:hj.map a.eval = none:=by cases hq:hj.map a.eval with
    | none=>rfl
    | some v=>rw [hq] at h5; exact h5.elim
   obtain ⟨lv,e3⟩:∃ lv,lo.map a.eval = some lv:=by cases hq:lo.map a.eval with
    | none=>rw [hq] at h3; exact h3.elim
    | some v=>exact ⟨v,rfl⟩
   rw [e3] at h3;obtain ⟨l,g1,g2,g3⟩:=cutLo_ok (P:=P) (cap:=cap) h6 h3;have hw:=RepD_sub p2 (l:=l) (m:=List.length xs) g1 (Nat.le_refl _) f.size f2;have ee:(List.drop l xs).take (List.length xs - l) = List.drop l xs:=List.take_of_length_le (by simp);rw [ee] at hw;refine pure_rel (run _ ?_) g2 hm ht (rep_slice hw) hK;rw [w2,e3,e5,run_slice_cut hu f1 (g3 true (.inl rfl))]
  ·
   obtain ⟨l,m,g1,g2,g3,g4⟩:=cut_ok (P:=P) (isS:=true) (cap:=cap) w3 h6 h3 h5 (.inl rfl);have hw:=RepD_sub p2 g1 g2 f.size f2;refine pure_rel (run _ ?_) g3 hm ht (rep_slice hw) hK;rw [w2,run_slice_cut hu f1 g4]
 ·
  rename_i n l y' htd;obtain ⟨e,hu,⟨f,z,f1,f2,f3,f4,f5⟩,hsc,hzk⟩:=hT.array htd;have hsz:f.size = 1:=by rw [f2,scalar_sz hsc]
  obtain ⟨lo',m,g1,g2,g3,g4⟩:=cut_ok (P:=P) (isS:=false) (Nat.le_refl _) h6 h3 h5 (.inr rfl);obtain ⟨_,p1,p2,p3⟩:=h1;simp only [List.cons.injEq,and_true] at p2;refine pure_rel (run (.slice (some (if i.n = lo' then ⟨(E.e n).blk,(E.e n).loff l,none⟩ else ⟨(E.e n).blk,(E.e n).loff l+lo',none⟩)) (m - lo') (i.n - lo')) ?_) g3 hm ht (rep_slice ⟨p1,by omega,_,_,rfl,by omega,fun hne=>?_⟩) hK
  ·
   rw [p2];simp [Instr.sliceAt,Instr.sureAddr,run_underlying hu,g4,sizeOf,typeInfo,f1,hsz,add_lit]
  · rw [if_neg (by omega)]
 · exact h6.fail.elim
end
end Go.Proofs.Zz

/- Lengths, bytes of strings, least and greatest, conversions that make nothing. -/
namespace Go.Proofs.Zz
open Go

theorem toList_eq (s:ByteArray):s.size = s.data.toList.length:=rfl

section
variable {P:Program} {ok:Nat→List DV→List DV→Prop} {cx:Cx} {hi:Hi} {o:Oper}
theorem run_index_str {w:World} {t:TypeId} (hu:P.underlying t = some .string) {s:ByteArray} {k:IntKind} {i:Int} (h0:0≤i) (h1:i < s.size) :
  (Instr.index t (.string s) (.int k i)).run P w = .ok (.int .u8 (byteAt s i)) w:=by
 have hlt:i.toNat < s.size:=by omega
 have hlt':i.toNat < s.data.toList.length:=by rw [← toList_eq]; exact hlt
 have:s[i.toNat]? = some s[i.toNat]:=by simp [hlt]
 simp only [Instr.index,asIntOf,Sem.run_bind,Sem.run_pure,run_underlying hu,Result.andThen_ok,h0,if_true,this,byteAt];rw [List.getD_eq_getElem?_getD,List.getElem?_eq_getElem hlt',Option.getD_some];rfl
theorem op_index (hti:TIok P cx) {t:TypeId} {x y:Operand} (ho:o.op = .index t x y):OpP P ok cx hi o:=by
 intro C rg ix key A s a w wr K Q h hr hA hK;simp only [opSem,ho] at h;obtain ⟨E,F,hm,ht⟩:=hr;obtain ⟨i,hi',h⟩:=Cx.t_ev h;have hT:=hti t i hi';obtain ⟨X,h1,h2⟩:=ev_ok h ht;obtain ⟨Y,h3,h4⟩:=ev_ok h2 ht;unfold index2 at h4;split at h4
 ·
  rename_i sv k j htd;have hx:=of_str h1;have hy:=of_int h3;have hu:=hT.str htd;rcases h4.ite with ⟨hb,h4⟩ | ⟨_,h4⟩
  ·
   obtain ⟨b0,b1⟩:=idx_spec hb;refine pure_rel ?_ h4 hm ht (rep_int _ _) hK;simp only [execOp,ho,hx,hy,Sem.run_bind,run_index_str hu b0 b1];rfl
  · exact h4.fail.elim
 · exact h4.fail.elim

theorem fgOk_get {P:Program}:∀ {fs:List Field} {bs:List Bool},fgOk P fs bs = true→∀ {f:Nat} {x:Field} {b:Bool},fs[f]? = some x→nthO bs f = some b→∃ d,P.underlying x.type = some d∧isAggD d = b
 | _,[],_,f,x,b,_,hb=>by simp [nthO] at hb
 | [],_::_,h,_,_,_,_,_=>by simp [fgOk] at h
 | y::r,c::q,h,0,x,b,hx,hb=>by
  simp only [fgOk,Bool.and_eq_true] at h;simp only [List.getElem?_cons_zero,Option.some.injEq] at hx;simp only [nthO,Option.some.injEq] at hb;subst hx; subst hb;obtain ⟨h,_⟩:=h;split at h
  · rename_i d hd; exact ⟨d,hd,by simpa using h⟩
  · simp at h
 | y::r,c::q,h,f+1,x,b,hx,hb=>by
  simp only [fgOk,Bool.and_eq_true] at h;exact fgOk_get h.2 (by simpa using hx) (by simpa [nthO] using hb)
theorem RepLs_sub {E:Env} {F:Nat→Prop} {w:World} {ls:List L} {cs:List Value} (h:RepLs E F w ls cs) (l n:Nat) :
  RepLs E F w (takeN n (dropN l ls)) ((cs.drop ((sizes ls).take l).sum).take (sizes (takeN n (dropN l ls))).sum):=by
 rw [takeN_eq,dropN_eq];have e:ls = ls.take l++((ls.drop l).take n++(ls.drop l).drop n):=by rw [List.take_append_drop,List.take_append_drop]
 have h':=h;rw [e] at h';obtain ⟨c1,d,rfl,h1,h2⟩:=h'.split;obtain ⟨c2,c3,rfl,h3,h4⟩:=h2.split;have e1:c1.length = ((sizes ls).take l).sum:=by rw [sizes_sum h1,sizes_take]
 have e2:c2.length = (sizes ((ls.drop l).take n)).sum:=sizes_sum h3;rw [← e1,← e2,List.drop_left',List.take_left']
 · exact h3
 · rfl
 · rfl
theorem op_field (hti:TIok P cx) {t:TypeId} {x:Operand} {f:Nat} (ho:o.op = .field t x f):OpP P ok cx hi o:=by
 intro C rg ix key A s a w wr K Q h hr hA hK;simp only [opSem,ho] at h;obtain ⟨E,F,hm,ht⟩:=hr;obtain ⟨i,hi',h⟩:=Cx.t_ev h;have hT:=hti t i hi';obtain ⟨X,h1,h2⟩:=ev_ok h ht;unfold fieldV at h2;split at h2
 ·
  rename_i d z g ls htd hn hg;split at h2
  ·
   rename_i hz1 hz2;have hz1:=natsEq_spec hz1;have hz2:=natsEq_spec hz2;obtain ⟨fs,hu,hfs⟩:=hT.struct htd;obtain ⟨fx,y,g1,g2,g3,g4,g5,g6,g7⟩:=fsOk_get _ _ _ hfs f d z hn;have g1':fs[f]? = some fx:=by simpa using g1
   obtain ⟨d',k1,k2⟩:=fgOk_get (hT.fg fs hu) g1 hg;obtain ⟨cs,e,hls⟩:=of_agg h1;have hsub:=RepLs_sub hls d z.length;rw [hz2,hz1,← g2,← g4] at hsub;have hag:(isAgg fx.type).run P w = .ok g w:=by
    unfold Go.isAgg;simp only [Sem.run_bind,run_underlying k1,Result.andThen_ok];rw [← k2];cases d' <;> simp [isAggD]
   have run:∀ v,(part fx.type cs fx.offset).run P w = .ok v w→(execOp a.eval o).run P w = .ok (.value v) w:=by
    intro v hv;simp only [execOp,ho,e,Instr.field,Sem.run_bind,run_underlying hu,Result.andThen_ok,g1',asAgg,Sem.run_pure,hv]
   split at h2
   ·
    refine pure_rel (run (.agg (cs.extract fx.offset (fx.offset+y.size))) ?_) h2 hm ht ⟨_,rfl,?_⟩ hK
    · simp [part,Sem.run_bind,hag,Go.sizeOf,typeInfo,g3]
    ·
     have e3:(cs.extract fx.offset (fx.offset+y.size)).toList = (cs.toList.drop fx.offset).take y.size:=by simp [List.take_drop]
     rw [e3]; exact hsub
   ·
    rename_i yl hq;split at h2
    ·
     rename_i hy1;have hy1:=Nat.eq_of_beq_eq_true hy1;rw [hq] at hsub;have hone:=All.one.1 hsub;have hysz:y.size = 1:=by rw [g4,← hz2,hq]; simp [sizes,hy1]
     have hlen:=RepL_len hone;rw [hysz] at hone hlen;have hlt:fx.offset < cs.toList.length:=by
      rw [hy1] at hlen;simp only [List.length_take,List.length_drop] at hlen;omega
     rw [List.drop_eq_getElem_cons hlt,List.take_succ_cons,List.take_zero] at hone;have hv1:cs[fx.offset]? = some cs.toList[fx.offset]:=by
      rw [← Array.getElem?_toList,List.getElem?_eq_getElem hlt]
     refine pure_rel (x:=.one yl) (run cs.toList[fx.offset] ?_) h2 hm ht (one_of (RepL_ok hone _ (by simp)) hone) hK;unfold part;simp only [Sem.run_bind,hag,Result.andThen_ok,Bool.false_eq_true,if_false,hv1,Sem.run_pure]
    · exact h2.fail.elim
   · exact h2.fail.elim
  · exact h2.fail.elim
 · exact h2.fail.elim

theorem two_args {E:Env} {F:Nat→Prop} {w:World} {x y:V} {args:Array Operand} {a:Act} (h:All2 (RepV E F w) [x,y] (args.toList.map a.eval)):∃ p q,args = #[p,q]∧RepV E F w x (a.eval p)∧RepV E F w y (a.eval q):=by
 match args,h with
 | ⟨[p,q]⟩,h=>exact ⟨p,q,rfl,h.1,h.2.1⟩
 | ⟨[]⟩,h=>exact h.elim
 | ⟨[_]⟩,h=>exact h.2.elim
 | ⟨_::_::_::_⟩,h=>exact h.2.2.elim
theorem one_arg {E:Env} {F:Nat→Prop} {w:World} {x:V} {args:Array Operand} {a:Act} (h:All2 (RepV E F w) [x] (args.toList.map a.eval)):∃ p,args = #[p]∧RepV E F w x (a.eval p):=by
 match args,h with
 | ⟨[p]⟩,h=>exact ⟨p,rfl,h.1⟩
 | ⟨[]⟩,h=>exact h.elim
 | ⟨_::_::_⟩,h=>exact h.2.elim
theorem run_builtin {c:Call} {b:Builtin} (ho:o.op = .call c) (hc:c.callee = .builtin b) (a:Act) (w:World):∃ cs,(execOp a.eval o).run P w = (builtin b c.argTypes o.type cs (c.args.map a.eval)).run P w:=by
 refine ⟨c.args.map fun | .const _=>true | _=>false,?_⟩
 simp only [execOp,ho,resolve,hc,Sem.run_bind,Sem.run_pure,Result.andThen_ok,invoke];rfl

theorem op_len (hti:TIok P cx) {c:Call} (ho:o.op = .call c) (hc:c.callee = .builtin .len):OpP P ok cx hi o:=by
 intro C rg ix key A s a w wr K Q h hr hA hK;simp only [opSem,ho,hc] at h;obtain ⟨E,F,hm,ht⟩:=hr;obtain ⟨xs,h1,h2⟩:=evs_ok h ht;split at h2
 ·
  rename_i x;split at h2
  ·
   rename_i t r htl;obtain ⟨p,hp,h4⟩:=one_arg h1;obtain ⟨i,hi',h3⟩:=Cx.t_ev h2
   clear h2 h1
   have h2:=h3; have h1:=h4
   clear h3 h4
   have hT:=hti _ i hi';obtain ⟨cs,hrun⟩:=run_builtin (P:=P) ho hc a w;have hat:c.argTypes[0]? = some t:=by rw [← Array.getElem?_toList,htl]; rfl
   have run:∀ n:Nat,(Builtin.len_ c.argTypes o.type #[a.eval p]).run P w = .ok (goInt n) w→(execOp a.eval o).run P w = .ok (.value (goInt n)) w:=by
    intro n hn;rw [hrun,hp,show (Array.map a.eval #[p]) = #[a.eval p] by simp];simp only [builtin,Sem.run_bind,hn];rfl
   have sl:∀ {v:Option Addr} {n c':Nat},i.td = .slice→a.eval p = .slice v n c'→(execOp a.eval o).run P w = .ok (.value (goInt n)) w:=by
    intro v n c' htd hv;obtain ⟨e,hu,_⟩:=hT.slice htd;exact run _ (by simp [Builtin.len_,hat,hv,run_underlying hu])
   have wi:∀ {e:EI} {off n:Nat},i.td = .slice→Win e off n [a.eval p]→(execOp a.eval o).run P w = .ok (.value (goInt n)) w:=by
    intro e off n htd hw;obtain ⟨_,v,hw,_⟩:=hw;simp only [List.cons.injEq,and_true] at hw;exact sl htd hw
   unfold lenS at h2;split at h2
   ·
    rename_i sv htd;have hx:=of_str h1;exact pure_rel (run _ (by simp [Builtin.len_,hat,hx,run_underlying (hT.str htd)])) h2 hm ht (rep_int .i64 _) hK
   ·
    rename_i a' xs htd;have p2:=h1.2;rw [RepL,RepD] at p2;obtain ⟨ad,cap,p2,_⟩:=p2;simp only [List.cons.injEq,and_true] at p2;exact pure_rel (sl htd p2) h2 hm ht (rep_int .i64 _) hK
   ·
    rename_i a' xs htd;have p2:=h1.2;rw [RepL,RepD] at p2;obtain ⟨⟨ad,cap,p2,_⟩,_⟩:=p2;simp only [List.cons.injEq,and_true] at p2;exact pure_rel (sl htd p2) h2 hm ht (rep_int .i64 _) hK
   ·
    rename_i htd;have p2:=h1.2;rw [RepL] at p2;simp only [List.cons.injEq,and_true] at p2;exact pure_rel (sl htd p2) h2 hm ht (rep_int .i64 _) hK
   ·
    rename_i n htd;have h2:=h2.get;simp only [look] at h2;split at h2
    ·
     rename_i a' xs ro hobj;simp only [Cn.o.injEq] at hobj;obtain ⟨q1,_⟩:=arr_at hm hobj;obtain ⟨_,p1,p2⟩:=h1;refine pure_rel (wi htd p2) h2 hm ht ?_ hK;rw [← q1]; exact rep_int .i64 _
    · exact h2.fail.elim
   ·
    rename_i n off htd;have h2:=h2.get;simp only [look] at h2;split at h2
    ·
     rename_i a' xs ro hobj;simp only [Cn.o.injEq] at hobj;obtain ⟨q1,_⟩:=arr_at hm hobj;obtain ⟨_,p1,_,p2⟩:=h1;refine pure_rel (wi htd p2) h2 hm ht ?_ hK;rw [← q1]; exact rep_int .i64 _
    · exact h2.fail.elim
   ·
    rename_i n off len htd;obtain ⟨_,p1,p2⟩:=h1;exact pure_rel (wi htd p2) h2 hm ht (rep_int .i64 _) hK
   ·
    rename_i n l m off len htd;obtain ⟨_,p1,_,v,c',p2,_⟩:=h1;simp only [List.cons.injEq,and_true] at p2;exact pure_rel (sl htd p2) h2 hm ht (rep_int .i64 _) hK
   ·
    rename_i n m i' sz y htd;obtain ⟨_,_,p1,ad,q,c',p2,p3,_⟩:=h1;simp only [List.cons.injEq,and_true] at p1;rw [p2] at p1;refine pure_rel (sl htd p1) h2 hm ht ?_ hK;rw [← p3]; exact rep_int .i64 _
   ·
    rename_i htd;obtain ⟨e,hu,_⟩:=hT.array htd;exact pure_rel (run _ (by simp [Builtin.len_,hat,run_underlying hu])) h2 hm ht (rep_int .i64 _) hK
   · exact h2.fail.elim
  · exact h2.fail.elim
 · exact h2.fail.elim
theorem op_min {c:Call} (ho:o.op = .call c) (hc:c.callee = .builtin .min):OpP P ok cx hi o:=by
 intro C rg ix key A s a w wr K Q h hr hA hK;simp only [opSem,ho,hc] at h;obtain ⟨E,F,hm,ht⟩:=hr;obtain ⟨xs,h1,h2⟩:=evs_ok h ht;split at h2
 ·
  rename_i i x j y;obtain ⟨p,q,hp,h1,h3⟩:=two_args h1;have hx:=of_int h1;have hy:=of_int h3;obtain ⟨cs,hrun⟩:=run_builtin (P:=P) ho hc a w;refine pure_rel ?_ h2 hm ht (rep_int _ _) hK;rw [hrun,hp,show (Array.map a.eval #[p,q]) = #[a.eval p,a.eval q] by simp,hx,hy];simp [builtin,Builtin.min_,Builtin.min2]
 · exact h2.fail.elim
theorem op_max {c:Call} (ho:o.op = .call c) (hc:c.callee = .builtin .max):OpP P ok cx hi o:=by
 intro C rg ix key A s a w wr K Q h hr hA hK;simp only [opSem,ho,hc] at h;obtain ⟨E,F,hm,ht⟩:=hr;obtain ⟨xs,h1,h2⟩:=evs_ok h ht;split at h2
 ·
  rename_i i x j y;obtain ⟨p,q,hp,h1,h3⟩:=two_args h1;have hx:=of_int h1;have hy:=of_int h3;obtain ⟨cs,hrun⟩:=run_builtin (P:=P) ho hc a w;refine pure_rel ?_ h2 hm ht (rep_int _ _) hK;rw [hrun,hp,show (Array.map a.eval #[p,q]) = #[a.eval p,a.eval q] by simp,hx,hy];simp [builtin,Builtin.max_,Builtin.max2]
 · exact h2.fail.elim
end
end Go.Proofs.Zz

/- New blocks: variables, boxed values, values built. -/
namespace Go.Proofs.Zz
open Go

/-! Cells put over cells -/
def splice {α:Type} (cs:List α) (o:Nat) (d:List α):List α:=cs.take o++(d++cs.drop (o+d.length))
theorem splice_nil {α:Type} (cs:List α) (o:Nat):splice cs o [] = cs:=by simp [splice]
theorem foldl_splice:∀ (vs:List Value) (k off:Nat) (cs:Array Value),off+k+vs.length≤cs.size →
  ((vs.zipIdx k).foldl (fun (c:Array Value) (p:Value × Nat)=>c.setIfInBounds (off+p.2) p.1) cs).toList = splice cs.toList (off+k) vs
 | [],k,off,cs,_=>by simp [splice]
 | v::r,k,off,cs,h=>by
  simp only [List.zipIdx_cons,List.foldl_cons];simp only [List.length_cons] at h;rw [foldl_splice r (k+1) off _ (by simp; omega)];have:=list_seg_step cs.toList (off+k) v r (by simp; omega);simp only [splice,Array.toList_setIfInBounds,List.length_cons];rw [show off+(k+1) = off+k+1 by omega]
  simpa [List.append_assoc] using this
theorem fill_step {place:Nat→Option (Nat × Nat)} {cells:Array Value} {i off size:Nat} {v:Value} {rest:List (Nat × Value)} (hp:place i = some (off,size)) (hs:v.cells.size = size) (hb:off+size≤cells.size) :
  Instr.fill place cells ((i,v)::rest) = Instr.fill place (splice cells.toList off v.cells.toList).toArray rest:=by
 subst hs;rw [Instr.fill];simp only [hp];have e:¬ (off+v.cells.size > cells.size):=by omega
 simp only [e,decide_false,ne_eq,not_true_eq_false,Bool.or_self,Bool.false_eq_true,if_false];congr 1;have:=foldl_splice v.cells.toList 0 off cells (by simp; omega);rw [Nat.add_zero] at this;rw [← this,← Array.toList_zipIdx,Array.foldl_toList]
theorem over_eq:∀ (ls:List L) (l:Nat) (q:List L),l+q.length≤ls.length→over ls l q = splice ls l q
 | ls,0,[],_=>by cases ls <;> simp [over,splice]
 | [],0,_::_,h=>by simp at h
 | x::r,0,y::q,h=>by
  simp only [over,List.length_cons] at h ⊢;rw [over_eq r 0 q (by omega)];simp [splice]
 | [],l+1,q,h=>by simp at h
 | x::r,l+1,q,h=>by
  simp only [over,List.length_cons] at h ⊢;rw [over_eq r l q (by omega)];simp [splice,Nat.add_right_comm]

section
variable {E:Env} {F:Nat→Prop} {w:World}
theorem sizes_splice {ls q:List L} {l:Nat} (h:l+q.length≤ls.length) (hz:sizes q = sizes ((ls.drop l).take q.length)):sizes (splice ls l q) = sizes ls:=by
 have e:ls = ls.take l++((ls.drop l).take q.length++ls.drop (l+q.length)):=by
  rw [← List.drop_drop,List.take_append_drop,List.take_append_drop]
 conv=>rhs; rw [e]
 simp [splice,sizes_append,hz]
theorem RepLs_splice {ls q:List L} {cs d:List Value} {l:Nat} (h:RepLs E F w ls cs) (hq:RepLs E F w q d) (hl:l+q.length≤ls.length) (hz:sizes q = sizes ((ls.drop l).take q.length)) :
  RepLs E F w (splice ls l q) (splice cs (((sizes ls).take l).sum) d)∧(((sizes ls).take l).sum)+d.length≤cs.length:=by
 have e:ls = ls.take l++((ls.drop l).take q.length++ls.drop (l+q.length)):=by
  rw [← List.drop_drop,List.take_append_drop,List.take_append_drop]
 have hh:=h;rw [e] at hh;obtain ⟨c1,c',rfl,h1,h2⟩:=hh.split;obtain ⟨c2,c3,rfl,h3,h4⟩:=h2.split;have l1:c1.length = ((sizes ls).take l).sum:=by rw [sizes_sum h1,sizes_take]
 have l2:c2.length = d.length:=by rw [sizes_sum h3,sizes_sum hq,hz]
 refine ⟨?_,by simp; omega⟩
 unfold splice;rw [← l1,List.take_left',← l2,← List.length_append,← List.append_assoc c1 c2 c3,List.drop_left']
 · exact h1.append (hq.append h4)
 · rfl
 · rfl
theorem cls_ok {x:V} {v:Value} {ls:List L} (h:RepV E F w x v) (hc:x.cls = some ls):RepLs E F w ls v.cells.toList:=by
 cases x with
 | one l =>
  have:ls = [l]∧RepW E F w (.one l) v∧∀ n,l≠.any n:=by
   cases l <;> simp only [V.cls,Option.some.injEq,reduceCtorEq] at hc <;> exact ⟨hc.symm,h,by simp⟩
  obtain ⟨rfl,h,hn⟩:=this;have h:=of_one hn h;have hv:v.cells = #[v]:=by
   have:=h.1;cases v <;> simp [cellOk] at this <;> rfl
  rw [hv];exact All.one.2 h.2
 | agg q =>
  simp only [V.cls,Option.some.injEq] at hc; subst hc;obtain ⟨cs,rfl,h⟩:=h;exact h
 | tup vs=>simp [V.cls] at hc
end

/-! A new block -/
def boxEI (b:Nat) (ls:List L):EI:={ blk:=b,base:=0,len:=0,cap:=0,esz:=0,nil:=false,loff:=fun i=>((sizes ls).take i).sum,eoff:=fun _=>0 }
def arrEI (b n c:Nat) (t:Ty):EI:={ blk:=b,base:=0,len:=n,cap:=c,esz:=t.sz,nil:=false,loff:=fun _=>0,eoff:=lOff t }
structure NewW (w w':World) (o:Go.Obj):Prop where
 os:w'.os = w.os
 tape:w'.tape = w.tape
 output:w'.output = w.output
 heap:w'.heap = w.heap.push o
theorem NewW.alloc (w:World) (o:Go.Obj):NewW w (w.alloc o) o:=⟨rfl,rfl,rfl,rfl⟩
theorem NewW.drew (w:World) (o:Go.Obj):NewW w (w.drew.alloc o) o:=⟨rfl,rfl,rfl,rfl⟩
theorem NewW.last {w w':World} {o:Go.Obj} (h:NewW w w' o):w'.heap[w.heap.size]? = some o:=by rw [h.heap]; simp
theorem NewW.old {w w':World} {o:Go.Obj} (h:NewW w w' o) {b:Nat} (hb:b < w.heap.size):w'.heap[b]? = w.heap[b]?:=by
 rw [h.heap,Array.getElem?_push_lt hb,Array.getElem?_eq_getElem hb]
theorem NewW.size {w w':World} {o:Go.Obj} (h:NewW w w' o):w'.heap.size = w.heap.size+1:=by rw [h.heap]; simp
theorem NewW.at_ {w w':World} {cs:Array Value} {t:TypeId} {fr:Nat × Nat} (h:NewW w w' (.cells cs t fr)) {c d:List Value} (e:cs.toList = c++d):At w' w.heap.size 0 c:=by
 intro j u hj;have hlt:=(List.getElem?_eq_some_iff.1 hj).1;rw [Nat.zero_add];simp only [World.cell?,h.last];simp only [Option.isSome_none,Bool.false_eq_true,if_false];rw [← Array.getElem?_toList,e,List.getElem?_append_left hlt];exact hj

section
variable {P:Program} {ok:Nat→List DV→List DV→Prop} {cx:Cx} {hi:Hi} {o:Oper} {C:Frm} {A:Nat→Prop} {E:Env} {F:Nat→Prop} {s:St} {a:Act} {w w':World} {wr:Wr} {K:Act→World→Prop} {Q:Exit→Act→World→Prop}
theorem apply_ob (k:Nat) (o:Obj) (s:St):apply [(.ob k,.o o)] s = { s with ob:=putO s.ob k o }:=rfl
theorem new_rel {key:Nat} {obj:Obj} {e:EI} {x:V} {v:Value} {ho:Go.Obj} (hrun:(execOp a.eval o).run P w = .ok (.value v) w') (hw:NewW w w' ho)
  (h:Ev ok (fin hi o.dst [(.ob key,.o obj)] x) s wr) (hm:Mem C A E F s.ob w) (ht:Tms E F s.tm a w) (hA:∀ k,key≤k→k < key+stride→¬ A k)
  (hblk:e.blk = w.heap.size) (hrp:∀ hx:Ext E F w (E.set key e) F w',RepO (E.set key e) F w' e obj) (hv:∀ hx:Ext E F w (E.set key e) F w',RepV (E.set key e) F w' x v)
  (hK:∀ a' w',Rel C (fun k=>A k∨(key≤k∧k < key+stride)) (apply wr s) a' w'→K a' w'):o.wp P a w K Q:=by
 unfold Oper.wp;rw [hrun];have hk:¬ E.al key:=fun h=>hA key (Nat.le_refl _) (by simp [stride]) (hm.al _ h)
 obtain ⟨m,hx⟩:=hm.new (w':=w') hk (e:=e) (o:=obj) hw.os hw.tape hw.output hw.size (fun b hb=>hw.old hb) (fun _=>hblk) hrp;refine hK _ _ (rel_fin h (E':=E.set key e) (F':=F) ?_ ?_ (hv hx))
 ·
  rw [apply_ob];exact m.mono fun k hk=>hk.imp id fun e=>by subst e; exact ⟨Nat.le_refl _,by simp [stride]⟩
 · rw [apply_ob]; exact ht.ext hx
theorem steps_box (b:Nat) (ls:List L):Steps (boxEI b ls).loff 0 (sizes ls):=by
 intro d hd;simp [boxEI]
theorem box_rel {key:Nat} {ls:List L} {cs:Array Value} {ty:TypeId} {lay:List Nat} (hl:lay = sizes ls) (hrun:(execOp a.eval o).run P w = .ok (.value (.pointer (some ⟨w.heap.size,0,none⟩))) (w.alloc (.cells cs ty)))
  (h:Ev ok (fin hi o.dst [(.ob key,.o (.box ls))] (.one (.ptr key 0 lay))) s wr) (hm:Mem C A E F s.ob w) (ht:Tms E F s.tm a w) (hA:∀ k,key≤k→k < key+stride→¬ A k)
  (hr:RepLs E F w ls cs.toList)
  (hK:∀ a' w',Rel C (fun k=>A k∨(key≤k∧k < key+stride)) (apply wr s) a' w'→K a' w'):o.wp P a w K Q:=by
 subst hl;have hw:=NewW.alloc w (.cells cs ty);refine new_rel (e:=boxEI w.heap.size ls) hrun hw h hm ht hA rfl (fun hx=>?_) (fun hx=>?_) hK
 ·
  refine ⟨cs.toList,ty,⟨cs,(0,0),hw.last,by simp [boxEI],fun o ho=>by unfold World.frozen?; have:=hw.last; simp only [boxEI]; rw [this]; simp⟩,hr.ext hx,fun hf=>?_,fun i _=>by simp [boxEI]⟩
  have:=hm.fb _ hf;simp [boxEI] at this
 ·
  refine ⟨trivial,.inr rfl,?_,?_⟩
  · rw [Env.set_self]; simp [boxEI]
  · rw [Env.set_self]; exact steps_box _ _
theorem op_alloc (hti:TIok P cx) {t:TypeId} (ho:o.op = .alloc t):OpP P ok cx hi o:=by
 intro C rg ix key A s a w wr K Q h hr hA hK;simp only [opSem,ho] at h;obtain ⟨E,F,hm,ht⟩:=hr;obtain ⟨i,hi',h⟩:=Cx.t_ev h;have hT:=hti t i hi';obtain ⟨f,z,f1,f2,f3,f4,f5⟩:=hT.inf;refine box_rel hT.lay ?_ h hm ht hA (zkD_rep _ _ f4) hK (cs:=z.cells) (ty:=t);simp [execOp,ho,Instr.alloc,zeroValue,typeInfo,f1,f3,newVar,newRow]
theorem op_box (hti:TIok P cx) {t:TypeId} {x:Operand} (ho:o.op = .box t x):OpP P ok cx hi o:=by
 intro C rg ix key A s a w wr K Q h hr hA hK;simp only [opSem,ho] at h;obtain ⟨E,F,hm,ht⟩:=hr;obtain ⟨i,hi',h⟩:=Cx.t_ev h;obtain ⟨X,h1,h2⟩:=ev_ok h ht;split at h2
 ·
  rename_i vl hvl;split at h2
  ·
   rename_i hz;have hz:=natsEq_spec hz;refine box_rel hz.symm ?_ h2 hm ht hA (cls_ok h1 hvl) hK (cs:=(a.eval x).cells) (ty:=t);simp [execOp,ho,Instr.box,newVar,newRow]
  · exact h2.fail.elim
 · exact h2.fail.elim

/-! Data out of leaves -/
section
variable {α:Type} {r:α}
def hasBlk (e:EI):Obj→Prop
 | .dead=>False
 | .box _=>True
 | .arr _ _ _=>e.nil = false
def plus (ob:List (Nat × Obj)) (E:Env) (F:Nat→Prop) (ks:List Nat) (b:Nat):Prop:=F b∨∃ k∈ks,hasBlk (E.e k) (lookO ob k)∧(E.e k).blk = b
theorem plus_mono {ob:List (Nat × Obj)} {ks ks':List Nat} (h:∀ k∈ks,k∈ks'):∀ b,plus ob E F ks b→plus ob E F ks' b:=fun b hb=>hb.imp id fun ⟨k,h1,h2⟩=>⟨k,h k h1,h2⟩
theorem RepD.mono {F':Nat→Prop} (h:∀ b,F b→F' b) {t:Ty} {v:Den t} {cs:List Value} (hr:RepD F w t v cs):RepD F' w t v cs:=RepD.ext h (fun _ _ _ _ h=>h) hr
def RepS (F G:Nat→Prop) (w:World) (t:Ty) (xs:List (Den t)) (cs:List Value):Prop:=∃ ad cap,cs = [.slice ad xs.length cap]∧xs.length≤cap ∧
 (xs = []∨∃ b o ds,ad = some ⟨b,o,none⟩∧G b∧All (fun x c=>RepD F w t x c) xs ds∧At w b o ds)
theorem RepS.data {G:Nat→Prop} {t:Ty} {xs:List (Den t)} {cs:List Value} (h:RepS F G w t xs cs) (hF:∀ b,F b→G b):RepD G w (.sl t) xs cs:=by
 obtain ⟨ad,cap,h1,h2,h3⟩:=h;rw [RepD];exact ⟨ad,cap,h1,h2,h3.imp id fun ⟨b,o,ds,k1,k2,k3,k4⟩=>⟨b,o,ds,k1,k2,k3.imp fun x c hc=>hc.mono hF,k4⟩⟩
theorem RepS.of {G:Nat→Prop} {t:Ty} {xs:List (Den t)} {cs:List Value} (h:RepD F w (.sl t) xs cs) (hF:∀ b,F b→G b):RepS F G w t xs cs:=by
 rw [RepD] at h;obtain ⟨ad,cap,h1,h2,h3⟩:=h;exact ⟨ad,cap,h1,h2,h3.imp id fun ⟨b,o,ds,k1,k2,k3,k4⟩=>⟨b,o,ds,k1,hF b k2,k3,k4⟩⟩
theorem win_data {e:EI} {off n:Nat} {t:Ty} {xs:List (Den t)} {ds:List Value} {cs:List Value} {F':Nat→Prop} (hb:e.nil = false→F' e.blk) (hw:Win e off n cs) (hlen:xs.length = e.len) (hcap:e.len≤e.cap) (hsz:e.esz = t.sz)
  (h:All (fun x c=>RepD F w t x c) xs ds) (ha:At w e.blk e.base ds):RepS F F' w t ((xs.drop off).take n) cs:=by
 obtain ⟨h1,a,rfl,h3⟩:=hw;have hl:List.length ((xs.drop off).take n) = n:=by simp; omega
 refine ⟨a,e.cap - off,by rw [hl],by rw [hl]; omega,?_⟩
 by_cases hz:n = 0
 · left; subst hz; simp
 ·
  right
  obtain ⟨g1,g2⟩:=h3 (by omega);obtain ⟨c,d,e',rfl,k1,k2⟩:=All_sub (m:=n) (fun x c=>RepD_len) h (show off≤xs.length by omega);refine ⟨_,_,d,g2,hb g1,k2,?_⟩;have:=(ha.append.2).append.1;rw [k1,← hsz] at this;exact this
theorem arr_data {k:Nat} {t:Ty} {xs:List (Den t)} {ro:Bool} {off n:Nat} {cs:List Value} {ks:List Nat} (hm:Mem C A E F s.ob w) (hobj:lookO s.ob k = .arr t xs ro) (hk:k∈ks) (hw:Win (E.e k) off n cs) :
  RepS F (plus s.ob E F ks) w t ((xs.drop off).take n) cs:=by
 obtain ⟨q1,q2,q3,q4,ds,q5,q6⟩:=arr_at hm hobj;exact win_data (fun hn=>.inr ⟨k,hk,by rw [hobj]; exact hn,rfl⟩) hw q1 q2 q3 q5 q6
theorem slD_ok {t:Ty} {l:L} {bw:List Nat} {k:List (Den t)→List Nat→Rd α} (h:Ev ok (slD t l bw k) s r) {cs:List Value} (hm:Mem C A E F s.ob w) (hr:RepL E F w l cs) :
  ∃ xs nb,RepS F (plus s.ob E F nb) w t xs cs∧Ev ok (k xs (nb++bw)) s r:=by
 unfold slD at h;split at h
 ·
  have e:=castL_eq h; subst e; have h:=castL_same h;exact ⟨_,[],RepS.of hr (fun _ h=>.inl h),h⟩
 ·
  have e:=castL_eq h; subst e; have h:=castL_same h;exact ⟨_,[],RepS.of hr.1 (fun _ h=>.inl h),h⟩
 ·
  refine ⟨_,[],?_,h⟩;rw [RepL] at hr; subst hr;exact ⟨none,0,rfl,by simp,.inl rfl⟩
 ·
  rename_i n;have h:=h.get;simp only [look] at h;split at h
  ·
   rename_i a' xs ro hobj;simp only [Cn.o.injEq] at hobj;have e:=castL_eq h; subst e; have h:=castL_same h;refine ⟨_,[n],?_,h⟩;have:=arr_data (ks:=[n]) hm hobj (by simp) hr.2;rw [← (arr_at hm hobj).1] at this
   simpa using this
  · exact h.fail.elim
 ·
  rename_i n off;have h:=h.get;simp only [look] at h;split at h
  ·
   rename_i a' xs ro hobj;simp only [Cn.o.injEq] at hobj;have e:=castL_eq h; subst e; have h:=castL_same h;refine ⟨_,[n],?_,h⟩;have:=arr_data (ks:=[n]) hm hobj (by simp) hr.2.2;rw [← (arr_at hm hobj).1,List.take_of_length_le (by simp)] at this;exact this
  · exact h.fail.elim
 ·
  rename_i n off len;have h:=h.get;simp only [look] at h;split at h
  ·
   rename_i a' xs ro hobj;simp only [Cn.o.injEq] at hobj;have e:=castL_eq h; subst e; have h:=castL_same h;exact ⟨_,[n],arr_data (ks:=[n]) hm hobj (by simp) hr.2,h⟩
  · exact h.fail.elim
 ·
  rename_i n l m off len;have h:=h.get;split at h
  ·
   rename_i m' a' v hobj;obtain ⟨bl,hb,hx⟩:=lf_ok hobj;split at h
   ·
    rename_i hmb;simp only [Bool.and_eq_true,Nat.beq_eq] at hmb;obtain ⟨rfl,hsc⟩:=hmb;have e:=castL_eq h; subst e; have h:=castL_same h;refine ⟨_,[n],?_,h⟩;obtain ⟨c,k1,k2⟩:=leaf_at hm hb hx;rw [RepL,RepD] at k1;obtain ⟨g1,g2⟩:=k1;obtain ⟨p1,p2,ad,cap,rfl,p4,p5⟩:=hr;have hl:List.length ((List.drop off v).take len) = len:=by simp; omega
    refine ⟨ad,cap,by rw [hl],by rw [hl]; exact p4,?_⟩
    by_cases hz:len = 0
    · left; subst hz; simp
    ·
     right
     obtain ⟨c',d,e',rfl,q1,q2⟩:=All_sub (m:=len) (fun x c=>RepD_len) g2 (show off≤List.length v by omega);refine ⟨_,_,d,p5 (by omega),.inr ⟨n,by simp,by rw [hb]; trivial,rfl⟩,q2,?_⟩
     have:=(k2.append.2).append.1;rw [q1,scalar_sz hsc,Nat.mul_one] at this;exact this
   · exact h.fail.elim
  · exact h.fail.elim
 · exact h.fail.elim
end
end
end Go.Proofs.Zz

/- Data out of leaves; conversions; values built; slices made. -/
namespace Go.Proofs.Zz
open Go

section
variable {P:Program} {ok:Nat→List DV→List DV→Prop} {cx:Cx} {hi:Hi} {o:Oper} {C:Frm} {A:Nat→Prop} {E:Env} {F:Nat→Prop} {s:St} {w:World} {α:Type} {r:α}
theorem pk_ok (hm:Mem C A E F s.ob w):∀ {t:Ty} {ls:List L} {bw:List Nat} {k:Den t→List L→List Nat→Rd α},Ev ok (pk t ls bw k) s r→∀ {cs:List Value},RepLs E F w ls cs →
  ∃ v q nb c d,cs = c++d∧RepD (plus s.ob E F nb) w t v c∧RepLs E F w q d∧Ev ok (k v q (nb++bw)) s r∧sizes ls = sizes (unpk t (zeroD t))++sizes q:=by
 intro t;induction t with
 | unit=>intro ls bw k h cs hr; rw [pk] at h; exact ⟨(),ls,[],[],cs,rfl,by rw [RepD],hr,h,rfl⟩
 | pair a b iha ihb =>
  intro ls bw k h cs hr;rw [pk] at h;obtain ⟨x,q,nb,c,d,rfl,h1,h2,h3,hz1⟩:=iha h hr;obtain ⟨y,q',nb',c',d',rfl,h4,h5,h6,hz2⟩:=ihb h3 h2;refine ⟨(x,y),q',nb'++nb,c++c',d',by simp,?_,h5,by rw [List.append_assoc]; exact h6,by simp only [unpk,zeroD,sizes_append,hz1,hz2,List.append_assoc]⟩
  rw [RepD];exact ⟨c,c',rfl,h1.mono (plus_mono (by simp +contextual)),h4.mono (plus_mono (by simp +contextual))⟩
 | sl a =>
  intro ls bw k h cs hr;cases ls with
  | nil=>exact Ev.fail h |>.elim
  | cons l q =>
  have h:Ev ok (slD a l bw fun xs bw=>k xs q bw) s r:=h;obtain ⟨c,d,rfl,h1,h2⟩:=hr;obtain ⟨xs,nb,h3,h4⟩:=slD_ok h hm h1;refine ⟨xs,q,nb,c,d,rfl,h3.data (fun _ h=>.inl h),h2,h4,?_⟩;obtain ⟨ad,cap,rfl,_⟩:=h3;have:=RepL_len h1;simp only [List.length_singleton] at this;show l.size::sizes q = 1::sizes q;rw [← this]
 | int i =>
  intro ls bw k h cs hr;unfold pk at h;split at h <;> try (first | contradiction | exact h.fail.elim)
  rename_i e; cases e;have e:=cast_eq' h; subst e; have h:=cast_same h;obtain ⟨c,d,rfl,h1,h2⟩:=hr;exact ⟨_,_,[],c,d,rfl,RepD.mono (fun _ h=>.inl h) h1,h2,h,rfl⟩
 | nl =>
  intro ls bw k h cs hr;unfold pk at h;split at h <;> try (first | contradiction | exact h.fail.elim)
  ·
   have e:=cast_eq' h; subst e; have h:=cast_same h;obtain ⟨c,d,rfl,h1,h2⟩:=hr;exact ⟨_,_,[],c,d,rfl,RepD.mono (fun _ h=>.inl h) h1,h2,h,rfl⟩
  ·
   obtain ⟨c,d,rfl,h1,h2⟩:=hr;exact ⟨_,_,[],c,d,rfl,by rw [RepL] at h1; rw [RepD]; exact h1,h2,h,rfl⟩
 | bool =>
  intro ls bw k h cs hr;unfold pk at h;split at h <;> try (first | contradiction | exact h.fail.elim)
  have e:=cast_eq' h; subst e; have h:=cast_same h;obtain ⟨c,d,rfl,h1,h2⟩:=hr;exact ⟨_,_,[],c,d,rfl,RepD.mono (fun _ h=>.inl h) h1,h2,h,rfl⟩
 | str =>
  intro ls bw k h cs hr;unfold pk at h;split at h <;> try (first | contradiction | exact h.fail.elim)
  have e:=cast_eq' h; subst e; have h:=cast_same h;obtain ⟨c,d,rfl,h1,h2⟩:=hr;exact ⟨_,_,[],c,d,rfl,RepD.mono (fun _ h=>.inl h) h1,h2,h,rfl⟩
 | ar n a ih =>
  intro ls bw k h cs hr;cases ls with
  | nil=>exact Ev.fail h |>.elim
  | cons l q =>
  cases l with
  | dat t v =>
  have h:Ev ok (cast? t (.ar n a) v fun x=>k x q bw) s r:=h;have e:=cast_eq' h; subst e; have h:=cast_same h;obtain ⟨c,d,rfl,h1,h2⟩:=hr;exact ⟨_,_,[],c,d,rfl,RepD.mono (fun _ h=>.inl h) h1,h2,h,rfl⟩
  | _=>exact Ev.fail h |>.elim
theorem RepD.plus_nil {t:Ty} {v:Den t} {c:List Value} (h:RepD (plus s.ob E F []) w t v c):RepD F w t v c:=h.mono fun b hb=>hb.elim id fun ⟨k,hk,_⟩=>by simp at hk

/-! Conversions -/
theorem RepD_bytes:∀ {xs:List Int} {ds:List Value},All (fun x c=>RepD F w (.int .u8) x c) xs ds→ds = xs.map (Value.int .u8)
 | [],_,h=>h
 | x::r,_,⟨c,d,rfl,h1,h2⟩=>by
  have h1:c = [Value.int .u8 x]:=by unfold RepD at h1; exact h1
  subst h1;rw [RepD_bytes h2]; rfl
theorem foldl_push:∀ (l:List Int) (r:ByteArray),l.foldl (fun r n=>r.push (UInt8.ofNat n.toNat)) r = ⟨r.data++(l.map fun n=>UInt8.ofNat n.toNat).toArray⟩
 | [],r=>by simp
 | b::l,r=>by
  simp only [List.foldl_cons,List.map_cons];rw [foldl_push l];simp [ByteArray.push]
theorem run_bytes_str {xs:List Int} {v:Value} {src dst e:TypeId} (hs:P.underlying src = some (.slice e)) (he:P.underlying e = some (.int .u8)) (hd:P.underlying dst = some .string) {F':Nat→Prop}
  (h:RepD F' w (.sl (.int .u8)) xs [v]):(convert src dst v).run P w = .ok (.string (strOf xs)) w:=by
 rw [RepD] at h;obtain ⟨ad,cap,h1,h2,h3⟩:=h;simp only [List.cons.injEq,and_true] at h1;subst h1;rw [run_convert_bytes_string w src dst e ad _ cap hs he hd];have nil:(xs:List Int) = []→(Conv.bytesToString (.slice none 0 cap)).run P w = .ok (.string (strOf xs)) w:=by
  rintro rfl
  simp [Conv.bytesToString,strOf];rfl
 rcases h3 with rfl | ⟨b,oo,ds,rfl,h4,h5,h6⟩
 ·
  cases ad with
  | none=>exact nil rfl
  | some ad =>
   have hl:=run_loadCells_list (P:=P) w ad [] (by simp);rw [List.length_nil] at hl;have:=run_bytesToString (P:=P) w ad 0 cap [] (by simpa using hl);exact this
 ·
  have h5:=RepD_bytes h5;subst h5;have hl:=run_loadCells_list (P:=P) w ⟨b,oo,none⟩ (List.map (Value.int .u8) xs) (fun j u hj=>by rw [add_lit]; exact h6 j u hj);rw [List.length_map] at hl;rw [run_bytesToString w ⟨b,oo,none⟩ _ cap xs (by simpa using hl),foldl_push];simp [strOf]
theorem bytes_cells (s:ByteArray):All (fun x c=>RepD F w (.int .u8) x c) (bytesOf s) ((bytesOf s).map (Value.int .u8)):=by
 induction bytesOf s with
 | nil=>rfl
 | cons x r ih=>exact ⟨[_],_,rfl,by unfold RepD; rfl,ih⟩
theorem op_convert (hti:TIok P cx) {t u:TypeId} {x:Operand} (ho:o.op = .convert t u x):OpP P ok cx hi o:=by
 intro C rg ix key A s a w wr K Q h hr hA hK;simp only [opSem,ho] at h;obtain ⟨E,F,hm,ht⟩:=hr;obtain ⟨i,hi',h⟩:=Cx.t_ev h;have hT:=hti t i hi';obtain ⟨j,hj',h⟩:=Cx.t_ev h;have hU:=hti u j hj';obtain ⟨X,h1,h2⟩:=ev_ok h ht;obtain ⟨dt,hdt,_⟩:=hT.und;have run:∀ v,(convert t u (a.eval x)).run P w = .ok v w→(execOp a.eval o).run P w = .ok (.value v) w:=by
  intro v hv;simp only [execOp,ho,Sem.run_bind,hv];rfl
 have run':∀ {v w'},(convert t u (a.eval x)).run P w = .ok v w'→(execOp a.eval o).run P w = .ok (.value v) w':=by
  intro v w' hv;simp only [execOp,ho,Sem.run_bind,hv];rfl
 unfold convS at h2;split at h2
 ·
  rename_i k k' n htd;have hx:=of_int h1;refine pure_rel (run _ ?_) h2 hm ht (rep_int _ _) hK;rw [hx];simp [convert,run_underlying hdt,run_underlying (hU.int htd),Conv.intToInt]
 ·
  rename_i sv htd;have hx:=of_str h1;refine pure_rel (run _ ?_) h2 hm ht (rep_str _) hK;rw [hx];simp [convert,run_underlying hdt,run_underlying (hU.str htd)]
 ·
  rename_i k' n htd;have hx:=of_int h1;refine pure_rel (run _ ?_) h2 hm ht (rep_str _) hK;rw [hx];simp [convert,run_underlying hdt,run_underlying (hU.str htd),Conv.intToString]
 ·
  rename_i l _ _ htd;split at h2
  ·
   rename_i hts hety;obtain ⟨e,hu,_⟩:=hT.slice hts;have he:=hT.by8 e hu hety;obtain ⟨xs,nb,h3,h4⟩:=slD_ok h2 hm (cs:=[a.eval x]) (by cases l <;> first | exact Ev.fail h2 |>.elim | exact h1.2);exact pure_rel (run _ (run_bytes_str hu he (hU.str htd) (h3.data (fun _ h=>.inl h)))) h4 hm ht (rep_str _) hK
  · exact h2.fail.elim
 ·
  rename_i sv htd;have hx:=of_str h1;split at h2
  ·
   rename_i hts hety;obtain ⟨e,hu,f,z,f1,f2,f3,f4,f5⟩:=hU.slice htd;have he:=hU.by8 e hu hety;rcases h2.ite with ⟨hb,h2⟩ | ⟨_,h2⟩
   ·
    have hc:sv.size≤grownCap w sv.size 0 e:=grownCap_ge w sv.size 0 e;have hlen:(bytesOf sv).length = sv.size:=by simp [bytesOf]
    have hw:=NewW.drew w (.cells (bytesRow sv (grownCap w sv.size 0 e)) e ((bytesRow sv (grownCap w sv.size 0 e)).size,(bytesRow sv (grownCap w sv.size 0 e)).size+1));refine new_rel (e:=arrEI w.heap.size sv.size (grownCap w sv.size 0 e) (.int .u8)) (v:=.slice (some ⟨w.heap.size,0,none⟩) sv.size (grownCap w sv.size 0 e)) (run' ?_) hw h2 hm ht hA rfl (fun hx'=>?_) (fun hx'=>?_) hK
    · rw [hx]; exact run_bytes_of_string w t u e sv (hT.str hts) hu he
    ·
     refine ⟨hlen,hc,rfl,fun _=>rfl,fun h=>by simp [arrEI] at h,fun _=>⟨_,_,_,(bytesOf sv).map (Value.int .u8),hw.last,?_,bytes_cells sv,?_,fun _=>⟨fun hf=>?_,?_⟩,fun h=>by simp at h⟩⟩
     ·
      have e1:sv.data.size = sv.size:=rfl;simp only [arrEI,bytesRow,Ty.sz,Array.size_append,Array.size_map,Array.size_replicate,e1];omega
     · exact hw.at_ (d:=List.replicate (grownCap w sv.size 0 e - sv.size) (.int .u8 0)) (by simp [bytesRow,bytesOf])
     · have:=hm.fb _ hf; simp [arrEI] at this
     ·
      intro oo ho;simp only [World.frozen?,arrEI,hw.last];simp only [Bool.and_eq_false_iff,decide_eq_false_iff_not];left; omega
    ·
     refine rep_slice ⟨.inr rfl,?_⟩;rw [Env.set_self];exact ⟨by simp [arrEI],_,rfl,fun _=>⟨rfl,by simp [arrEI]⟩⟩
   · exact h2.fail.elim
  · exact h2.fail.elim
 · exact h2.fail.elim
end
end Go.Proofs.Zz
