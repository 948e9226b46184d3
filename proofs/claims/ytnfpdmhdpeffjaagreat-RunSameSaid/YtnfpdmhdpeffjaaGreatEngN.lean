import Derived.Test.YtnfpdmhdpeffjaaGreatEngI
import Derived.Laws.IdiomStrings
import Derived.Laws.CopyRow
import Derived.Laws.MakeOwn
set_option linter.unusedSimpArgs false
set_option linter.unusedVariables false
namespace Go.Proofs.Zz
open Go
section
variable {P:Program} {ok:Nat→List DV→List DV→Prop} {cx:Cx} {hi:Hi} {o:Oper}
section
variable {α:Type} {s:St} {r:α} {E:Env} {F:Nat→Prop} {w:World} {a:Act}
def h7S (E:Env) (F:Nat→Prop) (w:World):Option V→Option Value→Prop
 | none,none=>True
 | some x,some v=>RepV E F w x v
 | _,_=>False
theorem e6A {x:Option Operand} {k:Option V→Rd α} (h:Ev ok (evO x k) s r) (ht:Tms E F s.tm a w):∃y,h7S E F w y (x.map a.eval)∧Ev ok (k y) s r:=by
 cases x with
 | none=>exact⟨none,trivial,h⟩
 | some x=>obtain⟨X,h1,h2⟩:=db h ht; exact⟨some X,h1,h2⟩
theorem a8q {k:IntKind} {i:Int} {y:Nat} {c:BoundsCode} (h0:0≤i) (h1:i≤y):(Instr.sliceBound (.int k i) y c).run P w=.ok i.toNat w:=by
 simp[Instr.sliceBound,asIntOf,h0,h1]
theorem e3C {n cap:Nat} {kl:IntKind} {lv:Int} {k:Nat→Rd α} (h:Ev ok (.ite (decide (0≤lv∧lv≤(n:Int))) (k lv.toNat) .fail) s r) :
  ∃l,l≤n∧Ev ok (k l) s r∧∀isS:Bool,(isS=true∨cap=n)→(Instr.sliceBounds isS n cap (some (.int kl lv)) none none).run P w=.ok (l,n,cap) w:=by
 rcases h.ite with⟨hb,h⟩ | ⟨_,h⟩
 ·
  simp only[decide_eq_true_eq]at hb;refine⟨lv.toNat,by omega,h,λisS hc=>?_⟩
  have:(if isS=true then n else cap)=n:=by rcases hc with h | h<;>simp[h]
  simp[Instr.sliceBounds,a8q hb.1 hb.2,this]
 ·exact h.fail.elim
theorem c6z {n cap:Nat} {lo:V} {lov:Value} {k:Nat→Rd α} (h:Ev ok (h8b n lo k) s r) (hl:RepV E F w lo lov) :
  ∃l,l≤n∧Ev ok (k l) s r∧∀isS:Bool,(isS=true∨cap=n)→(Instr.sliceBounds isS n cap (some lov) none none).run P w=.ok (l,n,cap) w:=by
 unfold h8b at h;split at h
 ·
  have:=eX hl; subst this;exact e3C h
 ·exact h.fail.elim
theorem e3m {n cap:Nat} (hcap:n≤cap) {kh kl:IntKind} {hv lv:Int} {k:Nat→Nat→Rd α} {isS:Bool}
  (h:Ev ok (.ite (decide (0≤hv∧hv≤(n:Int))) (.ite (decide (0≤lv∧lv≤hv)) (k lv.toNat hv.toNat) .fail) .fail) s r) :
  ∃l m,l≤m∧m≤n∧Ev ok (k l m) s r∧(Instr.sliceBounds isS n cap (some (.int kl lv)) (some (.int kh hv)) none).run P w=.ok (l,m,cap) w:=by
 rcases h.ite with⟨hb,h⟩ | ⟨_,h⟩
 ·
  rcases h.ite with⟨hb',h⟩ | ⟨_,h⟩
  ·
   simp only[decide_eq_true_eq]at hb hb';refine⟨lv.toNat,hv.toNat,by omega,by omega,h,?_⟩
   simp[Instr.sliceBounds,a8q hb.1 (show hv≤(cap:Int) by omega),a8q hb'.1 (show lv≤((hv.toNat:Nat):Int) by omega)]
  ·exact h.fail.elim
 ·exact h.fail.elim
theorem e5q {n cap:Nat} (hcap:n≤cap) {kh:IntKind} {hv:Int} {lo:Option V} {lov:Option Value} {k:Nat→Nat→Rd α} {isS:Bool} (h:Ev ok (h8C n lo hv k) s r) (hl:h7S E F w lo lov) :
  ∃l m,l≤m∧m≤n∧Ev ok (k l m) s r∧(Instr.sliceBounds isS n cap lov (some (.int kh hv)) none).run P w=.ok (l,m,cap) w:=by
 unfold h8C at h;split at h
 ·
  rcases h.ite with⟨hb,h⟩ | ⟨_,h⟩
  ·
   simp only[decide_eq_true_eq]at hb;cases lov with
   | some v=>exact hl.elim
   | none =>
    refine⟨0,hv.toNat,nU _,by omega,h,?_⟩
    simp[Instr.sliceBounds,a8q hb.1 (show hv≤(cap:Int) by omega)]
  ·exact h.fail.elim
 ·
  cases lov with
  | none=>exact hl.elim
  | some v =>
   have:=eX hl; subst this;exact e3m hcap h
 ·exact h.fail.elim
theorem d0x {n cap:Nat} (hcap:n≤cap) {lo hi:Option V} {lov hiv:Option Value} {k:Nat→Nat→Rd α} {isS:Bool} (h:Ev ok (cut n lo hi k) s r) (hl:h7S E F w lo lov) (hh:h7S E F w hi hiv) (hcs:isS=true∨cap=n) :
  ∃l m,l≤m∧m≤n∧Ev ok (k l m) s r∧(Instr.sliceBounds isS n cap lov hiv none).run P w=.ok (l,m,cap) w:=by
 unfold cut at h;split at h
 ·
  rename_i kh hv;cases hiv with
  | none=>exact hh.elim
  | some v =>
   have:=eX hh; subst this;exact e5q hcap h hl
 ·
  cases hiv with
  | some v=>exact hh.elim
  | none =>
   split at h
   ·
    cases lov with
    | some v=>exact hl.elim
    | none=>exact⟨0,n,nU _,mG _,h,by simp[Instr.sliceBounds]⟩
   ·
    cases lov with
    | none=>exact hl.elim
    | some v =>
     obtain⟨l,g1,g2,g3⟩:=c6z (P:=P) (cap:=cap) h hl;exact⟨l,n,g1,mG _,g2,g3 isS hcs⟩
 ·exact h.fail.elim
theorem gV {l:L} {v:Option Addr} {n c:Nat} (h:RepL E F w l [.slice v n c]):RepV E F w (.one l) (.slice v n c):=by
 cases l<;>first | trivial | exact⟨trivial,h⟩
theorem jh {t e:TypeId} {f:TypeInfo} (hu:P.underlying t=some (.slice e)) (hf:P.info? e=some f) {a:Option Addr} {len cap:Nat} {lov hiv:Option Value} {l m:Nat}
  (hb:(Instr.sliceBounds true len cap lov hiv none).run P w=.ok (l,m,cap) w) :
  (Instr.sliceAt t (.slice a len cap) lov hiv none).run P w=.ok (.slice (if cap=l then a else a.map (·.add (l*f.size))) (m-l) (cap-l)) w:=by
 simp[Instr.sliceAt,Instr.slice,run_underlying hu,hb,sizeOf,typeInfo,hf]
theorem Win.sub {e:EI} {off n l m c:Nat} {v:Option Addr} (h:Win e off n [.slice v n c]) (h1:l≤m) (h2:m≤n) (hc:e.len≤e.cap) (sz:Nat) (hsz:sz=e.esz) :
  Win e (off+l) (m-l) [.slice (if c=l then v else v.map (·.add (l*sz))) (m-l) (c-l)]:=by
 obtain⟨k1,a,k2,k3⟩:=h;simp only[mK,Value.slice.injEq,and_true,true_and]at k2;obtain⟨rfl,rfl⟩:=k2;refine⟨by omega,_,by rw[Nat.sub_sub],λh=>?_⟩
 have hne:¬(e.cap-off=l):=by omega
 obtain⟨g1,g2⟩:=k3 (by omega);refine⟨g1,?_⟩;rw[if_neg hne,g2,hsz];simp[gU,pP,nQ]
theorem c7r {R:α→List Value→Prop} {n l m:Nat} (hR:∀x c,R x c→c.length=n) {xs:List α} {ds:List Value} (h:All R xs ds) (hm:l≤xs.length):∃c d e,ds=c++(d++e)∧c.length=l*n∧All R ((xs.drop l).take m) d:=by
 have e:xs=xs.take l++((xs.drop l).take m++(xs.drop l).drop m):=by rw[mh,mh]
 rw[e]at h;obtain⟨c1,d,rfl,h1,h2⟩:=h.split;obtain⟨c2,c3,rfl,h3,h4⟩:=h2.split;refine⟨c1,c2,c3,rfl,?_,h3⟩;rw[h1.len hR]; simp[pg hm]
theorem d9y {t:Ty} {xs:List (Den t)} {v:Option Addr} {cap l m:Nat} (h:RepD F w (.sl t) xs [.slice v xs.length cap]) (h1:l≤m) (h2:m≤xs.length) (sz:Nat) (hsz:sz=t.sz) :
  RepD F w (.sl t) ((xs.drop l).take (m-l)) [.slice (if cap=l then v else v.map (·.add (l*sz))) (m-l) (cap-l)]:=by
 rw[RepD]at h ⊢;obtain⟨ad,c,k1,k2,k3⟩:=h;simp only[mK,Value.slice.injEq,and_true,true_and]at k1;obtain⟨rfl,rfl⟩:=k1;have hlen:List.length ((xs.drop l).take (m-l))=m-l:=by simp; omega
 refine⟨_,_,by rw[hlen],by rw[hlen]; omega,?_⟩
 rcases k3 with rfl | ⟨b,o,ds,rfl,k4,k5,k6⟩
 ·left; simp
 ·
  by_cases hz:m-l=0
  ·left; rw[hz]; simp
  ·
   right
   have hne:¬(cap=l):=by omega
   obtain⟨c,d,e,rfl,g1,g2⟩:=c7r (m:=m-l) (λx c=>cJ) k5 (show l≤xs.length by omega);refine⟨b,o+l*sz,d,by rw[if_neg hne]; simp[gU],k4,g2,?_⟩
   have:=(k6.append.2).append.1;rw[g1]at this;rw[hsz]; exact this
end
theorem e6g (hti:TIok P cx) {t:TypeId} {x:Operand} {lo hj:Option Operand} {mx:Option Operand} (ho:o.op=.slice t x lo hj mx):OpP P ok cx hi o:=by
 intro C rg ix key A s a w wr K Q h hr hA hK;simp only[cv,ho]at h;obtain⟨E,F,hm,ht⟩:=hr;cases mx with
 | some m=>exact h.fail.elim
 | none =>
 obtain⟨i,hi',h⟩:=Cx.t_ev h;have hT:=hti t i hi';obtain⟨X,h1,h2⟩:=db h ht;obtain⟨LO,h3,h4⟩:=e6A h2 ht;obtain⟨HI,h5,h6⟩:=e6A h4 ht;have run:∀v,(Instr.sliceAt t (a.eval x) (lo.map a.eval) (hj.map a.eval) none).run P w=.ok v w→(execOp a.eval o).run P w=.ok (.value v) w:=by
  intro v hv;simp only[execOp,ho,Sem.run_bind,Option.map_none,hv];rfl
 unfold h8z at h6;split at h6
 ·
  rename_i sv htd;have hx:=j0 h1;have hu:=hT.str htd;obtain⟨l,m,g1,g2,g3,g4⟩:=d0x (P:=P) (isS:=false) (mG _) h6 h3 h5 (.inr rfl);refine bF (run (.string (sv.extract l m)) ?_) g3 hm ht (c8E _) hK;rw[hx];simp[Instr.sliceAt,Instr.slice,run_underlying hu,g4]
 ·
  rename_i n htd;obtain⟨e,hu,⟨f,z,f1,f2,f3,f4,f5⟩⟩:=hT.slice htd;have h6:=h6.get;simp only[look]at h6;split at h6
  ·
   rename_i a' xs ro hobj;simp only[Cn.o.injEq]at hobj;have e6:=dO h6; subst e6; have h6:=dJ h6;obtain⟨q1,q2,q3,q4,ds,q5,q6⟩:=eP hm hobj;have h1':=h1;obtain⟨_,p1,p2⟩:=h1;obtain⟨w1,ad,w2,w3⟩:=id p2;simp only[mK,and_true]at w2;have hsz:f.size=(E.e n).esz:=by rw[f2,q3]
   rw[w2]at p2;split at h6
   ·
    -- the whole
    have e5:hj.map a.eval=none:=by cases hq:hj.map a.eval with
     | none=>rfl
     | some v=>rw[hq]at h5; exact h5.elim
    have e3:lo.map a.eval=none:=by cases hq:lo.map a.eval with
     | none=>rfl
     | some v=>rw[hq]at h3; exact h3.elim
    refine bF (run _ ?_) h6 hm ht h1' hK;rw[w2,e3,e5,jh hu f1 (l:=0) (m:=(E.e n).len) (by simp[Instr.sliceBounds])];simp only[Nat.zero_mul,oD];split
    ·rfl
    ·
     cases ad with
     | none=>rfl
     | some ad=>simp[Addr.add]
   ·
    rename_i lov;have e5:hj.map a.eval=none:=by cases hq:hj.map a.eval with
     | none=>rfl
     | some v=>rw[hq]at h5; exact h5.elim
    obtain⟨lv,e3⟩:∃lv,lo.map a.eval=some lv:=by cases hq:lo.map a.eval with
     | none=>rw[hq]at h3; exact h3.elim
     | some v=>exact⟨v,rfl⟩
    rw[e3]at h3;obtain⟨l,g1,g2,g3⟩:=c6z (P:=P) (cap:=(E.e n).cap-0) h6 h3;rw[q1]at g1 g3;have hw:=p2.sub (l:=l) (m:=(E.e n).len) g1 (mG _) q2 f.size hsz;rw[ml]at hw;refine bF (run _ ?_) g2 hm ht (gV ⟨p1,g1,hw⟩) hK;rw[w2,e3,e5,jh hu f1 (g3 true (.inl rfl))]
   ·
    obtain⟨l,m,g1,g2,g3,g4⟩:=d0x (P:=P) (isS:=true) (cap:=(E.e n).cap-0) (by rw[q1]; omega) h6 h3 h5 (.inl rfl);rw[q1]at g2 g4;have hw:=p2.sub (l:=l) (m:=m) g1 g2 q2 f.size hsz;rw[ml]at hw;refine bF (run _ ?_) g3 hm ht (gV ⟨p1,hw⟩) hK;rw[w2,jh hu f1 g4]
  ·exact h6.fail.elim
 ·
  rename_i n off htd;obtain⟨e,hu,⟨f,z,f1,f2,f3,f4,f5⟩⟩:=hT.slice htd;have h6:=h6.get;simp only[look]at h6;split at h6
  ·
   rename_i a' xs ro hobj;simp only[Cn.o.injEq]at hobj;have e6:=dO h6; subst e6; have h6:=dJ h6;obtain⟨q1,q2,q3,q4,ds,q5,q6⟩:=eP hm hobj;have h1':=h1;obtain⟨_,p1,p0,p2⟩:=h1;obtain⟨w1,ad,w2,w3⟩:=id p2;simp only[mK,and_true]at w2;have hsz:f.size=(E.e n).esz:=by rw[f2,q3]
   rw[w2]at p2;split at h6
   ·
    have e5:hj.map a.eval=none:=by cases hq:hj.map a.eval with
     | none=>rfl
     | some v=>rw[hq]at h5; exact h5.elim
    have e3:lo.map a.eval=none:=by cases hq:lo.map a.eval with
     | none=>rfl
     | some v=>rw[hq]at h3; exact h3.elim
    refine bF (run _ ?_) h6 hm ht h1' hK;rw[w2,e3,e5,jh hu f1 (l:=0) (m:=(E.e n).len-off) (by simp[Instr.sliceBounds])];simp only[Nat.zero_mul,oD];split
    ·rfl
    ·
     cases ad with
     | none=>rfl
     | some ad=>simp[Addr.add]
   ·
    rename_i lov;have e5:hj.map a.eval=none:=by cases hq:hj.map a.eval with
     | none=>rfl
     | some v=>rw[hq]at h5; exact h5.elim
    obtain⟨lv,e3⟩:∃lv,lo.map a.eval=some lv:=by cases hq:lo.map a.eval with
     | none=>rw[hq]at h3; exact h3.elim
     | some v=>exact⟨v,rfl⟩
    rw[e3]at h3;obtain⟨l,g1,g2,g3⟩:=c6z (P:=P) (cap:=(E.e n).cap-off) h6 h3;rw[q1]at g1 g3;have hw:=p2.sub (l:=l) (m:=(E.e n).len-off) g1 (mG _) q2 f.size hsz;refine bF (run _ ?_) g2 hm ht (gV ⟨p1,by omega,by rw[← Nat.sub_sub]; exact hw⟩) hK;rw[w2,e3,e5,jh hu f1 (g3 true (.inl rfl))]
   ·
    obtain⟨l,m,g1,g2,g3,g4⟩:=d0x (P:=P) (isS:=true) (cap:=(E.e n).cap-off) (by rw[q1]; omega) h6 h3 h5 (.inl rfl);rw[q1]at g2 g4;have hw:=p2.sub (l:=l) (m:=m) g1 g2 q2 f.size hsz;refine bF (run _ ?_) g3 hm ht (gV ⟨p1,hw⟩) hK;rw[w2,jh hu f1 g4]
  ·exact h6.fail.elim
 ·
  rename_i n off len htd;obtain⟨e,hu,⟨f,z,f1,f2,f3,f4,f5⟩⟩:=hT.slice htd;have h6:=h6.get;simp only[look]at h6;split at h6
  ·
   rename_i a' xs ro hobj;simp only[Cn.o.injEq]at hobj;have e6:=dO h6; subst e6; have h6:=dJ h6;obtain⟨q1,q2,q3,q4,ds,q5,q6⟩:=eP hm hobj;obtain⟨_,p1,p2⟩:=h1;obtain⟨w1,ad,w2,w3⟩:=id p2;simp only[mK,and_true]at w2;have hsz:f.size=(E.e n).esz:=by rw[f2,q3]
   rw[w2]at p2;obtain⟨l,m,g1,g2,g3,g4⟩:=d0x (P:=P) (isS:=true) (cap:=(E.e n).cap-off) (by omega) h6 h3 h5 (.inl rfl);have hw:=p2.sub (l:=l) (m:=m) g1 g2 q2 f.size hsz;refine bF (run _ ?_) g3 hm ht (gV ⟨p1,hw⟩) hK;rw[w2,jh hu f1 g4]
  ·exact h6.fail.elim
 ·
  rename_i a' xs htd;obtain⟨e,hu,⟨f,z,f1,f2,f3,f4,f5⟩⟩:=hT.slice htd;have e6:=dO h6; subst e6; have h6:=dJ h6;have h1':=h1;obtain⟨_,p2⟩:=h1;rw[RepL]at p2;have p3:=p2;rw[RepD]at p3;obtain⟨ad,cap,w2,w3,_⟩:=p3;simp only[mK,and_true]at w2;rw[w2]at p2;split at h6
  ·
   have e5:hj.map a.eval=none:=by cases hq:hj.map a.eval with
    | none=>rfl
    | some v=>rw[hq]at h5; exact h5.elim
   have e3:lo.map a.eval=none:=by cases hq:lo.map a.eval with
    | none=>rfl
    | some v=>rw[hq]at h3; exact h3.elim
   refine bF (run _ ?_) h6 hm ht h1' hK;rw[w2,e3,e5,jh hu f1 (l:=0) (m:=List.length xs) (by simp[Instr.sliceBounds])];simp only[Nat.zero_mul,oD];split
   ·rfl
   ·
    cases ad with
    | none=>rfl
    | some ad=>simp[Addr.add]
  ·
   rename_i lov;have e5:hj.map a.eval=none:=by cases hq:hj.map a.eval with
    | none=>rfl
    | some v=>rw[hq]at h5; exact h5.elim
   obtain⟨lv,e3⟩:∃lv,lo.map a.eval=some lv:=by cases hq:lo.map a.eval with
    | none=>rw[hq]at h3; exact h3.elim
    | some v=>exact⟨v,rfl⟩
   rw[e3]at h3;obtain⟨l,g1,g2,g3⟩:=c6z (P:=P) (cap:=cap) h6 h3;have hw:=d9y p2 (l:=l) (m:=List.length xs) g1 (mG _) f.size f2;have ee:(List.drop l xs).take (List.length xs-l)=List.drop l xs:=nP (by simp);rw[ee]at hw;refine bF (run _ ?_) g2 hm ht (gV hw) hK;rw[w2,e3,e5,jh hu f1 (g3 true (.inl rfl))]
  ·
   obtain⟨l,m,g1,g2,g3,g4⟩:=d0x (P:=P) (isS:=true) (cap:=cap) w3 h6 h3 h5 (.inl rfl);have hw:=d9y p2 g1 g2 f.size f2;refine bF (run _ ?_) g3 hm ht (gV hw) hK;rw[w2,jh hu f1 g4]
 ·
  rename_i n l y' htd;obtain⟨e,hu,⟨f,z,f1,f2,f3,f4,f5⟩,hsc,hzk⟩:=hT.array htd;have hsz:f.size=1:=by rw[f2,b7t hsc]
  obtain⟨lo',m,g1,g2,g3,g4⟩:=d0x (P:=P) (isS:=false) (mG _) h6 h3 h5 (.inr rfl);obtain⟨_,p1,p2,p3⟩:=h1;simp only[mK,and_true]at p2;refine bF (run (.slice (some (if i.n=lo' then ⟨(E.e n).blk,(E.e n).loff l,none⟩ else ⟨(E.e n).blk,(E.e n).loff l+lo',none⟩)) (m-lo') (i.n-lo')) ?_) g3 hm ht (gV ⟨p1,by omega,_,_,rfl,by omega,λhne=>?_⟩) hK
  ·
   rw[p2];simp[Instr.sliceAt,Instr.sureAddr,run_underlying hu,g4,sizeOf,typeInfo,f1,hsz,gU]
  ·rw[if_neg (by omega)]
 ·exact h6.fail.elim
end
theorem e3a (s:ByteArray):s.size=s.data.toList.length:=rfl
section
variable {P:Program} {ok:Nat→List DV→List DV→Prop} {cx:Cx} {hi:Hi} {o:Oper}
theorem d2P {w:World} {t:TypeId} (hu:P.underlying t=some .string) {s:ByteArray} {k:IntKind} {i:Int} (h0:0≤i) (h1:i<s.size) :
  (Instr.index t (.string s) (.int k i)).run P w=.ok (.int .u8 (h8m s i)) w:=by
 have hlt:i.toNat<s.size:=by omega
 have hlt':i.toNat<s.data.toList.length:=by rw[← e3a]; exact hlt
 have:s[i.toNat]?=some s[i.toNat]:=by simp[hlt]
 simp only[Instr.index,asIntOf,Sem.run_bind,Sem.run_pure,run_underlying hu,Result.andThen_ok,h0,if_true,this,h8m];rw[mA,mC hlt',mj];rfl
theorem e5i (hti:TIok P cx) {t:TypeId} {x y:Operand} (ho:o.op=.index t x y):OpP P ok cx hi o:=by
 intro C rg ix key A s a w wr K Q h hr hA hK;simp only[cv,ho]at h;obtain⟨E,F,hm,ht⟩:=hr;obtain⟨i,hi',h⟩:=Cx.t_ev h;have hT:=hti t i hi';obtain⟨X,h1,h2⟩:=db h ht;obtain⟨Y,h3,h4⟩:=db h2 ht;unfold h8v at h4;split at h4
 ·
  rename_i sv k j htd;have hx:=j0 h1;have hy:=eX h3;have hu:=hT.str htd;rcases h4.ite with⟨hb,h4⟩ | ⟨_,h4⟩
  ·
   obtain⟨b0,b1⟩:=b4q hb;refine bF ?_ h4 hm ht (dy _ _) hK;simp only[execOp,ho,hx,hy,Sem.run_bind,d2P hu b0 b1];rfl
  ·exact h4.fail.elim
 ·exact h4.fail.elim
theorem d9j {P:Program}:∀{fs:List Field} {bs:List Bool},fgOk P fs bs=true→∀{f:Nat} {x:Field} {b:Bool},fs[f]?=some x→nthO bs f=some b→∃d,P.underlying x.type=some d∧gY d=b
 | _,[],_,f,x,b,_,hb=>by simp[nthO]at hb
 | [],_::_,h,_,_,_,_,_=>by simp[fgOk]at h
 | y::r,c::q,h,0,x,b,hx,hb=>by
  simp only[fgOk,mE]at h;simp only[List.getElem?_cons_zero,mB]at hx;simp only[nthO,mB]at hb;subst hx; subst hb;obtain⟨h,_⟩:=h;split at h
  ·rename_i d hd; exact⟨d,hd,by simpa using h⟩
  ·simp at h
 | y::r,c::q,h,f+1,x,b,hx,hb=>by
  simp only[fgOk,mE]at h;exact d9j h.2 (by simpa using hx) (by simpa[nthO] using hb)
theorem e3S {E:Env} {F:Nat→Prop} {w:World} {ls:List L} {cs:List Value} (h:RepLs E F w ls cs) (l n:Nat) :
  RepLs E F w (dw n (et l ls)) ((cs.drop ((ba ls).take l).sum).take (ba (dw n (et l ls))).sum):=by
 rw[ft,iE];have e:ls=ls.take l++((ls.drop l).take n++(ls.drop l).drop n):=by rw[mh,mh]
 have h':=h;rw[e]at h';obtain⟨c1,d,rfl,h1,h2⟩:=h'.split;obtain⟨c2,c3,rfl,h3,h4⟩:=h2.split;have e1:c1.length=((ba ls).take l).sum:=by rw[iG h1,b8y]
 have e2:c2.length=(ba ((ls.drop l).take n)).sum:=iG h3;rw[← e1,← e2,pJ,pF]
 ·exact h3
 ·rfl
 ·rfl
theorem e5F (hti:TIok P cx) {t:TypeId} {x:Operand} {f:Nat} (ho:o.op=.field t x f):OpP P ok cx hi o:=by
 intro C rg ix key A s a w wr K Q h hr hA hK;simp only[cv,ho]at h;obtain⟨E,F,hm,ht⟩:=hr;obtain⟨i,hi',h⟩:=Cx.t_ev h;have hT:=hti t i hi';obtain⟨X,h1,h2⟩:=db h ht;unfold h8w at h2;split at h2
 ·
  rename_i d z g ls htd hn hg;split at h2
  ·
   rename_i hz1 hz2;have hz1:=eU hz1;have hz2:=eU hz2;obtain⟨fs,hu,hfs⟩:=hT.struct htd;obtain⟨fx,y,g1,g2,g3,g4,g5,g6,g7⟩:=d2f _ _ _ hfs f d z hn;have g1':fs[f]?=some fx:=by simpa using g1
   obtain⟨d',k1,k2⟩:=d9j (hT.fg fs hu) g1 hg;obtain⟨cs,e,hls⟩:=e4k h1;have hsub:=e3S hls d z.length;rw[hz2,hz1,← g2,← g4]at hsub;have hag:(isAgg fx.type).run P w=.ok g w:=by
    unfold Go.isAgg;simp only[Sem.run_bind,run_underlying k1,Result.andThen_ok];rw[← k2];cases d'<;>simp[gY]
   have run:∀v,(part fx.type cs fx.offset).run P w=.ok v w→(execOp a.eval o).run P w=.ok (.value v) w:=by
    intro v hv;simp only[execOp,ho,e,Instr.field,Sem.run_bind,run_underlying hu,Result.andThen_ok,g1',asAgg,Sem.run_pure,hv]
   split at h2
   ·
    refine bF (run (.agg (cs.extract fx.offset (fx.offset+y.size))) ?_) h2 hm ht ⟨_,rfl,?_⟩ hK
    ·simp[part,Sem.run_bind,hag,Go.sizeOf,typeInfo,g3]
    ·
     have e3:(cs.extract fx.offset (fx.offset+y.size)).toList=(cs.toList.drop fx.offset).take y.size:=by simp[List.take_drop]
     rw[e3]; exact hsub
   ·
    rename_i yl hq;split at h2
    ·
     rename_i hy1;have hy1:=mH hy1;rw[hq]at hsub;have hone:=All.one.1 hsub;have hysz:y.size=1:=by rw[g4,← hz2,hq]; simp[ba,hy1]
     have hlen:=b5g hone;rw[hysz]at hone hlen;have hlt:fx.offset<cs.toList.length:=by
      rw[hy1]at hlen;simp only[nB,mq]at hlen;omega
     rw[mS hlt,List.take_succ_cons,pz]at hone;have hv1:cs[fx.offset]?=some cs.toList[fx.offset]:=by
      rw[← my,mC hlt]
     refine bF (x:=.one yl) (run cs.toList[fx.offset] ?_) h2 hm ht (d9m (c7B hone _ (by simp)) hone) hK;unfold part;simp only[Sem.run_bind,hag,Result.andThen_ok,mN,if_false,hv1,Sem.run_pure]
    ·exact h2.fail.elim
   ·exact h2.fail.elim
  ·exact h2.fail.elim
 ·exact h2.fail.elim
theorem c6t {E:Env} {F:Nat→Prop} {w:World} {x y:V} {args:Array Operand} {a:Act} (h:All2 (RepV E F w) [x,y] (args.toList.map a.eval)):∃p q,args=#[p,q]∧RepV E F w x (a.eval p)∧RepV E F w y (a.eval q):=by
 match args,h with
 | ⟨[p,q]⟩,h=>exact⟨p,q,rfl,h.1,h.2.1⟩
 | ⟨[]⟩,h=>exact h.elim
 | ⟨[_]⟩,h=>exact h.2.elim
 | ⟨_::_::_::_⟩,h=>exact h.2.2.elim
theorem e1K {E:Env} {F:Nat→Prop} {w:World} {x:V} {args:Array Operand} {a:Act} (h:All2 (RepV E F w) [x] (args.toList.map a.eval)):∃p,args=#[p]∧RepV E F w x (a.eval p):=by
 match args,h with
 | ⟨[p]⟩,h=>exact⟨p,rfl,h.1⟩
 | ⟨[]⟩,h=>exact h.elim
 | ⟨_::_::_⟩,h=>exact h.2.elim
theorem a7G {c:Call} {b:Builtin} (ho:o.op=.call c) (hc:c.callee=.builtin b) (a:Act) (w:World):∃cs,(execOp a.eval o).run P w=(builtin b c.argTypes o.type cs (c.args.map a.eval)).run P w:=by
 refine⟨c.args.map λ| .const _=>true | _=>false,?_⟩
 simp only[execOp,ho,resolve,hc,Sem.run_bind,Sem.run_pure,Result.andThen_ok,invoke];rfl
theorem e8M (hti:TIok P cx) {c:Call} (ho:o.op=.call c) (hc:c.callee=.builtin .len):OpP P ok cx hi o:=by
 intro C rg ix key A s a w wr K Q h hr hA hK;simp only[cv,ho,hc]at h;obtain⟨E,F,hm,ht⟩:=hr;obtain⟨xs,h1,h2⟩:=iW h ht;split at h2
 ·
  rename_i x;split at h2
  ·
   rename_i t r htl;obtain⟨p,hp,h4⟩:=e1K h1;obtain⟨i,hi',h3⟩:=Cx.t_ev h2
   clear h2 h1
   have h2:=h3; have h1:=h4
   clear h3 h4
   have hT:=hti _ i hi';obtain⟨cs,hrun⟩:=a7G (P:=P) ho hc a w;have hat:c.argTypes[0]?=some t:=by rw[← my,htl]; rfl
   have run:∀n:Nat,(Builtin.len_ c.argTypes o.type #[a.eval p]).run P w=.ok (goInt n) w→(execOp a.eval o).run P w=.ok (.value (goInt n)) w:=by
    intro n hn;rw[hrun,hp,show (Array.map a.eval #[p])=#[a.eval p] by simp];simp only[builtin,Sem.run_bind,hn];rfl
   have sl:∀{v:Option Addr} {n c':Nat},i.td=.slice→a.eval p=.slice v n c'→(execOp a.eval o).run P w=.ok (.value (goInt n)) w:=by
    intro v n c' htd hv;obtain⟨e,hu,_⟩:=hT.slice htd;exact run _ (by simp[Builtin.len_,hat,hv,run_underlying hu])
   have wi:∀{e:EI} {off n:Nat},i.td=.slice→Win e off n [a.eval p]→(execOp a.eval o).run P w=.ok (.value (goInt n)) w:=by
    intro e off n htd hw;obtain⟨_,v,hw,_⟩:=hw;simp only[mK,and_true]at hw;exact sl htd hw
   unfold lenS at h2;split at h2
   ·
    rename_i sv htd;have hx:=j0 h1;exact bF (run _ (by simp[Builtin.len_,hat,hx,run_underlying (hT.str htd)])) h2 hm ht (dy .i64 _) hK
   ·
    rename_i a' xs htd;have p2:=h1.2;rw[RepL,RepD]at p2;obtain⟨ad,cap,p2,_⟩:=p2;simp only[mK,and_true]at p2;exact bF (sl htd p2) h2 hm ht (dy .i64 _) hK
   ·
    rename_i a' xs htd;have p2:=h1.2;rw[RepL,RepD]at p2;obtain⟨⟨ad,cap,p2,_⟩,_⟩:=p2;simp only[mK,and_true]at p2;exact bF (sl htd p2) h2 hm ht (dy .i64 _) hK
   ·
    rename_i htd;have p2:=h1.2;rw[RepL]at p2;simp only[mK,and_true]at p2;exact bF (sl htd p2) h2 hm ht (dy .i64 _) hK
   ·
    rename_i n htd;have h2:=h2.get;simp only[look]at h2;split at h2
    ·
     rename_i a' xs ro hobj;simp only[Cn.o.injEq]at hobj;obtain⟨q1,_⟩:=eP hm hobj;obtain⟨_,p1,p2⟩:=h1;refine bF (wi htd p2) h2 hm ht ?_ hK;rw[← q1]; exact dy .i64 _
    ·exact h2.fail.elim
   ·
    rename_i n off htd;have h2:=h2.get;simp only[look]at h2;split at h2
    ·
     rename_i a' xs ro hobj;simp only[Cn.o.injEq]at hobj;obtain⟨q1,_⟩:=eP hm hobj;obtain⟨_,p1,_,p2⟩:=h1;refine bF (wi htd p2) h2 hm ht ?_ hK;rw[← q1]; exact dy .i64 _
    ·exact h2.fail.elim
   ·
    rename_i n off len htd;obtain⟨_,p1,p2⟩:=h1;exact bF (wi htd p2) h2 hm ht (dy .i64 _) hK
   ·
    rename_i n l m off len htd;obtain⟨_,p1,_,v,c',p2,_⟩:=h1;simp only[mK,and_true]at p2;exact bF (sl htd p2) h2 hm ht (dy .i64 _) hK
   ·
    rename_i n m i' sz y htd;obtain⟨_,_,p1,ad,q,c',p2,p3,_⟩:=h1;simp only[mK,and_true]at p1;rw[p2]at p1;refine bF (sl htd p1) h2 hm ht ?_ hK;rw[← p3]; exact dy .i64 _
   ·
    rename_i htd;obtain⟨e,hu,_⟩:=hT.array htd;exact bF (run _ (by simp[Builtin.len_,hat,run_underlying hu])) h2 hm ht (dy .i64 _) hK
   ·exact h2.fail.elim
  ·exact h2.fail.elim
 ·exact h2.fail.elim
theorem e9c {c:Call} (ho:o.op=.call c) (hc:c.callee=.builtin .min):OpP P ok cx hi o:=by
 intro C rg ix key A s a w wr K Q h hr hA hK;simp only[cv,ho,hc]at h;obtain⟨E,F,hm,ht⟩:=hr;obtain⟨xs,h1,h2⟩:=iW h ht;split at h2
 ·
  rename_i i x j y;obtain⟨p,q,hp,h1,h3⟩:=c6t h1;have hx:=eX h1;have hy:=eX h3;obtain⟨cs,hrun⟩:=a7G (P:=P) ho hc a w;refine bF ?_ h2 hm ht (dy _ _) hK;rw[hrun,hp,show (Array.map a.eval #[p,q])=#[a.eval p,a.eval q] by simp,hx,hy];simp[builtin,Builtin.min_,Builtin.min2]
 ·exact h2.fail.elim
theorem e9l {c:Call} (ho:o.op=.call c) (hc:c.callee=.builtin .max):OpP P ok cx hi o:=by
 intro C rg ix key A s a w wr K Q h hr hA hK;simp only[cv,ho,hc]at h;obtain⟨E,F,hm,ht⟩:=hr;obtain⟨xs,h1,h2⟩:=iW h ht;split at h2
 ·
  rename_i i x j y;obtain⟨p,q,hp,h1,h3⟩:=c6t h1;have hx:=eX h1;have hy:=eX h3;obtain⟨cs,hrun⟩:=a7G (P:=P) ho hc a w;refine bF ?_ h2 hm ht (dy _ _) hK;rw[hrun,hp,show (Array.map a.eval #[p,q])=#[a.eval p,a.eval q] by simp,hx,hy];simp[builtin,Builtin.max_,Builtin.max2]
 ·exact h2.fail.elim
end
def bZ {α:Type} (cs:List α) (o:Nat) (d:List α):List α:=cs.take o++(d++cs.drop (o+d.length))
theorem d1E {α:Type} (cs:List α) (o:Nat):bZ cs o []=cs:=by simp[bZ]
theorem c4g:∀(vs:List Value) (k off:Nat) (cs:Array Value),off+k+vs.length≤cs.size →
  ((vs.zipIdx k).foldl (λ(c:Array Value) (p:Value × Nat)=>c.setIfInBounds (off+p.2) p.1) cs).toList=bZ cs.toList (off+k) vs
 | [],k,off,cs,_=>by simp[bZ]
 | v::r,k,off,cs,h=>by
  simp only[List.zipIdx_cons,nh];simp only[mP]at h;rw[c4g r (k+1) off _ (by simp; omega)];have:=list_seg_step cs.toList (off+k) v r (by simp; omega);simp only[bZ,pp,mP];rw[show off+(k+1)=off+k+1 by omega]
  simpa[mQ] using this
theorem d5M {place:Nat→Option (Nat × Nat)} {cells:Array Value} {i off size:Nat} {v:Value} {rest:List (Nat × Value)} (hp:place i=some (off,size)) (hs:v.cells.size=size) (hb:off+size≤cells.size) :
  Instr.fill place cells ((i,v)::rest)=Instr.fill place (bZ cells.toList off v.cells.toList).toArray rest:=by
 subst hs;rw[Instr.fill];simp only[hp];have e:¬(off+v.cells.size>cells.size):=by omega
 simp only[e,decide_false,ne_eq,not_true_eq_false,Bool.or_self,mN,if_false];congr 1;have:=c4g v.cells.toList 0 off cells (by simp; omega);rw[nS]at this;rw[← this,← Array.toList_zipIdx,Array.foldl_toList]
theorem d1U:∀(ls:List L) (l:Nat) (q:List L),l+q.length≤ls.length→over ls l q=bZ ls l q
 | ls,0,[],_=>by cases ls<;>simp[over,bZ]
 | [],0,_::_,h=>by simp at h
 | x::r,0,y::q,h=>by
  simp only[over,mP]at h ⊢;rw[d1U r 0 q (by omega)];simp[bZ]
 | [],l+1,q,h=>by simp at h
 | x::r,l+1,q,h=>by
  simp only[over,mP]at h ⊢;rw[d1U r l q (by omega)];simp[bZ,Nat.add_right_comm]
section
variable {E:Env} {F:Nat→Prop} {w:World}
theorem b7m {ls q:List L} {l:Nat} (h:l+q.length≤ls.length) (hz:ba q=ba ((ls.drop l).take q.length)):ba (bZ ls l q)=ba ls:=by
 have e:ls=ls.take l++((ls.drop l).take q.length++ls.drop (l+q.length)):=by
  rw[← oN,mh,mh]
 conv=>rhs; rw[e]
 simp[bZ,b7s,hz]
theorem b6h {ls q:List L} {cs d:List Value} {l:Nat} (h:RepLs E F w ls cs) (hq:RepLs E F w q d) (hl:l+q.length≤ls.length) (hz:ba q=ba ((ls.drop l).take q.length)) :
  RepLs E F w (bZ ls l q) (bZ cs (((ba ls).take l).sum) d)∧(((ba ls).take l).sum)+d.length≤cs.length:=by
 have e:ls=ls.take l++((ls.drop l).take q.length++ls.drop (l+q.length)):=by
  rw[← oN,mh,mh]
 have hh:=h;rw[e]at hh;obtain⟨c1,c',rfl,h1,h2⟩:=hh.split;obtain⟨c2,c3,rfl,h3,h4⟩:=h2.split;have l1:c1.length=((ba ls).take l).sum:=by rw[iG h1,b8y]
 have l2:c2.length=d.length:=by rw[iG h3,iG hq,hz]
 refine⟨?_,by simp; omega⟩
 unfold bZ;rw[← l1,pF,← l2,← mD,← mQ c1 c2 c3,pJ]
 ·exact h1.append (hq.append h4)
 ·rfl
 ·rfl
theorem d8R {x:V} {v:Value} {ls:List L} (h:RepV E F w x v) (hc:x.cls=some ls):RepLs E F w ls v.cells.toList:=by
 cases x with
 | one l =>
  have:ls=[l]∧RepW E F w (.one l) v∧∀n,l≠.any n:=by
   cases l<;>simp only[V.cls,mB,reduceCtorEq]at hc<;>exact⟨hc.symm,h,by simp⟩
  obtain⟨rfl,h,hn⟩:=this;have h:=of_one hn h;have hv:v.cells=#[v]:=by
   have:=h.1;cases v<;>simp[cw]at this<;>rfl
  rw[hv];exact All.one.2 h.2
 | agg q =>
  simp only[V.cls,mB]at hc; subst hc;obtain⟨cs,rfl,h⟩:=h;exact h
 | tup vs=>simp[V.cls]at hc
end
def jN (b:Nat) (ls:List L):EI:={blk:=b,base:=0,len:=0,cap:=0,esz:=0,nil:=false,loff:=λi=>((ba ls).take i).sum,eoff:=λ_=>0}
def dR (b n c:Nat) (t:Ty):EI:={blk:=b,base:=0,len:=n,cap:=c,esz:=t.sz,nil:=false,loff:=λ_=>0,eoff:=lOff t}
structure NewW (w w':World) (o:Go.Obj):Prop where
 os:w'.os=w.os
 tape:w'.tape=w.tape
 output:w'.output=w.output
 heap:w'.heap=w.heap.push o
theorem NewW.alloc (w:World) (o:Go.Obj):NewW w (w.alloc o) o:=⟨rfl,rfl,rfl,rfl⟩
theorem NewW.drew (w:World) (o:Go.Obj):NewW w (w.drew.alloc o) o:=⟨rfl,rfl,rfl,rfl⟩
theorem NewW.last {w w':World} {o:Go.Obj} (h:NewW w w' o):w'.heap[w.heap.size]?=some o:=by rw[h.heap]; simp
theorem NewW.old {w w':World} {o:Go.Obj} (h:NewW w w' o) {b:Nat} (hb:b<w.heap.size):w'.heap[b]?=w.heap[b]?:=by
 rw[h.heap,Array.getElem?_push_lt hb,oY hb]
theorem NewW.size {w w':World} {o:Go.Obj} (h:NewW w w' o):w'.heap.size=w.heap.size+1:=by rw[h.heap]; simp
theorem NewW.at_ {w w':World} {cs:Array Value} {t:TypeId} {fr:Nat × Nat} (h:NewW w w' (.cells cs t fr)) {c d:List Value} (e:cs.toList=c++d):At w' w.heap.size 0 c:=by
 intro j u hj;have hlt:=(mL.1 hj).1;rw[ml];simp only[World.cell?,h.last];simp only[pH,mN,if_false];rw[← my,e,mW hlt];exact hj
section
variable {P:Program} {ok:Nat→List DV→List DV→Prop} {cx:Cx} {hi:Hi} {o:Oper} {C:Frm} {A:Nat→Prop} {E:Env} {F:Nat→Prop} {s:St} {a:Act} {w w':World} {wr:Wr} {K:Act→World→Prop} {Q:Exit→Act→World→Prop}
theorem d2J (k:Nat) (o:Obj) (s:St):apply [(.ob k,.o o)] s={s with ob:=putO s.ob k o}:=rfl
theorem d8u {key:Nat} {obj:Obj} {e:EI} {x:V} {v:Value} {ho:Go.Obj} (hrun:(execOp a.eval o).run P w=.ok (.value v) w') (hw:NewW w w' ho)
  (h:Ev ok (fin hi o.dst [(.ob key,.o obj)] x) s wr) (hm:Mem C A E F s.ob w) (ht:Tms E F s.tm a w) (hA:∀k,key≤k→k<key+bK→¬A k)
  (hblk:e.blk=w.heap.size) (hrp:∀hx:Ext E F w (E.set key e) F w',RepO (E.set key e) F w' e obj) (hv:∀hx:Ext E F w (E.set key e) F w',RepV (E.set key e) F w' x v)
  (hK:∀a' w',Rel C (λk=>A k∨(key≤k∧k<key+bK)) (apply wr s) a' w'→K a' w'):o.wp P a w K Q:=by
 unfold Oper.wp;rw[hrun];have hk:¬E.al key:=λh=>hA key (mG _) (by simp[bK]) (hm.al _ h)
 obtain⟨m,hx⟩:=hm.new (w':=w') hk (e:=e) (o:=obj) hw.os hw.tape hw.output hw.size (λb hb=>hw.old hb) (λ_=>hblk) hrp;refine hK _ _ (iY h (E':=E.set key e) (F':=F) ?_ ?_ (hv hx))
 ·
  rw[d2J];exact m.mono λk hk=>hk.imp id λe=>by subst e; exact⟨mG _,by simp[bK]⟩
 ·rw[d2J]; exact ht.ext hx
theorem e2a (b:Nat) (ls:List L):Steps (jN b ls).loff 0 (ba ls):=by
 intro d hd;simp[jN]
theorem e3p {key:Nat} {ls:List L} {cs:Array Value} {ty:TypeId} {lay:List Nat} (hl:lay=ba ls) (hrun:(execOp a.eval o).run P w=.ok (.value (.pointer (some ⟨w.heap.size,0,none⟩))) (w.alloc (.cells cs ty)))
  (h:Ev ok (fin hi o.dst [(.ob key,.o (.box ls))] (.one (.ptr key 0 lay))) s wr) (hm:Mem C A E F s.ob w) (ht:Tms E F s.tm a w) (hA:∀k,key≤k→k<key+bK→¬A k)
  (hr:RepLs E F w ls cs.toList)
  (hK:∀a' w',Rel C (λk=>A k∨(key≤k∧k<key+bK)) (apply wr s) a' w'→K a' w'):o.wp P a w K Q:=by
 subst hl;have hw:=NewW.alloc w (.cells cs ty);refine d8u (e:=jN w.heap.size ls) hrun hw h hm ht hA rfl (λhx=>?_) (λhx=>?_) hK
 ·
  refine⟨cs.toList,ty,⟨cs,(0,0),hw.last,by simp[jN],λo ho=>by unfold World.frozen?; have:=hw.last; simp only[jN]; rw[this]; simp⟩,hr.ext hx,λhf=>?_,λi _=>by simp[jN]⟩
  have:=hm.fb _ hf;simp[jN]at this
 ·
  refine⟨trivial,.inr rfl,?_,?_⟩
  ·rw[Env.set_self]; simp[jN]
  ·rw[Env.set_self]; exact e2a _ _
theorem e5u (hti:TIok P cx) {t:TypeId} (ho:o.op=.alloc t):OpP P ok cx hi o:=by
 intro C rg ix key A s a w wr K Q h hr hA hK;simp only[cv,ho]at h;obtain⟨E,F,hm,ht⟩:=hr;obtain⟨i,hi',h⟩:=Cx.t_ev h;have hT:=hti t i hi';obtain⟨f,z,f1,f2,f3,f4,f5⟩:=hT.inf;refine e3p hT.lay ?_ h hm ht hA (j4 _ _ f4) hK (cs:=z.cells) (ty:=t);simp[execOp,ho,Instr.alloc,zeroValue,typeInfo,f1,f3,newVar,newRow]
theorem e8V (hti:TIok P cx) {t:TypeId} {x:Operand} (ho:o.op=.box t x):OpP P ok cx hi o:=by
 intro C rg ix key A s a w wr K Q h hr hA hK;simp only[cv,ho]at h;obtain⟨E,F,hm,ht⟩:=hr;obtain⟨i,hi',h⟩:=Cx.t_ev h;obtain⟨X,h1,h2⟩:=db h ht;split at h2
 ·
  rename_i vl hvl;split at h2
  ·
   rename_i hz;have hz:=eU hz;refine e3p hz.symm ?_ h2 hm ht hA (d8R h1 hvl) hK (cs:=(a.eval x).cells) (ty:=t);simp[execOp,ho,Instr.box,newVar,newRow]
  ·exact h2.fail.elim
 ·exact h2.fail.elim
section
variable {α:Type} {r:α}
def h7B (e:EI):Obj→Prop
 | .dead=>False
 | .box _=>True
 | .arr _ _ _=>e.nil=false
def plus (ob:List (Nat × Obj)) (E:Env) (F:Nat→Prop) (ks:List Nat) (b:Nat):Prop:=F b∨∃k∈ks,h7B (E.e k) (aL ob k)∧(E.e k).blk=b
theorem b2Z {ob:List (Nat × Obj)} {ks ks':List Nat} (h:∀k∈ks,k∈ks'):∀b,plus ob E F ks b→plus ob E F ks' b:=λb hb=>hb.imp id λ⟨k,h1,h2⟩=>⟨k,h k h1,h2⟩
theorem RepD.mono {F':Nat→Prop} (h:∀b,F b→F' b) {t:Ty} {v:Den t} {cs:List Value} (hr:RepD F w t v cs):RepD F' w t v cs:=RepD.ext h (λ_ _ _ _ h=>h) hr
def RepS (F G:Nat→Prop) (w:World) (t:Ty) (xs:List (Den t)) (cs:List Value):Prop:=∃ad cap,cs=[.slice ad xs.length cap]∧xs.length≤cap ∧
 (xs=[]∨∃b o ds,ad=some ⟨b,o,none⟩∧G b∧All (λx c=>RepD F w t x c) xs ds∧At w b o ds)
theorem RepS.data {G:Nat→Prop} {t:Ty} {xs:List (Den t)} {cs:List Value} (h:RepS F G w t xs cs) (hF:∀b,F b→G b):RepD G w (.sl t) xs cs:=by
 obtain⟨ad,cap,h1,h2,h3⟩:=h;rw[RepD];exact⟨ad,cap,h1,h2,h3.imp id λ⟨b,o,ds,k1,k2,k3,k4⟩=>⟨b,o,ds,k1,k2,k3.imp λx c hc=>hc.mono hF,k4⟩⟩
theorem RepS.of {G:Nat→Prop} {t:Ty} {xs:List (Den t)} {cs:List Value} (h:RepD F w (.sl t) xs cs) (hF:∀b,F b→G b):RepS F G w t xs cs:=by
 rw[RepD]at h;obtain⟨ad,cap,h1,h2,h3⟩:=h;exact⟨ad,cap,h1,h2,h3.imp id λ⟨b,o,ds,k1,k2,k3,k4⟩=>⟨b,o,ds,k1,hF b k2,k3,k4⟩⟩
theorem e5V {e:EI} {off n:Nat} {t:Ty} {xs:List (Den t)} {ds:List Value} {cs:List Value} {F':Nat→Prop} (hb:e.nil=false→F' e.blk) (hw:Win e off n cs) (hlen:xs.length=e.len) (hcap:e.len≤e.cap) (hsz:e.esz=t.sz)
  (h:All (λx c=>RepD F w t x c) xs ds) (ha:At w e.blk e.base ds):RepS F F' w t ((xs.drop off).take n) cs:=by
 obtain⟨h1,a,rfl,h3⟩:=hw;have hl:List.length ((xs.drop off).take n)=n:=by simp; omega
 refine⟨a,e.cap-off,by rw[hl],by rw[hl]; omega,?_⟩
 by_cases hz:n=0
 ·left; subst hz; simp
 ·
  right
  obtain⟨g1,g2⟩:=h3 (by omega);obtain⟨c,d,e',rfl,k1,k2⟩:=c7r (m:=n) (λx c=>cJ) h (show off≤xs.length by omega);refine⟨_,_,d,g2,hb g1,k2,?_⟩;have:=(ha.append.2).append.1;rw[k1,← hsz]at this;exact this
theorem d2x {k:Nat} {t:Ty} {xs:List (Den t)} {ro:Bool} {off n:Nat} {cs:List Value} {ks:List Nat} (hm:Mem C A E F s.ob w) (hobj:aL s.ob k=.arr t xs ro) (hk:k∈ks) (hw:Win (E.e k) off n cs) :
  RepS F (plus s.ob E F ks) w t ((xs.drop off).take n) cs:=by
 obtain⟨q1,q2,q3,q4,ds,q5,q6⟩:=eP hm hobj;exact e5V (λhn=>.inr ⟨k,hk,by rw[hobj]; exact hn,rfl⟩) hw q1 q2 q3 q5 q6
theorem d9A {t:Ty} {l:L} {bw:List Nat} {k:List (Den t)→List Nat→Rd α} (h:Ev ok (slD t l bw k) s r) {cs:List Value} (hm:Mem C A E F s.ob w) (hr:RepL E F w l cs) :
  ∃xs nb,RepS F (plus s.ob E F nb) w t xs cs∧Ev ok (k xs (nb++bw)) s r:=by
 unfold slD at h;split at h
 ·
  have e:=dO h; subst e; have h:=dJ h;exact⟨_,[],RepS.of hr (λ_ h=>.inl h),h⟩
 ·
  have e:=dO h; subst e; have h:=dJ h;exact⟨_,[],RepS.of hr.1 (λ_ h=>.inl h),h⟩
 ·
  refine⟨_,[],?_,h⟩;rw[RepL]at hr; subst hr;exact⟨none,0,rfl,by simp,.inl rfl⟩
 ·
  rename_i n;have h:=h.get;simp only[look]at h;split at h
  ·
   rename_i a' xs ro hobj;simp only[Cn.o.injEq]at hobj;have e:=dO h; subst e; have h:=dJ h;refine⟨_,[n],?_,h⟩;have:=d2x (ks:=[n]) hm hobj (by simp) hr.2;rw[← (eP hm hobj).1]at this
   simpa using this
  ·exact h.fail.elim
 ·
  rename_i n off;have h:=h.get;simp only[look]at h;split at h
  ·
   rename_i a' xs ro hobj;simp only[Cn.o.injEq]at hobj;have e:=dO h; subst e; have h:=dJ h;refine⟨_,[n],?_,h⟩;have:=d2x (ks:=[n]) hm hobj (by simp) hr.2.2;rw[← (eP hm hobj).1,nP (by simp)]at this;exact this
  ·exact h.fail.elim
 ·
  rename_i n off len;have h:=h.get;simp only[look]at h;split at h
  ·
   rename_i a' xs ro hobj;simp only[Cn.o.injEq]at hobj;have e:=dO h; subst e; have h:=dJ h;exact⟨_,[n],d2x (ks:=[n]) hm hobj (by simp) hr.2,h⟩
  ·exact h.fail.elim
 ·
  rename_i n l m off len;have h:=h.get;split at h
  ·
   rename_i m' a' v hobj;obtain⟨bl,hb,hx⟩:=e5p hobj;split at h
   ·
    rename_i hmb;simp only[mE,nk]at hmb;obtain⟨rfl,hsc⟩:=hmb;have e:=dO h; subst e; have h:=dJ h;refine⟨_,[n],?_,h⟩;obtain⟨c,k1,k2⟩:=d2i hm hb hx;rw[RepL,RepD]at k1;obtain⟨g1,g2⟩:=k1;obtain⟨p1,p2,ad,cap,rfl,p4,p5⟩:=hr;have hl:List.length ((List.drop off v).take len)=len:=by simp; omega
    refine⟨ad,cap,by rw[hl],by rw[hl]; exact p4,?_⟩
    by_cases hz:len=0
    ·left; subst hz; simp
    ·
     right
     obtain⟨c',d,e',rfl,q1,q2⟩:=c7r (m:=len) (λx c=>cJ) g2 (show off≤List.length v by omega);refine⟨_,_,d,p5 (by omega),.inr ⟨n,by simp,by rw[hb]; trivial,rfl⟩,q2,?_⟩
     have:=(k2.append.2).append.1;rw[q1,b7t hsc,qO]at this;exact this
   ·exact h.fail.elim
  ·exact h.fail.elim
 ·exact h.fail.elim
end
end
section
variable {P:Program} {ok:Nat→List DV→List DV→Prop} {cx:Cx} {hi:Hi} {o:Oper} {C:Frm} {A:Nat→Prop} {E:Env} {F:Nat→Prop} {s:St} {w:World} {α:Type} {r:α}
theorem e5s (hm:Mem C A E F s.ob w):∀{t:Ty} {ls:List L} {bw:List Nat} {k:Den t→List L→List Nat→Rd α},Ev ok (pk t ls bw k) s r→∀{cs:List Value},RepLs E F w ls cs →
  ∃v q nb c d,cs=c++d∧RepD (plus s.ob E F nb) w t v c∧RepLs E F w q d∧Ev ok (k v q (nb++bw)) s r∧ba ls=ba (unpk t (cq t))++ba q:=by
 intro t;induction t with
 | unit=>intro ls bw k h cs hr; rw[pk]at h; exact⟨(),ls,[],[],cs,rfl,by rw[RepD],hr,h,rfl⟩
 | pair a b iha ihb =>
  intro ls bw k h cs hr;rw[pk]at h;obtain⟨x,q,nb,c,d,rfl,h1,h2,h3,hz1⟩:=iha h hr;obtain⟨y,q',nb',c',d',rfl,h4,h5,h6,hz2⟩:=ihb h3 h2;refine⟨(x,y),q',nb'++nb,c++c',d',by simp,?_,h5,by rw[mQ]; exact h6,by simp only[unpk,cq,b7s,hz1,hz2,mQ]⟩
  rw[RepD];exact⟨c,c',rfl,h1.mono (b2Z (by simp +contextual)),h4.mono (b2Z (by simp +contextual))⟩
 | sl a =>
  intro ls bw k h cs hr;cases ls with
  | nil=>exact Ev.fail h |>.elim
  | cons l q =>
  have h:Ev ok (slD a l bw λxs bw=>k xs q bw) s r:=h;obtain⟨c,d,rfl,h1,h2⟩:=hr;obtain⟨xs,nb,h3,h4⟩:=d9A h hm h1;refine⟨xs,q,nb,c,d,rfl,h3.data (λ_ h=>.inl h),h2,h4,?_⟩;obtain⟨ad,cap,rfl,_⟩:=h3;have:=b5g h1;simp only[oU]at this;show l.size::ba q=1::ba q;rw[← this]
 | int i =>
  intro ls bw k h cs hr;unfold pk at h;split at h<;>try (first | contradiction | exact h.fail.elim)
  rename_i e; cases e;have e:=c1e h; subst e; have h:=b7B h;obtain⟨c,d,rfl,h1,h2⟩:=hr;exact⟨_,_,[],c,d,rfl,RepD.mono (λ_ h=>.inl h) h1,h2,h,rfl⟩
 | nl =>
  intro ls bw k h cs hr;unfold pk at h;split at h<;>try (first | contradiction | exact h.fail.elim)
  ·
   have e:=c1e h; subst e; have h:=b7B h;obtain⟨c,d,rfl,h1,h2⟩:=hr;exact⟨_,_,[],c,d,rfl,RepD.mono (λ_ h=>.inl h) h1,h2,h,rfl⟩
  ·
   obtain⟨c,d,rfl,h1,h2⟩:=hr;exact⟨_,_,[],c,d,rfl,by rw[RepL]at h1; rw[RepD]; exact h1,h2,h,rfl⟩
 | bool =>
  intro ls bw k h cs hr;unfold pk at h;split at h<;>try (first | contradiction | exact h.fail.elim)
  have e:=c1e h; subst e; have h:=b7B h;obtain⟨c,d,rfl,h1,h2⟩:=hr;exact⟨_,_,[],c,d,rfl,RepD.mono (λ_ h=>.inl h) h1,h2,h,rfl⟩
 | str =>
  intro ls bw k h cs hr;unfold pk at h;split at h<;>try (first | contradiction | exact h.fail.elim)
  have e:=c1e h; subst e; have h:=b7B h;obtain⟨c,d,rfl,h1,h2⟩:=hr;exact⟨_,_,[],c,d,rfl,RepD.mono (λ_ h=>.inl h) h1,h2,h,rfl⟩
 | ar n a ih =>
  intro ls bw k h cs hr;cases ls with
  | nil=>exact Ev.fail h |>.elim
  | cons l q =>
  cases l with
  | dat t v =>
  have h:Ev ok (cast? t (.ar n a) v λx=>k x q bw) s r:=h;have e:=c1e h; subst e; have h:=b7B h;obtain⟨c,d,rfl,h1,h2⟩:=hr;exact⟨_,_,[],c,d,rfl,RepD.mono (λ_ h=>.inl h) h1,h2,h,rfl⟩
  | _=>exact Ev.fail h |>.elim
theorem RepD.plus_nil {t:Ty} {v:Den t} {c:List Value} (h:RepD (plus s.ob E F []) w t v c):RepD F w t v c:=h.mono λb hb=>hb.elim id λ⟨k,hk,_⟩=>by simp at hk
theorem d1z:∀{xs:List Int} {ds:List Value},All (λx c=>RepD F w (.int .u8) x c) xs ds→ds=xs.map (Value.int .u8)
 | [],_,h=>h
 | x::r,_,⟨c,d,rfl,h1,h2⟩=>by
  have h1:c=[Value.int .u8 x]:=by unfold RepD at h1; exact h1
  subst h1;rw[d1z h2]; rfl
theorem d1O:∀(l:List Int) (r:ByteArray),l.foldl (λr n=>r.push (UInt8.ofNat n.toNat)) r=⟨r.data++(l.map λn=>UInt8.ofNat n.toNat).toArray⟩
 | [],r=>by simp
 | b::l,r=>by
  simp only[nh,nN];rw[d1O l];simp[ByteArray.push]
theorem d2e {xs:List Int} {v:Value} {src dst e:TypeId} (hs:P.underlying src=some (.slice e)) (he:P.underlying e=some (.int .u8)) (hd:P.underlying dst=some .string) {F':Nat→Prop}
  (h:RepD F' w (.sl (.int .u8)) xs [v]):(convert src dst v).run P w=.ok (.string (h8l xs)) w:=by
 rw[RepD]at h;obtain⟨ad,cap,h1,h2,h3⟩:=h;simp only[mK,and_true]at h1;subst h1;rw[run_convert_bytes_string w src dst e ad _ cap hs he hd];have nil:(xs:List Int)=[]→(Conv.bytesToString (.slice none 0 cap)).run P w=.ok (.string (h8l xs)) w:=by
  rintro rfl
  simp[Conv.bytesToString,h8l];rfl
 rcases h3 with rfl | ⟨b,oo,ds,rfl,h4,h5,h6⟩
 ·
  cases ad with
  | none=>exact nil rfl
  | some ad =>
   have hl:=run_loadCells_list (P:=P) w ad [] (by simp);rw[ma]at hl;have:=run_bytesToString (P:=P) w ad 0 cap [] (by simpa using hl);exact this
 ·
  have h5:=d1z h5;subst h5;have hl:=run_loadCells_list (P:=P) w ⟨b,oo,none⟩ (List.map (Value.int .u8) xs) (λj u hj=>by rw[gU]; exact h6 j u hj);rw[mr]at hl;rw[run_bytesToString w ⟨b,oo,none⟩ _ cap xs (by simpa using hl),d1O];simp[h8l]
theorem c8y (s:ByteArray):All (λx c=>RepD F w (.int .u8) x c) (fU s) ((fU s).map (Value.int .u8)):=by
 induction fU s with
 | nil=>rfl
 | cons x r ih=>exact⟨[_],_,rfl,by unfold RepD; rfl,ih⟩
theorem e1c (hti:TIok P cx) {t u:TypeId} {x:Operand} (ho:o.op=.convert t u x):OpP P ok cx hi o:=by
 intro C rg ix key A s a w wr K Q h hr hA hK;simp only[cv,ho]at h;obtain⟨E,F,hm,ht⟩:=hr;obtain⟨i,hi',h⟩:=Cx.t_ev h;have hT:=hti t i hi';obtain⟨j,hj',h⟩:=Cx.t_ev h;have hU:=hti u j hj';obtain⟨X,h1,h2⟩:=db h ht;obtain⟨dt,hdt,_⟩:=hT.und;have run:∀v,(convert t u (a.eval x)).run P w=.ok v w→(execOp a.eval o).run P w=.ok (.value v) w:=by
  intro v hv;simp only[execOp,ho,Sem.run_bind,hv];rfl
 have run':∀{v w'},(convert t u (a.eval x)).run P w=.ok v w'→(execOp a.eval o).run P w=.ok (.value v) w':=by
  intro v w' hv;simp only[execOp,ho,Sem.run_bind,hv];rfl
 unfold h8P at h2;split at h2
 ·
  rename_i k k' n htd;have hx:=eX h1;refine bF (run _ ?_) h2 hm ht (dy _ _) hK;rw[hx];simp[convert,run_underlying hdt,run_underlying (hU.int htd),Conv.intToInt]
 ·
  rename_i sv htd;have hx:=j0 h1;refine bF (run _ ?_) h2 hm ht (c8E _) hK;rw[hx];simp[convert,run_underlying hdt,run_underlying (hU.str htd)]
 ·
  rename_i k' n htd;have hx:=eX h1;refine bF (run _ ?_) h2 hm ht (c8E _) hK;rw[hx];simp[convert,run_underlying hdt,run_underlying (hU.str htd),Conv.intToString]
 ·
  rename_i l _ _ htd;split at h2
  ·
   rename_i hts hety;obtain⟨e,hu,_⟩:=hT.slice hts;have he:=hT.by8 e hu hety;obtain⟨xs,nb,h3,h4⟩:=d9A h2 hm (cs:=[a.eval x]) (by cases l<;>first | exact Ev.fail h2 |>.elim | exact h1.2);exact bF (run _ (d2e hu he (hU.str htd) (h3.data (λ_ h=>.inl h)))) h4 hm ht (c8E _) hK
  ·exact h2.fail.elim
 ·
  rename_i sv htd;have hx:=j0 h1;split at h2
  ·
   rename_i hts hety;obtain⟨e,hu,f,z,f1,f2,f3,f4,f5⟩:=hU.slice htd;have he:=hU.by8 e hu hety;rcases h2.ite with⟨hb,h2⟩ | ⟨_,h2⟩
   ·
    have hc:sv.size≤grownCap w sv.size 0 e:=grownCap_ge w sv.size 0 e;have hlen:(fU sv).length=sv.size:=by simp[fU]
    have hw:=NewW.drew w (.cells (bytesRow sv (grownCap w sv.size 0 e)) e ((bytesRow sv (grownCap w sv.size 0 e)).size,(bytesRow sv (grownCap w sv.size 0 e)).size+1));refine d8u (e:=dR w.heap.size sv.size (grownCap w sv.size 0 e) (.int .u8)) (v:=.slice (some ⟨w.heap.size,0,none⟩) sv.size (grownCap w sv.size 0 e)) (run' ?_) hw h2 hm ht hA rfl (λhx'=>?_) (λhx'=>?_) hK
    ·rw[hx]; exact run_bytes_of_string w t u e sv (hT.str hts) hu he
    ·
     refine⟨hlen,hc,rfl,λ_=>rfl,λh=>by simp[dR]at h,λ_=>⟨_,_,_,(fU sv).map (Value.int .u8),hw.last,?_,c8y sv,?_,λ_=>⟨λhf=>?_,?_⟩,λh=>by simp at h⟩⟩
     ·
      have e1:sv.data.size=sv.size:=rfl;simp only[dR,bytesRow,Ty.sz,Array.size_append,Array.size_map,Array.size_replicate,e1];omega
     ·exact hw.at_ (d:=List.replicate (grownCap w sv.size 0 e-sv.size) (.int .u8 0)) (by simp[bytesRow,fU])
     ·have:=hm.fb _ hf; simp[dR]at this
     ·
      intro oo ho;simp only[World.frozen?,dR,hw.last];simp only[Bool.and_eq_false_iff,decide_eq_false_iff_not];left; omega
    ·
     refine gV ⟨.inr rfl,?_⟩;rw[Env.set_self];exact⟨by simp[dR],_,rfl,λ_=>⟨rfl,by simp[dR]⟩⟩
   ·exact h2.fail.elim
  ·exact h2.fail.elim
 ·exact h2.fail.elim
end
end Go.Proofs.Zz
