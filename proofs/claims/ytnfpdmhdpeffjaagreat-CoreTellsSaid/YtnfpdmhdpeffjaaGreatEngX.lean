import Derived.Test.YtnfpdmhdpeffjaaGreatEngW
set_option linter.unusedSimpArgs false
set_option linter.unusedVariables false
/- A state held against a whole signature. -/
namespace Go.Proofs.Zz
open Go

theorem RepKs.inv {β:Nat→EI} {F:Nat→Prop} {w:World} {ks:List LK} {p:List DV} {es:List EI} {cs:List Value} (h:RepKs β F w ks p es cs) :
  match ks with
  | []=>p = []∧es = []∧cs = []
  | k::r=>∃ p1 p2 e1 e2 c1 c2,p = p1++p2∧es = e1++e2∧cs = c1++c2∧RepK β F w k p1 e1 c1∧RepKs β F w r p2 e2 c2:=by
 cases h with
 | nil=>exact ⟨rfl,rfl,rfl⟩
 | cons a b=>exact ⟨_,_,_,_,_,_,rfl,rfl,rfl,a,b⟩
theorem RepKs.one {β:Nat→EI} {F:Nat→Prop} {w:World} {k:LK} {p:List DV} {es:List EI} {cs:List Value} (h:RepKs β F w [k] p es cs):RepK β F w k p es cs:=by
 obtain ⟨p1,p2,e1,e2,c1,c2,rfl,rfl,rfl,h1,h2⟩:=h.inv
 obtain ⟨rfl,rfl,rfl⟩:=h2.inv
 simpa using h1

section
variable {ok:Nat→List DV→List DV→Prop} {C:Frm} {A:Nat→Prop} {E:Env} {F:Nat→Prop} {s:St} {w:World} {α:Type} {r:α}
theorem e7L (hm:Mem C A E F s.ob w):∀ {as:List AK} {xs:List V} {m:M} {k:M→Rd α},Ev ok (mtAs as xs m k) s r→∀ {vs:List Value},All2 (RepV E F w) xs vs→∀ {ea:List EI},Own E s m.tk ea →
  ∃ m' p es,Ev ok (k m') s r∧MLe m m'∧m'.pay = p.reverse++m.pay∧Own E s m'.tk (es.reverse++ea)∧∀ β G,Fits E F s m' β G→RepAs β G w as p es vs:=by
 intro as
 induction as with
 | nil=>intro xs m k h vs hv ea ho; exact ⟨m,[],[],h,MLe.refl m,rfl,ho,fun β G _=>.nil vs⟩
 | cons a as ih =>
  intro xs m k h vs hv ea ho
  cases xs with
  | nil=>cases a with
   | one x=>cases x <;> exact Ev.fail h |>.elim
   | _=>exact Ev.fail h |>.elim
  | cons x xs =>
  cases vs with
  | nil=>exact hv.elim
  | cons v vs =>
  obtain ⟨hx,hv⟩:=hv
  have leaf:∀ {ks:List LK} {ls:List L} {cs:List Value} , RepLs E F w ls cs→Ev ok (mtLs ks ls m fun m=>mtAs as xs m k) s r→(∀ β G p es,RepKs β G w ks p es cs→RepA β G w a p es v) →
    ∃ m' p es,Ev ok (k m') s r∧MLe m m'∧m'.pay = p.reverse++m.pay∧Own E s m'.tk (es.reverse++ea)∧∀ β G,Fits E F s m' β G→RepAs β G w (a::as) p es (v::vs):=by
   intro ks ls cs hr h hk
   obtain ⟨m1,p,es,g1,g2,g3,g4,_,g6⟩:=e3W hm h hr ho
   obtain ⟨m2,p',es',k1,k2,k3,k4,k5⟩:=ih g1 hv g4
   exact ⟨m2,p++p',es++es',k1,g2.trans k2,by rw [k3,g3]; simp,by simpa using k4,fun β G hf=>.cons (hk β G p es (g6 β G (hf.of k2))) (k5 β G hf)⟩
  cases a with
  | no =>
   have h:Ev ok (mtAs as xs m k) s r:=h
   obtain ⟨m2,p',es',k1,k2,k3,k4,k5⟩:=ih h hv ho
   exact ⟨m2,p',es',k1,k2,k3,k4,fun β G hf=>by
    have:=RepAs.cons (RepA.no (β:=β) (F:=G) (w:=w) v) (k5 β G hf)
    simpa using this⟩
  | agg ks =>
   cases x with
   | agg ls =>
    obtain ⟨cs,rfl,hr⟩:=hx
    exact leaf hr h fun β G p es hk=>.agg hk
   | _=>exact Ev.fail h |>.elim
  | one kk =>
   cases x with
   | one l =>
    by_cases hany:∃ n,kk = .any n
    ·
     obtain ⟨n,rfl⟩:=hany
     have h:Ev ok (mtAs as xs m k) s r:=h
     obtain ⟨m2,p',es',k1,k2,k3,k4,k5⟩:=ih h hv ho
     exact ⟨m2,p',es',k1,k2,k3,k4,fun β G hf=>by
      have:=RepAs.cons (RepA.any (β:=β) (F:=G) (w:=w) n v) (k5 β G hf)
      simpa using this⟩
    ·
     have hne:∀ n,kk≠.any n:=fun n e=>hany ⟨n,e⟩
     by_cases hhd:∃ j l0 n,kk = .hd j l0∧l = .own n
     ·
      obtain ⟨j,l0,n,rfl,rfl⟩:=hhd
      simp only [mtAs] at h
      split at h
      ·
       rename_i q hq
       have hb:m.bx[j]? = some (some q):=by
        rw [a4c,List.getD_eq_getElem?_getD] at hq
        cases hc:m.bx[j]? with
        | none=>rw [hc] at hq; simp at hq
        | some o=>rw [hc] at hq; simp at hq; rw [hq]
       have h:=h.get
       split at h
       ·
        rename_i n' hlf
        split at h
        ·
         rename_i hnn
         have:=Nat.eq_of_beq_eq_true hnn
         subst this
         obtain ⟨bl,hl1,hl2⟩:=e5p hlf
         obtain ⟨c,g1,g2⟩:=d2i hm hl1 hl2
         obtain ⟨h1,_,h2⟩:=of_one (by intro _ e; cases e) hx
         obtain ⟨_,ga⟩:=g1
         obtain ⟨u,rfl⟩:∃ u,c = [u]:=by
          obtain ⟨_,a,e,_⟩:=ga
          exact ⟨_,e⟩
         obtain ⟨m2,p',es',k1,k2,k3,k4,k5⟩:=ih h hv ho
         exact ⟨m2,p',es',k1,k2,k3,k4,fun β G hf=>by
          have:=RepAs.cons (RepA.one (β:=β) (F:=G) (w:=w) hne h1 (RepK.hd (j:=j) (l:=l0) h2 ga (by rw [hf.β j q (k2.bx _ _ hb)]; exact g2))) (k5 β G hf)
          simpa using this⟩
        · exact h.fail.elim
       · exact h.fail.elim
      · exact h.fail.elim
     have hl:∀ n,l≠.any n:=by
      rintro n rfl
      cases kk <;> first | exact (hne _ rfl).elim | exact Ev.fail h |>.elim
     have h:Ev ok (mtLs [kk] [l] m fun m=>mtAs as xs m k) s r:=by
      cases kk <;> first | exact (hne _ rfl).elim | (cases l <;> first | exact (hl _ rfl).elim | exact (hhd ⟨_,_,_,rfl,rfl⟩).elim | exact h)
     obtain ⟨h1,h2⟩:=of_one hl hx
     refine leaf (All.one.2 h2) h fun β G p es hk=>.one hne h1 ?_
     exact hk.one
   | _=>cases kk <;> exact Ev.fail h |>.elim
theorem e7W (hm:Mem C A E F s.ob w):∀ {kss:List (List LK)} {j:Nat} {m:M} {k:M→Rd α},Ev ok (mtBx kss j m k) s r→∀ {ea:List EI},Own E s m.tk ea →
  ∃ m' p es,Ev ok (k m') s r∧MLe m m'∧m'.pay = p.reverse++m.pay∧Own E s m'.tk (es.reverse++ea)∧(∀ i,i < kss.length→∃ n ls,m.bx[j+i]?≠none∧m'.bx[j+i]? = some (some n)∧lookO s.ob n = .box ls) ∧
   ∀ β G,Fits E F s m' β G→(∀ i,i < kss.length→¬ G (β (j+i)).blk)→RepBs β G w kss j p es:=by
 intro kss
 induction kss with
 | nil=>intro j m k h ea ho; exact ⟨m,[],[],h,MLe.refl m,rfl,ho,fun i hi=>by simp at hi,fun β G _ _=>.nil j⟩
 | cons ks r ih =>
  intro j m k h ea ho
  simp only [mtBx] at h
  split at h
  ·
   rename_i n hn
   have hb:m.bx[j]? = some (some n):=by
    rw [a4c,List.getD_eq_getElem?_getD] at hn
    cases hc:m.bx[j]? with
    | none=>rw [hc] at hn; simp at hn
    | some o=>rw [hc] at hn; simp at hn; rw [hn]
   have h:=h.get
   simp only [look] at h
   split at h
   ·
    rename_i ls hobj
    simp only [Cn.o.injEq] at hobj
    have hrp:=hm.rp n
    rw [hobj] at hrp
    obtain ⟨cs,t,q1,q2,q3,q4⟩:=hrp
    obtain ⟨m1,p,es,g1,g2,g3,g4,g5,g6⟩:=e3W hm h q2 ho
    obtain ⟨m2,p',es',k1,k2,k3,k4,k5,k6⟩:=ih g1 g4
    refine ⟨m2,p++p',es++es',k1,g2.trans k2,by rw [k3,g3]; simp,by simpa using k4,fun i hi=>?_,fun β G hf hG=>?_⟩
    ·
     cases i with
     | zero=>exact ⟨n,ls,by rw [Nat.add_zero,hb]; simp,k2.bx _ _ (g2.bx _ _ hb),hobj⟩
     | succ i =>
      obtain ⟨n',ls',e1,e2,e3⟩:=k5 i (by simpa using hi)
      rw [show j+1+i = j+(i+1) by omega] at e1 e2
      refine ⟨n',ls',?_,e2,e3⟩
      intro e
      apply e1
      rw [List.getElem?_eq_none_iff] at e ⊢
      rw [g2.len]; exact e
    ·
     have hβ:=hf.β j n (k2.bx _ _ (g2.bx _ _ hb))
     refine .cons (t:=t) (cs:=cs) (by rw [hβ]; exact q1) (g6 β G (hf.of k2)) (by simpa using hG 0 (by simp)) (fun i hi=>?_) (k6 β G hf (fun i hi=>?_))
     ·
      rw [hβ,← g5]
      refine q4 i ?_
      rw [← g5,a6T] at hi; exact hi
     ·
      have:=hG (i+1) (by simpa using hi)
      rwa [show j+(i+1) = j+1+i by omega] at this
   · exact h.fail.elim
  · exact h.fail.elim
theorem d8U:∀ {l:List (Option Nat)} {bs:List Nat},somes l = some bs→l = bs.map some
 | [],bs,h=>by simp only [somes,Option.some.injEq] at h; subst h; rfl
 | none::r,bs,h=>by simp [somes] at h
 | some x::r,bs,h=>by
  simp only [somes] at h
  split at h
  ·
   rename_i q hq
   simp only [Option.some.injEq] at h; subst h
   rw [d8U hq]; rfl
  · simp at h
theorem c8e:∀ n,(nones n).length = n
 | 0=>rfl
 | n+1=>by simp [nones,c8e n]
theorem c6r {bw:List Nat} {k:Nat} (hm:Mem C A E F s.ob w) (hk:excl (E.e k) (lookO s.ob k)) (hn:k∉bw):¬ plus s.ob E F bw (E.e k).blk:=by
 rintro (h | ⟨n,h1,h2,h3⟩)
 · exact a2L hm hk h
 ·
  by_cases hne:n = k
  · subst hne; exact hn h1
  ·
   refine hm.blk_ne hk hne ?_ ?_ h3
   · cases ho:lookO s.ob n <;> rw [ho] at h2 <;> first | exact h2.elim | trivial
   ·
    cases ho:lookO s.ob n with
    | dead=>rw [ho] at h2; exact h2.elim
    | box ls=>exact .inr ⟨ls,rfl⟩
    | arr t xs ro=>rw [ho] at h2; exact .inl h2
structure Fit (C:Frm) (A:Nat→Prop) (E:Env) (F:Nat→Prop) (s:St) (w:World) (sg:Sg) (vs:List Value) (p:List DV) (es:List EI) (bs tk bw:List Nat):Prop where
 sig:SigIn sg (fun j=>E.e (nthD 0 bs j)) (plus s.ob E F bw) w p es vs
 len:bs.length = sg.bx.length
 nod:bs.Nodup
 box:∀ n∈bs,∃ ls,lookO s.ob n = .box ls
 own:∃ ea,Own E s tk ea∧es = ea.reverse
 tb:∀ n∈tk,n∉bw
 bb:∀ n∈bs,n∉bw
theorem d9x {pre:List (Option Nat)} {sg:Sg} (hpre:pre.length = sg.bx.length) {xs:List V} {vs:List Value} {k:List DV→List Nat→List Nat→List Nat→Rd α} (h:Ev ok (mtSgP pre sg xs k) s r) (hm:Mem C A E F s.ob w) (hv:All2 (RepV E F w) xs vs) :
  ∃ p es bs tk bw,Ev ok (k p bs tk bw) s r∧Fit C A E F s w sg vs p es bs tk bw:=by
 unfold mtSgP at h
 obtain ⟨m1,p1,e1,g1,g2,g3,g4,g5⟩:=e7L hm h hv (ea:=[]) .nil
 obtain ⟨m2,p2,e2,k1,k2,k3,k4,k5,k6⟩:=e7W hm g1 g4
 split at k1
 ·
  rename_i bs hbs
  have hbs:=d8U hbs
  split at k1
  ·
   rename_i hd
   simp only [Bool.and_eq_true] at hd
   obtain ⟨⟨d1,d2⟩,d3⟩:=hd
   have d1:=c0O d1
   have d2:=c7Y d2
   have d3:=c7Y d3
   have hlen:bs.length = sg.bx.length:=by
    have:=k2.len
    rw [hbs,g2.len,List.length_map] at this
    rw [this]; exact hpre
   have hbi:∀ i,i < sg.bx.length→∃ n ls,m2.bx[i]? = some (some n)∧lookO s.ob n = .box ls∧nthD 0 bs i = n∧n∈bs∧bs[i]? = some n:=by
    intro i hi
    obtain ⟨n,ls,_,e2,e3⟩:=k5 i hi
    rw [Nat.zero_add] at e2
    have:bs[i]? = some n:=by
     rw [hbs,List.getElem?_map] at e2
     cases hc:bs[i]? with
     | none=>rw [hc] at e2; simp at e2
     | some x=>rw [hc] at e2; simp at e2; rw [e2]
    exact ⟨n,ls,e2,e3,by rw [a4c,List.getD_eq_getElem?_getD,this]; rfl,List.mem_of_getElem? this,this⟩
   have hf:Fits E F s m2 (fun j=>E.e (nthD 0 bs j)) (plus s.ob E F m2.bw):=by
    refine ⟨fun j n hj=>?_,fun b hb=>hb⟩
    have hj':j < bs.length:=by
     have:=(List.getElem?_eq_some_iff.1 hj).1
     rw [hbs,List.length_map] at this; exact this
    obtain ⟨n',ls,q1,q2,q3,_⟩:=hbi j (by rw [← hlen]; exact hj')
    rw [hj] at q1
    simp only [Option.some.injEq] at q1
    simp only [q3,q1]
   have hbk:∀ i,i < sg.bx.length→excl (E.e (nthD 0 bs i)) (lookO s.ob (nthD 0 bs i)):=by
    intro i hi
    obtain ⟨n,ls,q1,q2,q3,q4,_⟩:=hbi i hi
    rw [q3,q2]; trivial
   have hkey:∀ e∈e1++e2,e.nil = false→∃ n∈m2.tk,e.blk = (E.e n).blk∧excl (E.e n) (lookO s.ob n):=fun e he hn=>k4.key e (by simp at he ⊢; exact he.symm) hn
   have hp:m2.pay.reverse = p1++p2:=by rw [k3,g3]; simp
   rw [hp] at k1
   refine ⟨_,e1++e2,bs,m2.tk,m2.bw,k1,⟨?_,?_,?_,?_,?_⟩,hlen,d1,fun n hn=>?_,⟨_,k4,by simp⟩,d2,d3⟩
   ·
    refine ⟨p1,p2,e1,e2,rfl,rfl,g5 _ _ (hf.of k2),k6 _ _ hf (fun i hi=>?_)⟩
    rw [Nat.zero_add]
    obtain ⟨n,ls,q1,q2,q3,q4,_⟩:=hbi i hi
    refine c6r hm (hbk i hi) ?_
    rw [q3]; exact d3 n q4
   ·
    intro i j hi hj he
    have:=hm.inj _ _ (hbk i hi) (hbk j hj) he
    obtain ⟨n,_,_,_,q3,_,q5⟩:=hbi i hi
    obtain ⟨n',_,_,_,q3',_,q5'⟩:=hbi j hj
    rw [q3,q3'] at this
    subst this
    exact (List.getElem?_inj (show i < bs.length by omega) d1).1 (q5.trans q5'.symm)
   ·
    have:=k4.dist hm
    rw [← List.pairwise_reverse] at this
    simp only [List.reverse_append,List.reverse_reverse,List.reverse_nil,List.append_nil,List.nil_append] at this
    simpa using this.imp fun hab ha hb e=>hab hb ha e
   ·
    intro j hj e he hn hc
    obtain ⟨n,hn1,hn2,hn3⟩:=hkey e he hn
    have:=hm.inj _ _ (hbk j hj) hn3 (hc.trans hn2)
    obtain ⟨n',ls,q1,q2,q3,q4,_⟩:=hbi j hj
    obtain ⟨t,xs,ho⟩:=k4.obj n hn1
    rw [q3] at this
    rw [this,ho] at q2
    cases q2
   ·
    intro e he hn hc
    obtain ⟨n,hn1,hn2,hn3⟩:=hkey e he hn
    rw [hn2] at hc
    exact c6r hm hn3 (d2 n hn1) hc
   ·
    obtain ⟨i,hi⟩:=List.mem_iff_getElem?.1 hn
    have hi':=(List.getElem?_eq_some_iff.1 hi).1
    obtain ⟨n',ls,q1,q2,q3,q4,q5⟩:=hbi i (by omega)
    rw [hi] at q5
    simp only [Option.some.injEq] at q5
    exact ⟨ls,by rw [q5]; exact q2⟩
  · exact k1.fail.elim
 · exact k1.fail.elim
theorem e2R {sg:Sg} {xs:List V} {vs:List Value} {k:List DV→List Nat→List Nat→List Nat→Rd α} (h:Ev ok (mtSg sg xs k) s r) (hm:Mem C A E F s.ob w) (hv:All2 (RepV E F w) xs vs) :
  ∃ p es bs tk bw,Ev ok (k p bs tk bw) s r∧Fit C A E F s w sg vs p es bs tk bw:=d9x (c8e _) h hm hv
end
end Go.Proofs.Zz
