import Derived.Test.YtnfpdmhdpeffjaaGreatEngX
set_option linter.unusedSimpArgs false
set_option linter.unusedVariables false
/- A state made of a signature and a payload. -/
namespace Go.Proofs.Zz
open Go

theorem c1r {a b:Nat} (h:Nat.blt a b = true):a < b:=by
 have:a+1≤b:=by simpa [Nat.blt] using h
 exact this
inductive ArrOk (F:Nat→Prop) (w:World):List EI→Nat→List (Nat × Obj)→Prop
 | nil (n:Nat):ArrOk F w [] n []
 | cons {es:List EI} {n:Nat} {new:List (Nat × Obj)} {e:EI} {t:Ty} {xs:List (Den t)}:RepArrO F w e t xs→ArrOk F w es (n+1) new→ArrOk F w (e::es) n ((n,.arr t xs false)::new)
theorem ArrOk.append {F:Nat→Prop} {w:World} {es fs:List EI} {n:Nat} {new new':List (Nat × Obj)} (h:ArrOk F w es n new) (h':ArrOk F w fs (n+es.length) new'):ArrOk F w (es++fs) n (new++new'):=by
 induction h with
 | nil n=>simpa using h'
 | cons hr _ ih=>exact .cons hr (ih (by simpa [Nat.add_assoc,Nat.add_comm 1] using h'))
theorem ArrOk.mem {F:Nat→Prop} {w:World} {es:List EI} {n:Nat} {new:List (Nat × Obj)} (h:ArrOk F w es n new) {k:Nat} {o:Obj} (hk:(k,o)∈new) :
  ∃ e t xs,n≤k∧es[k - n]? = some e∧o = .arr t xs false∧RepArrO F w e t xs:=by
 induction h with
 | nil n=>simp at hk
 | @cons es n new e t xs hr _ ih =>
  rcases List.mem_cons.1 hk with hk | hk
  ·
   simp only [Prod.mk.injEq] at hk
   obtain ⟨rfl,rfl⟩:=hk
   exact ⟨_,_,_,Nat.le_refl _,by simp,rfl,hr⟩
  ·
   obtain ⟨e',t',xs',h1,h2,h3,h4⟩:=ih hk
   refine ⟨e',t',xs',by omega,?_,h3,h4⟩
   rw [show k - n = (k - (n+1))+1 by omega]; simpa using h2

structure EnvOk (E:Env) (β:Nat→EI) (ren:Nat→Nat) (nb nx:Nat) (es:List EI):Prop where
 bx:∀ j,j < nb→E.al (ren j)∧E.e (ren j) = β j
 ar:∀ i e,es[i]? = some e→E.al (nx+i)∧E.e (nx+i) = e
theorem EnvOk.left {E:Env} {β:Nat→EI} {ren:Nat→Nat} {nb nx:Nat} {es fs:List EI} (h:EnvOk E β ren nb nx (es++fs)):EnvOk E β ren nb nx es :=
 ⟨h.bx,fun i e hi=>h.ar i e (by rw [List.getElem?_append_left (List.getElem?_eq_some_iff.1 hi).1]; exact hi)⟩
theorem EnvOk.right {E:Env} {β:Nat→EI} {ren:Nat→Nat} {nb nx:Nat} {es fs:List EI} (h:EnvOk E β ren nb nx (es++fs)):EnvOk E β ren nb (nx+es.length) fs :=
 ⟨h.bx,fun i e hi=>by
  have:=h.ar (es.length+i) e (by rw [List.getElem?_append_right (by omega)]; simpa using hi)
  rwa [← Nat.add_assoc] at this⟩

structure BOk (F:Nat→Prop) (w:World) (b b':B) (q:List DV) (es:List EI) (new:List (Nat × Obj)):Prop where
 pay:b'.pay = q
 nx:b'.nx = b.nx+es.length
 nb:b'.nb = b.nb
 ob:b'.ob = new.reverse++b.ob
 arr:ArrOk F w es b.nx new
theorem BOk.refl {F:Nat→Prop} {w:World} (b:B):BOk F w b b b.pay [] []:=⟨rfl,rfl,rfl,rfl,.nil _⟩
theorem BOk.trans {F:Nat→Prop} {w:World} {b b' b'':B} {q q':List DV} {es fs:List EI} {new new':List (Nat × Obj)} (h:BOk F w b b' q es new) (h':BOk F w b' b'' q' fs new'):BOk F w b b'' q' (es++fs) (new++new') :=
 ⟨h'.pay,by rw [h'.nx,h.nx]; simp [Nat.add_assoc],h'.nb.trans h.nb,by rw [h'.ob,h.ob]; simp,h.arr.append (by have:=h'.arr; rwa [h.nx] at this)⟩

section
variable {β:Nat→EI} {F:Nat→Prop} {w:World} {ren:Nat→Nat}
theorem e3l (t:Ty):lOff t 0 = 0:=by simp [lOff,takeN]
theorem e6m {k:LK} {p q:List DV} {es:List EI} {cs:List Value} (h:RepK β F w k p es cs) {b b':B} (hp:b.pay = p++q) {ls:List L} (hb:blL k ren b = some (ls,b')) :
  ∃ new,BOk F w b b' q es new∧sizes ls = k.szs∧∀ E,EnvOk E β ren b.nb b.nx es→RepLs E F w ls cs:=by
 cases h with
 | any hn hc =>
  simp only [blL,Option.some.injEq,Prod.mk.injEq] at hb
  obtain ⟨rfl,rfl⟩:=hb
  exact ⟨[],⟨by simpa using hp,rfl,rfl,rfl,.nil _⟩,rfl,fun E _=>All.one.2 ⟨hn,hc⟩⟩
 | d hd =>
  simp only [blL,hp,List.singleton_append,b4f,Option.some.injEq,Prod.mk.injEq] at hb
  obtain ⟨rfl,rfl⟩:=hb
  exact ⟨[],⟨rfl,rfl,rfl,rfl,.nil _⟩,d1R _,fun E _=>a7m hd⟩
 | o hw ha =>
  simp only [blL,hp,List.singleton_append,b4f,Option.some.injEq,Prod.mk.injEq] at hb
  obtain ⟨rfl,rfl⟩:=hb
  refine ⟨[_],⟨rfl,rfl,rfl,rfl,.cons ha (.nil _)⟩,rfl,fun E hE=>All.one.2 ?_⟩
  obtain ⟨h1,h2⟩:=hE.ar 0 _ rfl
  rw [Nat.add_zero] at h1 h2
  exact ⟨h1,by rw [h2]; exact hw⟩
 | r hF hd ha =>
  simp only [blL,hp,List.singleton_append,b4f,Option.some.injEq,Prod.mk.injEq] at hb
  obtain ⟨rfl,rfl⟩:=hb
  exact ⟨[],⟨rfl,rfl,rfl,rfl,.nil _⟩,rfl,fun E _=>All.one.2 ⟨_,_,_,by rw [e3l]; rfl,hF,hd,ha⟩⟩
 | p hs =>
  simp only [blL] at hb
  split at hb
  ·
   rename_i hj
   have hj:=c1r hj
   simp only [Option.some.injEq,Prod.mk.injEq] at hb
   obtain ⟨rfl,rfl⟩:=hb
   refine ⟨[],⟨by simpa using hp,rfl,rfl,rfl,.nil _⟩,rfl,fun E hE=>All.one.2 ?_⟩
   obtain ⟨h1,h2⟩:=hE.bx _ hj
   exact ⟨h1,by rw [h2],by rw [h2]; exact hs⟩
  · simp at hb
 | @f g caps hs =>
  simp only [blL] at hb
  split at hb
  ·
   rename_i hj
   simp only [List.all_eq_true] at hj
   simp only [Option.some.injEq,Prod.mk.injEq] at hb
   obtain ⟨rfl,rfl⟩:=hb
   refine ⟨[],⟨by simpa using hp,rfl,rfl,rfl,.nil _⟩,rfl,fun E hE=>All.one.2 ?_⟩
   have hk:∀ c∈caps,E.al (ren c.k)∧E.e (ren c.k) = β c.k:=fun c hc=>hE.bx _ (c1r (hj c hc))
   refine ⟨fun c hc=>?_,?_⟩
   ·
    obtain ⟨c',hc',rfl⟩:=List.mem_map.1 hc
    obtain ⟨h1,h2⟩:=hk c' hc'
    exact ⟨h1,by simp only [h2]; exact hs c' hc'⟩
   ·
    simp only [List.map_map,List.cons.injEq,Value.func.injEq,true_and,and_true]
    congr 1
    apply List.map_congr_left
    intro c hc
    simp only [Function.comp,(hk c hc).2]
  · simp at hb
 | np =>
  simp only [blL,Option.some.injEq,Prod.mk.injEq] at hb
  obtain ⟨rfl,rfl⟩:=hb
  exact ⟨[],⟨by simpa using hp,rfl,rfl,rfl,.nil _⟩,rfl,fun E _=>All.one.2 rfl⟩
 | oh hc =>
  simp only [blL,hp,List.cons_append,List.nil_append] at hb
  split at hb
  ·
   rename_i hj
   have hj:=c1r hj
   simp only [Option.some.injEq,Prod.mk.injEq] at hb
   obtain ⟨rfl,rfl⟩:=hb
   refine ⟨[],⟨rfl,rfl,rfl,rfl,.nil _⟩,rfl,fun E hE=>All.one.2 ?_⟩
   obtain ⟨h1,h2⟩:=hE.bx _ hj
   exact ⟨h1,by rw [h2],by rw [h2]; exact hc⟩
  · simp at hb
 | hd h1 h2 h3 =>
  simp only [blL,Option.some.injEq,Prod.mk.injEq] at hb
  obtain ⟨rfl,rfl⟩:=hb
  obtain ⟨_,a,rfl,_⟩:=h1
  exact ⟨[],⟨by simpa using hp,rfl,rfl,rfl,.nil _⟩,rfl,fun E _=>All.one.2 ⟨rfl,by simp [cellOk]⟩⟩
 | cst hc =>
  simp only [blL] at hb
  split at hb
  ·
   rename_i hj
   have hj:=c1r hj
   simp only [Option.some.injEq,Prod.mk.injEq] at hb
   obtain ⟨rfl,rfl⟩:=hb
   refine ⟨[],⟨by simpa using hp,rfl,rfl,rfl,.nil _⟩,rfl,fun E hE=>All.one.2 ?_⟩
   obtain ⟨h1,h2⟩:=hE.bx _ hj
   exact ⟨h1,by rw [h2],by rw [h2]; exact hc⟩
  · simp at hb
theorem e5G {e e':EI} {u v:Value} (h1:Win e 0 e.len [v]) (h2:Win e 0 e.len [u]) (h3:Win e' 0 e'.len [u]):Win e' 0 e'.len [v]:=by
 obtain ⟨_,a,q1,q2⟩:=h1
 obtain ⟨_,b,r1,r2⟩:=h2
 obtain ⟨_,c,s1,s2⟩:=h3
 simp only [List.cons.injEq,and_true] at q1 r1 s1
 rw [r1] at s1
 simp only [Value.slice.injEq] at s1
 obtain ⟨e1,e2,e3⟩:=s1
 refine ⟨by omega,a,by rw [q1,e2,e3],fun hne=>⟨(s2 hne).1,?_⟩⟩
 have hc:e.cap - 0≠0:=by rw [e3]; exact hne
 rw [(q2 hc).2,← (r2 hc).2,e1,(s2 hne).2]
theorem e1Q {ks:List LK}:∀ {p q:List DV} {es:List EI} {cs:List Value},RepKs β F w ks p es cs→∀ {b b':B},b.pay = p++q→∀ {ls:List L},blLs ren ks b = some (ls,b') →
  ∃ new,BOk F w b b' q es new∧sizes ls = szsL ks∧∀ E,EnvOk E β ren b.nb b.nx es→RepLs E F w ls cs:=by
 induction ks with
 | nil =>
  intro p q es cs h b b' hp ls hb
  obtain ⟨rfl,rfl,rfl⟩:=h.inv
  simp only [blLs,Option.some.injEq,Prod.mk.injEq] at hb
  obtain ⟨rfl,rfl⟩:=hb
  exact ⟨[],⟨by simpa using hp,rfl,rfl,rfl,.nil _⟩,rfl,fun E _=>rfl⟩
 | cons k ks ih =>
  intro p q es cs h b b' hp ls hb
  obtain ⟨p1,p2,e1,e2,c1,c2,rfl,rfl,rfl,h1,h2⟩:=h.inv
  simp only [blLs] at hb
  split at hb
  ·
   rename_i l b1 hl
   split at hb
   ·
    rename_i q1 b2 hq
    simp only [Option.some.injEq,Prod.mk.injEq] at hb
    obtain ⟨rfl,rfl⟩:=hb
    obtain ⟨n1,g1,g2,g3⟩:=e6m h1 (q:=p2++q) (by rw [hp]; simp) hl
    obtain ⟨n2,k1,k2,k3⟩:=ih h2 g1.pay hq
    refine ⟨n1++n2,g1.trans k1,by rw [b7s,g2,k2]; rfl,fun E hE=>(g3 E hE.left).append (k3 E ?_)⟩
    have:=hE.right
    rw [← g1.nx,← g1.nb] at this
    exact this
   · simp at hb
  · simp at hb
theorem e9s {a:AK} {p q:List DV} {es:List EI} {v:Value} (h:RepA β F w a p es v) {b b':B} (hp:b.pay = p++q) {x:V} (hb:blA ren a b = some (x,b')) :
  ∃ new,BOk F w b b' q es new∧∀ E,EnvOk E β ren b.nb b.nx es→RepV E F w x v:=by
 cases h with
 | no v =>
  simp only [blA,Option.some.injEq,Prod.mk.injEq] at hb
  obtain ⟨rfl,rfl⟩:=hb
  exact ⟨[],⟨by simpa using hp,rfl,rfl,rfl,.nil _⟩,fun E _=>c6y⟩
 | any n v =>
  simp only [blA,blL,Option.some.injEq,Prod.mk.injEq] at hb
  obtain ⟨rfl,rfl⟩:=hb
  exact ⟨[],⟨by simpa using hp,rfl,rfl,rfl,.nil _⟩,fun E _=>by simp [RepV,RepW]⟩
 | one hne hc hk =>
  simp only [blA] at hb
  split at hb
  ·
   rename_i l b1 hl
   simp only [Option.some.injEq,Prod.mk.injEq] at hb
   obtain ⟨rfl,rfl⟩:=hb
   obtain ⟨n1,g1,g2,g3⟩:=e6m hk hp hl
   exact ⟨n1,g1,fun E hE=>d9m hc (All.one.1 (g3 E hE))⟩
  · simp at hb
 | agg hk =>
  simp only [blA] at hb
  split at hb
  ·
   rename_i ls b1 hl
   simp only [Option.some.injEq,Prod.mk.injEq] at hb
   obtain ⟨rfl,rfl⟩:=hb
   obtain ⟨n1,g1,g2,g3⟩:=e1Q hk hp hl
   exact ⟨n1,g1,fun E hE=>⟨_,rfl,g3 E hE⟩⟩
  · simp at hb
theorem RepAs.inv {as:List AK} {p:List DV} {es:List EI} {vs:List Value} (h:RepAs β F w as p es vs) :
  match as with
  | []=>p = []∧es = []
  | a::r=>∃ p1 p2 e1 e2 v q,p = p1++p2∧es = e1++e2∧vs = v::q∧RepA β F w a p1 e1 v∧RepAs β F w r p2 e2 q:=by
 cases h with
 | nil=>exact ⟨rfl,rfl⟩
 | cons a b=>exact ⟨_,_,_,_,_,_,rfl,rfl,rfl,a,b⟩
theorem e4m {as:List AK}:∀ {p q:List DV} {es:List EI} {vs:List Value},RepAs β F w as p es vs→∀ {b b':B},b.pay = p++q→∀ {xs:List V},blAs ren as b = some (xs,b') →
  ∃ new v1 v2,BOk F w b b' q es new∧vs = v1++v2∧v1.length = as.length∧xs.length = as.length∧∀ E,EnvOk E β ren b.nb b.nx es→All2 (RepV E F w) xs v1:=by
 induction as with
 | nil =>
  intro p q es vs h b b' hp xs hb
  obtain ⟨rfl,rfl⟩:=h.inv
  simp only [blAs,Option.some.injEq,Prod.mk.injEq] at hb
  obtain ⟨rfl,rfl⟩:=hb
  exact ⟨[],[],vs,⟨by simpa using hp,rfl,rfl,rfl,.nil _⟩,rfl,rfl,rfl,fun E _=>trivial⟩
 | cons a as ih =>
  intro p q es vs h b b' hp xs hb
  obtain ⟨p1,p2,e1,e2,v,vq,rfl,rfl,rfl,h1,h2⟩:=h.inv
  simp only [blAs] at hb
  split at hb
  ·
   rename_i x b1 hl
   split at hb
   ·
    rename_i q1 b2 hq
    simp only [Option.some.injEq,Prod.mk.injEq] at hb
    obtain ⟨rfl,rfl⟩:=hb
    obtain ⟨n1,g1,g2⟩:=e9s h1 (q:=p2++q) (by rw [hp]; simp) hl
    obtain ⟨n2,v1,v2,k1,k2,k3,k4,k5⟩:=ih h2 g1.pay hq
    refine ⟨n1++n2,v::v1,v2,g1.trans k1,by rw [k2]; rfl,by simp [k3],by simp [k4],fun E hE=>⟨g2 E hE.left,k5 E ?_⟩⟩
    have:=hE.right
    rw [← g1.nx,← g1.nb] at this
    exact this
   · simp at hb
  · simp at hb
theorem RepBs.inv {kss:List (List LK)} {j:Nat} {p:List DV} {es:List EI} (h:RepBs β F w kss j p es) :
  match kss with
  | []=>p = []∧es = []
  | ks::r=>∃ p1 p2 e1 e2 cs t,p = p1++p2∧es = e1++e2∧BoxAt w (β j) t cs∧RepKs β F w ks p1 e1 cs∧¬ F (β j).blk ∧
    (∀ i,i≤(szsL ks).length→(β j).loff i = (β j).pre.length+((szsL ks).take i).sum)∧RepBs β F w r (j+1) p2 e2:=by
 cases h with
 | nil=>exact ⟨rfl,rfl⟩
 | cons a b c d e=>exact ⟨_,_,_,_,_,_,rfl,rfl,a,b,c,d,e⟩
theorem e2t {kss:List (List LK)}:∀ {j:Nat} {p q:List DV} {es:List EI},RepBs β F w kss j p es→∀ {b b':B},b.pay = p++q→∀ {bx:List (Nat × List L)},blBs ren kss j b = some (bx,b') →
  ∃ new,BOk F w b b' q es new∧∀ E,EnvOk E β ren b.nb b.nx es→∀ n ls,(n,ls)∈bx→∃ i,i < kss.length∧n = ren (j+i)∧RepO E F w (β (j+i)) (.box ls):=by
 induction kss with
 | nil =>
  intro j p q es h b b' hp bx hb
  obtain ⟨rfl,rfl⟩:=h.inv
  simp only [blBs,Option.some.injEq,Prod.mk.injEq] at hb
  obtain ⟨rfl,rfl⟩:=hb
  exact ⟨[],⟨by simpa using hp,rfl,rfl,rfl,.nil _⟩,fun E _ n ls h=>by simp at h⟩
 | cons ks r ih =>
  intro j p q es h b b' hp bx hb
  obtain ⟨p1,p2,e1,e2,cs,t,rfl,rfl,h1,h2,h3,h4,h5⟩:=h.inv
  simp only [blBs] at hb
  split at hb
  ·
   rename_i l b1 hl
   split at hb
   ·
    rename_i q1 b2 hq
    simp only [Option.some.injEq,Prod.mk.injEq] at hb
    obtain ⟨rfl,rfl⟩:=hb
    obtain ⟨n1,g1,g2,g3⟩:=e1Q h2 (q:=p2++q) (by rw [hp]; simp) hl
    obtain ⟨n2,k1,k2⟩:=ih h5 g1.pay hq
    refine ⟨n1++n2,g1.trans k1,fun E hE n ls hm=>?_⟩
    rcases List.mem_cons.1 hm with hm | hm
    ·
     simp only [Prod.mk.injEq] at hm
     obtain ⟨rfl,rfl⟩:=hm
     refine ⟨0,by simp,rfl,cs,t,h1,g3 E hE.left,h3,fun i hi=>?_⟩
     rw [g2]
     refine h4 i ?_
     rw [← g2,a6T]; exact hi
    ·
     have:=hE.right
     rw [← g1.nx,← g1.nb] at this
     obtain ⟨i,a1,a2,a3⟩:=k2 E this n ls hm
     rw [show j+1+i = j+(i+1) by omega] at a2 a3
     exact ⟨i+1,by simpa using a1,a2,a3⟩
   · simp at hb
  · simp at hb
end
theorem d5E:∀ (l:List (Nat × Obj)) (k:Nat),lookO l k = .dead∨(k,lookO l k)∈l
 | [],k=>.inl rfl
 | p::r,k=>by
  simp only [lookO]
  split
  ·
   rename_i e
   have e:=Nat.eq_of_beq_eq_true e
   subst e
   exact .inr (by simp)
  ·
   rcases d5E r k with h | h
   · exact .inl h
   · exact .inr (by simp [h])
end Go.Proofs.Zz
