import Derived.Test.YtnfpdmhdpeffjaaGreatEngV
set_option linter.unusedSimpArgs false
set_option linter.unusedVariables false
/- A state held against a signature: what comes of it. -/
namespace Go.Proofs.Zz
open Go

section
variable {ok:Nat→List DV→List DV→Prop} {C:Frm} {A:Nat→Prop} {E:Env} {F:Nat→Prop} {s:St} {w:World} {α:Type} {r:α}
theorem e8U {t:Ty} {l:L} {m:M} {k:M→Rd α} (h:Ev ok (mtR t l m k) s r) (hm:Mem C A E F s.ob w) {cs:List Value} (hr:RepL E F w l cs) :
  ∃ v bw,Ev ok (k { m with pay:=⟨t,v⟩::m.pay,bw:=bw }) s r∧(∀ n∈m.bw,n∈bw)∧∃ b o ds,cs = [.pointer (some ⟨b,o,none⟩)]∧plus s.ob E F bw b∧RepD (plus s.ob E F bw) w t v ds∧At w b o ds:=by
 have out:∀ {ls:List L} {bw:List Nat} {b o:Nat} {c:List Value},Ev ok (pk t ls bw fun v r bw=>match r with
   | []=>k { m with pay:=⟨t,v⟩::m.pay,bw:=bw }
   | _=>.fail) s r→RepLs E F w ls c→At w b o c→(∀ n∈m.bw,n∈bw)→plus s.ob E F bw b→cs = [.pointer (some ⟨b,o,none⟩)] →
   ∃ v bw,Ev ok (k { m with pay:=⟨t,v⟩::m.pay,bw:=bw }) s r∧(∀ n∈m.bw,n∈bw)∧∃ b o ds,cs = [.pointer (some ⟨b,o,none⟩)]∧plus s.ob E F bw b∧RepD (plus s.ob E F bw) w t v ds∧At w b o ds:=by
  intro ls bw b o c h hc ha hb hp hcs
  obtain ⟨v,q,nb,c1,d,rfl,h1,h2,h3,_⟩:=e5s hm h hc
  split at h3
  ·
   have hd:d = []:=h2
   subst hd
   rw [List.append_nil] at ha
   exact ⟨v,nb++bw,h3,fun n hn=>by simp [hb n hn],b,o,c1,hcs,b2Z (by simp +contextual) b hp,h1.mono (b2Z (by simp +contextual)),ha⟩
  · exact h3.fail.elim
 unfold mtR at h
 split at h
 ·
  rename_i b l' y
  dsimp only at h
  split at h
  · exact h.fail.elim
  rename_i hn0
  obtain ⟨ls,k1,k2,k3⟩:=c6S _ _ h
  obtain ⟨p1,p2,p3⟩:=hr
  obtain ⟨c,g1,g2⟩:=d3a hm k1 k3
  rcases k3 with k3 | ⟨bl,hb,_,_⟩
  · rw [k3] at hn0; simp at hn0
  · exact out k2 g1 g2 (by simp +contextual) (.inr ⟨b,by simp,by rw [hb]; trivial,rfl⟩) p2
 ·
  rename_i b i l' y
  have h:=h.get
  simp only [look] at h
  split at h
  ·
   rename_i a' xs ro hobj
   simp only [Cn.o.injEq] at hobj
   obtain ⟨p1,p2,p3,p4⟩:=hr
   obtain ⟨q1,q2,q3,q4,ds,q5,q6⟩:=a6X hm hobj
   obtain ⟨d,g1,g2⟩:=d3A q5 q6 (i:=i) (by omega)
   obtain ⟨c,g3,g4⟩:=d1u (a7m (E:=E) g1) g2 l' (sizes (unpk t (zeroD t))).length
   rw [← c3f,← q4,← q3] at g4
   have hn:(E.e b).nil = false:=by
    have hrp:=hm.rp b
    rw [hobj] at hrp
    cases hn:(E.e b).nil with
    | false=>rfl
    | true=>have:=hrp.2.2.2.2.1 hn; omega
   exact out h g3 g4 (by simp +contextual) (.inr ⟨b,by simp,by rw [hobj]; exact hn,rfl⟩) p3
  · exact h.fail.elim
 ·
  rename_i a' v l'
  obtain ⟨b,o',ds,k1,k2,k3,k4⟩:=hr
  obtain ⟨c,g1,g2⟩:=d1u (a7m (E:=E) k3) k4 l' (sizes (unpk t (zeroD t))).length
  rw [← c3f] at g2
  exact out h g1 g2 (fun _ h=>h) (.inl k2) k1
 · exact h.fail.elim
theorem e3W (hm:Mem C A E F s.ob w):∀ {ks:List LK} {ls:List L} {m:M} {k:M→Rd α},Ev ok (mtLs ks ls m k) s r→∀ {cs:List Value},RepLs E F w ls cs→∀ {ea:List EI},Own E s m.tk ea →
  ∃ m' p es,Ev ok (k m') s r∧MLe m m'∧m'.pay = p.reverse++m.pay∧Own E s m'.tk (es.reverse++ea)∧sizes ls = szsL ks∧∀ β G,Fits E F s m' β G→RepKs β G w ks p es cs:=by
 intro ks
 induction ks with
 | nil =>
  intro ls m k h cs hr ea ho
  cases ls with
  | cons _ _=>exact Ev.fail h |>.elim
  | nil =>
   have:cs = []:=hr
   subst this
   exact ⟨m,[],[],h,MLe.refl m,rfl,ho,rfl,fun β G _=>.nil⟩
 | cons x ks ih =>
  intro ls m k h cs hr ea ho
  -- one leaf, and the rest
  have one:∀ {l:L} {q:List L} {m1:M} {p:List DV} {es:List EI} {c d:List Value},RepL E F w l c→RepLs E F w q d→ls = l::q→cs = c++d→l.size::[] = x.szs→Ev ok (mtLs ks q m1 k) s r→MLe m m1→m1.pay = p.reverse++m.pay→Own E s m1.tk (es.reverse++ea) →
    (∀ β G,Fits E F s m1 β G→RepK β G w x p es c) →
    ∃ m' p es,Ev ok (k m') s r∧MLe m m'∧m'.pay = p.reverse++m.pay∧Own E s m'.tk (es.reverse++ea)∧sizes ls = szsL (x::ks)∧∀ β G,Fits E F s m' β G→RepKs β G w (x::ks) p es cs:=by
   rintro l q m1 p es c d h1 h2 rfl rfl hz h hle hp ho1 hk
   obtain ⟨m',p',es',g1,g2,g3,g4,g5,g6⟩:=ih h h2 ho1
   exact ⟨m',p++p',es++es',g1,hle.trans g2,by rw [g3,hp]; simp,by simpa using g4,by simp only [sizes,szsL,g5,← hz]; rfl,fun β G hf=>.cons (hk β G (hf.of g2)) (g6 β G hf)⟩
  cases x with
  | any n =>
   cases ls with
   | nil=>exact Ev.fail h |>.elim
   | cons l q =>
   obtain ⟨c,d,rfl,hl,hq⟩:=hr
   simp only [mtLs] at h
   split at h
   ·
    rename_i hn
    have hn:=Nat.eq_of_beq_eq_true hn
    exact one (p:=[]) (es:=[]) hl hq rfl rfl (by simp [LK.szs,hn]) h (MLe.refl m) rfl ho (fun β G _=>.any (by rw [b5g hl,hn]) (c7B hl))
   · exact h.fail.elim
  | d t =>
   simp only [mtLs] at h
   obtain ⟨v,q,nb,c,d,rfl,h1,h2,h3,h4⟩:=e5s hm h hr
   obtain ⟨m',p',es',g1,g2,g3,g4,g5,g6⟩:=ih h3 h2 (ea:=ea) ho
   refine ⟨m',⟨t,v⟩::p',es',g1,MLe.trans (m':={ m with pay:=⟨t,v⟩::m.pay,bw:=nb++m.bw }) ⟨fun _ _ h=>h,rfl,fun _ h=>by simp [h]⟩ g2,by rw [g3]; simp,g4,by rw [h4,g5]; rfl,fun β G hf=>?_⟩
   have:=RepKs.cons (RepK.d (β:=β) (F:=G) (w:=w) (t:=t) (v:=v) (cs:=c) (h1.mono fun b hb=>hf.G b (b2Z (fun n hn=>g2.bw n (by simp [hn])) b hb))) (g6 β G hf)
   exact this
  | o t =>
   cases ls with
   | nil=>exact Ev.fail h |>.elim
   | cons l q =>
   obtain ⟨c,d,rfl,hl,hq⟩:=hr
   simp only [mtLs] at h
   obtain ⟨xs,e,tk,h1,h2,h3,h4⟩:=e8A h hm hl ho
   have hsz:l.size = 1:=by
    have:=b5g hl
    obtain ⟨_,ad,e3,_⟩:=h3
    rw [e3] at this; simpa using this.symm
   exact one (p:=[⟨.sl t,xs⟩]) (es:=[e]) (m1:={ m with pay:=⟨.sl t,xs⟩::m.pay,tk:=tk }) hl hq rfl rfl (by simp [LK.szs,hsz]) h1 ⟨fun _ _ h=>h,rfl,fun _ h=>h⟩ rfl h2 (fun β G hf=>.o h3 (h4.mono fun b hb=>hf.G b (.inl hb)))
  | r t =>
   cases ls with
   | nil=>exact Ev.fail h |>.elim
   | cons l q =>
   obtain ⟨c,d,rfl,hl,hq⟩:=hr
   simp only [mtLs] at h
   obtain ⟨v,bw,h1,h2,b,oo,ds,rfl,h4,h5,h6⟩:=e8U h hm hl
   have hsz:l.size = 1:=by have:=b5g hl; simpa using this.symm
   exact one (p:=[⟨t,v⟩]) (es:=[]) (m1:={ m with pay:=⟨t,v⟩::m.pay,bw:=bw }) hl hq rfl rfl (by simp [LK.szs,hsz]) h1 ⟨fun _ _ h=>h,rfl,h2⟩ rfl ho (fun β G hf=>.r (hf.G b h4) (h5.mono hf.G) h6)
  | p j l y =>
   cases ls with
   | nil=>exact Ev.fail h |>.elim
   | cons l0 q =>
   obtain ⟨c,d,rfl,hc,hq⟩:=hr
   cases l0 with
   | ptr n l' y' =>
    simp only [mtLs] at h
    split at h
    ·
     rename_i hly
     simp only [Bool.and_eq_true,Nat.beq_eq] at hly
     obtain ⟨rfl,hy⟩:=hly
     have hy:=a1c hy
     subst hy
     split at h
     ·
      rename_i m1 hm1
      obtain ⟨g1,g2,g3,g4,g5⟩:=c6v hm1
      refine one (p:=[]) (es:=[]) hc hq rfl rfl rfl h g1 (by rw [g2]; rfl) (by rw [g3]; exact ho) (fun β G hf=>?_)
      obtain ⟨p1,p2,p3⟩:=hc
      subst p2
      rw [← hf.β j n g5] at p3 ⊢
      exact .p p3
     · exact h.fail.elim
    · exact h.fail.elim
   | _=>exact Ev.fail h |>.elim
  | f g caps =>
   cases ls with
   | nil=>exact Ev.fail h |>.elim
   | cons l0 q =>
   obtain ⟨c,d,rfl,hc,hq⟩:=hr
   cases l0 with
   | fn g' caps' =>
    simp only [mtLs] at h
    split at h
    ·
     rename_i hg
     have hg:=Nat.eq_of_beq_eq_true hg
     subst hg
     split at h
     ·
      rename_i m1 hm1
      obtain ⟨g1,g2,g3,g4,g5⟩:=d4p hm1
      refine one (p:=[]) (es:=[]) hc hq rfl rfl rfl h g1 (by rw [g2]; rfl) (by rw [g3]; exact ho) (fun β G hf=>?_)
      obtain ⟨p1,p2⟩:=hc
      have key:∀ (cs cs':List Cp),All2 (fun (c c':Cp)=>c.l = c'.l∧c.y = c'.y∧m1.bx[c.k]? = some (some c'.k)) cs cs'→(∀ c∈cs',E.al c.k∧Steps (E.e c.k).loff c.l c.y) →
        (∀ c∈cs,Steps (β c.k).loff c.l c.y)∧(cs'.map fun c=>Value.pointer (some ⟨(E.e c.k).blk,(E.e c.k).loff c.l,none⟩)) = cs.map fun c=>Value.pointer (some ⟨(β c.k).blk,(β c.k).loff c.l,none⟩):=by
       intro cs
       induction cs with
       | nil =>
        intro cs' h _
        cases cs' with
        | nil=>exact ⟨by simp,rfl⟩
        | cons _ _=>exact h.elim
       | cons c r ihc =>
        intro cs' h ha
        cases cs' with
        | nil=>exact h.elim
        | cons c' r' =>
         obtain ⟨⟨e1,e2,e3⟩,h'⟩:=h
         obtain ⟨k1,k2⟩:=ihc r' h' (fun c hc=>ha c (by simp [hc]))
         have hb:=hf.β _ _ e3
         have:=(ha c' (by simp)).2
         refine ⟨fun x hx=>?_,by simp only [List.map_cons,k2,e1,hb]⟩
         rcases List.mem_cons.1 hx with rfl | hx
         · rw [hb,e1,e2]; exact this
         · exact k1 x hx
      obtain ⟨k1,k2⟩:=key _ _ g5 p1
      rw [p2,k2]
      exact .f k1
     · exact h.fail.elim
    · exact h.fail.elim
   | _=>exact Ev.fail h |>.elim
  | np =>
   cases ls with
   | nil=>exact Ev.fail h |>.elim
   | cons l0 q =>
   obtain ⟨c,d,rfl,hc,hq⟩:=hr
   cases l0 with
   | nilp =>
    simp only [mtLs] at h
    exact one (p:=[]) (es:=[]) hc hq rfl rfl rfl h (MLe.refl m) rfl ho (fun β G hf=>by rw [RepL] at hc; subst hc; exact .np)
   | _=>exact Ev.fail h |>.elim
  | oh j sz y =>
   cases ls with
   | nil=>exact Ev.fail h |>.elim
   | cons l0 q =>
   obtain ⟨c,d,rfl,hc,hq⟩:=hr
   cases l0 with
   | oh n a b sz' y' =>
    simp only [mtLs] at h
    split at h
    ·
     rename_i hly
     simp only [Bool.and_eq_true,Nat.beq_eq] at hly
     obtain ⟨rfl,hy⟩:=hly
     have hy:=a1c hy
     subst hy
     split at h
     ·
      rename_i m1 hm1
      obtain ⟨g1,g2,g3,g4,g5⟩:=c6v hm1
      refine one (p:=[⟨.int .i64,a⟩,⟨.int .i64,b⟩]) (es:=[]) (m1:={ m1 with pay:=⟨.int .i64,b⟩::⟨.int .i64,a⟩::m1.pay }) hc hq rfl rfl rfl h ⟨g1.bx,g1.len,g1.bw⟩ (by simp [g2]) (by rw [g3]; exact ho) (fun β G hf=>?_)
      obtain ⟨p1,p2,p3⟩:=hc
      subst p2
      rw [← hf.β j n g5] at p3 ⊢
      exact .oh p3
     · exact h.fail.elim
    · exact h.fail.elim
   | _=>exact Ev.fail h |>.elim
  | hd j l =>
   cases ls <;> exact Ev.fail h |>.elim
  | w t =>
   cases ls <;> exact Ev.fail h |>.elim
  | cst j =>
   cases ls with
   | nil=>exact Ev.fail h |>.elim
   | cons l0 q =>
   obtain ⟨c,d,rfl,hc,hq⟩:=hr
   cases l0 with
   | cst n =>
    simp only [mtLs] at h
    split at h
    ·
     rename_i m1 hm1
     obtain ⟨g1,g2,g3,g4,g5⟩:=c6v hm1
     refine one (p:=[]) (es:=[]) hc hq rfl rfl rfl h g1 (by rw [g2]; rfl) (by rw [g3]; exact ho) (fun β G hf=>?_)
     obtain ⟨p1,p2,p3⟩:=hc
     subst p2
     rw [← hf.β j n g5] at p3 ⊢
     exact .cst p3
    · exact h.fail.elim
   | _=>exact Ev.fail h |>.elim
end
end Go.Proofs.Zz
