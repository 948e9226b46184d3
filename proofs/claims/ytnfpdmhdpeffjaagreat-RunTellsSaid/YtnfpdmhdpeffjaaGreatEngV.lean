import Derived.Test.YtnfpdmhdpeffjaaGreatEngT
set_option linter.unusedSimpArgs false
set_option linter.unusedVariables false
/- What signatures say of memory; a state held against a signature. -/
namespace Go.Proofs.Zz
open Go

def RepArrO (F:Nat→Prop) (w:World) (e:EI) (t:Ty) (xs:List (Den t)):Prop :=
 List.length xs = e.len∧e.len≤e.cap∧e.esz = t.sz∧(∀ l,e.eoff l = lOff t l)∧(e.nil = true→e.cap = 0) ∧
   (e.nil = false→∃ cs u fr ds,w.heap[e.blk]? = some (.cells cs u fr)∧e.base+e.cap*e.esz≤cs.size∧All (fun x c=>RepD F w t x c) xs ds∧At w e.blk e.base ds∧unfr w e.blk cs.size)

inductive RepK (β:Nat→EI) (F:Nat→Prop) (w:World):LK→List DV→List EI→List Value→Prop
 | any {n:Nat} {cs:List Value}:cs.length = n→(∀ u∈cs,cellOk u)→RepK β F w (.any n) [] [] cs
 | d {t:Ty} {v:Den t} {cs:List Value}:RepD F w t v cs→RepK β F w (.d t) [⟨t,v⟩] [] cs
 | o {t:Ty} {xs:List (Den t)} {e:EI} {cs:List Value}:Win e 0 e.len cs→RepArrO F w e t xs→RepK β F w (.o t) [⟨.sl t,xs⟩] [e] cs
 | r {t:Ty} {v:Den t} {b o:Nat} {ds:List Value}:F b→RepD F w t v ds→At w b o ds→RepK β F w (.r t) [⟨t,v⟩] [] [.pointer (some ⟨b,o,none⟩)]
 | p {j l:Nat} {y:List Nat}:Steps (β j).loff l y→RepK β F w (.p j l y) [] [] [.pointer (some ⟨(β j).blk,(β j).loff l,none⟩)]
 | f {g:Nat} {caps:List Cp}:(∀ c∈caps,Steps (β c.k).loff c.l c.y)→RepK β F w (.f g caps) [] [] [.func (.func g) #[] (caps.map fun c=>Value.pointer (some ⟨(β c.k).blk,(β c.k).loff c.l,none⟩)).toArray]
 | np:RepK β F w .np [] [] [.pointer none]
 | cst {j:Nat}:cellOk (β j).hd→RepK β F w (.cst j) [] [] [(β j).hd]
 | oh {j sz:Nat} {y:List Nat} {n i:Int}:HdOk (β j) n i sz y→RepK β F w (.oh j sz y) [⟨.int .i64,n⟩,⟨.int .i64,i⟩] [] [(β j).hd]
 | hd {j l:Nat} {e:EI} {u:Value} {cs:List Value}:Win e 0 e.len cs→Win e 0 e.len [u]→At w (β j).blk ((β j).loff l) [u]→RepK β F w (.hd j l) [] [] cs

inductive RepKs (β:Nat→EI) (F:Nat→Prop) (w:World):List LK→List DV→List EI→List Value→Prop
 | nil:RepKs β F w [] [] [] []
 | cons {k:LK} {ks:List LK} {p q:List DV} {es fs:List EI} {c d:List Value}:RepK β F w k p es c→RepKs β F w ks q fs d→RepKs β F w (k::ks) (p++q) (es++fs) (c++d)

inductive RepA (β:Nat→EI) (F:Nat→Prop) (w:World):AK→List DV→List EI→Value→Prop
 | no (v:Value):RepA β F w .no [] [] v
 | any (n:Nat) (v:Value):RepA β F w (.one (.any n)) [] [] v
 | one {k:LK} {p:List DV} {es:List EI} {v:Value}:(∀ n,k≠.any n)→cellOk v→RepK β F w k p es [v]→RepA β F w (.one k) p es v
 | agg {ks:List LK} {p:List DV} {es:List EI} {cs:Array Value}:RepKs β F w ks p es cs.toList→RepA β F w (.agg ks) p es (.agg cs)

inductive RepAs (β:Nat→EI) (F:Nat→Prop) (w:World):List AK→List DV→List EI→List Value→Prop
 | nil (vs:List Value):RepAs β F w [] [] [] vs
 | cons {a:AK} {as:List AK} {p q:List DV} {es fs:List EI} {v:Value} {vs:List Value}:RepA β F w a p es v→RepAs β F w as q fs vs→RepAs β F w (a::as) (p++q) (es++fs) (v::vs)

def LK.szs:LK→List Nat
 | .any n=>[n]
 | .d t=>sizes (unpk t (zeroD t))
 | _=>[1]
def szsL:List LK→List Nat
 | []=>[]
 | k::r=>k.szs++szsL r

inductive RepBs (β:Nat→EI) (F:Nat→Prop) (w:World):List (List LK)→Nat→List DV→List EI→Prop
 | nil (j:Nat):RepBs β F w [] j [] []
 | cons {ks:List LK} {r:List (List LK)} {j:Nat} {p q:List DV} {es fs:List EI} {cs:List Value} {t:TypeId}:BoxAt w (β j) t cs→RepKs β F w ks p es cs→¬ F (β j).blk →
   (∀ i,i≤(szsL ks).length→(β j).loff i = (β j).pre.length+((szsL ks).take i).sum)→RepBs β F w r (j+1) q fs→RepBs β F w (ks::r) j (p++q) (es++fs)

structure SigIn (sg:Sg) (β:Nat→EI) (F:Nat→Prop) (w:World) (p:List DV) (es:List EI) (vs:List Value):Prop where
 ex:∃ p1 p2 e1 e2,p = p1++p2∧es = e1++e2∧RepAs β F w sg.av p1 e1 vs∧RepBs β F w sg.bx 0 p2 e2
 bd:∀ i j,i < sg.bx.length→j < sg.bx.length→(β i).blk = (β j).blk→i = j
 ed:es.Pairwise fun a b=>a.nil = false→b.nil = false→a.blk≠b.blk
 be:∀ j,j < sg.bx.length→∀ e∈es,e.nil = false→(β j).blk≠e.blk
 ef:∀ e∈es,e.nil = false→¬ F e.blk

theorem RepArrO.mono {F F':Nat→Prop} {w:World} (h:∀ b,F b→F' b) {e:EI} {t:Ty} {xs:List (Den t)} (hr:RepArrO F w e t xs):RepArrO F' w e t xs:=by
 obtain ⟨h1,h2,h3,h4,h5,h6⟩:=hr;refine ⟨h1,h2,h3,h4,h5,fun hn=>?_⟩
 obtain ⟨cs,u,fr,ds,k1,k2,k3,k4,k5⟩:=h6 hn;exact ⟨cs,u,fr,ds,k1,k2,k3.imp fun x c hc=>hc.mono h,k4,k5⟩

section
variable {E:Env} {s:St}
inductive Own (E:Env) (s:St):List Nat→List EI→Prop
 | nil:Own E s [] []
 | skip {ns:List Nat} {es:List EI} {e:EI}:e.nil = true→Own E s ns es→Own E s ns (e::es)
 | cons {ns:List Nat} {es:List EI} {e:EI} {n:Nat}:n∉ns→(∃ t xs,lookO s.ob n = .arr t xs false)→(e.nil = false→e.blk = (E.e n).blk∧(E.e n).nil = false)→Own E s ns es→Own E s (n::ns) (e::es)
theorem Own.key {ns:List Nat} {es:List EI} (h:Own E s ns es):∀ e∈es,e.nil = false→∃ n∈ns,e.blk = (E.e n).blk∧excl (E.e n) (lookO s.ob n):=by
 induction h with
 | nil=>intro e he; simp at he
 | skip hn _ ih =>
  intro e he hf;rcases List.mem_cons.1 he with rfl | he
  · rw [hn] at hf; simp at hf
  · exact ih e he hf
 | cons hn ho hb _ ih =>
  intro e he hf;rcases List.mem_cons.1 he with rfl | he
  ·
   obtain ⟨t,xs,ho⟩:=ho;obtain ⟨h1,h2⟩:=hb hf;exact ⟨_,by simp,h1,by rw [ho]; exact h2⟩
  ·
   obtain ⟨n,h1,h2⟩:=ih e he hf;exact ⟨n,by simp [h1],h2⟩
theorem Own.obj {ns:List Nat} {es:List EI} (h:Own E s ns es):∀ n∈ns,∃ t xs,lookO s.ob n = .arr t xs false:=by
 induction h with
 | nil=>intro n hn; simp at hn
 | skip _ _ ih=>exact ih
 | cons _ ho _ _ ih =>
  intro n hn;rcases List.mem_cons.1 hn with rfl | hn
  · exact ho
  · exact ih n hn
theorem Own.dist {C:Frm} {A:Nat→Prop} {F:Nat→Prop} {w:World} (hm:Mem C A E F s.ob w) {ns:List Nat} {es:List EI} (h:Own E s ns es):es.Pairwise fun a b=>a.nil = false→b.nil = false→b.blk≠a.blk:=by
 induction h with
 | nil=>exact .nil
 | skip hn _ ih=>exact .cons (fun b _ hf=>by rw [hn] at hf; simp at hf) ih
 | cons hn ho hb hr ih =>
  refine .cons (fun b hb' hf hf' e=>?_) ih;obtain ⟨m,h1,h2,h3⟩:=hr.key b hb' hf';obtain ⟨t,xs,ho⟩:=ho;obtain ⟨g1,g2⟩:=hb hf;have:=hm.inj m _ h3 (by rw [ho]; exact g2) (by rw [← h2,e,g1]);subst this;exact hn h1
end

structure MLe (m m':M):Prop where
 bx:∀ (j k:Nat),m.bx[j]? = some (some k)→m'.bx[j]? = some (some k)
 len:m'.bx.length = m.bx.length
 bw:∀ k∈m.bw,k∈m'.bw
theorem MLe.refl (m:M):MLe m m:=⟨fun _ _ h=>h,rfl,fun _ h=>h⟩
theorem MLe.trans {m m' m'':M} (h:MLe m m') (h':MLe m' m''):MLe m m'':=⟨fun j k hk=>h'.bx j k (h.bx j k hk),h'.len.trans h.len,fun k hk=>h'.bw k (h.bw k hk)⟩

structure Fits (E:Env) (F:Nat→Prop) (s:St) (m:M) (β:Nat→EI) (G:Nat→Prop):Prop where
 β:∀ (j k:Nat),m.bx[j]? = some (some k)→β j = E.e k
 G:∀ b,plus s.ob E F m.bw b→G b
theorem Fits.of {E:Env} {F:Nat→Prop} {s:St} {m m':M} {β:Nat→EI} {G:Nat→Prop} (h:Fits E F s m' β G) (hl:MLe m m'):Fits E F s m β G :=
 ⟨fun j k hk=>h.β j k (hl.bx j k hk),fun b hb=>h.G b (b2Z hl.bw b hb)⟩

theorem c6v {m m':M} {j k:Nat} (h:bindB m j k = some m'):MLe m m'∧m'.pay = m.pay∧m'.tk = m.tk∧m'.bw = m.bw∧m'.bx[j]? = some (some k):=by
 unfold bindB at h;split at h
 ·
  rename_i k' hk;rw [c0y] at hk;split at h
  ·
   rename_i e;simp only [Option.some.injEq] at h; subst h;have:=Nat.eq_of_beq_eq_true e;subst this;exact ⟨MLe.refl m,rfl,rfl,rfl,hk⟩
  · simp at h
 ·
  rename_i hk;rw [c0y] at hk;simp only [Option.some.injEq] at h; subst h;have hlt:=(List.getElem?_eq_some_iff.1 hk).1;refine ⟨⟨fun i n hn=>?_,by simp [a6c],fun _ h=>h⟩,rfl,rfl,rfl,by simp [a6c,hlt]⟩
  simp only [a6c];by_cases e:j = i
  · subst e; rw [hk] at hn; simp at hn
  · rw [List.getElem?_set_ne e]; exact hn
 · simp at h
theorem d4p:∀ {cs cs':List Cp} {m m':M},bindBs m cs cs' = some m'→MLe m m'∧m'.pay = m.pay∧m'.tk = m.tk∧m'.bw = m.bw ∧
  All2 (fun (c c':Cp)=>c.l = c'.l∧c.y = c'.y∧m'.bx[c.k]? = some (some c'.k)) cs cs'
 | [],[],m,m',h=>by simp only [bindBs,Option.some.injEq] at h; subst h; exact ⟨MLe.refl m,rfl,rfl,rfl,trivial⟩
 | [],_::_,_,_,h=>by simp [bindBs] at h
 | _::_,[],_,_,h=>by simp [bindBs] at h
 | c::r,c'::q,m,m',h=>by
  simp only [bindBs] at h;split at h
  ·
   rename_i hc;simp only [Bool.and_eq_true,Nat.beq_eq] at hc;split at h
   ·
    rename_i m1 hm1;obtain ⟨h1,h2,h3,h4,h5⟩:=c6v hm1;obtain ⟨g1,g2,g3,g4,g5⟩:=d4p h;exact ⟨h1.trans g1,g2.trans h2,g3.trans h3,g4.trans h4,⟨hc.1,a1c hc.2,g1.bx _ _ h5⟩,g5⟩
   · simp at h
  · simp at h

section
variable {ok:Nat→List DV→List DV→Prop} {C:Frm} {A:Nat→Prop} {E:Env} {F:Nat→Prop} {s:St} {w:World} {α:Type} {r:α}
def winEI (e:EI) (off n:Nat):EI:={ e with base:=e.base+off*e.esz,len:=n,cap:=e.cap - off,nil:=Nat.beq (e.cap - off) 0 }
theorem e7M {n off len:Nat} {t:Ty} {xs:List (Den t)} {cs:List Value} (hm:Mem C A E F s.ob w) (hobj:lookO s.ob n = .arr t xs false) (hw:Win (E.e n) off len cs) :
  Win (winEI (E.e n) off len) 0 len cs∧RepArrO F w (winEI (E.e n) off len) t ((xs.drop off).take len)∧((winEI (E.e n) off len).nil = false→(winEI (E.e n) off len).blk = (E.e n).blk∧(E.e n).nil = false):=by
 obtain ⟨h1,ad,rfl,h3⟩:=hw;have hrp:=hm.rp n;rw [hobj] at hrp;obtain ⟨q1,q2,q3,q4,q5,q6⟩:=hrp;have hnil:(winEI (E.e n) off len).nil = false→(E.e n).cap - off≠0:=fun h e=>by simp [winEI,e] at h
 have hnil':(winEI (E.e n) off len).nil = true→(E.e n).cap - off = 0:=fun h=>by simpa [winEI] using h
 refine ⟨⟨by simp [winEI],ad,by simp [winEI],fun h=>?_⟩,⟨by simp [winEI]; omega,by simp [winEI]; omega,q3,q4,fun h=>hnil' h,fun h=>?_⟩,fun h=>⟨rfl,(h3 (hnil h)).1⟩⟩
 ·
  have h:(E.e n).cap - off≠0:=by simpa [winEI] using h
  refine ⟨by simp only [winEI]; rw [← Bool.not_eq_true,Nat.beq_eq]; exact h,?_⟩
  rw [(h3 h).2]; simp [winEI]
 ·
  obtain ⟨cs,u,fr,ds,k1,k2,k3,k4,k5,k6⟩:=q6 (h3 (hnil h)).1;obtain ⟨c,d,e',rfl,g1,g2⟩:=c7r (m:=len) (fun x c=>a0X) k3 (show off≤xs.length by omega);have hne:=hnil h;refine ⟨cs,u,fr,d,k1,?_,g2,?_,(k5 rfl).2⟩
  ·
   simp only [winEI];rw [Nat.add_assoc,← Nat.add_mul,Nat.add_sub_cancel' (by omega)]; exact k2
  ·
   have:=(k4.append.2).append.1;rw [g1,← q3] at this;exact this
theorem e8A {t:Ty} {l:L} {m:M} {k:M→Rd α} (h:Ev ok (mtO t l m k) s r) (hm:Mem C A E F s.ob w) {cs:List Value} (hr:RepL E F w l cs) {ea:List EI} (ho:Own E s m.tk ea) :
  ∃ xs e tk,Ev ok (k { m with pay:=⟨.sl t,xs⟩::m.pay,tk:=tk }) s r∧Own E s tk (e::ea)∧Win e 0 e.len cs∧RepArrO F w e t xs:=by
 have take:∀ {n off len:Nat} {f:List (Den t)→List (Den t)} , Win (E.e n) off len cs→(∀ xs,lookO s.ob n = .arr t xs false→f xs = (xs.drop off).take len) →
   Ev ok (match memN n m.tk with
   | true=>.fail
   | false=>.get (.ob n) fun
    | .o (.arr u xs false)=>castL? u t xs fun xs=>k { m with pay:=⟨.sl t,f xs⟩::m.pay,tk:=n::m.tk }
    | _=>.fail) s r→∃ xs e tk,Ev ok (k { m with pay:=⟨.sl t,xs⟩::m.pay,tk:=tk }) s r∧Own E s tk (e::ea)∧Win e 0 e.len cs∧RepArrO F w e t xs:=by
  intro n off len f hw hf h;split at h
  · exact h.fail.elim
  ·
   rename_i hmem;have h:=h.get;simp only [look] at h;split at h
   ·
    rename_i u xs hobj;simp only [Cn.o.injEq] at hobj;have e:=a1A h; subst e; have h:=a0Z h;obtain ⟨g1,g2,g3⟩:=e7M hm hobj hw;rw [hf xs hobj] at h;exact ⟨_,winEI (E.e n) off len,_,h,.cons (b8a.1 hmem) ⟨_,_,hobj⟩ g3 ho,g1,g2⟩
   · exact h.fail.elim
 unfold mtO at h;split at h
 ·
  rename_i n;exact take hr.2 (fun xs hobj=>by rw [← (a6X hm hobj).1]; simp) h
 ·
  rename_i n off;exact take hr.2.2 (fun xs hobj=>by rw [← (a6X hm hobj).1,List.take_of_length_le (by simp)]) h
 ·
  rename_i n off len;exact take hr.2 (fun xs hobj=>rfl) h
 ·
  rw [RepL] at hr; subst hr;exact ⟨_,nilEI t,_,h,.skip rfl ho,⟨by simp [nilEI],none,rfl,fun h=>by simp [nilEI] at h⟩,⟨rfl,Nat.le_refl _,rfl,fun _=>rfl,fun _=>rfl,fun h=>by simp [nilEI] at h⟩⟩
 · exact h.fail.elim
end
end Go.Proofs.Zz

/- A state held against a signature: what comes of it. -/
namespace Go.Proofs.Zz
open Go

section
variable {ok:Nat→List DV→List DV→Prop} {C:Frm} {A:Nat→Prop} {E:Env} {F:Nat→Prop} {s:St} {w:World} {α:Type} {r:α}
theorem e8U {t:Ty} {l:L} {m:M} {k:M→Rd α} (h:Ev ok (mtR t l m k) s r) (hm:Mem C A E F s.ob w) {cs:List Value} (hr:RepL E F w l cs) :
  ∃ v bw,Ev ok (k { m with pay:=⟨t,v⟩::m.pay,bw:=bw }) s r∧(∀ n∈m.bw,n∈bw)∧∃ b o ds,cs = [.pointer (some ⟨b,o,none⟩)]∧plus s.ob E F bw b∧RepD (plus s.ob E F bw) w t v ds∧At w b o ds:=by
 have out:∀ {ls:List L} {bw:List Nat} {b o:Nat} {c:List Value},Ev ok (pk t ls bw fun v r bw=>match r with
   | []=>k { m with pay:=⟨t,v⟩::m.pay,bw:=bw }
   | _=>.fail) s r→RepLs E F w ls c→At w b o c→(∀ n∈m.bw,n∈bw)→plus s.ob E F bw b→cs = [.pointer (some ⟨b,o,none⟩)] →
   ∃ v bw,Ev ok (k { m with pay:=⟨t,v⟩::m.pay,bw:=bw }) s r∧(∀ n∈m.bw,n∈bw)∧∃ b o ds,cs = [.pointer (some ⟨b,o,none⟩)]∧plus s.ob E F bw b∧RepD (plus s.ob E F bw) w t v ds∧At w b o ds:=by
  intro ls bw b o c h hc ha hb hp hcs;obtain ⟨v,q,nb,c1,d,rfl,h1,h2,h3,_⟩:=e5s hm h hc;split at h3
  ·
   have hd:d = []:=h2;subst hd;rw [List.append_nil] at ha;exact ⟨v,nb++bw,h3,fun n hn=>by simp [hb n hn],b,o,c1,hcs,b2Z (by simp +contextual) b hp,h1.mono (b2Z (by simp +contextual)),ha⟩
  · exact h3.fail.elim
 unfold mtR at h;split at h
 ·
  rename_i b l' y
  dsimp only at h
  split at h
  · exact h.fail.elim
  rename_i hn0;obtain ⟨ls,k1,k2,k3⟩:=c6S _ _ h;obtain ⟨p1,p2,p3⟩:=hr;obtain ⟨c,g1,g2⟩:=d3a hm k1 k3;rcases k3 with k3 | ⟨bl,hb,_,_⟩
  · rw [k3] at hn0; simp at hn0
  · exact out k2 g1 g2 (by simp +contextual) (.inr ⟨b,by simp,by rw [hb]; trivial,rfl⟩) p2
 ·
  rename_i b i l' y;have h:=h.get;simp only [look] at h;split at h
  ·
   rename_i a' xs ro hobj;simp only [Cn.o.injEq] at hobj;obtain ⟨p1,p2,p3,p4⟩:=hr;obtain ⟨q1,q2,q3,q4,ds,q5,q6⟩:=a6X hm hobj;obtain ⟨d,g1,g2⟩:=d3A q5 q6 (i:=i) (by omega);obtain ⟨c,g3,g4⟩:=d1u (a7m (E:=E) g1) g2 l' (sizes (unpk t (zeroD t))).length;rw [← c3f,← q4,← q3] at g4;have hn:(E.e b).nil = false:=by
    have hrp:=hm.rp b;rw [hobj] at hrp;cases hn:(E.e b).nil with
    | false=>rfl
    | true=>have:=hrp.2.2.2.2.1 hn; omega
   exact out h g3 g4 (by simp +contextual) (.inr ⟨b,by simp,by rw [hobj]; exact hn,rfl⟩) p3
  · exact h.fail.elim
 ·
  rename_i a' v l';obtain ⟨b,o',ds,k1,k2,k3,k4⟩:=hr;obtain ⟨c,g1,g2⟩:=d1u (a7m (E:=E) k3) k4 l' (sizes (unpk t (zeroD t))).length;rw [← c3f] at g2;exact out h g1 g2 (fun _ h=>h) (.inl k2) k1
 · exact h.fail.elim
theorem e3W (hm:Mem C A E F s.ob w):∀ {ks:List LK} {ls:List L} {m:M} {k:M→Rd α},Ev ok (mtLs ks ls m k) s r→∀ {cs:List Value},RepLs E F w ls cs→∀ {ea:List EI},Own E s m.tk ea →
  ∃ m' p es,Ev ok (k m') s r∧MLe m m'∧m'.pay = p.reverse++m.pay∧Own E s m'.tk (es.reverse++ea)∧sizes ls = szsL ks∧∀ β G,Fits E F s m' β G→RepKs β G w ks p es cs:=by
 intro ks;induction ks with
 | nil =>
  intro ls m k h cs hr ea ho;cases ls with
  | cons _ _=>exact Ev.fail h |>.elim
  | nil =>
   have:cs = []:=hr;subst this;exact ⟨m,[],[],h,MLe.refl m,rfl,ho,rfl,fun β G _=>.nil⟩
 | cons x ks ih =>
  intro ls m k h cs hr ea ho
  -- one leaf, and the rest
  have one:∀ {l:L} {q:List L} {m1:M} {p:List DV} {es:List EI} {c d:List Value},RepL E F w l c→RepLs E F w q d→ls = l::q→cs = c++d→l.size::[] = x.szs→Ev ok (mtLs ks q m1 k) s r→MLe m m1→m1.pay = p.reverse++m.pay→Own E s m1.tk (es.reverse++ea) →
    (∀ β G,Fits E F s m1 β G→RepK β G w x p es c) →
    ∃ m' p es,Ev ok (k m') s r∧MLe m m'∧m'.pay = p.reverse++m.pay∧Own E s m'.tk (es.reverse++ea)∧sizes ls = szsL (x::ks)∧∀ β G,Fits E F s m' β G→RepKs β G w (x::ks) p es cs:=by
   rintro l q m1 p es c d h1 h2 rfl rfl hz h hle hp ho1 hk
   obtain ⟨m',p',es',g1,g2,g3,g4,g5,g6⟩:=ih h h2 ho1;exact ⟨m',p++p',es++es',g1,hle.trans g2,by rw [g3,hp]; simp,by simpa using g4,by simp only [sizes,szsL,g5,← hz]; rfl,fun β G hf=>.cons (hk β G (hf.of g2)) (g6 β G hf)⟩
  cases x with
  | any n =>
   cases ls with
   | nil=>exact Ev.fail h |>.elim
   | cons l q =>
   obtain ⟨c,d,rfl,hl,hq⟩:=hr;simp only [mtLs] at h;split at h
   ·
    rename_i hn;have hn:=Nat.eq_of_beq_eq_true hn;exact one (p:=[]) (es:=[]) hl hq rfl rfl (by simp [LK.szs,hn]) h (MLe.refl m) rfl ho (fun β G _=>.any (by rw [b5g hl,hn]) (c7B hl))
   · exact h.fail.elim
  | d t =>
   simp only [mtLs] at h;obtain ⟨v,q,nb,c,d,rfl,h1,h2,h3,h4⟩:=e5s hm h hr;obtain ⟨m',p',es',g1,g2,g3,g4,g5,g6⟩:=ih h3 h2 (ea:=ea) ho;refine ⟨m',⟨t,v⟩::p',es',g1,MLe.trans (m':={ m with pay:=⟨t,v⟩::m.pay,bw:=nb++m.bw }) ⟨fun _ _ h=>h,rfl,fun _ h=>by simp [h]⟩ g2,by rw [g3]; simp,g4,by rw [h4,g5]; rfl,fun β G hf=>?_⟩
   have:=RepKs.cons (RepK.d (β:=β) (F:=G) (w:=w) (t:=t) (v:=v) (cs:=c) (h1.mono fun b hb=>hf.G b (b2Z (fun n hn=>g2.bw n (by simp [hn])) b hb))) (g6 β G hf)
   exact this
  | o t =>
   cases ls with
   | nil=>exact Ev.fail h |>.elim
   | cons l q =>
   obtain ⟨c,d,rfl,hl,hq⟩:=hr;simp only [mtLs] at h;obtain ⟨xs,e,tk,h1,h2,h3,h4⟩:=e8A h hm hl ho;have hsz:l.size = 1:=by
    have:=b5g hl;obtain ⟨_,ad,e3,_⟩:=h3;rw [e3] at this; simpa using this.symm
   exact one (p:=[⟨.sl t,xs⟩]) (es:=[e]) (m1:={ m with pay:=⟨.sl t,xs⟩::m.pay,tk:=tk }) hl hq rfl rfl (by simp [LK.szs,hsz]) h1 ⟨fun _ _ h=>h,rfl,fun _ h=>h⟩ rfl h2 (fun β G hf=>.o h3 (h4.mono fun b hb=>hf.G b (.inl hb)))
  | r t =>
   cases ls with
   | nil=>exact Ev.fail h |>.elim
   | cons l q =>
   obtain ⟨c,d,rfl,hl,hq⟩:=hr;simp only [mtLs] at h;obtain ⟨v,bw,h1,h2,b,oo,ds,rfl,h4,h5,h6⟩:=e8U h hm hl;have hsz:l.size = 1:=by have:=b5g hl; simpa using this.symm
   exact one (p:=[⟨t,v⟩]) (es:=[]) (m1:={ m with pay:=⟨t,v⟩::m.pay,bw:=bw }) hl hq rfl rfl (by simp [LK.szs,hsz]) h1 ⟨fun _ _ h=>h,rfl,h2⟩ rfl ho (fun β G hf=>.r (hf.G b h4) (h5.mono hf.G) h6)
  | p j l y =>
   cases ls with
   | nil=>exact Ev.fail h |>.elim
   | cons l0 q =>
   obtain ⟨c,d,rfl,hc,hq⟩:=hr;cases l0 with
   | ptr n l' y' =>
    simp only [mtLs] at h;split at h
    ·
     rename_i hly;simp only [Bool.and_eq_true,Nat.beq_eq] at hly;obtain ⟨rfl,hy⟩:=hly;have hy:=a1c hy;subst hy;split at h
     ·
      rename_i m1 hm1;obtain ⟨g1,g2,g3,g4,g5⟩:=c6v hm1;refine one (p:=[]) (es:=[]) hc hq rfl rfl rfl h g1 (by rw [g2]; rfl) (by rw [g3]; exact ho) (fun β G hf=>?_);obtain ⟨p1,p2,p3⟩:=hc;subst p2;rw [← hf.β j n g5] at p3 ⊢;exact .p p3
     · exact h.fail.elim
    · exact h.fail.elim
   | _=>exact Ev.fail h |>.elim
  | f g caps =>
   cases ls with
   | nil=>exact Ev.fail h |>.elim
   | cons l0 q =>
   obtain ⟨c,d,rfl,hc,hq⟩:=hr;cases l0 with
   | fn g' caps' =>
    simp only [mtLs] at h;split at h
    ·
     rename_i hg;have hg:=Nat.eq_of_beq_eq_true hg;subst hg;split at h
     ·
      rename_i m1 hm1;obtain ⟨g1,g2,g3,g4,g5⟩:=d4p hm1;refine one (p:=[]) (es:=[]) hc hq rfl rfl rfl h g1 (by rw [g2]; rfl) (by rw [g3]; exact ho) (fun β G hf=>?_);obtain ⟨p1,p2⟩:=hc;have key:∀ (cs cs':List Cp),All2 (fun (c c':Cp)=>c.l = c'.l∧c.y = c'.y∧m1.bx[c.k]? = some (some c'.k)) cs cs'→(∀ c∈cs',E.al c.k∧Steps (E.e c.k).loff c.l c.y) →
        (∀ c∈cs,Steps (β c.k).loff c.l c.y)∧(cs'.map fun c=>Value.pointer (some ⟨(E.e c.k).blk,(E.e c.k).loff c.l,none⟩)) = cs.map fun c=>Value.pointer (some ⟨(β c.k).blk,(β c.k).loff c.l,none⟩):=by
       intro cs;induction cs with
       | nil =>
        intro cs' h _;cases cs' with
        | nil=>exact ⟨by simp,rfl⟩
        | cons _ _=>exact h.elim
       | cons c r ihc =>
        intro cs' h ha;cases cs' with
        | nil=>exact h.elim
        | cons c' r' =>
         obtain ⟨⟨e1,e2,e3⟩,h'⟩:=h;obtain ⟨k1,k2⟩:=ihc r' h' (fun c hc=>ha c (by simp [hc]));have hb:=hf.β _ _ e3;have:=(ha c' (by simp)).2;refine ⟨fun x hx=>?_,by simp only [List.map_cons,k2,e1,hb]⟩
         rcases List.mem_cons.1 hx with rfl | hx
         · rw [hb,e1,e2]; exact this
         · exact k1 x hx
      obtain ⟨k1,k2⟩:=key _ _ g5 p1;rw [p2,k2];exact .f k1
     · exact h.fail.elim
    · exact h.fail.elim
   | _=>exact Ev.fail h |>.elim
  | np =>
   cases ls with
   | nil=>exact Ev.fail h |>.elim
   | cons l0 q =>
   obtain ⟨c,d,rfl,hc,hq⟩:=hr;cases l0 with
   | nilp =>
    simp only [mtLs] at h;exact one (p:=[]) (es:=[]) hc hq rfl rfl rfl h (MLe.refl m) rfl ho (fun β G hf=>by rw [RepL] at hc; subst hc; exact .np)
   | _=>exact Ev.fail h |>.elim
  | oh j sz y =>
   cases ls with
   | nil=>exact Ev.fail h |>.elim
   | cons l0 q =>
   obtain ⟨c,d,rfl,hc,hq⟩:=hr;cases l0 with
   | oh n a b sz' y' =>
    simp only [mtLs] at h;split at h
    ·
     rename_i hly;simp only [Bool.and_eq_true,Nat.beq_eq] at hly;obtain ⟨rfl,hy⟩:=hly;have hy:=a1c hy;subst hy;split at h
     ·
      rename_i m1 hm1;obtain ⟨g1,g2,g3,g4,g5⟩:=c6v hm1;refine one (p:=[⟨.int .i64,a⟩,⟨.int .i64,b⟩]) (es:=[]) (m1:={ m1 with pay:=⟨.int .i64,b⟩::⟨.int .i64,a⟩::m1.pay }) hc hq rfl rfl rfl h ⟨g1.bx,g1.len,g1.bw⟩ (by simp [g2]) (by rw [g3]; exact ho) (fun β G hf=>?_);obtain ⟨p1,p2,p3⟩:=hc;subst p2;rw [← hf.β j n g5] at p3 ⊢;exact .oh p3
     · exact h.fail.elim
    · exact h.fail.elim
   | _=>exact Ev.fail h |>.elim
  | hd j l =>
   cases ls <;> exact Ev.fail h |>.elim
  | w t =>
   cases ls <;> exact Ev.fail h |>.elim
  | cst j =>
   cases ls with
   | nil=>exact Ev.fail h |>.elim
   | cons l0 q =>
   obtain ⟨c,d,rfl,hc,hq⟩:=hr;cases l0 with
   | cst n =>
    simp only [mtLs] at h;split at h
    ·
     rename_i m1 hm1;obtain ⟨g1,g2,g3,g4,g5⟩:=c6v hm1;refine one (p:=[]) (es:=[]) hc hq rfl rfl rfl h g1 (by rw [g2]; rfl) (by rw [g3]; exact ho) (fun β G hf=>?_);obtain ⟨p1,p2,p3⟩:=hc;subst p2;rw [← hf.β j n g5] at p3 ⊢;exact .cst p3
    · exact h.fail.elim
   | _=>exact Ev.fail h |>.elim
end
end Go.Proofs.Zz
