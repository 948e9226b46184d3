import Derived.Test.YtnfpdmhdpeffjaaGreatEngR
set_option linter.unusedSimpArgs false
set_option linter.unusedVariables false
namespace Go.Proofs.Zz
open Go
def RepArrO (F:Nat→Prop) (w:World) (e:EI) (t:Ty) (xs:List (Den t)):Prop :=
 List.length xs=e.len∧e.len≤e.cap∧e.esz=t.sz∧(∀l,e.eoff l=lOff t l)∧(e.nil=true→e.cap=0) ∧
   (e.nil=false→∃cs u fr ds,w.heap[e.blk]?=some (.cells cs u fr)∧e.base+e.cap*e.esz≤cs.size∧All (λx c=>RepD F w t x c) xs ds∧At w e.blk e.base ds∧unfr w e.blk cs.size)
inductive RepK (β:Nat→EI) (F:Nat→Prop) (w:World):LK→List DV→List EI→List Value→Prop
 | any {n:Nat} {cs:List Value}:cs.length=n→(∀u∈cs,cw u)→RepK β F w (.any n) [] [] cs
 | d {t:Ty} {v:Den t} {cs:List Value}:RepD F w t v cs→RepK β F w (.d t) [⟨t,v⟩] [] cs
 | o {t:Ty} {xs:List (Den t)} {e:EI} {cs:List Value}:Win e 0 e.len cs→RepArrO F w e t xs→RepK β F w (.o t) [⟨.sl t,xs⟩] [e] cs
 | r {t:Ty} {v:Den t} {b o:Nat} {ds:List Value}:F b→RepD F w t v ds→At w b o ds→RepK β F w (.r t) [⟨t,v⟩] [] [.pointer (some ⟨b,o,none⟩)]
 | p {j l:Nat} {y:List Nat}:Steps (β j).loff l y→RepK β F w (.p j l y) [] [] [.pointer (some ⟨(β j).blk,(β j).loff l,none⟩)]
 | f {g:Nat} {caps:List Cp}:(∀c∈caps,Steps (β c.k).loff c.l c.y)→RepK β F w (.f g caps) [] [] [.func (.func g) #[] (caps.map λc=>Value.pointer (some ⟨(β c.k).blk,(β c.k).loff c.l,none⟩)).toArray]
 | np:RepK β F w .np [] [] [.pointer none]
 | cst {j:Nat}:cw (β j).hd→RepK β F w (.cst j) [] [] [(β j).hd]
 | oh {j sz:Nat} {y:List Nat} {n i:Int}:HdOk (β j) n i sz y→RepK β F w (.oh j sz y) [⟨.int .i64,n⟩,⟨.int .i64,i⟩] [] [(β j).hd]
 | hd {j l:Nat} {e:EI} {u:Value} {cs:List Value}:Win e 0 e.len cs→Win e 0 e.len [u]→At w (β j).blk ((β j).loff l) [u]→RepK β F w (.hd j l) [] [] cs
inductive RepKs (β:Nat→EI) (F:Nat→Prop) (w:World):List LK→List DV→List EI→List Value→Prop
 | nil:RepKs β F w [] [] [] []
 | cons {k:LK} {ks:List LK} {p q:List DV} {es fs:List EI} {c d:List Value}:RepK β F w k p es c→RepKs β F w ks q fs d→RepKs β F w (k::ks) (p++q) (es++fs) (c++d)
inductive RepA (β:Nat→EI) (F:Nat→Prop) (w:World):AK→List DV→List EI→Value→Prop
 | no (v:Value):RepA β F w .no [] [] v
 | any (n:Nat) (v:Value):RepA β F w (.one (.any n)) [] [] v
 | one {k:LK} {p:List DV} {es:List EI} {v:Value}:(∀n,k≠.any n)→cw v→RepK β F w k p es [v]→RepA β F w (.one k) p es v
 | agg {ks:List LK} {p:List DV} {es:List EI} {cs:Array Value}:RepKs β F w ks p es cs.toList→RepA β F w (.agg ks) p es (.agg cs)
inductive RepAs (β:Nat→EI) (F:Nat→Prop) (w:World):List AK→List DV→List EI→List Value→Prop
 | nil (vs:List Value):RepAs β F w [] [] [] vs
 | cons {a:AK} {as:List AK} {p q:List DV} {es fs:List EI} {v:Value} {vs:List Value}:RepA β F w a p es v→RepAs β F w as q fs vs→RepAs β F w (a::as) (p++q) (es++fs) (v::vs)
def LK.szs:LK→List Nat
 | .any n=>[n]
 | .d t=>ba (unpk t (cq t))
 | _=>[1]
def szsL:List LK→List Nat
 | []=>[]
 | k::r=>k.szs++szsL r
inductive RepBs (β:Nat→EI) (F:Nat→Prop) (w:World):List (List LK)→Nat→List DV→List EI→Prop
 | nil (j:Nat):RepBs β F w [] j [] []
 | cons {ks:List LK} {r:List (List LK)} {j:Nat} {p q:List DV} {es fs:List EI} {cs:List Value} {t:TypeId}:BoxAt w (β j) t cs→RepKs β F w ks p es cs→¬F (β j).blk →
   (∀i,i≤(szsL ks).length→(β j).loff i=(β j).pre.length+((szsL ks).take i).sum)→RepBs β F w r (j+1) q fs→RepBs β F w (ks::r) j (p++q) (es++fs)
structure SigIn (sg:Sg) (β:Nat→EI) (F:Nat→Prop) (w:World) (p:List DV) (es:List EI) (vs:List Value):Prop where
 ex:∃p1 p2 e1 e2,p=p1++p2∧es=e1++e2∧RepAs β F w sg.av p1 e1 vs∧RepBs β F w sg.bx 0 p2 e2
 bd:∀i j,i<sg.bx.length→j<sg.bx.length→(β i).blk=(β j).blk→i=j
 ed:es.Pairwise λa b=>a.nil=false→b.nil=false→a.blk≠b.blk
 be:∀j,j<sg.bx.length→∀e∈es,e.nil=false→(β j).blk≠e.blk
 ef:∀e∈es,e.nil=false→¬F e.blk
theorem RepArrO.mono {F F':Nat→Prop} {w:World} (h:∀b,F b→F' b) {e:EI} {t:Ty} {xs:List (Den t)} (hr:RepArrO F w e t xs):RepArrO F' w e t xs:=by
 obtain⟨h1,h2,h3,h4,h5,h6⟩:=hr;refine⟨h1,h2,h3,h4,h5,λhn=>?_⟩
 obtain⟨cs,u,fr,ds,k1,k2,k3,k4,k5⟩:=h6 hn;exact⟨cs,u,fr,ds,k1,k2,k3.imp λx c hc=>hc.mono h,k4,k5⟩
section
variable {E:Env} {s:St}
inductive Own (E:Env) (s:St):List Nat→List EI→Prop
 | nil:Own E s [] []
 | skip {ns:List Nat} {es:List EI} {e:EI}:e.nil=true→Own E s ns es→Own E s ns (e::es)
 | cons {ns:List Nat} {es:List EI} {e:EI} {n:Nat}:n∉ns→(∃t xs,aL s.ob n=.arr t xs false)→(e.nil=false→e.blk=(E.e n).blk∧(E.e n).nil=false)→Own E s ns es→Own E s (n::ns) (e::es)
theorem Own.key {ns:List Nat} {es:List EI} (h:Own E s ns es):∀e∈es,e.nil=false→∃n∈ns,e.blk=(E.e n).blk∧excl (E.e n) (aL s.ob n):=by
 induction h with
 | nil=>intro e he; simp at he
 | skip hn _ ih =>
  intro e he hf;rcases mV.1 he with rfl | he
  ·rw[hn]at hf; simp at hf
  ·exact ih e he hf
 | cons hn ho hb _ ih =>
  intro e he hf;rcases mV.1 he with rfl | he
  ·
   obtain⟨t,xs,ho⟩:=ho;obtain⟨h1,h2⟩:=hb hf;exact⟨_,by simp,h1,by rw[ho]; exact h2⟩
  ·
   obtain⟨n,h1,h2⟩:=ih e he hf;exact⟨n,by simp[h1],h2⟩
theorem Own.obj {ns:List Nat} {es:List EI} (h:Own E s ns es):∀n∈ns,∃t xs,aL s.ob n=.arr t xs false:=by
 induction h with
 | nil=>intro n hn; simp at hn
 | skip _ _ ih=>exact ih
 | cons _ ho _ _ ih =>
  intro n hn;rcases mV.1 hn with rfl | hn
  ·exact ho
  ·exact ih n hn
theorem Own.dist {C:Frm} {A:Nat→Prop} {F:Nat→Prop} {w:World} (hm:Mem C A E F s.ob w) {ns:List Nat} {es:List EI} (h:Own E s ns es):es.Pairwise λa b=>a.nil=false→b.nil=false→b.blk≠a.blk:=by
 induction h with
 | nil=>exact .nil
 | skip hn _ ih=>exact .cons (λb _ hf=>by rw[hn]at hf; simp at hf) ih
 | cons hn ho hb hr ih =>
  refine .cons (λb hb' hf hf' e=>?_) ih;obtain⟨m,h1,h2,h3⟩:=hr.key b hb' hf';obtain⟨t,xs,ho⟩:=ho;obtain⟨g1,g2⟩:=hb hf;have:=hm.inj m _ h3 (by rw[ho]; exact g2) (by rw[← h2,e,g1]);subst this;exact hn h1
end
structure MLe (m m':M):Prop where
 bx:∀(j k:Nat),m.bx[j]?=some (some k)→m'.bx[j]?=some (some k)
 len:m'.bx.length=m.bx.length
 bw:∀k∈m.bw,k∈m'.bw
theorem MLe.refl (m:M):MLe m m:=⟨λ_ _ h=>h,rfl,λ_ h=>h⟩
theorem MLe.trans {m m' m'':M} (h:MLe m m') (h':MLe m' m''):MLe m m'':=⟨λj k hk=>h'.bx j k (h.bx j k hk),h'.len.trans h.len,λk hk=>h'.bw k (h.bw k hk)⟩
structure Fits (E:Env) (F:Nat→Prop) (s:St) (m:M) (β:Nat→EI) (G:Nat→Prop):Prop where
 β:∀(j k:Nat),m.bx[j]?=some (some k)→β j=E.e k
 G:∀b,plus s.ob E F m.bw b→G b
theorem Fits.of {E:Env} {F:Nat→Prop} {s:St} {m m':M} {β:Nat→EI} {G:Nat→Prop} (h:Fits E F s m' β G) (hl:MLe m m'):Fits E F s m β G :=
 ⟨λj k hk=>h.β j k (hl.bx j k hk),λb hb=>h.G b (b2Z hl.bw b hb)⟩
theorem c6v {m m':M} {j k:Nat} (h:h8d m j k=some m'):MLe m m'∧m'.pay=m.pay∧m'.tk=m.tk∧m'.bw=m.bw∧m'.bx[j]?=some (some k):=by
 unfold h8d at h;split at h
 ·
  rename_i k' hk;rw[c0y]at hk;split at h
  ·
   rename_i e;simp only[mB]at h; subst h;have:=mH e;subst this;exact⟨MLe.refl m,rfl,rfl,rfl,hk⟩
  ·simp at h
 ·
  rename_i hk;rw[c0y]at hk;simp only[mB]at h; subst h;have hlt:=(mL.1 hk).1;refine⟨⟨λi n hn=>?_,by simp[fZ],λ_ h=>h⟩,rfl,rfl,rfl,by simp[fZ,hlt]⟩
  simp only[fZ];by_cases e:j=i
  ·subst e; rw[hk]at hn; simp at hn
  ·rw[pb e]; exact hn
 ·simp at h
theorem d4p:∀{cs cs':List Cp} {m m':M},h7m m cs cs'=some m'→MLe m m'∧m'.pay=m.pay∧m'.tk=m.tk∧m'.bw=m.bw ∧
  All2 (λ(c c':Cp)=>c.l=c'.l∧c.y=c'.y∧m'.bx[c.k]?=some (some c'.k)) cs cs'
 | [],[],m,m',h=>by simp only[h7m,mB]at h; subst h; exact⟨MLe.refl m,rfl,rfl,rfl,trivial⟩
 | [],_::_,_,_,h=>by simp[h7m]at h
 | _::_,[],_,_,h=>by simp[h7m]at h
 | c::r,c'::q,m,m',h=>by
  simp only[h7m]at h;split at h
  ·
   rename_i hc;simp only[mE,nk]at hc;split at h
   ·
    rename_i m1 hm1;obtain⟨h1,h2,h3,h4,h5⟩:=c6v hm1;obtain⟨g1,g2,g3,g4,g5⟩:=d4p h;exact⟨h1.trans g1,g2.trans h2,g3.trans h3,g4.trans h4,⟨hc.1,eU hc.2,g1.bx _ _ h5⟩,g5⟩
   ·simp at h
  ·simp at h
section
variable {ok:Nat→List DV→List DV→Prop} {C:Frm} {A:Nat→Prop} {E:Env} {F:Nat→Prop} {s:St} {w:World} {α:Type} {r:α}
def fd (e:EI) (off n:Nat):EI:={e with base:=e.base+off*e.esz,len:=n,cap:=e.cap-off,nil:=Nat.beq (e.cap-off) 0}
theorem e7M {n off len:Nat} {t:Ty} {xs:List (Den t)} {cs:List Value} (hm:Mem C A E F s.ob w) (hobj:aL s.ob n=.arr t xs false) (hw:Win (E.e n) off len cs) :
  Win (fd (E.e n) off len) 0 len cs∧RepArrO F w (fd (E.e n) off len) t ((xs.drop off).take len)∧((fd (E.e n) off len).nil=false→(fd (E.e n) off len).blk=(E.e n).blk∧(E.e n).nil=false):=by
 obtain⟨h1,ad,rfl,h3⟩:=hw;have hrp:=hm.rp n;rw[hobj]at hrp;obtain⟨q1,q2,q3,q4,q5,q6⟩:=hrp;have hnil:(fd (E.e n) off len).nil=false→(E.e n).cap-off≠0:=λh e=>by simp[fd,e]at h
 have hnil':(fd (E.e n) off len).nil=true→(E.e n).cap-off=0:=λh=>by simpa[fd] using h
 refine⟨⟨by simp[fd],ad,by simp[fd],λh=>?_⟩,⟨by simp[fd]; omega,by simp[fd]; omega,q3,q4,λh=>hnil' h,λh=>?_⟩,λh=>⟨rfl,(h3 (hnil h)).1⟩⟩
 ·
  have h:(E.e n).cap-off≠0:=by simpa[fd] using h
  refine⟨by simp only[fd]; rw[← Bool.not_eq_true,nk]; exact h,?_⟩
  rw[(h3 h).2]; simp[fd]
 ·
  obtain⟨cs,u,fr,ds,k1,k2,k3,k4,k5,k6⟩:=q6 (h3 (hnil h)).1;obtain⟨c,d,e',rfl,g1,g2⟩:=c7r (m:=len) (λx c=>cJ) k3 (show off≤xs.length by omega);have hne:=hnil h;refine⟨cs,u,fr,d,k1,?_,g2,?_,(k5 rfl).2⟩
  ·
   simp only[fd];rw[nQ,← pP,Nat.add_sub_cancel' (by omega)]; exact k2
  ·
   have:=(k4.append.2).append.1;rw[g1,← q3]at this;exact this
theorem e8A {t:Ty} {l:L} {m:M} {k:M→Rd α} (h:Ev ok (mtO t l m k) s r) (hm:Mem C A E F s.ob w) {cs:List Value} (hr:RepL E F w l cs) {ea:List EI} (ho:Own E s m.tk ea) :
  ∃xs e tk,Ev ok (k {m with pay:=⟨.sl t,xs⟩::m.pay,tk:=tk}) s r∧Own E s tk (e::ea)∧Win e 0 e.len cs∧RepArrO F w e t xs:=by
 have take:∀{n off len:Nat} {f:List (Den t)→List (Den t)} , Win (E.e n) off len cs→(∀xs,aL s.ob n=.arr t xs false→f xs=(xs.drop off).take len) →
   Ev ok (match memN n m.tk with
   | true=>.fail
   | false=>.get (.ob n) fun
    | .o (.arr u xs false)=>castL? u t xs λxs=>k {m with pay:=⟨.sl t,f xs⟩::m.pay,tk:=n::m.tk}
    | _=>.fail) s r→∃xs e tk,Ev ok (k {m with pay:=⟨.sl t,xs⟩::m.pay,tk:=tk}) s r∧Own E s tk (e::ea)∧Win e 0 e.len cs∧RepArrO F w e t xs:=by
  intro n off len f hw hf h;split at h
  ·exact h.fail.elim
  ·
   rename_i hmem;have h:=h.get;simp only[look]at h;split at h
   ·
    rename_i u xs hobj;simp only[Cn.o.injEq]at hobj;have e:=dO h; subst e; have h:=dJ h;obtain⟨g1,g2,g3⟩:=e7M hm hobj hw;rw[hf xs hobj]at h;exact⟨_,fd (E.e n) off len,_,h,.cons (b8a.1 hmem) ⟨_,_,hobj⟩ g3 ho,g1,g2⟩
   ·exact h.fail.elim
 unfold mtO at h;split at h
 ·
  rename_i n;exact take hr.2 (λxs hobj=>by rw[← (eP hm hobj).1]; simp) h
 ·
  rename_i n off;exact take hr.2.2 (λxs hobj=>by rw[← (eP hm hobj).1,nP (by simp)]) h
 ·
  rename_i n off len;exact take hr.2 (λxs hobj=>rfl) h
 ·
  rw[RepL]at hr; subst hr;exact⟨_,dU t,_,h,.skip rfl ho,⟨by simp[dU],none,rfl,λh=>by simp[dU]at h⟩,⟨rfl,mG _,rfl,λ_=>rfl,λ_=>rfl,λh=>by simp[dU]at h⟩⟩
 ·exact h.fail.elim
end
section
variable {ok:Nat→List DV→List DV→Prop} {C:Frm} {A:Nat→Prop} {E:Env} {F:Nat→Prop} {s:St} {w:World} {α:Type} {r:α}
theorem e8U {t:Ty} {l:L} {m:M} {k:M→Rd α} (h:Ev ok (mtR t l m k) s r) (hm:Mem C A E F s.ob w) {cs:List Value} (hr:RepL E F w l cs) :
  ∃v bw,Ev ok (k {m with pay:=⟨t,v⟩::m.pay,bw:=bw}) s r∧(∀n∈m.bw,n∈bw)∧∃b o ds,cs=[.pointer (some ⟨b,o,none⟩)]∧plus s.ob E F bw b∧RepD (plus s.ob E F bw) w t v ds∧At w b o ds:=by
 have out:∀{ls:List L} {bw:List Nat} {b o:Nat} {c:List Value},Ev ok (pk t ls bw λv r bw=>match r with
   | []=>k {m with pay:=⟨t,v⟩::m.pay,bw:=bw}
   | _=>.fail) s r→RepLs E F w ls c→At w b o c→(∀n∈m.bw,n∈bw)→plus s.ob E F bw b→cs=[.pointer (some ⟨b,o,none⟩)] →
   ∃v bw,Ev ok (k {m with pay:=⟨t,v⟩::m.pay,bw:=bw}) s r∧(∀n∈m.bw,n∈bw)∧∃b o ds,cs=[.pointer (some ⟨b,o,none⟩)]∧plus s.ob E F bw b∧RepD (plus s.ob E F bw) w t v ds∧At w b o ds:=by
  intro ls bw b o c h hc ha hb hp hcs;obtain⟨v,q,nb,c1,d,rfl,h1,h2,h3,_⟩:=e5s hm h hc;split at h3
  ·
   have hd:d=[]:=h2;subst hd;rw[mJ]at ha;exact⟨v,nb++bw,h3,λn hn=>by simp[hb n hn],b,o,c1,hcs,b2Z (by simp +contextual) b hp,h1.mono (b2Z (by simp +contextual)),ha⟩
  ·exact h3.fail.elim
 unfold mtR at h;split at h
 ·
  rename_i b l' y
  dsimp only at h
  split at h
  ·exact h.fail.elim
  rename_i hn0;obtain⟨ls,k1,k2,k3⟩:=c6S _ _ h;obtain⟨p1,p2,p3⟩:=hr;obtain⟨c,g1,g2⟩:=d3a hm k1 k3;rcases k3 with k3 | ⟨bl,hb,_,_⟩
  ·rw[k3]at hn0; simp at hn0
  ·exact out k2 g1 g2 (by simp +contextual) (.inr ⟨b,by simp,by rw[hb]; trivial,rfl⟩) p2
 ·
  rename_i b i l' y;have h:=h.get;simp only[look]at h;split at h
  ·
   rename_i a' xs ro hobj;simp only[Cn.o.injEq]at hobj;obtain⟨p1,p2,p3,p4⟩:=hr;obtain⟨q1,q2,q3,q4,ds,q5,q6⟩:=eP hm hobj;obtain⟨d,g1,g2⟩:=d3A q5 q6 (i:=i) (by omega);obtain⟨c,g3,g4⟩:=d1u (jC (E:=E) g1) g2 l' (ba (unpk t (cq t))).length;rw[← c3f,← q4,← q3]at g4;have hn:(E.e b).nil=false:=by
    have hrp:=hm.rp b;rw[hobj]at hrp;cases hn:(E.e b).nil with
    | false=>rfl
    | true=>have:=hrp.2.2.2.2.1 hn; omega
   exact out h g3 g4 (by simp +contextual) (.inr ⟨b,by simp,by rw[hobj]; exact hn,rfl⟩) p3
  ·exact h.fail.elim
 ·
  rename_i a' v l';obtain⟨b,o',ds,k1,k2,k3,k4⟩:=hr;obtain⟨c,g1,g2⟩:=d1u (jC (E:=E) k3) k4 l' (ba (unpk t (cq t))).length;rw[← c3f]at g2;exact out h g1 g2 (λ_ h=>h) (.inl k2) k1
 ·exact h.fail.elim
theorem e3W (hm:Mem C A E F s.ob w):∀{ks:List LK} {ls:List L} {m:M} {k:M→Rd α},Ev ok (mtLs ks ls m k) s r→∀{cs:List Value},RepLs E F w ls cs→∀{ea:List EI},Own E s m.tk ea →
  ∃m' p es,Ev ok (k m') s r∧MLe m m'∧m'.pay=p.reverse++m.pay∧Own E s m'.tk (es.reverse++ea)∧ba ls=szsL ks∧∀β G,Fits E F s m' β G→RepKs β G w ks p es cs:=by
 intro ks;induction ks with
 | nil =>
  intro ls m k h cs hr ea ho;cases ls with
  | cons _ _=>exact Ev.fail h |>.elim
  | nil =>
   have:cs=[]:=hr;subst this;exact⟨m,[],[],h,MLe.refl m,rfl,ho,rfl,λβ G _=>.nil⟩
 | cons x ks ih =>
  intro ls m k h cs hr ea ho
  -- one leaf, and the rest
  have one:∀{l:L} {q:List L} {m1:M} {p:List DV} {es:List EI} {c d:List Value},RepL E F w l c→RepLs E F w q d→ls=l::q→cs=c++d→l.size::[]=x.szs→Ev ok (mtLs ks q m1 k) s r→MLe m m1→m1.pay=p.reverse++m.pay→Own E s m1.tk (es.reverse++ea) →
    (∀β G,Fits E F s m1 β G→RepK β G w x p es c) →
    ∃m' p es,Ev ok (k m') s r∧MLe m m'∧m'.pay=p.reverse++m.pay∧Own E s m'.tk (es.reverse++ea)∧ba ls=szsL (x::ks)∧∀β G,Fits E F s m' β G→RepKs β G w (x::ks) p es cs:=by
   rintro l q m1 p es c d h1 h2 rfl rfl hz h hle hp ho1 hk
   obtain⟨m',p',es',g1,g2,g3,g4,g5,g6⟩:=ih h h2 ho1;exact⟨m',p++p',es++es',g1,hle.trans g2,by rw[g3,hp]; simp,by simpa using g4,by simp only[ba,szsL,g5,← hz]; rfl,λβ G hf=>.cons (hk β G (hf.of g2)) (g6 β G hf)⟩
  cases x with
  | any n =>
   cases ls with
   | nil=>exact Ev.fail h |>.elim
   | cons l q =>
   obtain⟨c,d,rfl,hl,hq⟩:=hr;simp only[mtLs]at h;split at h
   ·
    rename_i hn;have hn:=mH hn;exact one (p:=[]) (es:=[]) hl hq rfl rfl (by simp[LK.szs,hn]) h (MLe.refl m) rfl ho (λβ G _=>.any (by rw[b5g hl,hn]) (c7B hl))
   ·exact h.fail.elim
  | d t =>
   simp only[mtLs]at h;obtain⟨v,q,nb,c,d,rfl,h1,h2,h3,h4⟩:=e5s hm h hr;obtain⟨m',p',es',g1,g2,g3,g4,g5,g6⟩:=ih h3 h2 (ea:=ea) ho;refine⟨m',⟨t,v⟩::p',es',g1,MLe.trans (m':={m with pay:=⟨t,v⟩::m.pay,bw:=nb++m.bw}) ⟨λ_ _ h=>h,rfl,λ_ h=>by simp[h]⟩ g2,by rw[g3]; simp,g4,by rw[h4,g5]; rfl,λβ G hf=>?_⟩
   have:=RepKs.cons (RepK.d (β:=β) (F:=G) (w:=w) (t:=t) (v:=v) (cs:=c) (h1.mono λb hb=>hf.G b (b2Z (λn hn=>g2.bw n (by simp[hn])) b hb))) (g6 β G hf)
   exact this
  | o t =>
   cases ls with
   | nil=>exact Ev.fail h |>.elim
   | cons l q =>
   obtain⟨c,d,rfl,hl,hq⟩:=hr;simp only[mtLs]at h;obtain⟨xs,e,tk,h1,h2,h3,h4⟩:=e8A h hm hl ho;have hsz:l.size=1:=by
    have:=b5g hl;obtain⟨_,ad,e3,_⟩:=h3;rw[e3]at this; simpa using this.symm
   exact one (p:=[⟨.sl t,xs⟩]) (es:=[e]) (m1:={m with pay:=⟨.sl t,xs⟩::m.pay,tk:=tk}) hl hq rfl rfl (by simp[LK.szs,hsz]) h1 ⟨λ_ _ h=>h,rfl,λ_ h=>h⟩ rfl h2 (λβ G hf=>.o h3 (h4.mono λb hb=>hf.G b (.inl hb)))
  | r t =>
   cases ls with
   | nil=>exact Ev.fail h |>.elim
   | cons l q =>
   obtain⟨c,d,rfl,hl,hq⟩:=hr;simp only[mtLs]at h;obtain⟨v,bw,h1,h2,b,oo,ds,rfl,h4,h5,h6⟩:=e8U h hm hl;have hsz:l.size=1:=by have:=b5g hl; simpa using this.symm
   exact one (p:=[⟨t,v⟩]) (es:=[]) (m1:={m with pay:=⟨t,v⟩::m.pay,bw:=bw}) hl hq rfl rfl (by simp[LK.szs,hsz]) h1 ⟨λ_ _ h=>h,rfl,h2⟩ rfl ho (λβ G hf=>.r (hf.G b h4) (h5.mono hf.G) h6)
  | p j l y =>
   cases ls with
   | nil=>exact Ev.fail h |>.elim
   | cons l0 q =>
   obtain⟨c,d,rfl,hc,hq⟩:=hr;cases l0 with
   | ptr n l' y' =>
    simp only[mtLs]at h;split at h
    ·
     rename_i hly;simp only[mE,nk]at hly;obtain⟨rfl,hy⟩:=hly;have hy:=eU hy;subst hy;split at h
     ·
      rename_i m1 hm1;obtain⟨g1,g2,g3,g4,g5⟩:=c6v hm1;refine one (p:=[]) (es:=[]) hc hq rfl rfl rfl h g1 (by rw[g2]; rfl) (by rw[g3]; exact ho) (λβ G hf=>?_);obtain⟨p1,p2,p3⟩:=hc;subst p2;rw[← hf.β j n g5]at p3 ⊢;exact .p p3
     ·exact h.fail.elim
    ·exact h.fail.elim
   | _=>exact Ev.fail h |>.elim
  | f g caps =>
   cases ls with
   | nil=>exact Ev.fail h |>.elim
   | cons l0 q =>
   obtain⟨c,d,rfl,hc,hq⟩:=hr;cases l0 with
   | fn g' caps' =>
    simp only[mtLs]at h;split at h
    ·
     rename_i hg;have hg:=mH hg;subst hg;split at h
     ·
      rename_i m1 hm1;obtain⟨g1,g2,g3,g4,g5⟩:=d4p hm1;refine one (p:=[]) (es:=[]) hc hq rfl rfl rfl h g1 (by rw[g2]; rfl) (by rw[g3]; exact ho) (λβ G hf=>?_);obtain⟨p1,p2⟩:=hc;have key:∀(cs cs':List Cp),All2 (λ(c c':Cp)=>c.l=c'.l∧c.y=c'.y∧m1.bx[c.k]?=some (some c'.k)) cs cs'→(∀c∈cs',E.al c.k∧Steps (E.e c.k).loff c.l c.y) →
        (∀c∈cs,Steps (β c.k).loff c.l c.y)∧(cs'.map λc=>Value.pointer (some ⟨(E.e c.k).blk,(E.e c.k).loff c.l,none⟩))=cs.map λc=>Value.pointer (some ⟨(β c.k).blk,(β c.k).loff c.l,none⟩):=by
       intro cs;induction cs with
       | nil =>
        intro cs' h _;cases cs' with
        | nil=>exact⟨by simp,rfl⟩
        | cons _ _=>exact h.elim
       | cons c r ihc =>
        intro cs' h ha;cases cs' with
        | nil=>exact h.elim
        | cons c' r' =>
         obtain⟨⟨e1,e2,e3⟩,h'⟩:=h;obtain⟨k1,k2⟩:=ihc r' h' (λc hc=>ha c (by simp[hc]));have hb:=hf.β _ _ e3;have:=(ha c' (by simp)).2;refine⟨λx hx=>?_,by simp only[nN,k2,e1,hb]⟩
         rcases mV.1 hx with rfl | hx
         ·rw[hb,e1,e2]; exact this
         ·exact k1 x hx
      obtain⟨k1,k2⟩:=key _ _ g5 p1;rw[p2,k2];exact .f k1
     ·exact h.fail.elim
    ·exact h.fail.elim
   | _=>exact Ev.fail h |>.elim
  | np =>
   cases ls with
   | nil=>exact Ev.fail h |>.elim
   | cons l0 q =>
   obtain⟨c,d,rfl,hc,hq⟩:=hr;cases l0 with
   | nilp =>
    simp only[mtLs]at h;exact one (p:=[]) (es:=[]) hc hq rfl rfl rfl h (MLe.refl m) rfl ho (λβ G hf=>by rw[RepL]at hc; subst hc; exact .np)
   | _=>exact Ev.fail h |>.elim
  | oh j sz y =>
   cases ls with
   | nil=>exact Ev.fail h |>.elim
   | cons l0 q =>
   obtain⟨c,d,rfl,hc,hq⟩:=hr;cases l0 with
   | oh n a b sz' y' =>
    simp only[mtLs]at h;split at h
    ·
     rename_i hly;simp only[mE,nk]at hly;obtain⟨rfl,hy⟩:=hly;have hy:=eU hy;subst hy;split at h
     ·
      rename_i m1 hm1;obtain⟨g1,g2,g3,g4,g5⟩:=c6v hm1;refine one (p:=[⟨.int .i64,a⟩,⟨.int .i64,b⟩]) (es:=[]) (m1:={m1 with pay:=⟨.int .i64,b⟩::⟨.int .i64,a⟩::m1.pay}) hc hq rfl rfl rfl h ⟨g1.bx,g1.len,g1.bw⟩ (by simp[g2]) (by rw[g3]; exact ho) (λβ G hf=>?_);obtain⟨p1,p2,p3⟩:=hc;subst p2;rw[← hf.β j n g5]at p3 ⊢;exact .oh p3
     ·exact h.fail.elim
    ·exact h.fail.elim
   | _=>exact Ev.fail h |>.elim
  | hd j l =>
   cases ls<;>exact Ev.fail h |>.elim
  | w t =>
   cases ls<;>exact Ev.fail h |>.elim
  | cst j =>
   cases ls with
   | nil=>exact Ev.fail h |>.elim
   | cons l0 q =>
   obtain⟨c,d,rfl,hc,hq⟩:=hr;cases l0 with
   | cst n =>
    simp only[mtLs]at h;split at h
    ·
     rename_i m1 hm1;obtain⟨g1,g2,g3,g4,g5⟩:=c6v hm1;refine one (p:=[]) (es:=[]) hc hq rfl rfl rfl h g1 (by rw[g2]; rfl) (by rw[g3]; exact ho) (λβ G hf=>?_);obtain⟨p1,p2,p3⟩:=hc;subst p2;rw[← hf.β j n g5]at p3 ⊢;exact .cst p3
    ·exact h.fail.elim
   | _=>exact Ev.fail h |>.elim
end
theorem RepKs.inv {β:Nat→EI} {F:Nat→Prop} {w:World} {ks:List LK} {p:List DV} {es:List EI} {cs:List Value} (h:RepKs β F w ks p es cs) :
  match ks with
  | []=>p=[]∧es=[]∧cs=[]
  | k::r=>∃p1 p2 e1 e2 c1 c2,p=p1++p2∧es=e1++e2∧cs=c1++c2∧RepK β F w k p1 e1 c1∧RepKs β F w r p2 e2 c2:=by
 cases h with
 | nil=>exact⟨rfl,rfl,rfl⟩
 | cons a b=>exact⟨_,_,_,_,_,_,rfl,rfl,rfl,a,b⟩
theorem RepKs.one {β:Nat→EI} {F:Nat→Prop} {w:World} {k:LK} {p:List DV} {es:List EI} {cs:List Value} (h:RepKs β F w [k] p es cs):RepK β F w k p es cs:=by
 obtain⟨p1,p2,e1,e2,c1,c2,rfl,rfl,rfl,h1,h2⟩:=h.inv;obtain⟨rfl,rfl,rfl⟩:=h2.inv
 simpa using h1
section
variable {ok:Nat→List DV→List DV→Prop} {C:Frm} {A:Nat→Prop} {E:Env} {F:Nat→Prop} {s:St} {w:World} {α:Type} {r:α}
theorem e7L (hm:Mem C A E F s.ob w):∀{as:List AK} {xs:List V} {m:M} {k:M→Rd α},Ev ok (mtAs as xs m k) s r→∀{vs:List Value},All2 (RepV E F w) xs vs→∀{ea:List EI},Own E s m.tk ea →
  ∃m' p es,Ev ok (k m') s r∧MLe m m'∧m'.pay=p.reverse++m.pay∧Own E s m'.tk (es.reverse++ea)∧∀β G,Fits E F s m' β G→RepAs β G w as p es vs:=by
 intro as;induction as with
 | nil=>intro xs m k h vs hv ea ho; exact⟨m,[],[],h,MLe.refl m,rfl,ho,λβ G _=>.nil vs⟩
 | cons a as ih =>
  intro xs m k h vs hv ea ho;cases xs with
  | nil=>cases a with
   | one x=>cases x<;>exact Ev.fail h |>.elim
   | _=>exact Ev.fail h |>.elim
  | cons x xs =>
  cases vs with
  | nil=>exact hv.elim
  | cons v vs =>
  obtain⟨hx,hv⟩:=hv;have leaf:∀{ks:List LK} {ls:List L} {cs:List Value} , RepLs E F w ls cs→Ev ok (mtLs ks ls m λm=>mtAs as xs m k) s r→(∀β G p es,RepKs β G w ks p es cs→RepA β G w a p es v) →
    ∃m' p es,Ev ok (k m') s r∧MLe m m'∧m'.pay=p.reverse++m.pay∧Own E s m'.tk (es.reverse++ea)∧∀β G,Fits E F s m' β G→RepAs β G w (a::as) p es (v::vs):=by
   intro ks ls cs hr h hk;obtain⟨m1,p,es,g1,g2,g3,g4,_,g6⟩:=e3W hm h hr ho;obtain⟨m2,p',es',k1,k2,k3,k4,k5⟩:=ih g1 hv g4;exact⟨m2,p++p',es++es',k1,g2.trans k2,by rw[k3,g3]; simp,by simpa using k4,λβ G hf=>.cons (hk β G p es (g6 β G (hf.of k2))) (k5 β G hf)⟩
  cases a with
  | no =>
   have h:Ev ok (mtAs as xs m k) s r:=h;obtain⟨m2,p',es',k1,k2,k3,k4,k5⟩:=ih h hv ho;exact⟨m2,p',es',k1,k2,k3,k4,λβ G hf=>by
    have:=RepAs.cons (RepA.no (β:=β) (F:=G) (w:=w) v) (k5 β G hf)
    simpa using this⟩
  | agg ks =>
   cases x with
   | agg ls =>
    obtain⟨cs,rfl,hr⟩:=hx;exact leaf hr h λβ G p es hk=>.agg hk
   | _=>exact Ev.fail h |>.elim
  | one kk =>
   cases x with
   | one l =>
    by_cases hany:∃n,kk=.any n
    ·
     obtain⟨n,rfl⟩:=hany;have h:Ev ok (mtAs as xs m k) s r:=h;obtain⟨m2,p',es',k1,k2,k3,k4,k5⟩:=ih h hv ho;exact⟨m2,p',es',k1,k2,k3,k4,λβ G hf=>by
      have:=RepAs.cons (RepA.any (β:=β) (F:=G) (w:=w) n v) (k5 β G hf)
      simpa using this⟩
    ·
     have hne:∀n,kk≠.any n:=λn e=>hany ⟨n,e⟩
     by_cases hhd:∃j l0 n,kk=.hd j l0∧l=.own n
     ·
      obtain⟨j,l0,n,rfl,rfl⟩:=hhd;simp only[mtAs]at h;split at h
      ·
       rename_i q hq;have hb:m.bx[j]?=some (some q):=by
        rw[eY,mA]at hq;cases hc:m.bx[j]? with
        | none=>rw[hc]at hq; simp at hq
        | some o=>rw[hc]at hq; simp at hq; rw[hq]
       have h:=h.get;split at h
       ·
        rename_i n' hlf;split at h
        ·
         rename_i hnn;have:=mH hnn;subst this;obtain⟨bl,hl1,hl2⟩:=e5p hlf;obtain⟨c,g1,g2⟩:=d2i hm hl1 hl2;obtain⟨h1,_,h2⟩:=of_one (by intro _ e; cases e) hx;obtain⟨_,ga⟩:=g1;obtain⟨u,rfl⟩:∃u,c=[u]:=by
          obtain⟨_,a,e,_⟩:=ga;exact⟨_,e⟩
         obtain⟨m2,p',es',k1,k2,k3,k4,k5⟩:=ih h hv ho;exact⟨m2,p',es',k1,k2,k3,k4,λβ G hf=>by
          have:=RepAs.cons (RepA.one (β:=β) (F:=G) (w:=w) hne h1 (RepK.hd (j:=j) (l:=l0) h2 ga (by rw[hf.β j q (k2.bx _ _ hb)]; exact g2))) (k5 β G hf)
          simpa using this⟩
        ·exact h.fail.elim
       ·exact h.fail.elim
      ·exact h.fail.elim
     have hl:∀n,l≠.any n:=by
      rintro n rfl
      cases kk<;>first | exact (hne _ rfl).elim | exact Ev.fail h |>.elim
     have h:Ev ok (mtLs [kk] [l] m λm=>mtAs as xs m k) s r:=by
      cases kk<;>first | exact (hne _ rfl).elim | (cases l<;>first | exact (hl _ rfl).elim | exact (hhd ⟨_,_,_,rfl,rfl⟩).elim | exact h)
     obtain⟨h1,h2⟩:=of_one hl hx;refine leaf (All.one.2 h2) h λβ G p es hk=>.one hne h1 ?_
     exact hk.one
   | _=>cases kk<;>exact Ev.fail h |>.elim
theorem e7W (hm:Mem C A E F s.ob w):∀{kss:List (List LK)} {j:Nat} {m:M} {k:M→Rd α},Ev ok (mtBx kss j m k) s r→∀{ea:List EI},Own E s m.tk ea →
  ∃m' p es,Ev ok (k m') s r∧MLe m m'∧m'.pay=p.reverse++m.pay∧Own E s m'.tk (es.reverse++ea)∧(∀i,i<kss.length→∃n ls,m.bx[j+i]?≠none∧m'.bx[j+i]?=some (some n)∧aL s.ob n=.box ls) ∧
   ∀β G,Fits E F s m' β G→(∀i,i<kss.length→¬G (β (j+i)).blk)→RepBs β G w kss j p es:=by
 intro kss;induction kss with
 | nil=>intro j m k h ea ho; exact⟨m,[],[],h,MLe.refl m,rfl,ho,λi hi=>by simp at hi,λβ G _ _=>.nil j⟩
 | cons ks r ih =>
  intro j m k h ea ho;simp only[mtBx]at h;split at h
  ·
   rename_i n hn;have hb:m.bx[j]?=some (some n):=by
    rw[eY,mA]at hn;cases hc:m.bx[j]? with
    | none=>rw[hc]at hn; simp at hn
    | some o=>rw[hc]at hn; simp at hn; rw[hn]
   have h:=h.get;simp only[look]at h;split at h
   ·
    rename_i ls hobj;simp only[Cn.o.injEq]at hobj;have hrp:=hm.rp n;rw[hobj]at hrp;obtain⟨cs,t,q1,q2,q3,q4⟩:=hrp;obtain⟨m1,p,es,g1,g2,g3,g4,g5,g6⟩:=e3W hm h q2 ho;obtain⟨m2,p',es',k1,k2,k3,k4,k5,k6⟩:=ih g1 g4;refine⟨m2,p++p',es++es',k1,g2.trans k2,by rw[k3,g3]; simp,by simpa using k4,λi hi=>?_,λβ G hf hG=>?_⟩
    ·
     cases i with
     | zero=>exact⟨n,ls,by rw[nS,hb]; simp,k2.bx _ _ (g2.bx _ _ hb),hobj⟩
     | succ i =>
      obtain⟨n',ls',e1,e2,e3⟩:=k5 i (by simpa using hi);rw[show j+1+i=j+(i+1) by omega]at e1 e2;refine⟨n',ls',?_,e2,e3⟩;intro e;apply e1;rw[List.getElem?_eq_none_iff]at e ⊢;rw[g2.len]; exact e
    ·
     have hβ:=hf.β j n (k2.bx _ _ (g2.bx _ _ hb));refine .cons (t:=t) (cs:=cs) (by rw[hβ]; exact q1) (g6 β G (hf.of k2)) (by simpa using hG 0 (by simp)) (λi hi=>?_) (k6 β G hf (λi hi=>?_))
     ·
      rw[hβ,← g5];refine q4 i ?_;rw[← g5,jD]at hi; exact hi
     ·
      have:=hG (i+1) (by simpa using hi)
      rwa [show j+(i+1)=j+1+i by omega]at this
   ·exact h.fail.elim
  ·exact h.fail.elim
theorem d8U:∀{l:List (Option Nat)} {bs:List Nat},h8a l=some bs→l=bs.map some
 | [],bs,h=>by simp only[h8a,mB]at h; subst h; rfl
 | none::r,bs,h=>by simp[h8a]at h
 | some x::r,bs,h=>by
  simp only[h8a]at h;split at h
  ·
   rename_i q hq;simp only[mB]at h; subst h;rw[d8U hq]; rfl
  ·simp at h
theorem c8e:∀n,(h8g n).length=n
 | 0=>rfl
 | n+1=>by simp[h8g,c8e n]
theorem c6r {bw:List Nat} {k:Nat} (hm:Mem C A E F s.ob w) (hk:excl (E.e k) (aL s.ob k)) (hn:k∉bw):¬plus s.ob E F bw (E.e k).blk:=by
 rintro (h | ⟨n,h1,h2,h3⟩)
 ·exact gJ hm hk h
 ·
  by_cases hne:n=k
  ·subst hne; exact hn h1
  ·
   refine hm.blk_ne hk hne ?_ ?_ h3
   ·cases ho:aL s.ob n<;>rw[ho]at h2<;>first | exact h2.elim | trivial
   ·
    cases ho:aL s.ob n with
    | dead=>rw[ho]at h2; exact h2.elim
    | box ls=>exact .inr ⟨ls,rfl⟩
    | arr t xs ro=>rw[ho]at h2; exact .inl h2
structure Fit (C:Frm) (A:Nat→Prop) (E:Env) (F:Nat→Prop) (s:St) (w:World) (sg:Sg) (vs:List Value) (p:List DV) (es:List EI) (bs tk bw:List Nat):Prop where
 sig:SigIn sg (λj=>E.e (nthD 0 bs j)) (plus s.ob E F bw) w p es vs
 len:bs.length=sg.bx.length
 nod:bs.Nodup
 box:∀n∈bs,∃ls,aL s.ob n=.box ls
 own:∃ea,Own E s tk ea∧es=ea.reverse
 tb:∀n∈tk,n∉bw
 bb:∀n∈bs,n∉bw
theorem d9x {pre:List (Option Nat)} {sg:Sg} (hpre:pre.length=sg.bx.length) {xs:List V} {vs:List Value} {k:List DV→List Nat→List Nat→List Nat→Rd α} (h:Ev ok (h8o pre sg xs k) s r) (hm:Mem C A E F s.ob w) (hv:All2 (RepV E F w) xs vs) :
  ∃p es bs tk bw,Ev ok (k p bs tk bw) s r∧Fit C A E F s w sg vs p es bs tk bw:=by
 unfold h8o at h;obtain⟨m1,p1,e1,g1,g2,g3,g4,g5⟩:=e7L hm h hv (ea:=[]) .nil;obtain⟨m2,p2,e2,k1,k2,k3,k4,k5,k6⟩:=e7W hm g1 g4;split at k1
 ·
  rename_i bs hbs;have hbs:=d8U hbs;split at k1
  ·
   rename_i hd;simp only[mE]at hd;obtain⟨⟨d1,d2⟩,d3⟩:=hd;have d1:=c0O d1;have d2:=c7Y d2;have d3:=c7Y d3;have hlen:bs.length=sg.bx.length:=by
    have:=k2.len;rw[hbs,g2.len,mr]at this;rw[this]; exact hpre
   have hbi:∀i,i<sg.bx.length→∃n ls,m2.bx[i]?=some (some n)∧aL s.ob n=.box ls∧nthD 0 bs i=n∧n∈bs∧bs[i]?=some n:=by
    intro i hi;obtain⟨n,ls,_,e2,e3⟩:=k5 i hi;rw[ml]at e2;have:bs[i]?=some n:=by
     rw[hbs,nW]at e2;cases hc:bs[i]? with
     | none=>rw[hc]at e2; simp at e2
     | some x=>rw[hc]at e2; simp at e2; rw[e2]
    exact⟨n,ls,e2,e3,by rw[eY,mA,this]; rfl,nL this,this⟩
   have hf:Fits E F s m2 (λj=>E.e (nthD 0 bs j)) (plus s.ob E F m2.bw):=by
    refine⟨λj n hj=>?_,λb hb=>hb⟩
    have hj':j<bs.length:=by
     have:=(mL.1 hj).1;rw[hbs,mr]at this; exact this
    obtain⟨n',ls,q1,q2,q3,_⟩:=hbi j (by rw[← hlen]; exact hj');rw[hj]at q1;simp only[mB]at q1;simp only[q3,q1]
   have hbk:∀i,i<sg.bx.length→excl (E.e (nthD 0 bs i)) (aL s.ob (nthD 0 bs i)):=by
    intro i hi;obtain⟨n,ls,q1,q2,q3,q4,_⟩:=hbi i hi;rw[q3,q2]; trivial
   have hkey:∀e∈e1++e2,e.nil=false→∃n∈m2.tk,e.blk=(E.e n).blk∧excl (E.e n) (aL s.ob n):=λe he hn=>k4.key e (by simp at he ⊢; exact he.symm) hn
   have hp:m2.pay.reverse=p1++p2:=by rw[k3,g3]; simp
   rw[hp]at k1;refine⟨_,e1++e2,bs,m2.tk,m2.bw,k1,⟨?_,?_,?_,?_,?_⟩,hlen,d1,λn hn=>?_,⟨_,k4,by simp⟩,d2,d3⟩
   ·
    refine⟨p1,p2,e1,e2,rfl,rfl,g5 _ _ (hf.of k2),k6 _ _ hf (λi hi=>?_)⟩;rw[ml];obtain⟨n,ls,q1,q2,q3,q4,_⟩:=hbi i hi;refine c6r hm (hbk i hi) ?_;rw[q3]; exact d3 n q4
   ·
    intro i j hi hj he;have:=hm.inj _ _ (hbk i hi) (hbk j hj) he;obtain⟨n,_,_,_,q3,_,q5⟩:=hbi i hi;obtain⟨n',_,_,_,q3',_,q5'⟩:=hbi j hj;rw[q3,q3']at this;subst this;exact (List.getElem?_inj (show i<bs.length by omega) d1).1 (q5.trans q5'.symm)
   ·
    have:=k4.dist hm;rw[← List.pairwise_reverse]at this;simp only[List.reverse_append,List.reverse_reverse,List.reverse_nil,mJ,mf]at this
    simpa using this.imp λhab ha hb e=>hab hb ha e
   ·
    intro j hj e he hn hc;obtain⟨n,hn1,hn2,hn3⟩:=hkey e he hn;have:=hm.inj _ _ (hbk j hj) hn3 (hc.trans hn2);obtain⟨n',ls,q1,q2,q3,q4,_⟩:=hbi j hj;obtain⟨t,xs,ho⟩:=k4.obj n hn1;rw[q3]at this;rw[this,ho]at q2;cases q2
   ·
    intro e he hn hc;obtain⟨n,hn1,hn2,hn3⟩:=hkey e he hn;rw[hn2]at hc;exact c6r hm hn3 (d2 n hn1) hc
   ·
    obtain⟨i,hi⟩:=List.mem_iff_getElem?.1 hn;have hi':=(mL.1 hi).1;obtain⟨n',ls,q1,q2,q3,q4,q5⟩:=hbi i (by omega);rw[hi]at q5;simp only[mB]at q5;exact⟨ls,by rw[q5]; exact q2⟩
  ·exact k1.fail.elim
 ·exact k1.fail.elim
theorem e2R {sg:Sg} {xs:List V} {vs:List Value} {k:List DV→List Nat→List Nat→List Nat→Rd α} (h:Ev ok (mtSg sg xs k) s r) (hm:Mem C A E F s.ob w) (hv:All2 (RepV E F w) xs vs) :
  ∃p es bs tk bw,Ev ok (k p bs tk bw) s r∧Fit C A E F s w sg vs p es bs tk bw:=d9x (c8e _) h hm hv
end
theorem c1r {a b:Nat} (h:Nat.blt a b=true):a<b:=by
 have:a+1≤b:=by simpa[Nat.blt] using h
 exact this
inductive ArrOk (F:Nat→Prop) (w:World):List EI→Nat→List (Nat × Obj)→Prop
 | nil (n:Nat):ArrOk F w [] n []
 | cons {es:List EI} {n:Nat} {new:List (Nat × Obj)} {e:EI} {t:Ty} {xs:List (Den t)}:RepArrO F w e t xs→ArrOk F w es (n+1) new→ArrOk F w (e::es) n ((n,.arr t xs false)::new)
theorem ArrOk.append {F:Nat→Prop} {w:World} {es fs:List EI} {n:Nat} {new new':List (Nat × Obj)} (h:ArrOk F w es n new) (h':ArrOk F w fs (n+es.length) new'):ArrOk F w (es++fs) n (new++new'):=by
 induction h with
 | nil n=>simpa using h'
 | cons hr _ ih=>exact .cons hr (ih (by simpa[nQ,oM 1] using h'))
theorem ArrOk.mem {F:Nat→Prop} {w:World} {es:List EI} {n:Nat} {new:List (Nat × Obj)} (h:ArrOk F w es n new) {k:Nat} {o:Obj} (hk:(k,o)∈new) :
  ∃e t xs,n≤k∧es[k-n]?=some e∧o=.arr t xs false∧RepArrO F w e t xs:=by
 induction h with
 | nil n=>simp at hk
 | @cons es n new e t xs hr _ ih =>
  rcases mV.1 hk with hk | hk
  ·
   simp only[mb]at hk;obtain⟨rfl,rfl⟩:=hk;exact⟨_,_,_,mG _,by simp,rfl,hr⟩
  ·
   obtain⟨e',t',xs',h1,h2,h3,h4⟩:=ih hk;refine⟨e',t',xs',by omega,?_,h3,h4⟩
   rw[show k-n=(k-(n+1))+1 by omega]; simpa using h2
structure EnvOk (E:Env) (β:Nat→EI) (ren:Nat→Nat) (nb nx:Nat) (es:List EI):Prop where
 bx:∀j,j<nb→E.al (ren j)∧E.e (ren j)=β j
 ar:∀i e,es[i]?=some e→E.al (nx+i)∧E.e (nx+i)=e
theorem EnvOk.left {E:Env} {β:Nat→EI} {ren:Nat→Nat} {nb nx:Nat} {es fs:List EI} (h:EnvOk E β ren nb nx (es++fs)):EnvOk E β ren nb nx es :=
 ⟨h.bx,λi e hi=>h.ar i e (by rw[mW (mL.1 hi).1]; exact hi)⟩
theorem EnvOk.right {E:Env} {β:Nat→EI} {ren:Nat→Nat} {nb nx:Nat} {es fs:List EI} (h:EnvOk E β ren nb nx (es++fs)):EnvOk E β ren nb (nx+es.length) fs :=
 ⟨h.bx,λi e hi=>by
  have:=h.ar (es.length+i) e (by rw[mU (by omega)]; simpa using hi)
  rwa [← nQ]at this⟩
structure BOk (F:Nat→Prop) (w:World) (b b':B) (q:List DV) (es:List EI) (new:List (Nat × Obj)):Prop where
 pay:b'.pay=q
 nx:b'.nx=b.nx+es.length
 nb:b'.nb=b.nb
 ob:b'.ob=new.reverse++b.ob
 arr:ArrOk F w es b.nx new
theorem BOk.refl {F:Nat→Prop} {w:World} (b:B):BOk F w b b b.pay [] []:=⟨rfl,rfl,rfl,rfl,.nil _⟩
theorem BOk.trans {F:Nat→Prop} {w:World} {b b' b'':B} {q q':List DV} {es fs:List EI} {new new':List (Nat × Obj)} (h:BOk F w b b' q es new) (h':BOk F w b' b'' q' fs new'):BOk F w b b'' q' (es++fs) (new++new') :=
 ⟨h'.pay,by rw[h'.nx,h.nx]; simp[nQ],h'.nb.trans h.nb,by rw[h'.ob,h.ob]; simp,h.arr.append (by have:=h'.arr; rwa [h.nx]at this)⟩
section
variable {β:Nat→EI} {F:Nat→Prop} {w:World} {ren:Nat→Nat}
theorem e3l (t:Ty):lOff t 0=0:=by simp[lOff,dw]
theorem e6m {k:LK} {p q:List DV} {es:List EI} {cs:List Value} (h:RepK β F w k p es cs) {b b':B} (hp:b.pay=p++q) {ls:List L} (hb:blL k ren b=some (ls,b')) :
  ∃new,BOk F w b b' q es new∧ba ls=k.szs∧∀E,EnvOk E β ren b.nb b.nx es→RepLs E F w ls cs:=by
 cases h with
 | any hn hc =>
  simp only[blL,mB,mb]at hb;obtain⟨rfl,rfl⟩:=hb;exact⟨[],⟨by simpa using hp,rfl,rfl,rfl,.nil _⟩,rfl,λE _=>All.one.2 ⟨hn,hc⟩⟩
 | d hd =>
  simp only[blL,hp,oj,b4f,mB,mb]at hb;obtain⟨rfl,rfl⟩:=hb;exact⟨[],⟨rfl,rfl,rfl,rfl,.nil _⟩,d1R _,λE _=>jC hd⟩
 | o hw ha =>
  simp only[blL,hp,oj,b4f,mB,mb]at hb;obtain⟨rfl,rfl⟩:=hb;refine⟨[_],⟨rfl,rfl,rfl,rfl,.cons ha (.nil _)⟩,rfl,λE hE=>All.one.2 ?_⟩
  obtain⟨h1,h2⟩:=hE.ar 0 _ rfl;rw[nS]at h1 h2;exact⟨h1,by rw[h2]; exact hw⟩
 | r hF hd ha =>
  simp only[blL,hp,oj,b4f,mB,mb]at hb;obtain⟨rfl,rfl⟩:=hb;exact⟨[],⟨rfl,rfl,rfl,rfl,.nil _⟩,rfl,λE _=>All.one.2 ⟨_,_,_,by rw[e3l]; rfl,hF,hd,ha⟩⟩
 | p hs =>
  simp only[blL]at hb;split at hb
  ·
   rename_i hj;have hj:=c1r hj;simp only[mB,mb]at hb;obtain⟨rfl,rfl⟩:=hb;refine⟨[],⟨by simpa using hp,rfl,rfl,rfl,.nil _⟩,rfl,λE hE=>All.one.2 ?_⟩
   obtain⟨h1,h2⟩:=hE.bx _ hj;exact⟨h1,by rw[h2],by rw[h2]; exact hs⟩
  ·simp at hb
 | @f g caps hs =>
  simp only[blL]at hb;split at hb
  ·
   rename_i hj;simp only[mz]at hj;simp only[mB,mb]at hb;obtain⟨rfl,rfl⟩:=hb;refine⟨[],⟨by simpa using hp,rfl,rfl,rfl,.nil _⟩,rfl,λE hE=>All.one.2 ?_⟩
   have hk:∀c∈caps,E.al (ren c.k)∧E.e (ren c.k)=β c.k:=λc hc=>hE.bx _ (c1r (hj c hc))
   refine⟨λc hc=>?_,?_⟩
   ·
    obtain⟨c',hc',rfl⟩:=nK.1 hc;obtain⟨h1,h2⟩:=hk c' hc';exact⟨h1,by simp only[h2]; exact hs c' hc'⟩
   ·
    simp only[List.map_map,mK,Value.func.injEq,true_and,and_true];congr 1;apply List.map_congr_left;intro c hc;simp only[Function.comp,(hk c hc).2]
  ·simp at hb
 | np =>
  simp only[blL,mB,mb]at hb;obtain⟨rfl,rfl⟩:=hb;exact⟨[],⟨by simpa using hp,rfl,rfl,rfl,.nil _⟩,rfl,λE _=>All.one.2 rfl⟩
 | oh hc =>
  simp only[blL,hp,oC,mf]at hb;split at hb
  ·
   rename_i hj;have hj:=c1r hj;simp only[mB,mb]at hb;obtain⟨rfl,rfl⟩:=hb;refine⟨[],⟨rfl,rfl,rfl,rfl,.nil _⟩,rfl,λE hE=>All.one.2 ?_⟩
   obtain⟨h1,h2⟩:=hE.bx _ hj;exact⟨h1,by rw[h2],by rw[h2]; exact hc⟩
  ·simp at hb
 | hd h1 h2 h3 =>
  simp only[blL,mB,mb]at hb;obtain⟨rfl,rfl⟩:=hb;obtain⟨_,a,rfl,_⟩:=h1;exact⟨[],⟨by simpa using hp,rfl,rfl,rfl,.nil _⟩,rfl,λE _=>All.one.2 ⟨rfl,by simp[cw]⟩⟩
 | cst hc =>
  simp only[blL]at hb;split at hb
  ·
   rename_i hj;have hj:=c1r hj;simp only[mB,mb]at hb;obtain⟨rfl,rfl⟩:=hb;refine⟨[],⟨by simpa using hp,rfl,rfl,rfl,.nil _⟩,rfl,λE hE=>All.one.2 ?_⟩
   obtain⟨h1,h2⟩:=hE.bx _ hj;exact⟨h1,by rw[h2],by rw[h2]; exact hc⟩
  ·simp at hb
theorem e5G {e e':EI} {u v:Value} (h1:Win e 0 e.len [v]) (h2:Win e 0 e.len [u]) (h3:Win e' 0 e'.len [u]):Win e' 0 e'.len [v]:=by
 obtain⟨_,a,q1,q2⟩:=h1;obtain⟨_,b,r1,r2⟩:=h2;obtain⟨_,c,s1,s2⟩:=h3;simp only[mK,and_true]at q1 r1 s1;rw[r1]at s1;simp only[Value.slice.injEq]at s1;obtain⟨e1,e2,e3⟩:=s1;refine⟨by omega,a,by rw[q1,e2,e3],λhne=>⟨(s2 hne).1,?_⟩⟩
 have hc:e.cap-0≠0:=by rw[e3]; exact hne
 rw[(q2 hc).2,← (r2 hc).2,e1,(s2 hne).2]
theorem e1Q {ks:List LK}:∀{p q:List DV} {es:List EI} {cs:List Value},RepKs β F w ks p es cs→∀{b b':B},b.pay=p++q→∀{ls:List L},blLs ren ks b=some (ls,b') →
  ∃new,BOk F w b b' q es new∧ba ls=szsL ks∧∀E,EnvOk E β ren b.nb b.nx es→RepLs E F w ls cs:=by
 induction ks with
 | nil =>
  intro p q es cs h b b' hp ls hb;obtain⟨rfl,rfl,rfl⟩:=h.inv;simp only[blLs,mB,mb]at hb;obtain⟨rfl,rfl⟩:=hb;exact⟨[],⟨by simpa using hp,rfl,rfl,rfl,.nil _⟩,rfl,λE _=>rfl⟩
 | cons k ks ih =>
  intro p q es cs h b b' hp ls hb;obtain⟨p1,p2,e1,e2,c1,c2,rfl,rfl,rfl,h1,h2⟩:=h.inv;simp only[blLs]at hb;split at hb
  ·
   rename_i l b1 hl;split at hb
   ·
    rename_i q1 b2 hq;simp only[mB,mb]at hb;obtain⟨rfl,rfl⟩:=hb;obtain⟨n1,g1,g2,g3⟩:=e6m h1 (q:=p2++q) (by rw[hp]; simp) hl;obtain⟨n2,k1,k2,k3⟩:=ih h2 g1.pay hq;refine⟨n1++n2,g1.trans k1,by rw[b7s,g2,k2]; rfl,λE hE=>(g3 E hE.left).append (k3 E ?_)⟩
    have:=hE.right;rw[← g1.nx,← g1.nb]at this;exact this
   ·simp at hb
  ·simp at hb
theorem e9s {a:AK} {p q:List DV} {es:List EI} {v:Value} (h:RepA β F w a p es v) {b b':B} (hp:b.pay=p++q) {x:V} (hb:blA ren a b=some (x,b')) :
  ∃new,BOk F w b b' q es new∧∀E,EnvOk E β ren b.nb b.nx es→RepV E F w x v:=by
 cases h with
 | no v =>
  simp only[blA,mB,mb]at hb;obtain⟨rfl,rfl⟩:=hb;exact⟨[],⟨by simpa using hp,rfl,rfl,rfl,.nil _⟩,λE _=>c6y⟩
 | any n v =>
  simp only[blA,blL,mB,mb]at hb;obtain⟨rfl,rfl⟩:=hb;exact⟨[],⟨by simpa using hp,rfl,rfl,rfl,.nil _⟩,λE _=>by simp[RepV,RepW]⟩
 | one hne hc hk =>
  simp only[blA]at hb;split at hb
  ·
   rename_i l b1 hl;simp only[mB,mb]at hb;obtain⟨rfl,rfl⟩:=hb;obtain⟨n1,g1,g2,g3⟩:=e6m hk hp hl;exact⟨n1,g1,λE hE=>d9m hc (All.one.1 (g3 E hE))⟩
  ·simp at hb
 | agg hk =>
  simp only[blA]at hb;split at hb
  ·
   rename_i ls b1 hl;simp only[mB,mb]at hb;obtain⟨rfl,rfl⟩:=hb;obtain⟨n1,g1,g2,g3⟩:=e1Q hk hp hl;exact⟨n1,g1,λE hE=>⟨_,rfl,g3 E hE⟩⟩
  ·simp at hb
theorem RepAs.inv {as:List AK} {p:List DV} {es:List EI} {vs:List Value} (h:RepAs β F w as p es vs) :
  match as with
  | []=>p=[]∧es=[]
  | a::r=>∃p1 p2 e1 e2 v q,p=p1++p2∧es=e1++e2∧vs=v::q∧RepA β F w a p1 e1 v∧RepAs β F w r p2 e2 q:=by
 cases h with
 | nil=>exact⟨rfl,rfl⟩
 | cons a b=>exact⟨_,_,_,_,_,_,rfl,rfl,rfl,a,b⟩
theorem e4m {as:List AK}:∀{p q:List DV} {es:List EI} {vs:List Value},RepAs β F w as p es vs→∀{b b':B},b.pay=p++q→∀{xs:List V},blAs ren as b=some (xs,b') →
  ∃new v1 v2,BOk F w b b' q es new∧vs=v1++v2∧v1.length=as.length∧xs.length=as.length∧∀E,EnvOk E β ren b.nb b.nx es→All2 (RepV E F w) xs v1:=by
 induction as with
 | nil =>
  intro p q es vs h b b' hp xs hb;obtain⟨rfl,rfl⟩:=h.inv;simp only[blAs,mB,mb]at hb;obtain⟨rfl,rfl⟩:=hb;exact⟨[],[],vs,⟨by simpa using hp,rfl,rfl,rfl,.nil _⟩,rfl,rfl,rfl,λE _=>trivial⟩
 | cons a as ih =>
  intro p q es vs h b b' hp xs hb;obtain⟨p1,p2,e1,e2,v,vq,rfl,rfl,rfl,h1,h2⟩:=h.inv;simp only[blAs]at hb;split at hb
  ·
   rename_i x b1 hl;split at hb
   ·
    rename_i q1 b2 hq;simp only[mB,mb]at hb;obtain⟨rfl,rfl⟩:=hb;obtain⟨n1,g1,g2⟩:=e9s h1 (q:=p2++q) (by rw[hp]; simp) hl;obtain⟨n2,v1,v2,k1,k2,k3,k4,k5⟩:=ih h2 g1.pay hq;refine⟨n1++n2,v::v1,v2,g1.trans k1,by rw[k2]; rfl,by simp[k3],by simp[k4],λE hE=>⟨g2 E hE.left,k5 E ?_⟩⟩
    have:=hE.right;rw[← g1.nx,← g1.nb]at this;exact this
   ·simp at hb
  ·simp at hb
theorem RepBs.inv {kss:List (List LK)} {j:Nat} {p:List DV} {es:List EI} (h:RepBs β F w kss j p es) :
  match kss with
  | []=>p=[]∧es=[]
  | ks::r=>∃p1 p2 e1 e2 cs t,p=p1++p2∧es=e1++e2∧BoxAt w (β j) t cs∧RepKs β F w ks p1 e1 cs∧¬F (β j).blk ∧
    (∀i,i≤(szsL ks).length→(β j).loff i=(β j).pre.length+((szsL ks).take i).sum)∧RepBs β F w r (j+1) p2 e2:=by
 cases h with
 | nil=>exact⟨rfl,rfl⟩
 | cons a b c d e=>exact⟨_,_,_,_,_,_,rfl,rfl,a,b,c,d,e⟩
theorem e2t {kss:List (List LK)}:∀{j:Nat} {p q:List DV} {es:List EI},RepBs β F w kss j p es→∀{b b':B},b.pay=p++q→∀{bx:List (Nat × List L)},blBs ren kss j b=some (bx,b') →
  ∃new,BOk F w b b' q es new∧∀E,EnvOk E β ren b.nb b.nx es→∀n ls,(n,ls)∈bx→∃i,i<kss.length∧n=ren (j+i)∧RepO E F w (β (j+i)) (.box ls):=by
 induction kss with
 | nil =>
  intro j p q es h b b' hp bx hb;obtain⟨rfl,rfl⟩:=h.inv;simp only[blBs,mB,mb]at hb;obtain⟨rfl,rfl⟩:=hb;exact⟨[],⟨by simpa using hp,rfl,rfl,rfl,.nil _⟩,λE _ n ls h=>by simp at h⟩
 | cons ks r ih =>
  intro j p q es h b b' hp bx hb;obtain⟨p1,p2,e1,e2,cs,t,rfl,rfl,h1,h2,h3,h4,h5⟩:=h.inv;simp only[blBs]at hb;split at hb
  ·
   rename_i l b1 hl;split at hb
   ·
    rename_i q1 b2 hq;simp only[mB,mb]at hb;obtain⟨rfl,rfl⟩:=hb;obtain⟨n1,g1,g2,g3⟩:=e1Q h2 (q:=p2++q) (by rw[hp]; simp) hl;obtain⟨n2,k1,k2⟩:=ih h5 g1.pay hq;refine⟨n1++n2,g1.trans k1,λE hE n ls hm=>?_⟩
    rcases mV.1 hm with hm | hm
    ·
     simp only[mb]at hm;obtain⟨rfl,rfl⟩:=hm;refine⟨0,by simp,rfl,cs,t,h1,g3 E hE.left,h3,λi hi=>?_⟩
     rw[g2];refine h4 i ?_;rw[← g2,jD]; exact hi
    ·
     have:=hE.right;rw[← g1.nx,← g1.nb]at this;obtain⟨i,a1,a2,a3⟩:=k2 E this n ls hm;rw[show j+1+i=j+(i+1) by omega]at a2 a3;exact⟨i+1,by simpa using a1,a2,a3⟩
   ·simp at hb
  ·simp at hb
end
theorem d5E:∀(l:List (Nat × Obj)) (k:Nat),aL l k=.dead∨(k,aL l k)∈l
 | [],k=>.inl rfl
 | p::r,k=>by
  simp only[aL];split
  ·
   rename_i e;have e:=mH e;subst e;exact .inr (by simp)
  ·
   rcases d5E r k with h | h
   ·exact .inl h
   ·exact .inr (by simp[h])
def ownB (nb:Nat) (β:Nat→EI) (es:List EI) (b:Nat):Prop:=(∃j,j<nb∧(β j).blk=b)∨∃e∈es,e.nil=false∧e.blk=b
structure Enter (C:Frm) (F:Nat→Prop) (w:World) (nb:Nat) (β:Nat→EI) (es:List EI):Prop where
 fb:∀b,F b→b<w.heap.size
 f0:∀b,C.F0 b→F b
 kp:∀b,b<C.w0.heap.size→¬C.O b→w.heap[b]?=C.w0.heap[b]?
 uf:∀b,F b→C.F0 b∨C.O b∨C.w0.heap.size≤b
 uo:∀b,ownB nb β es b→C.O b∨C.w0.heap.size≤b
 sz:C.w0.heap.size≤w.heap.size
 os:w.os=C.w0.os
 tape:w.tape=C.w0.tape
 output:w.output=C.w0.output
 nb:C.nb≤nb
 e0:∀k,k<C.nb→β k=C.e0 k
def entE (nb:Nat) (β:Nat→EI) (es:List EI):Env:={e:=λk=>if k<nb then β k else es.getD (k-nb) (dU .unit),al:=λk=>k<nb+es.length}
theorem e5a (n t:Nat) (xs:List V) (h:xs.length≤t):nthD bad (xs++bads n) t=bad:=by
 rw[eY,mA,mU h,← mA,← eY,d8N]
theorem All2.get {α β:Type} {R:α→β→Prop}:∀{xs:List α} {ys:List β},All2 R xs ys→∀{i:Nat} {x:α},xs[i]?=some x→∃y,ys[i]?=some y∧R x y
 | [],[],_,i,x,h=>by simp at h
 | [],_::_,h,_,_,_=>h.elim
 | _::_,[],h,_,_,_=>h.elim
 | a::r,b::q,h,0,x,hx=>by simp at hx; subst hx; exact⟨b,rfl,h.1⟩
 | a::r,b::q,h,i+1,x,hx=>by simp at hx; simpa using h.2.get hx
theorem c8p:∀{bx:List (Nat × List L)} {k:Nat} {o:Obj},(k,o)∈cD bx→∃ls,o=.box ls∧(k,ls)∈bx
 | [],k,o,h=>by simp[cD]at h
 | p::r,k,o,h=>by
  simp only[cD,mV,mb]at h;rcases h with⟨rfl,rfl⟩ | h
  ·exact⟨p.2,rfl,by simp⟩
  ·
   obtain⟨ls,h1,h2⟩:=c8p h;exact⟨ls,h1,by simp[h2]⟩
theorem e8C {es:List EI} (h:es.Pairwise λa b=>a.nil=false→b.nil=false→a.blk≠b.blk) {i j:Nat} {a b:EI} (hi:es[i]?=some a) (hj:es[j]?=some b) (ha:a.nil=false) (hb:b.nil=false) (he:a.blk=b.blk):i=j:=by
 obtain⟨hi',ei⟩:=mL.1 hi;obtain⟨hj',ej⟩:=mL.1 hj;rcases nw i j with hlt | rfl | hlt
 ·exact (nY.1 h i j hi' hj' hlt (by rw[ei]; exact ha) (by rw[ej]; exact hb) (by rw[ei,ej]; exact he)).elim
 ·rfl
 ·exact (nY.1 h j i hj' hi' hlt (by rw[ej]; exact hb) (by rw[ei]; exact ha) (by rw[ei,ej]; exact he.symm)).elim
theorem c7u (ob:List (Nat × Obj)):∀(as:List AK) (xs:List V),(iu ob as xs).length=xs.length
 | [],xs=>by cases xs<;>rfl
 | a::as,[]=>by cases a with
  | one k=>cases k<;>rfl
  | _=>rfl
 | a::as,x::xs=>by
  cases a with
  | one k=>cases k<;>simp[iu,c7u ob as xs]
  | _=>simp[iu,c7u ob as xs]
theorem e5l {β:Nat→EI} {E:Env} {F:Nat→Prop} {w:World} {ob:List (Nat × Obj)}
  (H:∀j ls l k,aL ob j=.box ls→nthO ls l=some (.own k)→∀v e u,Win e 0 e.len [v]→Win e 0 e.len [u]→At w (β j).blk ((β j).loff l) [u]→RepL E F w (.own k) [v]) :
  ∀{as:List AK} {p:List DV} {es:List EI} {v1 v2:List Value} {xs:List V},RepAs β F w as p es (v1++v2)→v1.length=as.length→All2 (RepV E F w) xs v1→All2 (RepV E F w) (iu ob as xs) v1:=by
 intro as;induction as with
 | nil =>
  intro p es v1 v2 xs h hl hx;cases xs<;>exact hx
 | cons a as ih =>
  intro p es v1 v2 xs h hl hx;cases v1 with
  | nil=>simp at hl
  | cons v v1 =>
   cases xs with
   | nil=>exact hx.elim
   | cons x xs =>
    obtain⟨p1,p2,e1,e2,v',q,rfl,rfl,hv,h1,h2⟩:=h.inv;simp only[oC,mK]at hv;obtain⟨rfl,rfl⟩:=hv;have hr:=ih h2 (by simpa using hl) hx.2;have keep:iu ob (a::as) (x::xs)=x::iu ob as xs→All2 (RepV E F w) (iu ob (a::as) (x::xs)) (v::v1):=λe=>by rw[e]; exact⟨hx.1,hr⟩
    cases a with
    | no=>exact keep rfl
    | agg ks=>exact keep rfl
    | one kk =>
     cases kk with
     | hd j l =>
      simp only[iu];refine⟨?_,hr⟩;split
      ·
       rename_i ls hls;split
       ·
        rename_i k hk;cases h1 with
        | one hne hc hk' =>
         cases hk' with
         | hd w1 w2 w3=>exact d9m hc (H j ls l k hls hk v _ _ w1 w2 w3)
       ·exact hx.1
      ·exact hx.1
     | _=>exact keep rfl
theorem j6 {C:Frm} {sg:Sg} {β:Nat→EI} {F:Nat→Prop} {w:World} {p:List DV} {es:List EI} {vs rest:List Value} {n:Nat} {s0:St} (hs:SigIn sg β F w p es vs) (he:Enter C F w sg.bx.length β es)
  (h:mkSt sg n p=some s0) {a:Act} (ha:a.tmps.toList=vs++rest) (hn:a.tmps.size=n) (hd:a.defers=[]):s0.nx=sg.bx.length+es.length∧Rel C (λk=>k<s0.nx) s0 a w:=by
 obtain⟨p1,p2,e1,e2,rfl,rfl,hA,hB⟩:=hs.ex;unfold mkSt at h;split at h
 ·
  rename_i xs b1 hb1;split at h
  ·
   rename_i bx b2 hb2;split at h
   ·
    simp only[mB]at h;subst h;obtain⟨n1,v1,v2,k1,k2,k3,k4,k5⟩:=e4m hA rfl hb1;obtain⟨n2,g1,g2⟩:=e2t hB (q:=[]) (by rw[k1.pay]; simp) hb2;have hk:=k1.trans g1;have hE:EnvOk (entE sg.bx.length β (e1++e2)) β (λj=>j) sg.bx.length sg.bx.length (e1++e2):=by
     refine⟨λj hj=>⟨by simp[entE]; omega,by simp[entE,hj]⟩,λi e hi=>?_⟩
     have hlt:=(mL.1 hi).1;refine⟨by simp only[entE]; omega,?_⟩
     simp only[entE];rw[if_neg (by omega),ni,mA,hi]; rfl
    have hbx:=g2 _ (by have:=hE.right; rw[k1.nx,k1.nb]; exact this);have hxs:=k5 _ hE.left
    -- what lies under a key
    have look:∀k,aL (cD bx++b2.ob) k=.dead∨(∃ls,k<sg.bx.length∧aL (cD bx++b2.ob) k=.box ls∧RepO (entE sg.bx.length β (e1++e2)) F w (β k) (.box ls)) ∨
      ∃e t xs,sg.bx.length≤k∧(e1++e2)[k-sg.bx.length]?=some e∧aL (cD bx++b2.ob) k=.arr t xs false∧RepArrO F w e t xs:=by
     intro k;rcases d5E (cD bx++b2.ob) k with h | h
     ·exact .inl h
     ·
      rw[hk.ob,mJ,mM]at h;rcases h with h | h
      ·
       obtain⟨ls,h1,h2⟩:=c8p h;obtain⟨i,i1,i2,i3⟩:=hbx k ls h2;rw[ml]at i2 i3;subst i2;exact .inr (.inl ⟨ls,i1,by rw[hk.ob,mJ]; exact h1,i3⟩)
      ·
       rw[pX]at h;obtain⟨e,t,xs,i1,i2,i3,i4⟩:=hk.arr.mem h;exact .inr (.inr ⟨e,t,xs,i1,i2,by rw[hk.ob,mJ]; exact i3,i4⟩)
    have ee:∀k e,sg.bx.length≤k→(e1++e2)[k-sg.bx.length]?=some e→(entE sg.bx.length β (e1++e2)).e k=e:=by
     intro k e h1 h2;simp only[entE];rw[if_neg (by omega),mA,h2]; rfl
    have eb:∀k,k<sg.bx.length→(entE sg.bx.length β (e1++e2)).e k=β k:=λk h=>by simp[entE,h]
    have hnx:b2.nx=sg.bx.length+(e1++e2).length:=hk.nx
    -- what is excl lies among the owned
    have exc:∀k,excl ((entE sg.bx.length β (e1++e2)).e k) (aL (cD bx++b2.ob) k)→(k<sg.bx.length∧(entE sg.bx.length β (e1++e2)).e k=β k) ∨
      ∃e,sg.bx.length≤k∧(e1++e2)[k-sg.bx.length]?=some e∧(entE sg.bx.length β (e1++e2)).e k=e∧e.nil=false:=by
     intro k hx;rcases look k with h | ⟨ls,h1,h2,h3⟩ | ⟨e,t,xs,h1,h2,h3,h4⟩
     ·rw[h]at hx; exact hx.elim
     ·exact .inl ⟨h1,eb k h1⟩
     ·
      rw[h3,ee k e h1 h2]at hx;exact .inr ⟨e,h1,h2,ee k e h1 h2,hx⟩
    have hM:Mem C (λk=>k<b2.nx) (entE sg.bx.length β (e1++e2)) F (cD bx++b2.ob) w:=by
     refine⟨?_,?_,?_,?_,he.fb,he.f0,he.kp,he.uf,?_,he.sz,he.os,he.tape,he.output,?_⟩
     ·
      intro k hl;rcases look k with h | ⟨ls,h1,h2,h3⟩ | ⟨e,t,xs,h1,h2,h3,h4⟩
      ·rw[h]at hl; exact hl.elim
      ·show k<_; omega
      ·
       have:=(mL.1 h2).1;show k<_; omega
     ·
      intro k;rcases look k with h | ⟨ls,h1,h2,h3⟩ | ⟨e,t,xs,h1,h2,h3,h4⟩
      ·rw[h]; trivial
      ·rw[h2,eb k h1]; exact h3
      ·
       rw[h3,ee k e h1 h2];obtain⟨q1,q2,q3,q4,q5,q6⟩:=h4;refine⟨q1,q2,q3,q4,q5,λhnil=>?_⟩
       obtain⟨cs,u,fr,ds,r1,r2,r3,r4,r5⟩:=q6 hnil;exact⟨cs,u,fr,ds,r1,r2,r3,r4,λ_=>⟨hs.ef e (nL h2) hnil,r5⟩,λh=>by simp at h⟩
     ·
      intro k k' hx hx' hb;rcases exc k hx with⟨a1,a2⟩ | ⟨e,a1,a2,a3,a4⟩<;>rcases exc k' hx' with⟨c1,c2⟩ | ⟨e',c1,c2,c3,c4⟩
      ·rw[a2,c2]at hb; exact hs.bd k k' a1 c1 hb
      ·rw[a2,c3]at hb; exact (hs.be k a1 e' (nL c2) c4 hb).elim
      ·rw[a3,c2]at hb; exact (hs.be k' c1 e (nL a2) a4 hb.symm).elim
      ·
       rw[a3,c3]at hb;have:=e8C hs.ed a2 c2 a4 c4 hb;omega
     ·
      intro k hal;have hal:k<sg.bx.length+(e1++e2).length:=hal;show k<b2.nx;rw[hnx]; exact hal
     ·
      intro k hx;rcases exc k hx with⟨a1,a2⟩ | ⟨e,a1,a2,a3,a4⟩
      ·rw[a2]; exact he.uo _ (.inl ⟨k,a1,rfl⟩)
      ·rw[a3]; exact he.uo _ (.inr ⟨e,nL a2,a4,rfl⟩)
     ·
      intro k hk';have:=he.nb;exact⟨by show k<_; omega,by rw[eb k (by omega)]; exact he.e0 k hk'⟩
    have hys:All2 (RepV (entE sg.bx.length β (e1++e2)) F w) (h7I (cD bx++b2.ob) sg.av xs) v1:=by
     unfold h7I;split
     ·
      subst k2;refine e5l (λj ls l k hj hl v e u q1 q2 q3=>?_) hA k3 hxs;rcases look j with h | ⟨ls',h1,h2,h3⟩ | ⟨e',t',xs',h1,h2,h3,h4⟩
      ·rw[h]at hj; cases hj
      ·
       rw[h2]at hj;simp only[Obj.box.injEq]at hj;subst hj;obtain⟨c,g1,g2⟩:=d2i (s:={tm:=[],ob:=cD bx++b2.ob,nx:=0}) hM h2 (by rw[← c0y]; exact hl);rw[eb j h1]at g2;obtain⟨ga,gw⟩:=g1;obtain⟨u',rfl⟩:∃u',c=[u']:=by
        obtain⟨_,a,e,_⟩:=gw;exact⟨_,e⟩
       have e1:=g2 0 u' rfl;have e2:=q3 0 u rfl;rw[e1]at e2;simp only[mB]at e2;subst e2;exact⟨ga,e5G q1 q2 gw⟩
      ·rw[h3]at hj; cases hj
     ·exact hxs
    have hyl:(h7I (cD bx++b2.ob) sg.av xs).length=xs.length:=by
     unfold h7I;split
     ·exact c7u _ _ _
     ·rfl
    generalize h7I (cD bx++b2.ob) sg.av xs=ys at hys hyl ⊢;refine⟨hnx,entE sg.bx.length β (e1++e2),F,hM,?_,?_,hd⟩
    ·
     intro t;by_cases ht:t<ys.length
     ·
      obtain⟨v,hv,hr⟩:=hys.get (mC ht);have h1:nthD bad (ys++bads (n-xs.length)) t=ys[t]:=by
       rw[eY,mA,mW ht,mC ht]; rfl
      have h2:a.tmps.getD t undef=v:=by
       have:a.tmps.toList[t]?=some v:=by rw[ha,k2,mQ,mW (mL.1 hv).1]; exact hv
       rw[my]at this;rw[ng,this]; rfl
      rw[h1,h2]; exact hr
     ·rw[e5a _ _ _ (by omega)]; exact c6y
    ·
     have h1:xs.length=v1.length:=by rw[k3,k4]
     have h2:v1.length≤n:=by
      have:=congrArg List.length ha;rw[k2,oG,hn]at this;simp only[mD]at this;omega
     simp only[mD,d9i,hn];omega
   ·simp at h
  ·simp at h
 ·simp at h
end Go.Proofs.Zz
