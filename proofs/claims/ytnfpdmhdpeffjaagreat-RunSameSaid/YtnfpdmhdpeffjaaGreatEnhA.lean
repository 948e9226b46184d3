import Derived.Test.YtnfpdmhdpeffjaaGreatEngV
set_option linter.unusedSimpArgs false
set_option linter.unusedVariables false
namespace Go.Proofs.Zz
open Go
structure h7Q (c:CS) (β:Nat→EI) (F:Nat→Prop) (w:World) (es:List EI) (q:List DV) (v:Value) (w':World) (F':Nat→Prop) (fs:List EI):Prop where
 ex:∃β' p1 p2 e1 e2 rs,(∀j,j<c.i.bx.length→β' j=β j)∧q=p1++p2∧fs=e1++e2∧RepAs β' F' w' c.r p1 e1 rs∧rs.length=c.r.length∧(match c.one with | true=>rs=[v] | false=>v=.tuple rs.toArray)∧RepBs β' F' w' c.ob 0 p2 e2
 sz:w.heap.size≤w'.heap.size
 os:w'.os=w.os
 tape:w'.tape=w.tape
 output:w'.output=w.output
 ff:∀b,F b→F' b
 fb:∀b,F' b→b<w'.heap.size
 uf:∀b,F' b→F b∨ownB c.i.bx.length β es b∨w.heap.size≤b
 kp:∀b,b<w.heap.size→¬ownB c.i.bx.length β es b→w'.heap[b]?=w.heap[b]?
 fbx:∀j,j<c.i.bx.length→¬F' (β j).blk
 ed:fs.Pairwise λa b=>a.nil=false→b.nil=false→a.blk≠b.blk
 be:∀j,j<c.i.bx.length→∀e∈fs,e.nil=false→(β j).blk≠e.blk
 ef:∀e∈fs,e.nil=false→¬F' e.blk
 fo:∀e∈fs,e.nil=false→ownB c.i.bx.length β es e.blk∨w.heap.size≤e.blk
def WrOK (P:Program) (f:Nat) (t:Ty) (p q:List DV):Prop :=
 ∃xs ys:List (Den t),p=[⟨.sl t,xs⟩]∧q=[⟨.sl t,ys⟩]∧∀(F:Nat→Prop) (w:World) (e:EI) (v:Value),RepArrO F w e t xs→Win e 0 e.len [v] →
  Calls P f #[v] w λout w'=>out=.returned (.tuple #[])∧((e.nil=true∧w'=w∧ys=[]) ∨
   (e.nil=false∧RepArrO F w' e t ys∧w.heap.size≤w'.heap.size∧(∀b,b<w.heap.size→b≠e.blk→w'.heap[b]?=w.heap[b]?)∧w'.os=w.os∧w'.tape=w.tape∧w'.output=w.output))
def eM (P:Program) (c:CS) (p q:List DV):Prop :=
 (∀args w,(callFunc c.fn args).run P w=.ok (.enter c.fn args) w) ∧
 (∀(β:Nat→EI) (F:Nat→Prop) (w:World) (es:List EI) (vs:List Value),(∀b,F b→b<w.heap.size)→vs.length=c.i.av.length→SigIn c.i β F w p es vs →
  Calls P c.fn vs.toArray w λout w'=>∃v F' fs,out=.returned v∧h7Q c β F w es q v w' F' fs) ∧
 ∀t,c.i.av=[.one (.w t)]→WrOK P c.fn t p q
theorem b5S {F F':Nat→Prop} {w:World}:∀{t:Ty},t.hasSl=false→∀{v:Den t} {cs:List Value},RepD F w t v cs→RepD F' w t v cs
 | .int _,_,_,_,h=>by rw[RepD]at h ⊢; exact h
 | .bool,_,_,_,h=>by rw[RepD]at h ⊢; exact h
 | .str,_,_,_,h=>by rw[RepD]at h ⊢; exact h
 | .unit,_,_,_,h=>by rw[RepD]at h ⊢; exact h
 | .nl,_,_,_,h=>by rw[RepD]at h ⊢; exact h
 | .pair a b,hs,_,_,h=>by
  rw[RepD]at h ⊢;simp only[Ty.hasSl,mw]at hs;obtain⟨c,d,e,h1,h2⟩:=h;exact⟨c,d,e,b5S hs.1 h1,b5S hs.2 h2⟩
 | .ar n a,hs,v,_,h=>by
  rw[RepD]at h ⊢;simp only[Ty.hasSl]at hs;exact⟨h.1,h.2.imp λx c hc=>b5S hs hc⟩
 | .sl a,hs,_,_,_=>by simp[Ty.hasSl]at hs
section
variable {β:Nat→EI} {F F':Nat→Prop} {w:World}
theorem RepK.to {k:LK} {p:List DV} {es:List EI} {cs:List Value} (h:RepK β F w k p es cs) (hF:k.hasSl=false∨∀b,F b→F' b):RepK β F' w k p es cs:=by
 cases h with
 | any h1 h2=>exact .any h1 h2
 | d h1=>exact .d (hF.elim (λhs=>b5S hs h1) (λhF=>h1.mono hF))
 | o h1 h2 =>
  refine .o h1 ?_;rcases hF with hs | hF
  ·
   obtain⟨q1,q2,q3,q4,q5,q6⟩:=h2;refine⟨q1,q2,q3,q4,q5,λhn=>?_⟩
   obtain⟨cs,u,fr,ds,k1,k2,k3,k4,k5⟩:=q6 hn;exact⟨cs,u,fr,ds,k1,k2,k3.imp λx c hc=>b5S hs hc,k4,k5⟩
  ·exact h2.mono hF
 | r h1 h2 h3=>exact hF.elim (λhs=>by simp[LK.hasSl]at hs) (λhF=>.r (hF _ h1) (h2.mono hF) h3)
 | p h1=>exact .p h1
 | f h1=>exact .f h1
 | np=>exact .np
 | cst h1=>exact .cst h1
 | hd h1 h2 h3=>exact .hd h1 h2 h3
 | oh h1=>exact .oh h1
theorem RepKs.to {ks:List LK} {p:List DV} {es:List EI} {cs:List Value} (h:RepKs β F w ks p es cs) (hF:h7L ks=false∨∀b,F b→F' b):RepKs β F' w ks p es cs:=by
 induction h with
 | nil=>exact .nil
 | cons a _ ih =>
  simp only[h7L,mw]at hF;exact .cons (a.to (hF.imp And.left id)) (ih (hF.imp And.right id))
theorem RepA.to {a:AK} {p:List DV} {es:List EI} {v:Value} (h:RepA β F w a p es v) (hF:a.hasSl=false∨∀b,F b→F' b):RepA β F' w a p es v:=by
 cases h with
 | no v=>exact .no v
 | any n v=>exact .any n v
 | one h1 h2 h3=>exact .one h1 h2 (h3.to hF)
 | agg h=>exact .agg (h.to hF)
theorem RepAs.to {as:List AK} {p:List DV} {es:List EI} {vs:List Value} (h:RepAs β F w as p es vs) (hF:as.any AK.hasSl=false∨∀b,F b→F' b):RepAs β F' w as p es vs:=by
 induction h with
 | nil vs=>exact .nil vs
 | cons a _ ih =>
  simp only[ny,mw]at hF;exact .cons (a.to (hF.imp And.left id)) (ih (hF.imp And.right id))
theorem RepBs.to {kss:List (List LK)} {j:Nat} {p:List DV} {es:List EI} (h:RepBs β F w kss j p es) (hF:kss.any h7L=false∨∀b,F b→F' b) (hn:∀b,F' b→F b):RepBs β F' w kss j p es:=by
 induction h with
 | nil j=>exact .nil j
 | cons a b c d _ ih =>
  simp only[ny,mw]at hF;exact .cons a (b.to (hF.imp And.left id)) (λh=>c (hn _ h)) d (ih (hF.imp And.right id))
end
theorem c1M:∀(l:List (Nat × Obj)) (s:St),(apply (obs l) s).tm=s.tm∧∀k,(aL (apply (obs l) s).ob k=aL s.ob k∧∀o,(k,o)∉l)∨(k,aL (apply (obs l) s).ob k)∈l
 | [],s=>⟨rfl,λk=>.inl ⟨rfl,by simp⟩⟩
 | p::r,s=>by
  obtain⟨h1,h2⟩:=c1M r {s with ob:=putO s.ob p.1 p.2};refine⟨h1,λk=>?_⟩
  show (aL (apply (obs r) {s with ob:=putO s.ob p.1 p.2}).ob k=_∧_)∨(k,aL (apply (obs r) {s with ob:=putO s.ob p.1 p.2}).ob k)∈_;rcases h2 k with⟨g1,g2⟩ | g
  ·
   simp only[co]at g1;by_cases e:p.1=k
   ·
    subst e;right
    rw[g1,if_pos rfl]; simp
   ·
    left
    rw[if_neg e]at g1;exact⟨g1,λo ho=>by
     rcases mV.1 ho with ho | ho
     ·exact e (by rw[← ho])
     ·exact g2 o ho⟩
  ·right; simp[g]
theorem c7E:∀(l:List Nat) (s:St),(apply (fa l) s).tm=s.tm∧∀k,aL (apply (fa l) s).ob k=if k∈l then .dead else aL s.ob k
 | [],s=>⟨rfl,λk=>by simp[fa,apply]⟩
 | n::r,s=>by
  obtain⟨h1,h2⟩:=c7E r {s with ob:=putO s.ob n .dead};refine⟨h1,λk=>?_⟩
  show aL (apply (fa r) {s with ob:=putO s.ob n .dead}).ob k=_;rw[h2];simp only[co];by_cases hk:k∈r
  ·simp[hk]
  ·
   by_cases e:n=k
   ·subst e; simp
   ·
    have e':¬k=n:=λh=>e h.symm
    simp[hk,e,e']
theorem d6q {ok:Nat→List DV→List DV→Prop} {s:St} {r:Wr}:∀{bw:List Nat} {wr:Wr} {k:Wr→Rd Wr},Ev ok (h7R bw wr k) s r →
  ∃fz:List (Nat × Obj),Ev ok (k (obs fz++wr)) s r∧(∀n∈bw,∃o,(n,o)∈fz)∧∀n o,(n,o)∈fz→n∈bw∧∃t xs ro,aL s.ob n=.arr t xs ro∧o=.arr t xs true
 | [],wr,k,h=>⟨[],h,by simp,by simp⟩
 | n::q,wr,k,h=>by
  simp only[h7R]at h;have h:=h.get;simp only[look]at h;split at h
  ·
   rename_i t xs ro hobj;simp only[Cn.o.injEq]at hobj;obtain⟨fz,h1,h2,h3⟩:=d6q h;have e:obs fz++(Loc.ob n,Cn.o (.arr t xs true))::wr=obs (fz++[(n,.arr t xs true)])++wr:=by
    have:∀a b:List (Nat × Obj),obs (a++b)=obs a++obs b:=by
     intro a b;induction a with
     | nil=>rfl
     | cons x y ih=>simp[obs,ih]
    rw[this]; simp[obs]
   rw[e]at h1;refine⟨_,h1,λm hm=>?_,λm o hm=>?_⟩
   ·
    rcases mV.1 hm with rfl | hm
    ·exact⟨.arr t xs true,by simp⟩
    ·
     obtain⟨o,ho⟩:=h2 m hm;exact⟨o,by simp[ho]⟩
   ·
    rcases mM.1 hm with hm | hm
    ·
     obtain⟨g1,g2⟩:=h3 m o hm;exact⟨by simp[g1],g2⟩
    ·
     simp only[mI,mb]at hm;obtain⟨rfl,rfl⟩:=hm;exact⟨by simp,t,xs,ro,hobj,rfl⟩
  ·exact h.fail.elim
theorem d8J {ren:Nat→Nat}:∀{kss:List (List LK)} {j:Nat} {b b':B} {bx:List (Nat × List L)},blBs ren kss j b=some (bx,b')→∀i,i<kss.length→∃ls,(ren (j+i),ls)∈bx
 | [],_,_,_,_,_,i,hi=>by simp at hi
 | ks::r,j,b,b',bx,h,i,hi=>by
  simp only[blBs]at h;split at h
  ·
   rename_i l1 _ _;split at h
   ·
    rename_i hq;simp only[mB,mb]at h;obtain⟨rfl,rfl⟩:=h;cases i with
    | zero=>exact⟨l1,by simp⟩
    | succ i =>
     obtain⟨ls,hl⟩:=d8J hq i (by simpa using hi);rw[show j+1+i=j+(i+1) by omega]at hl;exact⟨ls,by simp[hl]⟩
   ·simp at h
  ·simp at h
def newE (E:Env) (key:Nat) (fs:List EI):Env :=
 {e:=λk=>if key≤k∧k<key+fs.length then fs.getD (k-key) (dU .unit) else E.e k,al:=λk=>E.al k∨(key≤k∧k<key+fs.length)}
section
variable {C:Frm} {A:Nat→Prop} {E:Env} {F:Nat→Prop} {s:St} {w w':World} {c:CS} {vs:List Value} {p q:List DV} {es fs:List EI} {bs tk bw:List Nat} {F':Nat→Prop} {v:Value} {key:Nat}
theorem Fit.bsAt (hf:Fit C A E F s w c.i vs p es bs tk bw) {j:Nat} (hj:j<c.i.bx.length):nthD 0 bs j∈bs∧∃ls,aL s.ob (nthD 0 bs j)=.box ls:=by
 have hj':j<bs.length:=by rw[hf.len]; exact hj
 have:nthD 0 bs j=bs[j]:=by rw[eY,mA,mC hj']; rfl
 rw[this];have hm:bs[j]∈bs:=oK hj';exact⟨hm,hf.box _ hm⟩
theorem Fit.own_key (hf:Fit C A E F s w c.i vs p es bs tk bw) {b:Nat} (hb:ownB c.i.bx.length (λj=>E.e (nthD 0 bs j)) es b):∃n,(n∈bs∨n∈tk)∧excl (E.e n) (aL s.ob n)∧(E.e n).blk=b:=by
 rcases hb with⟨j,hj,rfl⟩ | ⟨e,he,hn,rfl⟩
 ·
  obtain⟨h1,ls,h2⟩:=hf.bsAt hj;exact⟨_,.inl h1,by rw[h2]; trivial,rfl⟩
 ·
  obtain⟨ea,ho,rfl⟩:=hf.own;obtain⟨n,h1,h2,h3⟩:=ho.key e (pX.1 he) hn;exact⟨n,.inr h1,h3,h2.symm⟩
theorem b5K (hm:Mem C A E F s.ob w) {n:Nat} (h:h7B (E.e n) (aL s.ob n)):(E.e n).blk<w.heap.size:=by
 refine hm.blk_lt ?_ ?_
 ·cases ho:aL s.ob n<;>rw[ho]at h<;>first | exact h.elim | trivial
 ·
  cases ho:aL s.ob n with
  | dead=>rw[ho]at h; exact h.elim
  | box ls=>exact .inr ⟨ls,rfl⟩
  | arr t xs ro=>rw[ho]at h; exact .inl h
theorem d3c {e:EI} {o:Obj} (h:excl e o):h7B e o:=by
 cases o with
 | dead=>exact h
 | box ls=>trivial
 | arr t xs ro=>cases ro<;>first | exact h | exact h.elim
theorem e1J (hm:Mem C A E F s.ob w):∀b,plus s.ob E F bw b→b<w.heap.size:=by
 rintro b (h | ⟨n,_,h2,rfl⟩)
 ·exact hm.fb b h
 ·exact b5K hm h2
theorem e2P (hm:Mem C A E F s.ob w):∀b,plus s.ob E F bw b→C.F0 b∨C.O b∨C.w0.heap.size≤b:=by
 rintro b (h | ⟨n,_,h2,rfl⟩)
 ·exact hm.uf b h
 ·
  by_cases hx:excl (E.e n) (aL s.ob n)
  ·exact .inr (hm.uo n hx)
  ·
   have hrp:=hm.rp n;cases ho:aL s.ob n with
   | dead=>rw[ho]at h2; exact h2.elim
   | box ls=>rw[ho]at hx; exact (hx trivial).elim
   | arr t xs ro =>
    rw[ho]at hx hrp h2;cases ro with
    | false=>exact (hx h2).elim
    | true =>
     obtain⟨_,_,_,_,_,h6⟩:=hrp;obtain⟨cs,u,fr,ds,k1,k2,k3,k4,k5,k6⟩:=h6 h2;exact hm.uf _ (k6 rfl)
theorem Fit.own_notF (hf:Fit C A E F s w c.i vs p es bs tk bw) (hm:Mem C A E F s.ob w) {b:Nat} (hb:ownB c.i.bx.length (λj=>E.e (nthD 0 bs j)) es b):¬plus s.ob E F bw b:=by
 obtain⟨n,h1,h2,rfl⟩:=hf.own_key hb;exact c6r hm h2 (h1.elim (hf.bb n) (hf.tb n))
theorem e4A (hf:Fit C A E F s w c.i vs p es bs tk bw) (hm:Mem C A E F s.ob w) (hA:∀k,key≤k→k<key+bK→¬A k)
  (hs:h7Q c (λj=>E.e (nthD 0 bs j)) (plus s.ob E F bw) w es q v w' F' fs) {xs:List V} {b1 b2:B} {bx:List (Nat × List L)}
  (h1:blAs (λj=>nthD 0 bs j) c.r {pay:=q,nx:=key,ob:=[],nb:=bs.length}=some (xs,b1)) (h2:blBs (λj=>nthD 0 bs j) c.ob 0 b1=some (bx,b2)) (hnx:b2.nx≤key+bK) (hob:c.ob.length=bs.length)
  {fz:List (Nat × Obj)} (z1:∀n o,(n,o)∈fz→n∈bw∧∃t ys ro,aL s.ob n=.arr t ys ro∧o=.arr t ys true) (z2:c.hasSl=true→∀n∈bw,∃o,(n,o)∈fz) (z3:c.hasSl=false→fz=[]) :
  ∃E'' F'',Mem C (λk=>A k∨(key≤k∧k<key+bK)) E'' F'' (apply (obs fz++(obs (cD bx)++(obs b2.ob++fa tk))) s).ob w'∧(apply (obs fz++(obs (cD bx)++(obs b2.ob++fa tk))) s).tm=s.tm ∧
   Ext E F w E'' F'' w'∧∃rs,All2 (RepV E'' F'' w') xs rs∧(match c.one with | true=>rs=[v] | false=>v=.tuple rs.toArray):=by
 obtain⟨β',p1,p2,e1,e2,rs,hβ,rfl,rfl,hRA,hrl,hv,hRB⟩:=hs.ex
 -- what may be kept from here on
 obtain⟨F'',f1,f2,f3,f4⟩:∃F'':Nat→Prop,(∀b,F b→F'' b)∧(∀b,F'' b→F' b)∧(c.hasSl=false∨∀b,F' b→F'' b) ∧
   ∀b,F'' b→F b∨ownB c.i.bx.length (λj=>E.e (nthD 0 bs j)) es b∨w.heap.size≤b∨(c.hasSl=true∧plus s.ob E F bw b):=by
  cases hsl:c.hasSl with
  | true=>exact⟨F',λb hb=>hs.ff b (.inl hb),λ_ h=>h,.inr λ_ h=>h,λb hb=>(hs.uf b hb).elim (λh=>.inr (.inr (.inr ⟨rfl,h⟩))) (λh=>.inr (h.imp id .inl))⟩
  | false=>exact⟨λb=>F b∨(F' b∧(ownB c.i.bx.length (λj=>E.e (nthD 0 bs j)) es b∨w.heap.size≤b)),λb hb=>.inl hb,λb hb=>hb.elim (λh=>hs.ff b (.inl h)) And.left,.inl rfl,
    λb hb=>hb.elim .inl (λh=>.inr (h.2.imp id .inl))⟩
 have fr:c.r.any AK.hasSl=false∨∀b,F' b→F'' b:=f3.imp (λh=>by unfold CS.hasSl at h; exact (mw.1 h).1) id
 have fo:c.ob.any h7L=false∨∀b,F' b→F'' b:=f3.imp (λh=>by unfold CS.hasSl at h; exact (mw.1 h).2) id
 obtain⟨n1,v1,v2,k1,k2,k3,k4,k5⟩:=e4m (hRA.to fr) rfl h1;obtain⟨n2,g1,g2⟩:=e2t (hRB.to fo f2) (q:=[]) (by rw[k1.pay]; simp) h2;have hk:=k1.trans g1;have hv2:v2=[]:=by
  have:=congrArg List.length k2;rw[mD,k3,hrl]at this;exact mT.1 (by omega)
 subst hv2;rw[mJ]at k2;subst k2;have hfl:(e1++e2).length≤bK:=by have:=hk.nx; simp only at this; omega
 have hfresh:∀k,key≤k→k<key+(e1++e2).length→¬E.al k:=λk a b h=>hA k a (by omega) (hm.al k h)
 have eold:∀k,E.al k→(newE E key (e1++e2)).e k=E.e k:=λk hk=>by
  simp only[newE]; rw[if_neg (λh=>hfresh k h.1 h.2 hk)]
 have enew:∀k e,key≤k→(e1++e2)[k-key]?=some e→(newE E key (e1++e2)).e k=e:=λk e a b=>by
  have:=(mL.1 b).1;simp only[newE]; rw[if_pos (by omega),mA,b]; rfl
 have bal:∀j,j<c.i.bx.length→E.al (nthD 0 bs j):=λj hj=>by
  obtain⟨_,ls,h⟩:=hf.bsAt hj;exact hm.lv _ (by rw[h]; trivial)
 have hE:EnvOk (newE E key (e1++e2)) β' (λj=>nthD 0 bs j) bs.length key (e1++e2):=by
  refine⟨λj hj=>?_,λi e hi=>?_⟩
  ·
   rw[hf.len]at hj;exact⟨.inl (bal j hj),(eold _ (bal j hj)).trans (hβ j hj).symm⟩
  ·
   have hlt:=(mL.1 hi).1;refine⟨.inr (by omega),enew (key+i) e (by omega) (by rw[ni]; exact hi)⟩
 have hbx:=g2 _ (by have:=hE.right; rw[k1.nx,k1.nb]; exact this);have hxs:=k5 _ hE.left
 -- old memory
 have notF:∀b,F b→¬ownB c.i.bx.length (λj=>E.e (nthD 0 bs j)) es b:=λb hb ho=>hf.own_notF hm ho (.inl hb)
 have hx:Ext E F w (newE E key (e1++e2)) F'' w':=⟨λk hk=>.inl hk,eold,f1,λb hb o u hu=>by
  rw[cell?_heap (w:=w) (hs.kp b (hm.fb b hb) (notF b hb))]; exact hu⟩
 -- what lies under a key now
 obtain⟨t1,l1⟩:=c1M fz s;obtain⟨t2,l2⟩:=c1M (cD bx) (apply (obs fz) s);obtain⟨t3,l3⟩:=c1M b2.ob (apply (obs (cD bx)) (apply (obs fz) s));obtain⟨t4,l4⟩:=c7E tk (apply (obs b2.ob) (apply (obs (cD bx)) (apply (obs fz) s)));have hap:apply (obs fz++(obs (cD bx)++(obs b2.ob++fa tk))) s=apply (fa tk) (apply (obs b2.ob) (apply (obs (cD bx)) (apply (obs fz) s))):=by
  rw[a6y,a6y,a6y]
 rw[hap];have look:∀k,aL (apply (fa tk) (apply (obs b2.ob) (apply (obs (cD bx)) (apply (obs fz) s)))).ob k=.dead ∨
   (∃e t ys,key≤k∧(e1++e2)[k-key]?=some e∧aL (apply (fa tk) (apply (obs b2.ob) (apply (obs (cD bx)) (apply (obs fz) s)))).ob k=.arr t ys false∧RepArrO F'' w' e t ys) ∨
   (∃j ls,j<c.i.bx.length∧k=nthD 0 bs j∧aL (apply (fa tk) (apply (obs b2.ob) (apply (obs (cD bx)) (apply (obs fz) s)))).ob k=.box ls∧RepO (newE E key (e1++e2)) F'' w' (E.e k) (.box ls)) ∨
   (c.hasSl=true∧k∈bw∧k∉tk∧k∉bs∧∃t ys ro,aL s.ob k=.arr t ys ro∧aL (apply (fa tk) (apply (obs b2.ob) (apply (obs (cD bx)) (apply (obs fz) s)))).ob k=.arr t ys true) ∨
   ((c.hasSl=true→k∉bw)∧k∉tk∧k∉bs∧aL (apply (fa tk) (apply (obs b2.ob) (apply (obs (cD bx)) (apply (obs fz) s)))).ob k=aL s.ob k):=by
  intro k;rw[l4 k];by_cases htk:k∈tk
  ·left; rw[if_pos htk]
  rw[if_neg htk];rcases (l3 k).symm with m1 | ⟨m1,m2⟩
  ·
   right; left
   rw[hk.ob,mJ,pX]at m1;obtain⟨e,t,ys,i1,i2,i3,i4⟩:=hk.arr.mem m1;rw[hk.ob,mJ];exact⟨e,t,ys,i1,i2,i3,i4⟩
  rw[m1];rcases (l2 k).symm with m3 | ⟨m3,m4⟩
  ·
   right; right; left
   obtain⟨ls,i1,i2⟩:=c8p m3;obtain⟨i,j1,j2,j3⟩:=hbx k ls i2;rw[ml]at j2 j3;have hi:i<c.i.bx.length:=by rw[← hf.len,← hob]; exact j1
   rw[hβ i hi,← j2]at j3;exact⟨i,ls,hi,j2,i1,j3⟩
  rw[m3];have hnb:k∉bs:=by
   intro hb;obtain⟨i,hi⟩:=List.mem_iff_getElem?.1 hb;have hi':=(mL.1 hi).1;obtain⟨ls,hl⟩:=d8J h2 i (by rw[hob]; exact hi');have:nthD 0 bs (0+i)=k:=by rw[ml,eY,mA,hi]; rfl
   rw[this]at hl;have key':∀(bx:List (Nat × List L)),(k,ls)∈bx→(k,Obj.box ls)∈cD bx:=by
    intro bx;induction bx with
    | nil=>simp
    | cons x y ih =>
     intro h;rcases mV.1 h with h | h
     ·rw[← h]; simp[cD]
     ·simp[cD,ih h]
   exact m4 _ (key' bx hl)
  rcases l1 k with⟨m5,m6⟩ | m5
  ·
   right; right; right; right
   refine⟨λhsl hb=>?_,htk,hnb,m5⟩
   obtain⟨o,ho⟩:=z2 hsl k hb;exact m6 o ho
  ·
   right; right; right; left
   obtain⟨i1,t,ys,ro,i2,i3⟩:=z1 _ _ m5;refine⟨?_,i1,htk,hnb,t,ys,ro,i2,i3⟩;cases hsl:c.hasSl with
   | true=>rfl
   | false=>rw[z3 hsl]at m5; simp at m5
 -- a block that is not handed over
 have keep:∀k,h7B (E.e k) (aL s.ob k)→k∉tk→k∉bs→w'.heap[(E.e k).blk]?=w.heap[(E.e k).blk]?:=by
  intro k hb ht hbs;refine hs.kp _ (b5K hm hb) λho=>?_
  obtain⟨n,a1,a2,a3⟩:=hf.own_key ho;have hne:k≠n:=by rintro rfl; exact a1.elim hbs ht
  refine hm.blk_ne a2 hne ?_ ?_ a3.symm
  ·cases hoo:aL s.ob k<;>rw[hoo]at hb<;>first | exact hb.elim | trivial
  ·
   cases hoo:aL s.ob k with
   | dead=>rw[hoo]at hb; exact hb.elim
   | box ls=>exact .inr ⟨ls,rfl⟩
   | arr t xs ro=>rw[hoo]at hb; exact .inl hb
 have apart':∀k,excl (E.e k) (aL s.ob k)→k∉tk→k∉bs→¬ownB c.i.bx.length (λj=>E.e (nthD 0 bs j)) es (E.e k).blk:=by
  intro k hx ht hbs ho;obtain⟨n,a1,a2,a3⟩:=hf.own_key ho;have:=hm.inj n k a2 hx a3;subst this;exact a1.elim hbs ht
 have rpu:∀k,k∉tk→k∉bs→(c.hasSl=true→k∉bw)→RepO (newE E key (e1++e2)) F'' w' (E.e k) (aL s.ob k):=by
  intro k ht hbs hbw;refine (hm.rp k).ext hx (λhl hn=>keep k ?_ ht hbs) (λhx' hF=>?_)
  ·
   cases ho:aL s.ob k with
   | dead=>rw[ho]at hl; exact hl.elim
   | box ls=>trivial
   | arr t ys ro=>exact hn.elim id (λ⟨ls,hls⟩=>by rw[ho]at hls; cases hls)
  ·
   rcases f4 _ hF with h | h | h | ⟨h,h'⟩
   ·exact gJ hm hx' h
   ·exact apart' k hx' ht hbs h
   ·have:=b5K hm (d3c hx'); omega
   ·exact c6r hm hx' (hbw h) h'
 have ownO:∀b,ownB c.i.bx.length (λj=>E.e (nthD 0 bs j)) es b→C.O b∨C.w0.heap.size≤b:=λb hb=>by
  obtain⟨n,_,a2,a3⟩:=hf.own_key hb;rw[← a3]; exact hm.uo n a2
 have bsx:∀j,j<c.i.bx.length→excl (E.e (nthD 0 bs j)) (aL s.ob (nthD 0 bs j)):=λj hj=>by
  obtain⟨_,ls,h⟩:=hf.bsAt hj;rw[h]; trivial
 generalize hL:(apply (fa tk) (apply (obs b2.ob) (apply (obs (cD bx)) (apply (obs fz) s)))).ob=ob' at look ⊢;have exc:∀k,excl ((newE E key (e1++e2)).e k) (aL ob' k)→(∃e,key≤k∧(e1++e2)[k-key]?=some e∧(newE E key (e1++e2)).e k=e∧e.nil=false) ∨
   (∃j,j<c.i.bx.length∧k=nthD 0 bs j∧(newE E key (e1++e2)).e k=E.e k)∨(k∉tk∧k∉bs∧(newE E key (e1++e2)).e k=E.e k∧excl (E.e k) (aL s.ob k)):=by
  intro k hx';rcases look k with h | ⟨e,t,ys,i1,i2,i3,i4⟩ | ⟨j,ls,i1,i2,i3,i4⟩ | ⟨i0,i1,i2,i3,t,ys,ro,i4,i5⟩ | ⟨i1,i2,i3,i4⟩
  ·rw[h]at hx'; exact hx'.elim
  ·
   rw[i3,enew k e i1 i2]at hx';exact .inl ⟨e,i1,i2,enew k e i1 i2,hx'⟩
  ·exact .inr (.inl ⟨j,i1,i2,eold k (by rw[i2]; exact bal j i1)⟩)
  ·rw[i5]at hx'; exact hx'.elim
  ·
   rw[i4]at hx';have hal:=hm.lv k (b3G hx');rw[eold k hal]at hx';exact .inr (.inr ⟨i2,i3,eold k hal,hx'⟩)
 refine⟨newE E key (e1++e2),F'',⟨?_,?_,?_,?_,λb hb=>hs.fb b (f2 b hb),λb hb=>f1 b (hm.f0 b hb),?_,?_,?_,nO hm.sz hs.sz,hs.os.trans hm.os,hs.tape.trans hm.tape,hs.output.trans hm.output,
  λk hk=>⟨.inl (hm.eo k hk).1,(eold k (hm.eo k hk).1).trans (hm.eo k hk).2⟩⟩,by rw[t4,t3,t2,t1],hx,_,hxs,hv⟩
 ·
  intro k hl;rcases look k with h | ⟨e,t,ys,i1,i2,i3,i4⟩ | ⟨j,ls,i1,i2,i3,i4⟩ | ⟨i0,i1,i2,i3,t,ys,ro,i4,i5⟩ | ⟨i1,i2,i3,i4⟩
  ·rw[h]at hl; exact hl.elim
  ·
   have:=(mL.1 i2).1;exact .inr (by omega)
  ·exact .inl (by rw[i2]; exact bal j i1)
  ·exact .inl (hm.lv k (by rw[i4]; trivial))
  ·rw[i4]at hl; exact .inl (hm.lv k hl)
 ·
  intro k;rcases look k with h | ⟨e,t,ys,i1,i2,i3,i4⟩ | ⟨j,ls,i1,i2,i3,i4⟩ | ⟨i0,i1,i2,i3,t,ys,ro,i4,i5⟩ | ⟨i1,i2,i3,i4⟩
  ·rw[h]; trivial
  ·
   rw[i3,enew k e i1 i2];obtain⟨q1,q2,q3,q4,q5,q6⟩:=i4;refine⟨q1,q2,q3,q4,q5,λhn=>?_⟩
   obtain⟨cs,u,fr',ds,r1,r2,r3,r4,r5⟩:=q6 hn;exact⟨cs,u,fr',ds,r1,r2,r3,r4,λ_=>⟨λh=>hs.ef e (nL i2) hn (f2 _ h),r5⟩,λh=>by simp at h⟩
  ·rw[i3,eold k (by rw[i2]; exact bal j i1)]; exact i4
  ·
   have hrp:=hm.rp k;rw[i4]at hrp;rw[i5,eold k (hm.lv k (by rw[i4]; trivial))];obtain⟨q1,q2,q3,q4,q5,q6⟩:=hrp;refine⟨q1,q2,q3,q4,q5,λhn=>?_⟩
   obtain⟨cs,u,fr',ds,r1,r2,r3,r4,r5,r6⟩:=q6 hn;have hb:h7B (E.e k) (aL s.ob k):=by rw[i4]; exact hn
   have hheap:=keep k hb i2 i3;refine⟨cs,u,fr',ds,by rw[hheap]; exact r1,r2,r3.imp λx c hc=>RepD.ext hx.fz hx.wd hc,λj u' hj=>?_,λh=>by simp at h,λ_=>?_⟩
   ·rw[cell?_heap (w:=w) hheap]; exact r4 j u' hj
   ·exact (f3.resolve_left (by simp[i0])) _ (hs.ff _ (.inr ⟨k,i1,hb,rfl⟩))
  ·
   rw[i4];cases ho:aL s.ob k with
   | dead=>trivial
   | box ls =>
    rw[eold k (hm.lv k (by rw[ho]; trivial)),← ho]; exact rpu k i2 i3 i1
   | arr t ys ro =>
    rw[eold k (hm.lv k (by rw[ho]; trivial)),← ho]; exact rpu k i2 i3 i1
 ·
  intro k k' hx1 hx2 hb;rcases exc k hx1 with⟨e,a1,a2,a3,a4⟩ | ⟨j,a1,a2,a3⟩ | ⟨a1,a2,a3,a4⟩<;>rcases exc k' hx2 with⟨e',c1,c2,c3,c4⟩ | ⟨j',c1,c2,c3⟩ | ⟨c1,c2,c3,c4⟩
  ·
   rw[a3,c3]at hb;have:=e8C hs.ed a2 c2 a4 c4 hb;omega
  ·
   rw[a3,c3,c2]at hb;exact (hs.be j' c1 e (nL a2) a4 hb.symm).elim
  ·
   rw[a3,c3]at hb;rcases hs.fo e (nL a2) a4 with h | h
   ·rw[hb]at h; exact (apart' k' c4 c1 c2 h).elim
   ·have:=b5K hm (d3c c4); omega
  ·
   rw[a3,c3,a2]at hb;exact (hs.be j a1 e' (nL c2) c4 hb).elim
  ·
   rw[a3,c3,a2,c2]at hb;have:=hm.inj _ _ (bsx j a1) (bsx j' c1) hb;rw[a2,c2,this]
  ·
   rw[a3,c3,a2]at hb;have:=hm.inj _ _ (bsx j a1) c4 hb;exact (c2 (this ▸ (hf.bsAt a1).1)).elim
  ·
   rw[a3,c3]at hb;rcases hs.fo e' (nL c2) c4 with h | h
   ·rw[← hb]at h; exact (apart' k a4 a1 a2 h).elim
   ·have:=b5K hm (d3c a4); omega
  ·
   rw[a3,c3,c2]at hb;have:=hm.inj _ _ a4 (bsx j' c1) hb;exact (a2 (this ▸ (hf.bsAt c1).1)).elim
  ·
   rw[a3,c3]at hb;exact hm.inj _ _ a4 c4 hb
 ·
  intro k hk';rcases hk' with hk' | hk'
  ·exact .inl (hm.al k hk')
  ·exact .inr ⟨hk'.1,by omega⟩
 ·
  intro b hb ho;exact (hs.kp b (oJ hb hm.sz) λh=>(ownO b h).elim ho (λh=>by omega)).trans (hm.kp b hb ho)
 ·
  intro b hb;rcases f4 b hb with h | h | h | ⟨_,h⟩
  ·exact hm.uf b h
  ·exact .inr (ownO b h)
  ·exact .inr (.inr (nO hm.sz h))
  ·exact e2P hm b h
 ·
  intro k hx1;rcases exc k hx1 with⟨e,a1,a2,a3,a4⟩ | ⟨j,a1,a2,a3⟩ | ⟨a1,a2,a3,a4⟩
  ·
   rw[a3];rcases hs.fo e (nL a2) a4 with h | h
   ·exact ownO _ h
   ·exact .inr (nO hm.sz h)
  ·rw[a3,a2]; exact hm.uo _ (bsx j a1)
  ·rw[a3]; exact hm.uo _ a4
end
section
variable {P:Program} {ok:Nat→List DV→List DV→Prop} {cx:Cx} {hi:Hi} {o:Oper}
theorem All2.append {α β:Type} {R:α→β→Prop}:∀{xs xs':List α} {ys ys':List β},All2 R xs ys→All2 R xs' ys'→All2 R (xs++xs') (ys++ys')
 | [],_,[],_,_,h=>h
 | [],_,_::_,_,h,_=>h.elim
 | _::_,_,[],_,h,_=>h.elim
 | _::_,_,_::_,_,h,h'=>⟨h.1,h.2.append h'⟩
theorem e3J {E:Env} {F:Nat→Prop} {w:World}:∀{cp:List Cp},(∀c∈cp,E.al c.k∧Steps (E.e c.k).loff c.l c.y)→All2 (RepV E F w) (capV cp) (cp.map λc=>Value.pointer (some ⟨(E.e c.k).blk,(E.e c.k).loff c.l,none⟩))
 | [],_=>trivial
 | c::r,h=>⟨⟨trivial,(h c (by simp)).1,rfl,(h c (by simp)).2⟩,e3J λx hx=>h x (by simp[hx])⟩
theorem e3x {ren:Nat→Nat} {a:AK} {b b':B} {x:V} (h:blA ren a b=some (x,b')):∀vs,x≠.tup vs:=by
 rintro vs rfl
 cases a with
 | no=>simp[blA,bad]at h
 | one k =>
  simp only[blA]at h;split at h<;>simp at h
 | agg ks =>
  simp only[blA]at h;split at h<;>simp at h
theorem d3L {ok:Nat→List DV→List DV→Prop} {s:St} {α:Type} {r:α}:∀{g:List (Nat × Nat)} {pre:List (Option Nat)} {k:List (Option Nat)→Rd α},Ev ok (h7V g pre k) s r→∃pre',pre'.length=pre.length∧Ev ok (k pre') s r
 | [],pre,k,h=>⟨pre,rfl,h⟩
 | g::gr,pre,k,h=>by
  simp only[h7V]at h;have h:=h.get;split at h
  ·
   obtain⟨pre',h1,h2⟩:=d3L h;exact⟨pre',by rw[h1,fZ]; simp,h2⟩
  ·exact h.fail.elim
theorem e6x {ren:Nat→Nat} {E:Env} {F:Nat→Prop} {w:World}:∀{as:List AK} {b b':B} {ys:List V} {rs:List Value},blAs ren as b=some (ys,b')→All2 (RepV E F w) ys rs→All2 (RepW E F w) ys rs
 | [],b,b',ys,rs,h,hr=>by
  simp only[blAs,mB,mb]at h;obtain⟨rfl,rfl⟩:=h;cases rs with
  | nil=>trivial
  | cons _ _=>exact hr.elim
 | a::as,b,b',ys,rs,h,hr=>by
  simp only[blAs]at h;split at h
  ·
   rename_i x b1 hx;split at h
   ·
    rename_i q b2 hq;simp only[mB,mb]at h;obtain⟨rfl,rfl⟩:=h;cases rs with
    | nil=>exact hr.elim
    | cons v rs =>
     refine⟨?_,e6x hq hr.2⟩;have:=hr.1;cases x with
     | tup vs=>exact (e3x hx vs rfl).elim
     | one l=>exact this
     | agg ls=>exact this
   ·simp at h
  ·simp at h
theorem e9E (hok:∀rg ix c,fc hi.cs rg ix=some c→∀p q,ok c.id p q→eM P c p q) {cl:Call} {fo:Operand} (ho:o.op=.call cl) (hc:cl.callee=.value fo) {C:Frm} {rg ix key:Nat} {A:Nat→Prop} {s:St} {a:Act} {w:World} {wr:Wr}
  {K:Act→World→Prop} {Q:Exit→Act→World→Prop} {c:CS} {t:Ty} (hcs:fc hi.cs rg ix=some c) (hwt:wrT c=some t) {E:Env} {F:Nat→Prop} (hm:Mem C A E F s.ob w) (ht:Tms E F s.tm a w)
  (h:Ev ok (ev fo λf=>evs cl.args.toList λargs=>wrS c t f args λx wr=>fin hi o.dst wr x) s wr) (hK:∀a' w',Rel C (λk=>A k∨(key≤k∧k<key+bK)) (apply wr s) a' w'→K a' w'):o.wp P a w K Q:=by
 have hci:c.i.av=[.one (.w t)]:=by
  unfold wrT at hwt;split at hwt
  ·rename_i u e; simp only[mB]at hwt; rw[e,hwt]
  ·simp at hwt
 obtain⟨X,h1,h2⟩:=db h ht;obtain⟨xs,h3,h4⟩:=iW h2 ht;unfold wrS at h4;split at h4
 rotate_left
 ·exact h4.fail.elim
 rename_i g n;split at h4
 ·exact h4.fail.elim
 rename_i hg;have hg:=mH hg;subst hg;have h4:=h4.get;simp only[look]at h4;split at h4
 rotate_left
 ·exact h4.fail.elim
 rename_i u ys0 hobj;simp only[Cn.o.injEq]at hobj;have:=dO h4;subst this;have h4:=dJ h4;obtain⟨out,hq,h4⟩:=h4.call;obtain⟨c1,_,c3⟩:=hok _ _ _ hcs _ _ hq;obtain⟨xs',zs,hp,hz,c4⟩:=c3 _ hci;simp only[mK,DV.mk.injEq,heq_eq_eq,true_and,and_true]at hp;subst hp;subst hz;have h4:=dJ h4;obtain⟨_,g1,g2⟩:=h1;simp only[mK,and_true]at g2;obtain⟨v,hv,hrv⟩:∃v,cl.args.toList.map a.eval=[v]∧RepV E F w (.one (.own n)) v:=by
  cases hl:cl.args.toList.map a.eval with
  | nil=>rw[hl]at h3; exact h3.elim
  | cons v r =>
   rw[hl]at h3;cases r with
   | nil=>exact⟨v,rfl,h3.1⟩
   | cons _ _=>exact h3.2.elim
 obtain⟨_,hal,hwin⟩:=hrv;have hrp:=hm.rp n;rw[hobj]at hrp;obtain⟨q1,q2,q3,q4,q5,q6⟩:=hrp;have hO:RepArrO F w (E.e n) u ys0:=⟨q1,q2,q3,q4,q5,λhn=>by
  obtain⟨cs,ty,fr,ds,r1,r2,r3,r4,r5,r6⟩:=q6 hn;exact⟨cs,ty,fr,ds,r1,r2,r3,r4,(r5 rfl).2⟩⟩
 have hcall:=c4 F w (E.e n) v hO hwin;unfold Oper.wp;have hrun:(execOp a.eval o).run P w=.ok (.enter c.fn #[v]) w:=by
  simp only[execOp,ho,resolve,hc,g2,Deferred.ofValue,Sem.run_bind,Sem.run_pure,Result.andThen_ok,invoke];rw[c1];congr 2;apply pO
  simpa using hv
 rw[hrun,Oper.upon_enter];refine hcall.mono λe w' hres=>?_
 obtain⟨rfl,hres⟩:=hres;have hap:(apply [(.ob n,.o (.arr u zs false))] s)={s with ob:=putO s.ob n (.arr u zs false)}:=rfl;rcases hres with⟨hn,rfl,hz⟩ | ⟨hn,hO',hsz,hold,hos,htp,hou⟩
 ·
  have hx0:ys0=[]:=mT.1 (by have:=q5 hn; omega);refine hK _ _ (iY (E':=E) (F':=F) h4 ?_ ?_ ⟨#[],rfl,trivial⟩)
  ·
   rw[hap];refine (hm.same λk=>?_).mono λ_ h=>.inl h
   simp only;rw[co];split
   ·rename_i e; subst e; rw[hobj,hz,hx0]
   ·rfl
  ·rw[hap]; exact ht
 ·
  have hk:excl (E.e n) (aL s.ob n):=by rw[hobj]; exact hn
  obtain⟨m,hx⟩:=hm.write2 (o:=.arr u zs false) hk hos htp hou hsz hold trivial (λ_=>hk) (λhx=>by
   obtain⟨p1,p2,p3,p4,p5,p6⟩:=hO';refine⟨p1,p2,p3,p4,p5,λhn=>?_⟩
   obtain⟨cs,ty,fr,ds,r1,r2,r3,r4,r5⟩:=p6 hn;exact⟨cs,ty,fr,ds,r1,r2,r3,r4,λ_=>⟨gJ hm hk,r5⟩,λh=>by simp at h⟩)
  refine hK _ _ (iY (E':=E) (F':=F) h4 ?_ ?_ ⟨#[],rfl,trivial⟩)
  ·rw[hap]; exact m.mono λ_ h=>.inl h
  ·rw[hap]; exact ht.ext hx
theorem e7P (hok:∀rg ix c,fc hi.cs rg ix=some c→∀p q,ok c.id p q→eM P c p q) {cl:Call} {fo:Operand} (ho:o.op=.call cl) (hc:cl.callee=.value fo):OpP P ok cx hi o:=by
 intro C rg ix key A s a w wr K Q h hr hA hK;simp only[cv,ho,hc]at h;obtain⟨E,F,hm,ht⟩:=hr;split at h
 rotate_left
 ·exact h.fail.elim
 rename_i c hcs;split at h
 ·
  rename_i t hwt;exact e9E hok ho hc hcs hwt hm ht h hK
 obtain⟨X,h1,h2⟩:=db h ht;obtain⟨xs,h3,h4⟩:=iW h2 ht;unfold h8N at h4;split at h4
 rotate_left
 ·exact h4.fail.elim
 rename_i g cp;obtain⟨_,g1,g2⟩:=h1;simp only[mK,and_true]at g2;split at h4
 ·exact h4.fail.elim
 rename_i hg;have hg:=mH hg;subst hg;obtain⟨pre,hpre,h4⟩:=d3L h4;obtain⟨p,es,bs,tk,bw,k1,k2⟩:=d9x (hpre.trans (c8e _)) h4 hm (h3.append (e3J g1));obtain⟨out,hq,k1⟩:=k1.call;obtain⟨c1,c2,_⟩:=hok _ _ _ hcs _ _ hq
 dsimp only at k1
 split at k1
 ·exact k1.fail.elim
 rename_i ys b1 hb1;split at k1
 ·exact k1.fail.elim
 rename_i bx b2 hb2;split at k1
 rotate_left
 ·exact k1.fail.elim
 split at k1
 ·exact k1.fail.elim
 rename_i hnx;simp only[mE,qB,nk]at hnx;split at k1
 ·exact k1.fail.elim
 rename_i x hx;have hal:∀{xs:List V} {ys:List Value},All2 (RepV E F w) xs ys→xs.length=ys.length:=by
  intro xs;induction xs with
  | nil=>intro ys h; cases ys with
   | nil=>rfl
   | cons _ _=>exact h.elim
  | cons x xs ih=>intro ys h; cases ys with
   | nil=>exact h.elim
   | cons y ys=>simp[ih h.2]
 have hcall:=c2 _ _ w es _ (e1J hm) (by rw[mD,← hal h3,mr]; exact hnx.2) k2.sig
 -- what is frozen
 obtain⟨fz,z0,z1,z2,z3⟩:∃fz:List (Nat × Obj),Ev ok (fin hi o.dst (obs fz++(obs (cD bx)++(obs b2.ob++fa tk))) x) s wr∧(∀n o,(n,o)∈fz→n∈bw∧∃t ys ro,aL s.ob n=.arr t ys ro∧o=.arr t ys true) ∧
   (c.hasSl=true→∀n∈bw,∃o,(n,o)∈fz)∧(c.hasSl=false→fz=[]):=by
  cases hsl:c.hasSl with
  | false =>
   rw[hsl]at k1;exact⟨[],k1,by simp,by simp,λ_=>rfl⟩
  | true =>
   rw[hsl]at k1;obtain⟨fz,f1,f2,f3⟩:=d6q k1;exact⟨fz,f1,f3,λ_=>f2,by simp⟩
 unfold Oper.wp;have hrun:(execOp a.eval o).run P w=.ok (.enter c.fn (cl.args.toList.map a.eval++cp.map λc=>Value.pointer (some ⟨(E.e c.k).blk,(E.e c.k).loff c.l,none⟩)).toArray) w:=by
  simp only[execOp,ho,resolve,hc,g2,Deferred.ofValue,Sem.run_bind,Sem.run_pure,Result.andThen_ok,invoke];rw[c1];congr 2;apply pO;simp
 rw[hrun,Oper.upon_enter];refine hcall.mono λe w' hres=>?_
 obtain⟨v,F',fs,rfl,hs⟩:=hres;obtain⟨E'',F'',m1,m2,m3,rs,m4,m5⟩:=e4A k2 hm hA hs hb1 hb2 hnx.1.1 hnx.1.2 z1 z2 z3;refine hK _ _ (iY z0 m1 ?_ ?_)
 ·rw[m2]; exact ht.ext m3
 ·
  cases hone:c.one with
  | true =>
   rw[hone]at hx m5;simp only[if_true]at hx;simp only at m5;subst m5;split at hx
   ·
    simp only[mB]at hx; subst hx;exact m4.1
   ·simp at hx
  | false =>
   rw[hone]at hx m5;simp only[mN,if_false,mB]at hx;simp only at m5;subst hx m5;refine⟨_,rfl,?_⟩
   simpa using e6x hb1 m4
end
section
variable {P:Program} {ok:Nat→List DV→List DV→Prop} {cx:Cx} {hi:Hi}
theorem e9g (hti:TIok P cx) (hok:∀rg ix c,fc hi.cs rg ix=some c→∀p q,ok c.id p q→eM P c p q) (o:Oper):OpP P ok cx hi o:=by
 cases ho:o.op with
 | move x=>exact e6O ho
 | assign x=>exact e1U ho
 | pick c a b=>exact e6Z ho
 | alloc t=>exact e5u hti ho
 | box t x=>exact e8V hti ho
 | build t ps=>exact e5U hti ho
 | buildSlice t n ps=>exact d2t hti ho
 | load t x=>exact e7j hti ho
 | store t x y=>exact e5X hti ho
 | nilCheck x=>exact d7D ho
 | binOp op t x y u=>exact e5e hti ho
 | unOp op t x=>exact e7I ho
 | convert s d x=>exact e1c hti ho
 | makeFunc fn fs cs=>cases fn with
  | func f=>exact d8y ho
  | _ =>
   intro C rg ix key A s a w wr K Q h;simp only[cv,ho]at h;exact h.fail.elim
 | makeSlice t n c=>exact d6d hti ho
 | slice t x lo hi mx=>exact e6g hti ho
 | fieldAddr t x f=>exact d6a hti ho
 | field t x f=>exact e5F hti ho
 | indexAddr t x y=>exact d5f hti ho
 | index t x y=>exact e5i hti ho
 | extract x i=>exact e1s ho
 | call c=>cases hc:c.callee with
  | builtin b=>cases b with
   | len=>exact e8M hti ho hc
   | append=>exact e3r hti ho hc
   | copy=>exact e7h hti ho hc
   | clear=>exact e5m hti ho hc
   | min=>exact e9c ho hc
   | max=>exact e9l ho hc
   | _ =>
    intro C rg ix key A s a w wr K Q h;simp only[cv,ho,hc]at h;exact h.fail.elim
  | value f=>exact e7P hok ho hc
  | invoke r n =>
   intro C rg ix key A s a w wr K Q h;simp only[cv,ho,hc]at h;exact h.fail.elim
 | _ =>
  intro C rg ix key A s a w wr K Q h;simp only[cv,ho]at h;exact h.fail.elim
theorem e9f (hti:TIok P cx) (hok:∀rg ix c,fc hi.cs rg ix=some c→∀p q,ok c.id p q→eM P c p q) (C:Frm) (Q:Exit→Act→World→Prop) (rg:Nat) (ops:Array Oper) (base:Nat) :
  OpOk P ok Q C ops (jj cx hi rg ops.toList base) base:=by
 intro ix s wr rd A a w K hix hrd hr hk hK;have hev:Ev ok (jj cx hi rg ops.toList base ix) s wr:=⟨rd,hrd⟩;unfold jj at hev;have hget:ops[ix]?=some ops[ix]:=oY hix;have hget':ops.toList[ix]?=some ops[ix]:=by rw[my]; exact hget
 rw[hget']at hev;simp only at hev;unfold wpOp;rw[hget];simp only;have hop:=e9g (ok:=ok) hti hok ops[ix];have go:Ev ok (cv cx hi rg ix (base+bK*ix) ops[ix]) s wr→ops[ix].wp P a w K Q:=λh=>hop C rg ix _ A s a w wr K Q h hr (λk h1 h2=>hk k ⟨h1,h2⟩) hK
 have skip:wr=(match (motive:=Option Nat→Wr) ops[ix].dst with | none=>[] | some d=>[(.tmp d,.v (.tup []))])→K (a.put ops[ix].dst undef) w:=by
  intro hwr;obtain⟨E,F,hm,ht⟩:=hr;apply hK;cases hd:ops[ix].dst with
  | none =>
   rw[hd]at hwr;subst hwr;exact⟨E,F,hm.mono λ_ h=>.inl h,ht.put_none undef⟩
  | some d =>
   rw[hd]at hwr;subst hwr;exact⟨E,F,hm.mono λ_ h=>.inl h,ht.put d (x:=.tup []) ⟨#[],rfl,trivial⟩⟩
 have off:Ev ok (match (motive:=Option Nat→Rd Wr) ops[ix].dst with | none=>.ret [] | some d=>.ret [(.tmp d,.v (.tup []))]) s wr→wr=(match (motive:=Option Nat→Wr) ops[ix].dst with | none=>[] | some d=>[(.tmp d,.v (.tup []))]):=by
  intro h;cases hd:ops[ix].dst with
  | none=>rw[hd]at h; exact h.ret
  | some d=>rw[hd]at h; exact h.ret
 unfold opG at hev
 dsimp only at hev
 split at hev
 ·
  rename_i hg;rw[if_pos (by simp[Region.wanted,hg])];exact .inl (go hev)
 ·
  rename_i j want hg;split at hev
  ·
   rename_i d hd;have h:=hev.get;simp only[look]at h;split at h
   ·
    rename_i b hb;simp only[Cn.v.injEq]at hb;have hy:yielded ops a.tmps j=some b:=by
     obtain⟨E,F,hm,ht⟩:=hr;have:=ht.at_ d;rw[hb]at this;have:=c8U this;have hdst:(ops[j]?).bind (·.dst)=some d:=by
      simp only[h7J,eY]at hd;rw[mA,nW,my]at hd;cases hj:ops[j]? with
      | none=>rw[hj]at hd; simp at hd
      | some x=>rw[hj]at hd; simpa using hd
     unfold yielded;rw[hdst];have ht':a.tmps[d]?=some (.bool b):=by
      rw[ng]at this;cases hx:a.tmps[d]? with
      | none=>rw[hx]at this; simp[undef]at this
      | some v=>rw[hx]at this; simpa using this
     simp[ht']
    split at h
    ·
     rcases h.ite with⟨hbb,h9⟩ | ⟨hbb,h9⟩<;>subst hbb
     ·
      rw[if_pos (by simp[Region.wanted,hg,hy])];exact .inl (go h9)
     ·
      rw[if_neg (by simp[Region.wanted,hg,hy])];exact skip (off h9)
    ·
     rcases h.ite with⟨hbb,h9⟩ | ⟨hbb,h9⟩<;>subst hbb
     ·
      rw[if_neg (by simp[Region.wanted,hg,hy])];exact skip (off h9)
     ·
      rw[if_pos (by simp[Region.wanted,hg,hy])];exact .inl (go h9)
   ·
    rename_i hb;simp only[Cn.v.injEq]at hb;have hy:yielded ops a.tmps j=none:=by
     obtain⟨E,F,hm,ht⟩:=hr;have:=ht.at_ d;rw[hb]at this;obtain⟨xs,hx,_⟩:=this;have hdst:(ops[j]?).bind (·.dst)=some d:=by
      simp only[h7J,eY]at hd;rw[mA,nW,my]at hd;cases hj:ops[j]? with
      | none=>rw[hj]at hd; simp at hd
      | some x=>rw[hj]at hd; simpa using hd
     unfold yielded;rw[hdst];rw[ng]at hx;cases hq:a.tmps[d]? with
     | none=>simp[hq]
     | some v=>rw[hq]at hx; simp at hx; subst hx; simp[hq]
    rw[if_neg (by simp[Region.wanted,hg,hy])];exact skip (off h)
   ·exact h.fail.elim
  ·exact hev.fail.elim
end
theorem c4F {P:Program} {Q:Exit→Act→World→Prop} {c:Code} (J:Nat→Act→World→Prop) {n:Nat} {a:Act} {w:World} (h0:J n a w)
  (round:∀n a w,J n a w→c.wp P (Exit.then (λa' w'=>∃m,m<n∧J m a' w') Q) a w):(Code.loop c).wp P Q a w:=by
 intro b k cs;have key:∀n a w,J n a w→∃e a' w',Q e a' w'∧Arrives P (lone (b.at a (.code c::.inLoop c::k)) cs w) b k cs e a' w':=by
  intro n;induction n using Nat.strongRecOn with
  | _ n ih =>
   intro a w hJ;obtain⟨e,a1,w1,hq,harr⟩:=round n a w hJ b (.inLoop c::k) cs;cases e with
   | normal =>
    obtain⟨m,hlt,hJ1⟩:=hq;obtain⟨e2,a2,w2,hq2,harr2⟩:=ih m hlt a1 w1 hJ1;exact⟨e2,a2,w2,hq2,.of_steps (Go.Steps.trans harr (.one step_inLoop)) harr2⟩
   | exit id=>exact⟨_,a1,w1,hq,.pass (x:=.inLoop c) rfl (λ_ _=>.inl (by simp)) harr⟩
   | goto l=>exact⟨_,a1,w1,hq,.pass (x:=.inLoop c) rfl (λ_ _=>.inl (by simp)) harr⟩
   | ret=>exact⟨_,a1,w1,hq,.pass (x:=.inLoop c) rfl (λ_ _=>.inl (by simp)) harr⟩
   | panic ch=>exact⟨_,a1,w1,hq,.pass (x:=.inLoop c) rfl (λ_ _=>.inl (by simp)) harr⟩
   | outgrown=>exact⟨_,a1,w1,hq,.pass (x:=.inLoop c) rfl (λ_ _=>.inl (by simp)) harr⟩
 obtain⟨e,a',w',hq,harr⟩:=key _ a w h0;exact⟨e,a',w',hq,.of_steps (.one step_loop) harr⟩
section
variable {ok:Nat→List DV→List DV→Prop} {C:Frm} {A:Nat→Prop} {E:Env} {F:Nat→Prop} {s:St} {w:World} {α:Type} {r:α}
theorem b4I:∀n,(upto n).length=n
 | 0=>rfl
 | n+1=>by simp[upto,b4I n]
theorem d8W:∀n k,k<n→(upto n)[k]?=some k
 | 0,k,h=>by omega
 | n+1,k,h=>by
  by_cases e:k=n
  ·
   subst e;rw[upto,mU (by rw[b4I]; exact mG _),b4I]; simp
  ·
   rw[upto,mW (by rw[b4I]; omega)];exact d8W n k (by omega)
theorem e2p {nb:Nat} {bs:List Nat} {pay x:List DV} (h:Ev ok (kept nb bs pay) s x):x=pay∧nb≤bs.length∧∀j,j<nb→nthD 0 bs j=j:=by
 unfold kept at h;split at h
 ·
  rename_i he;have he:=eU he;rw[ft]at he;have hlen:=congrArg List.length he;rw[b4I,nB]at hlen;refine⟨h.ret,by omega,λj hj=>?_⟩
  have:=d8W nb j hj;rw[← he,pG,if_pos hj]at this;rw[eY,mA,this]; rfl
 ·exact h.fail.elim
theorem Fit.enter {sg:Sg} {vs:List Value} {p:List DV} {es:List EI} {bs tk bw:List Nat} (hf:Fit C A E F s w sg vs p es bs tk bw) (hm:Mem C A E F s.ob w) (hn:C.nb≤bs.length) (hk:∀j,j<C.nb→nthD 0 bs j=j) :
  Enter C (plus s.ob E F bw) w sg.bx.length (λj=>E.e (nthD 0 bs j)) es:=by
 refine⟨e1J hm,λb hb=>.inl (hm.f0 b hb),hm.kp,e2P hm,λb hb=>?_,hm.sz,hm.os,hm.tape,hm.output,by rw[← hf.len]; exact hn,λk hk'=>?_⟩
 ·
  rcases hb with⟨j,hj,rfl⟩ | ⟨e,he,hn,rfl⟩
  ·
   have hj':j<bs.length:=by rw[hf.len]; exact hj
   have:nthD 0 bs j=bs[j]:=by rw[eY,mA,mC hj']; rfl
   obtain⟨ls,h⟩:=hf.box _ (oK hj');show C.O (E.e (nthD 0 bs j)).blk∨C.w0.heap.size≤(E.e (nthD 0 bs j)).blk;rw[this];exact hm.uo _ (by rw[h]; trivial)
  ·
   obtain⟨ea,ho,rfl⟩:=hf.own;obtain⟨n,h1,h2,h3⟩:=ho.key e (pX.1 he) hn;rw[h2]; exact hm.uo n h3
 ·simp only[hk k hk']; exact (hm.eo k hk').2
theorem c2G (hm:Mem C A E F s.ob w):∀n,n≤C.nb→All2 (RepV E F w) (h7i n) ((upto n).map λk=>Value.pointer (some ⟨(E.e k).blk,(E.e k).loff 0,none⟩))
 | 0,_=>trivial
 | n+1,h=>by
  simp only[h7i,upto,mv];refine (c2G hm n (by omega)).append ⟨⟨trivial,(hm.eo n (by omega)).1,rfl,?_⟩,trivial⟩;intro d hd;simp at hd;subst hd;simp
theorem RepAs.split {β:Nat→EI} {G:Nat→Prop}:∀{as bs:List AK} {p:List DV} {es:List EI} {vs:List Value},RepAs β G w (as++bs) p es vs →
  ∃p1 p2 e1 e2 v1 v2,p=p1++p2∧es=e1++e2∧vs=v1++v2∧v1.length=as.length∧RepAs β G w as p1 e1 v1∧RepAs β G w bs p2 e2 v2
 | [],bs,p,es,vs,h=>⟨[],p,[],es,[],vs,rfl,rfl,rfl,rfl,.nil [],h⟩
 | a::as,bs,p,es,vs,h=>by
  obtain⟨p1,p2,e1,e2,v,q,rfl,rfl,rfl,h1,h2⟩:=h.inv;obtain⟨p3,p4,e3,e4,v3,v4,rfl,rfl,rfl,h3,h4,h5⟩:=RepAs.split h2;exact⟨p1++p3,p4,e1++e3,e4,v::v3,v4,by simp,by simp,rfl,by simp[h3],.cons h1 h4,h5⟩
theorem d0W {β:Nat→EI} {G:Nat→Prop}:∀{n:Nat} {p:List DV} {es:List EI} {vs:List Value},RepAs β G w (jL n) p es vs→p=[]∧es=[]
 | 0,p,es,vs,h=>h.inv
 | n+1,p,es,vs,h=>by
  obtain⟨p1,p2,e1,e2,v1,v2,rfl,rfl,rfl,_,h4,h5⟩:=RepAs.split (as:=jL n) h;obtain⟨rfl,rfl⟩:=d0W h4;obtain⟨p3,p4,e3,e4,v,q,rfl,rfl,rfl,h6,h7⟩:=h5.inv;obtain⟨rfl,rfl⟩:=h7.inv;cases h6 with
  | one _ _ hk=>cases hk; exact⟨rfl,rfl⟩
theorem d3U:∀n,(jL n).length=n
 | 0=>rfl
 | n+1=>by simp[jL,d3U n]
theorem SigIn.strip {sg:Sg} {nb:Nat} {β:Nat→EI} {G:Nat→Prop} {p:List DV} {es:List EI} {v1 v2:List Value} (h:SigIn (sg.at_ nb) β G w p es (v1++v2)) (hl:v1.length=nb):SigIn sg β G w p es v2:=by
 obtain⟨p1,p2,e1,e2,rfl,rfl,hA,hB⟩:=h.ex;obtain⟨p3,p4,e3,e4,v3,v4,rfl,rfl,hv,h3,h4,h5⟩:=RepAs.split (as:=jL nb) hA;obtain⟨rfl,rfl⟩:=d0W h4;rw[d3U]at h3;obtain⟨rfl,rfl⟩:=nr hv (by rw[hl,h3]);exact⟨⟨p4,p2,e4,e2,by simp,by simp,h5,hB⟩,h.bd,h.ed,h.be,h.ef⟩
theorem e5J {E:Env} {F:Nat→Prop} {tm:List V} {a:Act} (ht:Tms E F tm a w):All2 (RepV E F w) tm a.tmps.toList:=by
 have key:∀(xs:List V) (ys:List Value),xs.length=ys.length→(∀t,t<xs.length→RepV E F w (nthD bad xs t) (ys.getD t undef))→All2 (RepV E F w) xs ys:=by
  intro xs;induction xs with
  | nil=>intro ys h _; cases ys with
   | nil=>trivial
   | cons _ _=>simp at h
  | cons x xs ih=>intro ys h hh; cases ys with
   | nil=>simp at h
   | cons y ys =>
    refine⟨by simpa[nthD] using hh 0 (by simp),ih ys (by simpa using h) λt ht=>?_⟩
    have:=hh (t+1) (by simpa using ht)
    simpa[nthD] using this
 refine key _ _ (by rw[ht.tl]; simp) λt _=>?_
 have:=ht.at_ t;rw[ng]at this;rw[mA,my];exact this
theorem i6 {ct:CT} (hct:CTok ok ct) {nt:Nat} {sg:Sg} {a:Act} {k:List DV→Option Rs} {q:Rs} (h:fR nt C.nb ct sg s k=some q) (hr:Rel C A s a w) :
  ∃p β G es,k p=some q∧SigIn sg β G w p es a.tmps.toList∧Enter C G w sg.bx.length β es∧a.tmps.size=nt∧a.defers=[]:=by
 unfold fR at h;split at h
 ·
  rename_i hl;have hl:=mH hl;obtain⟨x,rd,h1,h2⟩:=c1j hct h;obtain⟨E,F,hm,ht⟩:=hr;obtain⟨p,es,bs,tk,bw,k1,k2⟩:=e2R ⟨rd,h1⟩ hm ((c2G hm C.nb (mG _)).append (e5J ht));obtain⟨rfl,k3,k4⟩:=e2p k1;have e:=k2.enter hm k3 k4;exact⟨x,_,_,es,h2,k2.sig.strip (by simp[b4I]),e,by rw[← ht.tl]; exact hl,ht.df⟩
 ·simp at h
end
end Go.Proofs.Zz
