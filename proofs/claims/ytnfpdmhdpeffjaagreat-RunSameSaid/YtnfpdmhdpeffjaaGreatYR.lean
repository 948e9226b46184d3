import Derived.Test.YtnfpdmhdpeffjaaGreatYQ
set_option linter.unusedSimpArgs false
set_option linter.unusedVariables false
set_option maxRecDepth 100000
namespace Go.Proofs.Zz
open Go
section
variable {p:aw} {o:List Int} {s:ao} {m0:List Int} {n j m i k ka ke:Nat} {R:List am} {x:aa} {e hal:Bool} {pos:bc} {dn:Int} {cf:ay}
theorem h1l {s:ao} {e:Bool} {d:aI} (h:sideM s e d=true):0≤d.A5∧d.A5≤2000000000000:=by
 unfold sideM at h;simp only[mE]at h;have h1:=h.2.2.1;simp only[allB,mt,nT,mE,most]at h1;have h2:=of_decide_eq_true h1.2.2.1;omega
theorem ib (s:ao) (d:aI):(cj d).A6=goM s d.A6 false:=(if_neg (by simp)).symm
theorem g8v (d:aI) (r v y:Int):(setM d r v y).A4=d.A4:=by unfold setM; split<;>rfl
theorem g8o {d:aI} {r v y:Int} (h:d.B1.length=16) {q:Int} (hq:1≤q∧q≤15):(setM d r v y).B1.getD q.toNat 0=if q=r then v else d.B1.getD q.toNat 0:=by
 unfold setM;by_cases hr:1≤r∧r≤15
 ·
  rw[if_pos hr];show (d.B1.set r.toNat v).getD q.toNat 0=_;rw[kN _ _ _ _ (by omega)];by_cases e:q=r
  ·rw[if_pos (by omega),if_pos e]
  ·rw[if_neg (by omega),if_neg e]
 ·rw[if_neg hr,if_neg (by omega)]
theorem g8w (d:aI) (r v y:Int):(setM d r v y).B1.length=d.B1.length∧(setM d r v y).A8.length=d.A8.length:=by
 unfold setM;split
 ·exact⟨mp,mp⟩
 ·exact⟨rfl,rfl⟩
theorem Cos.nextE (h:Spl p o s) (c:Cos p o s m0 R x n j ka m i ke) (hd:x.E.A4=false) (hpc:(runG p m0 m).pc<p.Code.length) (hnn:m≤1000000000) (hi:i=(sndR o (insG p m0 m)).length) (hl:lstS true o (insG p m0 m) (runG p m0 m).pc 0≠[]) (h8:ae (insG p m0 m).1≠8) (ht:trS p o m0 true m=0) {y:aa}
  (fr:y={x with E:=y.E,B9:=y.B9,C9:=y.C9,C6:=y.C6,C8:=y.C8})
  (hpos:y.E.A6=goM s (kx s true x.E.A6).1 (goes (runG p m0 m) (insG p m0 m))) (hh:y.E.A4=false) (hdn:y.E.A5=x.E.A5+1)
  (habq:x.C6=abr p o m0 m++y.C6) (hebq:y.C8=x.C8++ebr p o m0 m) (hpts:y.C9=x.C9++pts p m0 m)
  (hld:∃vs:List Int,evq (fch p o m0) n=evq (fch p o m0) (m+1)++vs∧Slots R y.B9 x.Mem x.C0 vs)
  (hre:∀r:Int,1≤r→r≤15→o.getD r.toNat 0=2→y.E.B1.getD r.toNat 0=(runG p m0 (m+1)).regs r) (h16:y.E.B1.length=16) :
  Cos p o s m0 R y n j ka (m+1) 0 (ke+1):=by
 obtain⟨pa,pe,aeq,abq,ebq,mc,re,tr⟩:=c;rw[hd]at pe;have pe2:=pe.next h hpc hnn hi hl h8 ht
 rw[← hpos,← hh,← hdn]at pe2;have eA:y.A=x.A:=by rw[fr]
 have e1:y.C7=x.C7:=by rw[fr]
 have e2:y.B0=x.B0:=by rw[fr]
 have e3:y.Mem=x.Mem:=by rw[fr]
 have e4:y.A2=x.A2:=by rw[fr]
 have e5:y.A9=x.A9:=by rw[fr]
 have e6:y.C0=x.C0:=by rw[fr]
 refine⟨by rw[eA]; exact pa,pe2,by rw[e1,← g9Z hi]; exact aeq,?_,?_,⟨by rw[e3,e4]; exact mc.mem,by rw[e4,e2]; exact mc.wr,?_,by rw[e3,e6]; exact hld,by rw[eA,e3]; exact mc.lo⟩,⟨hre,λt ht=>absurd ht (by omega),h16⟩,by rw[e5]; exact tr⟩
 ·
  show _=(evq (abr p o m0) m++abr p o m0 m)++y.C6;rw[abq,habq,mQ]
 ·
  show evq (ebr p o m0) m++ebr p o m0 m=_;rw[ebq,hebq,mQ]
 ·
  obtain⟨cn,p1,p2⟩:=mc.pt;refine⟨cn,?_,by rw[e4,e2]; exact p2⟩
  show evq (pts p m0) m++pts p m0 m=_;rw[p1,hpts,mQ]
theorem g9R (hn:NextOk s) (hb:hasM s x.E.A6.A7=true) (hw:¬(x.E.A4=true∨x.E.C3>x.A1)) (hf:(kx s true x.E.A6).2=false) {kc:ak} {st:Int} (hx:aT s true x.E.A6=(kc,st,true)) :
  aG cf s x=if dk x st=true∨eg x.E kc x.A1=false then {x with E:={x.E with A6:=(kx s true x.E.A6).1}} else actE cf s kc st {x with E:={x.E with A6:=(kx s true x.E.A6).1}}:=by
 unfold aG;rw[at_cell hn hb hw hf,hx];simp only[mO];have hfr:eg ({x.E with A6:=(kx s true x.E.A6).1}:aI) kc x.A1=eg x.E kc x.A1:=rfl;rw[hfr];cases dk x st<;>cases eg x.E kc x.A1<;>rfl
theorem g9Y {l:List Int} {f:Int→Int} {t:Nat} (h:t<l.length):(l.map f).getD t 0=f (l.getD t 0):=by
 rw[mA,nW,mC h,mA,mC h]; rfl
theorem Slots.pop {l:List aO} {mem vs:List Int} {tags v:Int} (h:Slots R l mem tags (v::vs)) (h0:(l.getD 0 aO.z).2.1=true):Slots R (l.drop 1) mem tags vs∧(l.getD 0 aO.z).2.2.1=v:=by
 have hl:=h.ln;rw[mP]at hl;have g:=λt=>g8r l aO.z t
 refine⟨⟨by rw[mq]; omega,?_,?_,?_,?_,?_⟩,h.fl 0 (by omega) h0⟩
 ·
  intro t ht hf;rw[mq]at ht;rw[g]at hf ⊢;exact h.fl (t+1) (by omega) hf
 ·
  intro t ht hf;rw[mq]at ht;rw[g]at hf ⊢;exact h.em (t+1) (by omega) hf
 ·
  intro q hq h1 h2;obtain⟨t,t1,t2,t3⟩:=h.cl q hq h1 h2;cases t with
  | zero=>rw[h0]at t3; cases t3
  | succ t=>exact⟨t,by rw[mq]; omega,by rw[g]; exact t2,by rw[g]; exact t3⟩
 ·
  intro t u h1 h2;rw[mq]at h2;rw[g,g];exact h.ti (t+1) (u+1) (by omega) (by omega)
 ·
  intro t ht;rw[mq]at ht;rw[g];exact h.tb (t+1) (by omega)
theorem g8L {n:Nat} (hpc:(runG p m0 n).pc<p.Code.length) {r:Int}:(runG p m0 (n+1)).regs r=rgsG (runG p m0 n) (insG p m0 n) r:=by rw[iQ hpc]
theorem Cos.actE_last (h:Spl p o s) (c:Cos p o s m0 R x n j ka m i ke) (hd:x.E.A4=false) (hpc:(runG p m0 m).pc<p.Code.length) (hnn:m≤1000000000) (hi:i=(sndR o (insG p m0 m)).length) (hl:lstS true o (insG p m0 m) (runG p m0 m).pc 0≠[]) (hn:NextOk s) (hbk:hasM s x.E.A6.A7=true) (hf:(kx s true x.E.A6).2=false) (hdb:0≤x.E.A5∧x.E.A5≤2000000000000)
  {off:Int} {kc:ak} (hk:lstS true o (insG p m0 m) (runG p m0 m).pc off=[kc]) :
  ∃m' i',m≤m'∧Cos p o s m0 R (actE cf s kc m {x with E:={x.E with A6:=(kx s true x.E.A6).1}}) n j ka m' i' (ke+1):=by
 have hdone:w.i64 (x.E.A5+1)=x.E.A5+1:=wI (by omega) (by omega);have hr:=jR h.right hpc;obtain⟨q1,q2⟩:=g9Q hr;obtain⟨⟨d0,d1⟩,_⟩:=iZ hr;have hf0:=g9w hr;have hf8:=(kQ (insG p m0 m).1).2;have c0:Cos p o s m0 R {x with E:={x.E with A6:=(kx s true x.E.A6).1}} n j ka m i (ke+1):=⟨c.pa,(c.pe.settled hn hbk).mono,c.aeq,c.abq,c.ebq,⟨c.mc.mem,c.mc.wr,c.mc.pt,c.mc.ld,c.mc.lo⟩,c.re,c.tr⟩;have stay:∀y:aa,y={x with E:={x.E with A6:=(kx s true x.E.A6).1}}→∃m' i',m≤m'∧Cos p o s m0 R y n j ka m' i' (ke+1):=λy e=>⟨m,i,mG _,by rw[e]; exact c0⟩
 have val:∀r:Int,(r=0∨((1≤r∧r≤15)∧(o.getD r.toNat 0=1→r∈sndR o (insG p m0 m))))→getM ({x.E with A6:=(kx s true x.E.A6).1}:aI) r=gv (runG p m0 m) r:=λr hr=>RegE.val (d:={x.E with A6:=(kx s true x.E.A6).1}) h c.re hi hr
 have rd:∀r:Int,r∈aY (insG p m0 m)→(o.getD r.toNat 0=1→r∈sndR o (insG p m0 m))→(r=0∨((1≤r∧r≤15)∧(o.getD r.toNat 0=1→r∈sndR o (insG p m0 m)))):=λr h1 h2=>.inr ⟨eF _ r h1,h2⟩
 have own1:∀r:Int,r∈aY (insG p m0 m)→o.getD r.toNat 0=1→r∈cZ (insG p m0 m) o:=λr h1 h2=>(g9q _ _ _).2 ⟨h1,by rw[h0Q (eF _ r h1).1 (eF _ r h1).2]; exact h2⟩
 have re1:=c.re.re;have l16:=c.re.l16;have ld0:ae (insG p m0 m).1≠4→∃vs:List Int,evq (fch p o m0) n=evq (fch p o m0) (m+1)++vs∧Slots R x.B9 x.Mem x.C0 vs:=λh4=>by
  rw[gC (f:=fch p o m0) (n:=m) (by unfold fch; rw[if_neg (by omega)])]; exact c.mc.ld
 have hgo:ae (insG p m0 m).1≤5→goes (runG p m0 m) (insG p m0 m)=false:=λh5=>by
  unfold goes;rw[decide_eq_false (by omega),decide_eq_false (by omega)]; rfl
 unfold lstS at hk;rw[if_pos rfl]at hk;unfold lstE at hk;rw[hr,if_neg (by simp)]at hk;by_cases f3:ae (insG p m0 m).1≤3
 ·
  rw[if_pos f3]at hk;by_cases hs:cX (insG p m0 m) o=1
  ·rw[if_pos hs]at hk; cases hk
  rw[if_neg hs]at hk;have hk:=(mY hk).1;have hsr:sndR o (insG p m0 m)=cZ (insG p m0 m) o:=by unfold sndR; rw[hr,if_neg (by simp),if_pos f3,if_neg hs]
  have va:getM ({x.E with A6:=(kx s true x.E.A6).1}:aI) (insG p m0 m).2.2.1=gv (runG p m0 m) (insG p m0 m).2.2.1:=val _ (q1.elim .inl λg=>rd _ g λg2=>by rw[hsr]; exact own1 _ g g2);have vb:getM ({x.E with A6:=(kx s true x.E.A6).1}:aI) (insG p m0 m).2.2.2.1=gv (runG p m0 m) (insG p m0 m).2.2.2.1:=val _ (q2.elim .inl λg=>rd _ g λg2=>by rw[hsr]; exact own1 _ g g2);subst hk;unfold actE;rw[if_pos (show (bJ 1 (insG p m0 m) (runG p m0 m).pc off).1=1 from rfl)];show ∃m' i',m≤m'∧Cos p o s m0 R (if (doM (insG p m0 m) (getM ({x.E with A6:=(kx s true x.E.A6).1}:aI) (insG p m0 m).2.2.1) (getM ({x.E with A6:=(kx s true x.E.A6).1}:aI) (insG p m0 m).2.2.2.1)).2=true then _ else _) n j ka m' i' (ke+1)
  have hdo:doM (insG p m0 m) (getM ({x.E with A6:=(kx s true x.E.A6).1}:aI) (insG p m0 m).2.2.1) (getM ({x.E with A6:=(kx s true x.E.A6).1}:aI) (insG p m0 m).2.2.2.1)=gDo (runG p m0 m) (insG p m0 m):=by rw[va,vb]; rfl
  cases hg:(gDo (runG p m0 m) (insG p m0 m)).2 with
  | true =>
   have htr:bX (runG p m0 m) (insG p m0 m)=0:=by unfold bX; rw[if_pos f3,if_pos hg]
   rw[if_pos (by rw[hdo]; exact hg)];refine⟨m+1,0,by omega,c.nextE h hd hpc hnn hi hl (by omega) (by unfold trS; rw[if_pos f3,if_pos (by simp[hs])]; exact htr) rfl ?_ ?_ (by show w.i64 ((setM _ _ _ _).A5+1)=_; rw[gG]; exact hdone) (by unfold abr; rw[if_neg (by omega)]; rfl) (by unfold ebr; rw[if_neg (by omega),mJ]) (by unfold pts; rw[if_neg (by omega),mJ]) (ld0 (by omega)) ?_ ?_⟩
   ·rw[ib s,d9e,hgo (by omega)]
   ·
    show (setM _ _ _ _).A4=false;rw[g8v]; exact hd
   ·
    intro r h1 h2 h3;show (setM _ _ _ _).B1.getD r.toNat 0=_;rw[g8o (by exact l16) ⟨h1,h2⟩,g8L hpc];unfold rgsG;rw[if_neg (show ¬bX (runG p m0 m) (insG p m0 m)≠0 by rw[htr]; simp),if_pos f3];unfold updG;show (if r=(insG p m0 m).2.1 then (doM (insG p m0 m) (getM ({x.E with A6:=(kx s true x.E.A6).1}:aI) (insG p m0 m).2.2.1) (getM ({x.E with A6:=(kx s true x.E.A6).1}:aI) (insG p m0 m).2.2.2.1)).1 else x.E.B1.getD r.toNat 0)=_
    rw[hdo];by_cases hD:r=(insG p m0 m).2.1
    ·rw[if_pos hD,if_pos hD]
    ·rw[if_neg hD,if_neg hD]; exact re1 r h1 h2 h3
   ·
    show (setM _ _ _ _).B1.length=16;rw[(g8w _ _ _ _).1]; exact l16
  | false =>
   have htr:bX (runG p m0 m) (insG p m0 m)=3:=by unfold bX; rw[if_pos f3,if_neg (by simp[hg])]
   rw[if_neg (by rw[hdo,hg]; simp),gz];refine⟨m,i,mG _,c0.pa,c0.pe,c0.aeq,c0.abq,c0.ebq,⟨c0.mc.mem,c0.mc.wr,c0.mc.pt,c0.mc.ld,c0.mc.lo⟩,c0.re,?_⟩;refine c0.tr.note ⟨m,rfl,.inl ⟨hpc,.inr ?_⟩,rfl⟩;unfold trS;rw[if_pos f3,if_pos (by simp[hs]),htr]
 rw[if_neg f3]at hk;by_cases f4:ae (insG p m0 m).1=4
 ·
  rw[if_pos f4]at hk;cases ho:onEM o (insG p m0 m).2.1 with
  | false=>rw[ho,if_neg (by simp)]at hk; cases hk
  | true =>
  rw[ho,if_pos rfl]at hk;have hk:=(mY hk).1;subst hk;unfold actE;rw[if_neg (show ¬(bJ 7 (insG p m0 m) (runG p m0 m).pc off).1=1 from (by decide:¬((7:Int)=1))),if_neg (show ¬(bJ 7 (insG p m0 m) (runG p m0 m).pc off).1=6 from (by decide:¬((7:Int)=6))),if_pos (show (bJ 7 (insG p m0 m) (runG p m0 m).pc off).1=7 from rfl)];show ∃m' i',m≤m'∧Cos p o s m0 R (if (popM x.B9).2.2=false then _ else _) n j ka m' i' (ke+1)
  by_cases hp:(popM x.B9).2.2=false
  ·rw[if_pos hp]; exact stay _ rfl
  rw[if_neg hp];have hpop:¬(x.B9.length=0∨(x.B9.getD 0 aO.z).2.1=false):=by
   intro hh;unfold popM at hp;rw[if_pos hh]at hp;exact hp rfl
  have e1:popM x.B9=(x.B9.drop 1,(x.B9.getD 0 aO.z).2.2.1,true):=by unfold popM; rw[if_neg hpop]
  obtain⟨vs,v1,v2⟩:=c.mc.ld;have hfc:fch p o m0 m=[bW (runG p m0 m).mem (insG p m0 m).1 (c9 (runG p m0 m) (insG p m0 m))]:=by unfold fch; rw[if_pos ⟨f4,ho⟩]
  cases vs with
  | nil=>have:=v2.ln; simp at this; omega
  | cons v vs =>
  obtain⟨a1,a2⟩:=g9N _ v1 hfc;have hmn:=h1e _ v1;obtain⟨s1,s2⟩:=v2.pop (by have:=hpop; simp only[not_or]at this; simpa using this.2);have htr:bX (runG p m0 m) (insG p m0 m)=0:=by
   have:=(c.pa.ps m hmn).2.2;unfold trS at this;rw[if_neg f3]at this
   simpa using this
  refine⟨m+1,0,by omega,c.nextE h hd hpc hnn hi hl (by omega) (by unfold trS; rw[if_neg f3,if_pos rfl]) rfl ?_ ?_ (by show w.i64 ((setM _ _ _ _).A5+1)=_; rw[gG]; exact hdone) (by unfold abr; rw[if_neg (by omega)]; rfl) (by unfold ebr; rw[if_neg (by omega),mJ]) (by unfold pts; rw[if_neg (by omega),mJ]) ⟨vs,a2,by rw[e1]; exact s1⟩ ?_ ?_⟩
  ·rw[ib s,d9e,hgo (by omega)]
  ·
   show (setM _ _ _ _).A4=false;rw[g8v]; exact hd
  ·
   intro r h1 h2 h3;show (setM _ _ _ _).B1.getD r.toNat 0=_;rw[g8o (by exact l16) ⟨h1,h2⟩,g8L hpc];unfold rgsG;rw[if_neg (show ¬bX (runG p m0 m) (insG p m0 m)≠0 by rw[htr]; simp),if_neg f3,if_pos f4];unfold updG;show (if r=(insG p m0 m).2.1 then (popM x.B9).2.1 else x.E.B1.getD r.toNat 0)=_;rw[e1];by_cases hD:r=(insG p m0 m).2.1
   ·rw[if_pos hD,if_pos hD]; exact s2.trans a1
   ·rw[if_neg hD,if_neg hD]; exact re1 r h1 h2 h3
  ·
   show (setM _ _ _ _).B1.length=16;rw[(g8w _ _ _ _).1]; exact l16
 rw[if_neg f4]at hk;have keep:∀r:Int,1≤r→r≤15→o.getD r.toNat 0=2→x.E.B1.getD r.toNat 0=(runG p m0 (m+1)).regs r:=λr h1 h2 h3=>by rw[h7W (.inr (by omega)) hpc]; exact re1 r h1 h2 h3
 have ht0:trS p o m0 true m=0:=by unfold trS; rw[if_neg f3,if_pos rfl]
 by_cases f5:ae (insG p m0 m).1=5
 ·
  rw[if_pos f5]at hk;have hk:=(mY hk).1;subst hk;unfold actE;rw[if_neg (show ¬(aM 8 (insG p m0 m).2.2.2.1 (runG p m0 m).pc off).1=1 from (by decide:¬((8:Int)=1))),if_neg (show ¬(aM 8 (insG p m0 m).2.2.2.1 (runG p m0 m).pc off).1=6 from (by decide:¬((8:Int)=6))),if_neg (show ¬(aM 8 (insG p m0 m).2.2.2.1 (runG p m0 m).pc off).1=7 from (by decide:¬((8:Int)=7))),if_pos (show (aM 8 (insG p m0 m).2.2.2.1 (runG p m0 m).pc off).1=8 from rfl)];show ∃m' i',m≤m'∧Cos p o s m0 R (if len x.C9<cf.C9 then _ else _) n j ka m' i' (ke+1)
  by_cases hq:len x.C9<cf.C9
  ·
   rw[if_pos hq];have hsr:sndR o (insG p m0 m)=if ownM o (insG p m0 m).2.2.2.1=1 then [(insG p m0 m).2.2.2.1] else []:=by unfold sndR; rw[hr,if_neg (by simp),if_neg f3,if_pos f5]
   have vb:getM ({x.E with A6:=(kx s true x.E.A6).1}:aI) (insG p m0 m).2.2.2.1=gv (runG p m0 m) (insG p m0 m).2.2.2.1:=val _ (q2.elim .inl λg=>rd _ g λg2=>by
    rw[hsr,if_pos (by rw[h0Q (eF _ _ g).1 (eF _ _ g).2]; exact g2)]; simp)
   refine⟨m+1,0,by omega,c.nextE h hd hpc hnn hi hl (by omega) ht0 rfl ?_ hd hdone (by unfold abr; rw[if_neg (by omega)]; rfl) (by unfold ebr; rw[if_neg (by omega),mJ]) ?_ (ld0 (by omega)) keep l16⟩
   ·rw[ib s,hgo (by omega)]
   ·
    show x.C9++[getM ({x.E with A6:=(kx s true x.E.A6).1}:aI) (insG p m0 m).2.2.2.1]=_;unfold pts;rw[if_pos f5,vb]
  ·rw[if_neg hq]; exact stay _ rfl
 rw[if_neg f5]at hk;have hpt:pts p m0 m=[]:=by unfold pts; rw[if_neg f5]
 by_cases f6:ae (insG p m0 m).1=6
 ·
  rw[if_pos f6]at hk;have hgo:goes (runG p m0 m) (insG p m0 m)=gTk (runG p m0 m) (insG p m0 m):=by
   unfold goes;rw[decide_eq_false (by omega),decide_eq_true f6]; simp
  cases ha:bY o (aY (insG p m0 m)) with
  | false =>
   rw[ha,if_pos rfl]at hk;have hk:=(mY hk).1;subst hk;unfold actE;rw[if_neg (show ¬(aM 10 0 (runG p m0 m).pc off).1=1 from (by decide:¬((10:Int)=1))),if_neg (show ¬(aM 10 0 (runG p m0 m).pc off).1=6 from (by decide:¬((10:Int)=6))),if_neg (show ¬(aM 10 0 (runG p m0 m).pc off).1=7 from (by decide:¬((10:Int)=7))),if_neg (show ¬(aM 10 0 (runG p m0 m).pc off).1=8 from (by decide:¬((10:Int)=8))),if_neg (show ¬(aM 10 0 (runG p m0 m).pc off).1=9 from (by decide:¬((10:Int)=9))),if_pos (show (aM 10 0 (runG p m0 m).pc off).1=10 from rfl)];show ∃m' i',m≤m'∧Cos p o s m0 R (if x.C6.length=0 then _ else _) n j ka m' i' (ke+1)
   have hab:abr p o m0 m=[gTk (runG p m0 m) (insG p m0 m)]:=by unfold abr; rw[if_pos ⟨f6,ha⟩]
   cases hA:x.C6 with
   | nil=>rw[if_pos (show ([]:List Bool).length=0 from rfl)]; exact stay _ (by rw[hA])
   | cons b br =>
    rw[if_neg (by simp)];have h1:=c.abq;rw[hA]at h1;obtain⟨a1,a2⟩:=g9N _ h1 hab;refine⟨m+1,0,by omega,c.nextE h hd hpc hnn hi hl (by omega) ht0 rfl ?_ hd hdone ?_ (by unfold ebr; rw[if_neg (by rw[ha]; simp),mJ]) (by rw[hpt,mJ]) (ld0 f4) keep l16⟩
    ·rw[hgo,← a1]; rfl
    ·rw[hA,hab,a1]; rfl
  | true =>
   rw[ha,if_neg (by simp)]at hk;have hk:=(mY hk).1;subst hk;have hsr:sndR o (insG p m0 m)=cZ (insG p m0 m) o:=by unfold sndR; rw[hr,if_neg (by simp),if_neg f3,if_neg f5,if_pos f6,ha,if_neg (by simp)]
   have va:getM ({x.E with A6:=(kx s true x.E.A6).1}:aI) (insG p m0 m).2.2.1=gv (runG p m0 m) (insG p m0 m).2.2.1:=val _ (q1.elim .inl λg=>rd _ g λg2=>by rw[hsr]; exact own1 _ g g2);have vb:getM ({x.E with A6:=(kx s true x.E.A6).1}:aI) (insG p m0 m).2.2.2.1=gv (runG p m0 m) (insG p m0 m).2.2.2.1:=val _ (q2.elim .inl λg=>rd _ g λg2=>by rw[hsr]; exact own1 _ g g2);unfold actE;rw[if_neg (show ¬(bJ 9 (insG p m0 m) (runG p m0 m).pc off).1=1 from (by decide:¬((9:Int)=1))),if_neg (show ¬(bJ 9 (insG p m0 m) (runG p m0 m).pc off).1=6 from (by decide:¬((9:Int)=6))),if_neg (show ¬(bJ 9 (insG p m0 m) (runG p m0 m).pc off).1=7 from (by decide:¬((9:Int)=7))),if_neg (show ¬(bJ 9 (insG p m0 m) (runG p m0 m).pc off).1=8 from (by decide:¬((9:Int)=8))),if_pos (show (bJ 9 (insG p m0 m) (runG p m0 m).pc off).1=9 from rfl)];show ∃m' i',m≤m'∧Cos p o s m0 R (if len x.C8≥cf.C8 then _ else {x with E:=goD s x.A1 ({x.E with A6:=(kx s true x.E.A6).1}:aI) (fX (insG p m0 m).1 (getM ({x.E with A6:=(kx s true x.E.A6).1}:aI) (insG p m0 m).2.2.1) (getM ({x.E with A6:=(kx s true x.E.A6).1}:aI) (insG p m0 m).2.2.2.1)),C8:=x.C8++[fX (insG p m0 m).1 (getM ({x.E with A6:=(kx s true x.E.A6).1}:aI) (insG p m0 m).2.2.1) (getM ({x.E with A6:=(kx s true x.E.A6).1}:aI) (insG p m0 m).2.2.2.1)]}) n j ka m' i' (ke+1)
   by_cases hq:len x.C8≥cf.C8
   ·rw[if_pos hq]; exact stay _ rfl
   ·
    rw[if_neg hq,va,vb];exact⟨m+1,0,by omega,c.nextE h hd hpc hnn hi hl (by omega) ht0 rfl (by rw[hgo]; rfl) hd hdone (by unfold abr; rw[if_neg (by rw[ha]; simp)]; rfl) (by unfold ebr; rw[if_pos ⟨f6,ha⟩]; rfl) (by rw[hpt,mJ]) (ld0 f4) keep l16⟩
 rw[if_neg f6]at hk;have hab:abr p o m0 m=[]:=by unfold abr; rw[if_neg (by omega)]
 have heb:ebr p o m0 m=[]:=by unfold ebr; rw[if_neg (by omega)]
 by_cases f7:ae (insG p m0 m).1=7
 ·
  rw[if_pos f7]at hk;have hk:=(mY hk).1;subst hk;unfold actE;rw[if_neg (show ¬(aM 11 0 (runG p m0 m).pc off).1=1 from (by decide:¬((11:Int)=1))),if_neg (show ¬(aM 11 0 (runG p m0 m).pc off).1=6 from (by decide:¬((11:Int)=6))),if_neg (show ¬(aM 11 0 (runG p m0 m).pc off).1=7 from (by decide:¬((11:Int)=7))),if_neg (show ¬(aM 11 0 (runG p m0 m).pc off).1=8 from (by decide:¬((11:Int)=8))),if_neg (show ¬(aM 11 0 (runG p m0 m).pc off).1=9 from (by decide:¬((11:Int)=9))),if_neg (show ¬(aM 11 0 (runG p m0 m).pc off).1=10 from (by decide:¬((11:Int)=10))),if_pos (show (aM 11 0 (runG p m0 m).pc off).1=11 from rfl)];exact⟨m+1,0,by omega,c.nextE h hd hpc hnn hi hl (by omega) ht0 rfl (by unfold goes; rw[decide_eq_true f7]; rfl) hd hdone (by rw[hab]; rfl) (by rw[heb,mJ]) (by rw[hpt,mJ]) (ld0 f4) keep l16⟩
 ·
  rw[if_neg f7]at hk;have hk:=(mY hk).1;subst hk;unfold actE;rw[if_neg (show ¬(aM 12 0 (runG p m0 m).pc off).1=1 from (by decide:¬((12:Int)=1))),if_neg (show ¬(aM 12 0 (runG p m0 m).pc off).1=6 from (by decide:¬((12:Int)=6))),if_neg (show ¬(aM 12 0 (runG p m0 m).pc off).1=7 from (by decide:¬((12:Int)=7))),if_neg (show ¬(aM 12 0 (runG p m0 m).pc off).1=8 from (by decide:¬((12:Int)=8))),if_neg (show ¬(aM 12 0 (runG p m0 m).pc off).1=9 from (by decide:¬((12:Int)=9))),if_neg (show ¬(aM 12 0 (runG p m0 m).pc off).1=10 from (by decide:¬((12:Int)=10))),if_neg (show ¬(aM 12 0 (runG p m0 m).pc off).1=11 from (by decide:¬((12:Int)=11))),if_pos (show (aM 12 0 (runG p m0 m).pc off).1=12 from rfl)];have pe0:Pl p o s m0 true (kx s true x.E.A6).1 false x.E.A5 m i (ke+1):=by have g:=(c.pe.settled hn hbk).mono; rw[hd]at g; exact g
  have pe1:=pe0.halt (by omega) hpc (g8X hn hbk hf);rw[← hdone]at pe1;exact⟨m,i,mG _,c0.pa,pe1,c0.aeq,c0.abq,c0.ebq,⟨c0.mc.mem,c0.mc.wr,c0.mc.pt,c0.mc.ld,c0.mc.lo⟩,c0.re,c0.tr⟩
theorem Cos.runE (h:Spl p o s) (c:Cos p o s m0 R x n j ka m i ke) (hr:bu cf s x=true) (hb:p.Code.length*(ke+1)≤1000000000):∃m' i',m≤m'∧Cos p o s m0 R (aG cf s x) n j ka m' i' (ke+1):=by
 have hn:=h.next.1
 have hbk:=ie (jA hr);have hdb:=h1l (jA hr);have hdone:w.i64 (x.E.A5+1)=x.E.A5+1:=wI (by omega) (by omega);by_cases hw:x.E.A4=true∨x.E.C3>x.A1
 ·
  unfold aG;rw[d8k hw,if_pos (.inl rfl)];exact⟨m,i,mG _,{c with pe:=c.pe.mono}⟩
 have hd:x.E.A4=false:=by
  cases hh:x.E.A4 with
  | false=>rfl
  | true=>exact absurd (.inl hh) hw
 obtain⟨m1,i1,hle,c,here⟩:=c.normE h hd hb _ m i (mG _)
 suffices hs:∃m' i',m1≤m'∧Cos p o s m0 R (aG cf s x) n j ka m' i' (ke+1) by
  obtain⟨m',i',h1,h2⟩:=hs;exact⟨m',i',by omega,h2⟩
 have hlt:=WAt.lt h c.pe.wt;have hnn:m1≤1000000000:=by have:=c.pe.bd; rw[nF]at hb; omega
 have c0:Cos p o s m0 R {x with E:={x.E with A6:=(kx s true x.E.A6).1}} n j ka m1 i1 (ke+1):=⟨c.pa,(c.pe.settled hn hbk).mono,c.aeq,c.abq,c.ebq,⟨c.mc.mem,c.mc.wr,c.mc.pt,c.mc.ld,c.mc.lo⟩,c.re,c.tr⟩;rcases here with⟨hpc,hj⟩ | hpc
 ·
  rcases hj with hj | ⟨hj,hl⟩
  ·
   obtain⟨hf,off,hx⟩:=c.pe.send h hpc hnn hj;rw[g9R hn hbk hw hf hx];split
   ·exact⟨m1,i1,mG _,c0⟩
   unfold actE;rw[if_neg (show ¬(aM (sndK true) ((sndR o (insG p m0 m1)).getD i1 0) (runG p m0 m1).pc off).1=1 by show ¬sndK true=1; decide),if_pos (show (aM (sndK true) ((sndR o (insG p m0 m1)).getD i1 0) (runG p m0 m1).pc off).1=6 from rfl)];show ∃m' i',m1≤m'∧Cos p o s m0 R (if x.C7.length=0 then _ else _) n j ka m' i' (ke+1)
   cases hA:x.C7 with
   | nil=>rw[if_pos (show ([]:List Int).length=0 from rfl),← hA]; exact⟨m1,i1,mG _,c0⟩
   | cons a ar =>
    rw[if_neg (by simp)];have h1:=c.aeq;rw[hA]at h1;obtain⟨a1,a2⟩:=h0R 0 _ h1 (by rw[iP]; exact hj);have hrm:(sndR o (insG p m0 m1)).getD i1 0∈sndR o (insG p m0 m1):=ck 0 hj;have ha:a=(runG p m0 m1).regs ((sndR o (insG p m0 m1)).getD i1 0):=by
     rw[a1];unfold sv;rw[g9Y hj,h0S _ (g8M hrm).1]
    obtain⟨hb1,hb2⟩:=g8M hrm;have pe:=c.pe;rw[hd]at pe;have l16:=c.re.l16;refine⟨m1,i1+1,mG _,c.pa,?_,a2,c.abq,c.ebq,⟨c.mc.mem,c.mc.wr,c.mc.pt,c.mc.ld,c.mc.lo⟩,⟨?_,?_,?_⟩,c.tr⟩
    ·
     have g:=(pe.on1 h hpc hnn hj).mono;show Pl p o s m0 true (cj (setM _ _ _ _)).A6 (setM _ _ _ _).A4 (w.i64 ((setM _ _ _ _).A5+1)) m1 (i1+1) (ke+1);rw[ib s,d9e,g8v,gG,hdone];show Pl p o s m0 true (goM s (kx s true x.E.A6).1 false) x.E.A4 (x.E.A5+1) m1 (i1+1) (ke+1);rw[hd];exact g
    ·
     intro r g1 g2 g3;show (setM _ _ _ _).B1.getD r.toNat 0=_;rw[g8o (by exact l16) ⟨g1,g2⟩,if_neg]
     ·exact c.re.re r g1 g2 g3
     ·
      rintro e
      have e:r=(sndR o (insG p m0 m1)).getD i1 0:=e;rw[← e,g3]at hb2;omega
    ·
     intro t ht;have htl:t<(sndR o (insG p m0 m1)).length:=by omega
     obtain⟨g1,g2⟩:=g8M (ck 0 htl);show (setM _ _ _ _).B1.getD _ 0=_;rw[g8o (by exact l16) g1];show (if (sndR o (insG p m0 m1)).getD t 0=(sndR o (insG p m0 m1)).getD i1 0 then a else _)=_;split
     ·rename_i e; rw[e,ha]
     ·
      rename_i e;refine c.re.ve t ?_;by_cases e2:t=i1
      ·rw[e2]at e; exact absurd rfl e
      ·omega
    ·
     show (setM _ _ _ _).B1.length=16;rw[(g8w _ _ _ _).1]; exact l16
  ·
   obtain⟨hf,off,kc,hk,hx⟩:=c.pe.last h hpc hnn hj hl;rw[g9R hn hbk hw hf hx];split
   ·exact⟨m1,i1,mG _,c0⟩
   ·exact c.actE_last h hd hpc hnn hj hl hn hbk hf hdb hk
 ·
  obtain⟨q,q1,q2,q3,q4⟩:=c.pe.fell h hpc hnn;have hf:(kx s true x.E.A6).2=true:=by rw[q1]
  obtain⟨a1,a2⟩:=d8m hn hbk hw hf;unfold aG;rw[if_pos (.inl a1),a2,gz];refine⟨m1,i1,mG _,c0.pa,c0.pe,c0.aeq,c0.abq,c0.ebq,⟨c0.mc.mem,c0.mc.wr,c0.mc.pt,c0.mc.ld,c0.mc.lo⟩,c0.re,?_⟩;refine c0.tr.note ⟨m1,by rw[q2],.inr ⟨rfl,hpc⟩,?_⟩
  rw[q1,q4];exact q3
end
section
variable {p:aw} {o:List Int} {s:ao} {m0:List Int} {n j m i k ka ke:Nat} {R R':List am} {x:aa} {e hal:Bool} {pos:bc} {dn:Int} {cf:ay}
theorem g9W {f:Int→Int} {r v q:Int} (h:U32 (f q)) (hv:U32 v):U32 (updG f r v q):=by
 unfold updG;by_cases e:q=r
 ·rw[if_pos e]; exact hv
 ·rw[if_neg e]; exact h
theorem g9P (p:aw) (m0:List Int):∀(n:Nat) (r:Int),U32 ((runG p m0 n).regs r)
 | 0,r=>⟨by show (0:Int)≤0; omega,by show (0:Int)≤4294967295; omega⟩
 | n+1,r=>by
  have ih:=g9P p m0 n;have hg:∀r,U32 (gv (runG p m0 n) r):=by
   intro r;unfold gv;split
   ·exact ih r
   ·exact⟨by show (0:Int)≤0; omega,by show (0:Int)≤4294967295; omega⟩
  show U32 ((stG p (runG p m0 n)).regs r);unfold stG;split
  ·
   show U32 (rgsG _ _ r);unfold rgsG;split
   ·exact ih r
   ·
    split
    ·exact g9W (ih r) (e2V _ (hg _) (hg _))
    ·
     split
     ·exact g9W (ih r) (g7E _ _ _)
     ·exact ih r
  ·exact ih r
theorem h1c (n:Nat) (r:Int):U32 (gv (runG p m0 n) r):=by
 unfold gv;split
 ·exact g9P p m0 n r
 ·exact⟨by show (0:Int)≤0; omega,by show (0:Int)≤4294967295; omega⟩
theorem g9U (p:aw) (m0:List Int):∀n:Nat,(∀t,t<n→(runG p m0 t).pc<p.Code.length∧(ae (insG p m0 t).1=5→bX (runG p m0 t) (insG p m0 t)=0))→(runG p m0 n).mem=((evq (qst p m0) n).map (·.2)).foldl wrOf m0
 | 0,_=>rfl
 | n+1,h=>by
  have ih:=g9U p m0 n (λt ht=>h t (by omega));obtain⟨h1,h2⟩:=h n (by omega);rw[iQ h1];show gMem _ _=((evq (qst p m0) n++qst p m0 n).map _).foldl wrOf m0;rw[mv,ot,← ih];unfold gMem qst;by_cases h5:ae (insG p m0 n).1=5
  ·rw[if_pos ⟨h5,h2 h5⟩,if_pos h5]; rfl
  ·rw[if_neg (λg=>h5 g.1),if_neg h5]; rfl
theorem h0a (p:aw) (m0:List Int):∀n:Nat,(runG p m0 n).mem.length=m0.length
 | 0=>rfl
 | n+1=>by
  have ih:=h0a p m0 n;show (stG p (runG p m0 n)).mem.length=_;unfold stG;split
  ·
   show (gMem _ _).length=_;unfold gMem;split
   ·rw[g8t]; exact ih
   ·exact ih
  ·exact ih
theorem h0q (h:Spl p o s) (hpc:(runG p m0 n).pc<p.Code.length):badI o (insG p m0 n)=false:=by
 have hc:=h.cl;unfold dK at hc;simp only[mE,mu]at hc;have:=pR.1 hc.2.2.2 (insG p m0 n) (ck af.z hpc)
 simpa using this
theorem h0Z (h:Spl p o s) {l:List Int} (hl:∀r∈l,1≤r∧r≤15) (ha:bY o l=false):∀r∈l,o.getD r.toNat 0=1:=by
 intro r hr;obtain⟨h1,h2⟩:=hl r hr;rcases g8h h h1 h2 with g | g
 ·exact g
 ·
  have:=pR.1 ha r hr;unfold onEM at this;rw[decide_eq_true (show r>0 by omega),g]at this;simp at this
theorem valA {d:aI} {mem:List Int} (g:Loads p o m0 R d.B1 d.A8 mem n) {r:Int} (hr:r=0∨((1≤r∧r≤15)∧o.getD r.toNat 0=1∧0≤d.A8.getD r.toNat 0)):getM d r=gv (runG p m0 n) r:=by
 unfold getM gv;rcases hr with rfl | ⟨hb,h1,h2⟩
 ·rw[if_neg (by omega),if_neg (by omega)]
 ·
  rw[if_pos hb,if_pos hb];exact g.ra r hb.1 hb.2 h1 h2
theorem g8E {d:aI} {kc:ak} {cy:Int} (h:eg d kc cy=true) {r:Int} (hr:r∈h7h kc) (hb:1≤r∧r≤15):0≤d.A8.getD r.toNat 0:=by
 unfold eg jQ at h;have:=mz.1 h r (oA.2 ⟨hr,decide_eq_true hb⟩);exact (of_decide_eq_true this).1
theorem Loads.step {regs ready mem:List Int} (l:Loads p o m0 R regs ready mem n) (hr:∀r:Int,1≤r→r≤15→o.getD r.toNat 0=1→(runG p m0 (n+1)).regs r=(runG p m0 n).regs r):Loads p o m0 R regs ready mem (n+1):=by
 refine {l with rg:=?_,ra:=?_}
 ·
  intro q hq h1 h2;obtain⟨a,b,c⟩:=l.rg q hq h1 h2;exact⟨a,b,by rw[hr _ h2 (iR (l.rq q hq)).2.1 a]; exact c⟩
 ·
  intro r h1 h2 h3 h4;rw[hr r h1 h2 h3];exact l.ra r h1 h2 h3 h4
theorem g8C {d:aI} {r v y:Int} (h:d.A8.length=16) {q:Int} (hq:1≤q∧q≤15):(setM d r v y).A8.getD q.toNat 0=if q=r then y else d.A8.getD q.toNat 0:=by
 unfold setM;by_cases hr:1≤r∧r≤15
 ·
  rw[if_pos hr];show (d.A8.set r.toNat y).getD q.toNat 0=_;rw[kN _ _ _ _ (by omega)];by_cases e:q=r
  ·rw[if_pos (by omega),if_pos e]
  ·rw[if_neg (by omega),if_neg e]
 ·rw[if_neg hr,if_neg (by omega)]
theorem Loads.write {d:aI} {mem:List Int} (l:Loads p o m0 R d.B1 d.A8 mem n) {D v y:Int} (hD:1≤D→D≤15→0≤d.A8.getD D.toNat 0) (hy:0≤y) (hv:1≤D→D≤15→(runG p m0 (n+1)).regs D=v) (hr:∀r:Int,r≠D→(runG p m0 (n+1)).regs r=(runG p m0 n).regs r) :
  Loads p o m0 R (setM d D v y).B1 (setM d D v y).A8 mem (n+1):=by
 obtain⟨l1,l2⟩:=l.l16;refine⟨?_,?_,l.un,l.dj,l.rq,?_,by rw[(g8w _ _ _ _).1,(g8w _ _ _ _).2]; exact l.l16⟩
 ·
  intro q hq h1 h2;obtain⟨a,b,c⟩:=l.rg q hq h1 h2;have hb:=(iR (l.rq q hq)).2.1;have hne:q.2.2.2.2.2.2.1≠D:=by
   rintro e
   have:=hD (by omega) (by omega);rw[← e]at this;omega
  exact⟨a,by rw[g8C l2 ⟨h2,hb⟩,if_neg hne]; exact b,by rw[hr _ hne]; exact c⟩
 ·
  intro r h1 h2 h3;rw[g8C l2 ⟨h1,h2⟩]at h3;split at h3
  ·omega
  ·exact l.pn r h1 h2 h3
 ·
  intro r h1 h2 h3 h4;rw[g8C l2 ⟨h1,h2⟩]at h4;rw[g8o l1 ⟨h1,h2⟩];split
  ·
   rename_i e;subst e;exact (hv h1 h2).symm
  ·
   rename_i e;rw[if_neg e]at h4;rw[hr r e];exact l.ra r h1 h2 h3 h4
theorem Cos.nextA (h:Spl p o s) (c:Cos p o s m0 R x n j ka m i ke) (hd:x.A.A4=false) (hpc:(runG p m0 n).pc<p.Code.length) (hnn:n≤1000000000) (hi:j=(sndR o (insG p m0 n)).length) (hl:lstS false o (insG p m0 n) (runG p m0 n).pc 0≠[]) (h8:ae (insG p m0 n).1≠8) (ht:trS p o m0 false n=0) {y:aa}
  (fr:y={x with A:=y.A,B9:=y.B9,C6:=y.C6,C8:=y.C8,B0:=y.B0,A0:=y.A0,C0:=y.C0})
  (hpos:y.A.A6=goM s (kx s false x.A.A6).1 (goes (runG p m0 n) (insG p m0 n))) (hh:y.A.A4=false) (hdn:y.A.A5=x.A.A5+1)
  (habq:y.C6=x.C6++abr p o m0 n) (hebq:x.C8=ebr p o m0 n++y.C8)
  (hwr:∃dn rest:List (Nat × bv),evq (qst p m0) (n+1)=dn++rest∧dn.map (·.2)=x.A2∧Stos R' y.B0 rest) (hkn:dV y.B0=dV x.B0)
  (hld:∃vs:List Int,evq (fch p o m0) (n+1)=evq (fch p o m0) m++vs∧Slots R' y.B9 x.Mem y.C0 vs)
  (hlo:Loads p o m0 R' y.A.B1 y.A.A8 x.Mem (n+1)) :
  Cos p o s m0 R' y (n+1) 0 (ka+1) m i ke:=by
 obtain⟨pa,pe,aeq,abq,ebq,mc,re,tr⟩:=c;rw[hd]at pa;have pa2:Pl p o s m0 false y.A.A6 y.A.A4 y.A.A5 (n+1) 0 (ka+1):=by rw[hpos,hh,hdn]; exact pa.next h hpc hnn hi hl h8 ht
 have eE:y.E=x.E:=by rw[fr]
 have e1:y.C7=x.C7:=by rw[fr]
 have e2:y.C9=x.C9:=by rw[fr]
 have e3:y.Mem=x.Mem:=by rw[fr]
 have e4:y.A2=x.A2:=by rw[fr]
 have e5:y.A9=x.A9:=by rw[fr]
 refine⟨pa2,by rw[eE]; exact pe,by rw[e1,← g9Z hi]; exact aeq,?_,?_,⟨by rw[e3,e4]; exact mc.mem,by rw[e4]; exact hwr,by rw[e2,e4,hkn]; exact mc.pt,by rw[e3]; exact hld,by rw[e3]; exact hlo⟩,by rw[eE]; exact re,by rw[e5]; exact tr⟩
 ·
  show evq (abr p o m0) n++abr p o m0 n=_;rw[abq,habq,mQ]
 ·
  show _=(evq (ebr p o m0) n++ebr p o m0 n)++y.C8;rw[ebq,hebq,mQ]
theorem g9T (hn:NextOk s) (hb:hasM s x.A.A6.A7=true) (hw:¬(x.A.A4=true∨x.A.C3>x.A1)) (hf:(kx s false x.A.A6).2=false) {kc:ak} {st:Int} (hx:aT s false x.A.A6=(kc,st,true)) :
  aP cf s x=if dk x st=true∨gZ cf s {x with A:={x.A with A6:=(kx s false x.A.A6).1}}=true∨eg x.A kc x.A1=false then {x with A:={x.A with A6:=(kx s false x.A.A6).1}} else actA cf s kc st {x with A:={x.A with A6:=(kx s false x.A.A6).1}}:=by
 unfold aP;rw[d9t hn hb hw hf,hx];simp only[mO];have hfr:eg ({x.A with A6:=(kx s false x.A.A6).1}:aI) kc x.A1=eg x.A kc x.A1:=rfl;rw[hfr];generalize gZ cf s ({x with A:={x.A with A6:=(kx s false x.A.A6).1}}:aa)=b;generalize eg x.A kc x.A1=f;cases dk x st<;>cases b<;>cases f<;>rfl
theorem iS {α:Type} (l:List α) (v d:α) (t:Nat):(l++[v]).getD t d=if t<l.length then l.getD t d else if t=l.length then v else d:=by
 by_cases h:t<l.length
 ·rw[if_pos h,mA,mW h,← mA]
 ·
  rw[if_neg h,mA,mU (by omega)];by_cases e:t=l.length
  ·rw[if_pos e,e,oT]; rfl
  ·rw[if_neg e,mg (by simp; omega)]; rfl
theorem g8A {l:List aF} {v:aF} (hv:v.2.2.2.1=false):d8 (l++[v])=d8 l:=by
 unfold d8;rw[iS];by_cases h:0<l.length
 ·rw[if_pos h]
 ·rw[if_neg h,if_pos (by omega),hv,mA,mg (by omega)]; rfl
theorem Stos.snoc {l:List aF} {rest:List (Nat × bv)} (h:Stos R l rest) {v:aF} {q:Nat × bv} (hv:h8p v q) (hk:v.2.2.2.1=false):Stos R (l++[v]) (rest++[q]):=by
 have hl:=h.ln;refine⟨by simp[hl],?_,?_,?_,?_,h.one⟩
 ·
  intro t ht;rw[mD]at ht;have ht:t<l.length+1:=ht;rw[iS,iS,hl];by_cases h1:t<l.length
  ·rw[if_pos h1,if_pos h1]; exact h.en t h1
  ·rw[if_neg h1,if_neg h1,if_pos (by omega),if_pos (by omega)]; exact hv
 ·
  intro t ht;rw[iS];split
  ·exact h.kn t ht
  ·
   split
   ·exact hk
   ·rfl
 ·
  intro a ha e1;obtain⟨g1,g2⟩:=h.st a ha e1;have:=g8u g1;rw[g8A hk,iS,if_pos (by omega)];exact⟨g1,g2⟩
 ·
  intro hh;rw[g8A hk]at hh;exact h.cn hh
theorem Slots.full {l:List aO} {mem vs:List Int} {tags v:Int} (h:Slots R l mem tags vs):Slots R (l++[(tags,(true,(v,())))]) mem (tags+1) (vs++[v]):=by
 have hl:=h.ln;have g:=λt=>iS l (tags,(true,(v,()))) aO.z t
 have g2:=λt=>iS vs v 0 t
 have hlen:∀t,t<(l++[(tags,(true,(v,())))]:List aO).length→t<l.length∨t=l.length:=λt ht=>by rw[mD]at ht; have ht:t<l.length+1:=ht; omega
 refine⟨by simp[hl],?_,?_,?_,?_,?_⟩
 ·
  intro t ht hf;rw[g]at hf ⊢;rw[g2,hl];rcases hlen t ht with h1 | h1
  ·rw[if_pos h1]at hf ⊢; rw[if_pos h1]; exact h.fl t h1 hf
  ·rw[if_neg (by omega),if_pos h1,if_neg (by omega),if_pos h1]
 ·
  intro t ht hf;rw[g]at hf ⊢;rw[g2,hl];rcases hlen t ht with h1 | h1
  ·rw[if_pos h1]at hf ⊢; rw[if_pos h1]; exact h.em t h1 hf
  ·rw[if_neg (by omega),if_pos h1]at hf; cases hf
 ·
  intro q hq h1 h2;obtain⟨t,t1,t2,t3⟩:=h.cl q hq h1 h2;exact⟨t,by simp; omega,by rw[g,if_pos t1]; exact t2,by rw[g,if_pos t1]; exact t3⟩
 ·
  intro t u h1 h2;rw[g,g];rcases hlen u h2 with h3 | h3
  ·rw[if_pos (by omega),if_pos h3]; exact h.ti t u h1 h3
  ·rw[if_pos (by omega),if_neg (by omega),if_pos h3]; exact h.tb t (by omega)
 ·
  intro t ht;rw[g];rcases hlen t ht with h3 | h3
  ·rw[if_pos h3]; have:=h.tb t h3; omega
  ·rw[if_neg (by omega),if_pos h3]; show tags<tags+1; omega
theorem Slots.open_ {l:List aO} {mem vs:List Int} {tags:Int} (h:Slots R l mem tags vs) {q:am} (hq:q.1=false∧q.2.2.2.2.2.2.1<0∧q.2.2.2.2.2.2.2.1=tags):Slots (R++[q]) (l++[(tags,(false,(0,())))]) mem (tags+1) (vs++[bW mem q.2.1 q.2.2.1]):=by
 have hl:=h.ln;have g:=λt=>iS l (tags,(false,(0,()))) aO.z t
 have g2:=λt=>iS vs (bW mem q.2.1 q.2.2.1) 0 t
 have hlen:∀t,t<(l++[(tags,(false,(0,())))]:List aO).length→t<l.length∨t=l.length:=λt ht=>by rw[mD]at ht; have ht:t<l.length+1:=ht; omega
 refine⟨by simp[hl],?_,?_,?_,?_,?_⟩
 ·
  intro t ht hf;rw[g]at hf ⊢;rw[g2,hl];rcases hlen t ht with h1 | h1
  ·rw[if_pos h1]at hf ⊢; rw[if_pos h1]; exact h.fl t h1 hf
  ·rw[if_neg (by omega),if_pos h1]at hf; cases hf
 ·
  intro t ht hf;rw[g]at hf ⊢;rw[g2,hl];rcases hlen t ht with h1 | h1
  ·
   rw[if_pos h1]at hf ⊢;rw[if_pos h1];obtain⟨a,ha,e1⟩:=h.em t h1 hf;exact⟨a,nc _ ha,e1⟩
  ·
   rw[if_neg (by omega),if_pos h1,if_neg (by omega),if_pos h1];exact⟨q,by simp,hq.1,hq.2.1,hq.2.2,rfl⟩
 ·
  intro a ha h1 h2;rcases mM.1 ha with ha | ha
  ·
   obtain⟨t,t1,t2,t3⟩:=h.cl a ha h1 h2;exact⟨t,by simp; omega,by rw[g,if_pos t1]; exact t2,by rw[g,if_pos t1]; exact t3⟩
  ·
   simp only[mI]at ha;subst ha;exact⟨l.length,by simp,by rw[g,if_neg (by omega),if_pos rfl]; exact hq.2.2.symm,by rw[g,if_neg (by omega),if_pos rfl]⟩
 ·
  intro t u h1 h2;rw[g,g];rcases hlen u h2 with h3 | h3
  ·rw[if_pos (by omega),if_pos h3]; exact h.ti t u h1 h3
  ·rw[if_pos (by omega),if_neg (by omega),if_pos h3]; exact h.tb t (by omega)
 ·
  intro t ht;rw[g];rcases hlen t ht with h3 | h3
  ·rw[if_pos h3]; have:=h.tb t h3; omega
  ·rw[if_neg (by omega),if_pos h3]; show tags<tags+1; omega
theorem Stos.load {l:List aF} {rest:List (Nat × bv)} (h:Stos R l rest) {q:am} (hq:q.1=false):Stos (R++[q]) l rest:=by
 refine⟨h.ln,h.en,h.kn,λa ha e1=>?_,λhk=>?_,?_⟩
 ·
  rcases mM.1 ha with ha | ha
  ·exact h.st a ha e1
  ·
   simp only[mI]at ha;rw[ha,hq]at e1; cases e1
 ·
  obtain⟨a,ha,e1⟩:=h.cn hk;exact⟨a,nc _ ha,e1⟩
 ·rw[nd,nV,if_neg (by simp[hq])]; simpa using h.one
theorem Slots.more {l:List aO} {mem vs:List Int} {tags:Int} (h:Slots R l mem tags vs) {q:am} (hq:0≤q.2.2.2.2.2.2.1):Slots (R++[q]) l mem tags vs:=by
 refine⟨h.ln,h.fl,λt h1 h2=>?_,λa ha h1 h2=>?_,h.ti,h.tb⟩
 ·
  obtain⟨a,ha,e1⟩:=h.em t h1 h2;exact⟨a,nc _ ha,e1⟩
 ·
  rcases mM.1 ha with ha | ha
  ·exact h.cl a ha h1 h2
  ·
   simp only[mI]at ha;rw[ha]at h2; omega
theorem Loads.ask {regs ready mem:List Int} (l:Loads p o m0 R regs ready mem n) {q:am} {ready':List Int} (hq:q.1=false) (hrq:reqM (len mem) q=true) (hdj:∀q'∈R,q'.1=true→fA q.2.2.1 (aZ q.2.1) q'.2.2.1 q'.2.2.2.1)
  (hl:ready'.length=16) (hne:∀r:Int,1≤r→r≤15→ready'.getD r.toNat 0=if r=q.2.2.2.2.2.2.1 then -1 else ready.getD r.toNat 0)
  (hfree:1≤q.2.2.2.2.2.2.1→o.getD q.2.2.2.2.2.2.1.toNat 0=1∧0≤ready.getD q.2.2.2.2.2.2.1.toNat 0∧bW mem q.2.1 q.2.2.1=(runG p m0 (n+1)).regs q.2.2.2.2.2.2.1)
  (htag:q.2.2.2.2.2.2.1<0→∀a∈R,a.1=false→a.2.2.2.2.2.2.1<0→a.2.2.2.2.2.2.2.1≠q.2.2.2.2.2.2.2.1)
  (hr:∀r:Int,1≤r→r≤15→o.getD r.toNat 0=1→r≠q.2.2.2.2.2.2.1→(runG p m0 (n+1)).regs r=(runG p m0 n).regs r):Loads p o m0 (R++[q]) regs ready' mem (n+1):=by
 have hb:=iR hrq;have old:∀a∈R,a.1=false→1≤a.2.2.2.2.2.2.1→a.2.2.2.2.2.2.1≠q.2.2.2.2.2.2.1:=by
  intro a ha h1 h2 e;have g1:=(l.rg a ha h1 h2).2.1;have g2:=(hfree (by omega)).2.1;rw[e]at g1;omega
 refine⟨?_,?_,?_,?_,?_,?_,l.l16.1,hl⟩
 ·
  intro a ha h1 h2;rcases mM.1 ha with ha | ha
  ·
   obtain⟨g1,g2,g3⟩:=l.rg a ha h1 h2;have hab:=(iR (l.rq a ha)).2.1;refine⟨g1,?_,?_⟩
   ·rw[hne _ h2 hab,if_neg (old a ha h1 h2)]; exact g2
   ·rw[hr _ h2 hab g1 (old a ha h1 h2)]; exact g3
  ·
   simp only[mI]at ha;subst ha;obtain⟨g1,g2,g3⟩:=hfree h2;exact⟨g1,by rw[hne _ h2 hb.2.1,if_pos rfl]; omega,g3⟩
 ·
  intro r h1 h2 h3;rw[hne r h1 h2]at h3;by_cases e:r=q.2.2.2.2.2.2.1
  ·exact⟨q,by simp,hq,e.symm⟩
  ·
   rw[if_neg e]at h3;obtain⟨a,ha,e1⟩:=l.pn r h1 h2 h3;exact⟨a,nc _ ha,e1⟩
 ·
  refine na.2 ⟨l.un,by simp,λa ha b hb2=>?_⟩
  simp only[mI]at hb2;subst hb2;intro h1 h2 h3;have hab:=(iR (l.rq a ha)).1;by_cases h0:a.2.2.2.2.2.2.1=0
  ·exact .inl h0
  by_cases h4:1≤a.2.2.2.2.2.2.1
  ·exact absurd h3 (old a ha h1 h4)
  ·exact .inr ⟨by omega,htag (by omega) a ha h1 (by omega)⟩
 ·
  intro a ha h1 b hb2 h2;have hb3:b∈R:=by
   rcases mM.1 hb2 with g | g
   ·exact g
   ·
    simp only[mI]at g;rw[g,hq]at h2; cases h2
  rcases mM.1 ha with ha | ha
  ·exact l.dj a ha h1 b hb3 h2
  ·
   simp only[mI]at ha;subst ha;exact hdj b hb3 h2
 ·
  intro a ha;rcases mM.1 ha with ha | ha
  ·exact l.rq a ha
  ·
   simp only[mI]at ha;rw[ha]; exact hrq
 ·
  intro r h1 h2 h3 h4;rw[hne r h1 h2]at h4;by_cases e:r=q.2.2.2.2.2.2.1
  ·rw[if_pos e]at h4; omega
  ·
   rw[if_neg e]at h4;rw[hr r h1 h2 h3 e];exact l.ra r h1 h2 h3 h4
end
section
variable {p:aw} {o:List Int} {s:ao} {m0:List Int} {n j m i k ka ke:Nat} {R R':List am} {x:aa} {e hal:Bool} {pos:bc} {dn:Int} {cf:ay}
theorem g9L {M:Int}:∀(l:List aF) (b:Bool),dh M b l=true→∀e∈l,(e.2.1=1∨e.2.1=2∨e.2.1=4)∧0≤e.1∧e.1+e.2.1≤M∧e.1 % e.2.1=0
 | [],b,_=>by intro e he; simp at he
 | e::r,b,h=>by
  unfold dh at h;simp only[mE]at h;have h1:=of_decide_eq_true h.1;intro x hx;rcases mV.1 hx with rfl | hx
  ·exact h1
  ·exact g9L r false h.2.2.2 x hx
theorem h0v (p:aw) (m0:List Int):∀(N:Nat),∀v∈evq (pts p m0) N,U32 v
 | 0,v,hv=>by cases hv
 | N+1,v,hv=>by
  have hv:v∈evq (pts p m0) N++pts p m0 N:=hv;rcases mM.1 hv with hv | hv
  ·exact h0v p m0 N v hv
  ·
   unfold pts at hv;split at hv
   ·
    simp only[mI]at hv;rw[hv]; exact h1c _ _
   ·cases hv
theorem h0M (c:MemC p o m0 R x n m) (hps:∀t,t<n→(runG p m0 t).pc<p.Code.length∧trS p o m0 false t=0) (hen:dh (len x.Mem) true x.B0=true) (hmm:len x.Mem≤65536) {op a:Int} (ho:26≤op∧op≤30) (hck:eN (aZ op) a (len x.Mem)=0) (ha:0≤a) :
  ((du x.B0 a (aZ op) x.B0.length).2=false→bW x.Mem op a=bW (runG p m0 n).mem op a∧∀t,t<x.B0.length→fA a (aZ op) (x.B0.getD t aF.z).1 (x.B0.getD t aF.z).2.1) ∧
  ((du x.B0 a (aZ op) x.B0.length).2=true→(bypM (du x.B0 a (aZ op) x.B0.length).1 op a).2=true→(bypM (du x.B0 a (aZ op) x.B0.length).1 op a).1=bW (runG p m0 n).mem op a):=by
 obtain⟨mem,⟨dn,rest,w1,w2,w3⟩,⟨cn,p1,p2⟩,_,_⟩:=c;have hz:=d6S (op:=op) ⟨by omega,by omega⟩
 have hal:a+aZ op≤len x.Mem:=by
  unfold eN at hck;split at hck
  ·omega
  ·split at hck<;>omega
 have hln:=w3.ln;have gm:(runG p m0 n).mem=(rest.map (·.2)).foldl wrOf x.Mem:=by
  rw[g9U p m0 n (λt ht=>⟨(hps t ht).1,λh5=>by
   have:=(hps t ht).2;unfold trS at this;rw[if_neg (by omega)]at this
   simpa using this⟩),w1,mv,ot,w2,← mem]
 have ent:∀t,t<x.B0.length→LieW (rest.getD t noSt).2 (len x.Mem)∧(rest.getD t noSt).2.1=(x.B0.getD t aF.z).1∧(rest.getD t noSt).2.2.1=(x.B0.getD t aF.z).2.1:=by
  intro t ht;obtain⟨e1,e2,_⟩:=w3.en t ht;have:=g9L _ _ hen _ (ck aF.z ht);rw[e1,e2]at this;exact⟨this,e1.symm,e2.symm⟩
 have lies:∀q∈rest.map (·.2),LieW q (len x.Mem):=by
  intro q hq;obtain⟨r,hr,rfl⟩:=nK.1 hq;obtain⟨t,ht,rfl⟩:=nC hr;have:=(ent t (by omega)).1;rw[mA,mC ht]at this;exact this
 have bnd:∀t,t<x.B0.length→(0≤(x.B0.getD t aF.z).1∧(x.B0.getD t aF.z).1≤100000)∧(1≤(x.B0.getD t aF.z).2.1∧(x.B0.getD t aF.z).2.1≤4):=by
  intro t ht;have:=g9L _ _ hen _ (ck aF.z ht);omega
 constructor
 ·
  intro hs;have hall:∀t,t<x.B0.length→fA a (aZ op) (x.B0.getD t aF.z).1 (x.B0.getD t aF.z).2.1:=λt ht =>
   g8z (bnd t ht).1 (bnd t ht).2 ⟨ha,by omega⟩ (by omega) (g9h _ hs t ht)
  refine⟨?_,hall⟩;rw[gm];refine (g8I ha _ _ λq hq=>⟨lies q hq,?_⟩).symm;obtain⟨r,hr,rfl⟩:=nK.1 hq;obtain⟨t,ht,rfl⟩:=nC hr;have h1:=hall t (by omega);obtain⟨_,e1,e2⟩:=ent t (by omega);rw[← e1,← e2,mA,mC ht]at h1;exact h1
 ·
  intro hs hb;obtain⟨t,t1,t2,t3⟩:=g8Y _ hs;rw[t2]at hb ⊢;unfold bypM at hb ⊢;split at hb
  ·cases hb
  rename_i hcond;rw[if_neg hcond];simp only[not_or]at hcond;obtain⟨_,_,hk,hea,hes⟩:=hcond;have hk:(x.B0.getD t aF.z).2.2.2.1=true:=by simpa using hk
  have hea:(x.B0.getD t aF.z).1=a:=pS.1 hea;have hes:(x.B0.getD t aF.z).2.1=aZ op:=pS.1 hes;have ht0:t=0:=by
   by_cases h0:t=0
   ·exact h0
   ·have:=w3.kn t (by omega); rw[hk]at this; cases this
  subst ht0;have hkn:dV x.B0=1:=by unfold dV; rw[if_pos (show d8 x.B0=true from hk)]
  cases rest with
  | nil=>simp at hln; omega
  | cons r0 rl =>
  have hdl:dn.length=x.A2.length:=by rw[← w2,mr]
  have hw:=g9z (p:=p) (m0:=m0) (n:=n) (m:=m) (t:=dn.length) (by rw[w1]; simp) (by rw[p1]; simp; omega);have g1:(evq (qst p m0) n).getD dn.length noSt=r0:=by rw[w1,mA,mU (mG _),oT]; rfl
  rw[g1]at hw;obtain⟨_,e1,e2⟩:=ent 0 t1;have e1:r0.2.1=(x.B0.getD 0 aF.z).1:=e1;have e2:r0.2.2.1=(x.B0.getD 0 aF.z).2.1:=e2;have ev:(x.B0.getD 0 aF.z).2.2.2.2.1=r0.2.2.2.1:=(w3.en 0 t1).2.2.2 hk;have hpu:U32 ((evq (pts p m0) m).getD dn.length 0):=h0v p m0 m _ (ck 0 (by rw[p1]; simp; omega));have hmr:=h0i hpu (n:=r0.2.2.1) (by rw[e2,hes]; omega);rw[← hw.1]at hmr;rw[gm,ev];show _=bW (([]++r0.2::rl.map (λq:Nat × bv=>q.2)).foldl wrOf x.Mem) op a;rw[← hea,← e1];refine (g9M (m:=x.Mem) (q:=r0.2) [] (rl.map (λq:Nat × bv=>q.2)) lies (λq hq=>?_) ho (by rw[e2,hes]) ⟨hmr.1,hmr.2.1⟩).symm;obtain⟨r,hr,rfl⟩:=nK.1 hq;obtain⟨u,hu,rfl⟩:=nC hr;have hul:u+1<x.B0.length:=by simp at hln; omega
  have h1:=g8z (bnd _ hul).1 (bnd _ hul).2 ⟨ha,by omega⟩ (by omega) (t3 (u+1) (by omega) hul)
  obtain⟨_,f1,f2⟩:=ent (u+1) hul;rw[← f1,← f2]at h1;rw[e1,hea];have:((r0::rl).getD (u+1) noSt)=rl[u]:=by
   rw[mA,List.getElem?_cons_succ,mC hu]; rfl
  rw[this]at h1;exact h1
end
end Go.Proofs.Zz
