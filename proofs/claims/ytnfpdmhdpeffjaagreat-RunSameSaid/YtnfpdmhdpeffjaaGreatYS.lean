import Derived.Test.YtnfpdmhdpeffjaaGreatYR
import Derived.Test.YtnfpdmhdpeffjaaGreatMK
set_option linter.unusedSimpArgs false
set_option linter.unusedVariables false
set_option maxRecDepth 100000
namespace Go.Proofs.Zz
open Go
section
variable {p:aw} {o:List Int} {s:ao} {m0:List Int} {n j m i k ka ke:Nat} {R R':List am} {x:aa} {e hal:Bool} {pos:bc} {dn:Int} {cf:ay}
theorem h0o (l:List aO) (t v:Int) (h:∀u,u<l.length→(l.getD u aO.z).1<t):gy (l++[(t,(false,(0,())))]) t v=l++[(t,(true,(v,())))]:=by
 have g:=λu=>iS l (t,(false,(0,()))) aO.z u
 have hk:((l++[(t,(false,(0,())))]).getD l.length aO.z).1=t∧((l++[(t,(false,(0,())))]).getD l.length aO.z).2.1=false:=by
  rw[g,if_neg (by omega),if_pos rfl]; exact⟨rfl,rfl⟩
 unfold gy;rw[g9t hk (λu hu=>by rw[g,if_pos hu]; have:=h u hu; omega) _ 0 (by omega) (by simp),if_neg (by omega),mF,hk.1];simp
theorem h0d {op:Int} (h:ae op=4):26≤op∧op≤30:=by
 unfold ae at h
 repeat' split at h
 all_goals omega
theorem h3U {op:Int} (h:ae op=5):31≤op∧op≤33:=by
 unfold ae at h
 repeat' split at h
 all_goals omega
theorem g9K {M a reg tag:Int} {kc:ak} (h4:ae kc.2.1.1=4) (hck:eN (aZ kc.2.1.1) a M=0) (ha:0≤a) (hr:-1≤reg∧reg≤15):reqM M (eI kc a reg tag)=true:=by
 have ho:=h0d h4;have hz:=d6S (op:=kc.2.1.1) ⟨by omega,by omega⟩
 unfold eN at hck;split at hck
 ·omega
 rename_i h1;split at hck
 ·omega
 unfold reqM eI;simp only[mE,allB,mt,nT,decide_eq_true_eq,h7K];refine⟨trivial,?_,⟨hz,ha,by omega,by omega⟩,⟨by omega,trivial⟩,hr,trivial⟩
 rw[h4]; rfl
theorem Cos.actA_last (h:Spl p o s) (c:Cos p o s m0 (bo x) x n j ka m i ke) (hd:x.A.A4=false) (hpc:(runG p m0 n).pc<p.Code.length) (hnn:n≤1000000000) (hi:j=(sndR o (insG p m0 n)).length) (hl:lstS false o (insG p m0 n) (runG p m0 n).pc 0≠[]) (hn:NextOk s) (hbk:hasM s x.A.A6.A7=true) (hf:(kx s false x.A.A6).2=false) (hdb:0≤x.A.A5∧x.A.A5≤2000000000000)
  (hcy:0≤x.A1∧x.A1≤2000000000000) (htg:0≤x.C0∧x.C0≤2000000000000) (hen:dh (len x.Mem) true x.B0=true) (hmm:len x.Mem≤65536)
  {off:Int} {kc:ak} (hk:lstS false o (insG p m0 n) (runG p m0 n).pc off=[kc]) (hfr:eg x.A kc x.A1=true) :
  ∃n' j',n≤n'∧Cos p o s m0 (bo (actA cf s kc n {x with A:={x.A with A6:=(kx s false x.A.A6).1}})) (actA cf s kc n {x with A:={x.A with A6:=(kx s false x.A.A6).1}}) n' j' (ka+1) m i ke:=by
 have hdone:w.i64 (x.A.A5+1)=x.A.A5+1:=wI (by omega) (by omega);have hr:=jR h.right hpc;obtain⟨q1,q2⟩:=g9Q hr;obtain⟨⟨d0,d1⟩,_⟩:=iZ hr;have hf0:=g9w hr;have hf8:=(kQ (insG p m0 n).1).2;have hbad:=h0q h hpc;have c0:Cos p o s m0 (bo x) {x with A:={x.A with A6:=(kx s false x.A.A6).1}} n j (ka+1) m i ke:=⟨(c.pa.settled hn hbk).mono,c.pe,c.aeq,c.abq,c.ebq,⟨c.mc.mem,c.mc.wr,c.mc.pt,c.mc.ld,c.mc.lo⟩,c.re,c.tr⟩;have stay:∀y:aa,y={x with A:={x.A with A6:=(kx s false x.A.A6).1}}→∃n' j',n≤n'∧Cos p o s m0 (bo y) y n' j' (ka+1) m i ke:=λy e=>⟨n,j,mG _,by rw[e]; exact c0⟩
 have lo:=c.mc.lo;have val:∀r:Int,(r=0∨((1≤r∧r≤15)∧o.getD r.toNat 0=1∧0≤x.A.A8.getD r.toNat 0))→getM ({x.A with A6:=(kx s false x.A.A6).1}:aI) r=gv (runG p m0 n) r:=λr hr=>valA (d:={x.A with A6:=(kx s false x.A.A6).1}) lo hr
 have noE:bY o (aY (insG p m0 n))=false→∀r∈aY (insG p m0 n),o.getD r.toNat 0=1:=λha=>h0Z h (eF _) ha
 have qs0:ae (insG p m0 n).1≠5→∃dn rest:List (Nat × bv),evq (qst p m0) (n+1)=dn++rest∧dn.map (·.2)=x.A2∧Stos (bo x) x.B0 rest:=λh5=>by
  rw[gC (f:=qst p m0) (n:=n) (by unfold qst; rw[if_neg h5])]; exact c.mc.wr
 have ld0:(¬(ae (insG p m0 n).1=4∧onEM o (insG p m0 n).2.1=true))→∃vs:List Int,evq (fch p o m0) (n+1)=evq (fch p o m0) m++vs∧Slots (bo x) x.B9 x.Mem x.C0 vs:=λh4=>by
  rw[gC (f:=fch p o m0) (n:=n) (by unfold fch; rw[if_neg h4])]; exact c.mc.ld
 have hgo:ae (insG p m0 n).1≤5→goes (runG p m0 n) (insG p m0 n)=false:=λh5=>by
  unfold goes;rw[decide_eq_false (by omega),decide_eq_false (by omega)]; rfl
 have hab:ae (insG p m0 n).1≠6→abr p o m0 n=[]:=λh6=>by unfold abr; rw[if_neg (by omega)]
 have heb:ae (insG p m0 n).1≠6→ebr p o m0 n=[]:=λh6=>by unfold ebr; rw[if_neg (by omega)]
 have step5:5≤ae (insG p m0 n).1→Loads p o m0 (bo x) x.A.B1 x.A.A8 x.Mem (n+1):=λh5=>lo.step λr _ _ _=>h7W (.inr h5) hpc
 have lenM:len x.Mem=len (runG p m0 n).mem:=by
  have e1:x.Mem.length=m0.length:=by rw[c.mc.mem,g8O]
  simp only[len,e1,h0a]
 unfold lstS at hk;rw[if_neg (by simp)]at hk;unfold lstA at hk;rw[hr,if_neg (by simp)]at hk;by_cases f3:ae (insG p m0 n).1≤3
 ·
  rw[if_pos f3]at hk;by_cases hs:cX (insG p m0 n) o=1
  case neg=>rw[if_neg hs]at hk; cases hk
  rw[if_pos hs]at hk;have hk:=(mY hk).1;have hany:bY o (aY (insG p m0 n))=false:=by
   unfold cX at hs;rw[if_neg (by omega)]at hs;split at hs
   ·
    rename_i h1;rcases h1 with h1 | h1
    ·
     unfold badI at hbad;rw[mw]at hbad;have hD:1≤(insG p m0 n).2.1∧(insG p m0 n).2.1≤15∧o.getD (insG p m0 n).2.1.toNat 0=1:=by
      unfold ownM at h1;split at h1
      ·omega
      ·
       split at h1
       ·omega
       ·exact⟨by omega,by omega,h1⟩
     have:=hbad.2;rw[decide_eq_true (show 1≤ae (insG p m0 n).1∧ae (insG p m0 n).1≤3∧0<(insG p m0 n).2.1∧o.getD (insG p m0 n).2.1.toNat 0=1 from ⟨hf0,f3,by omega,hD.2.2⟩),mO]at this;exact this
    ·exact h1.2
   ·omega
  subst hk;have fre:∀r,r∈aY (insG p m0 n)→0≤x.A.A8.getD r.toNat 0:=λr hr=>g8E hfr (by show r∈aY (insG p m0 n)++[jO (insG p m0 n)]; exact nc _ hr) (eF _ r hr)
  have rd:∀r,r∈aY (insG p m0 n)→(r=0∨((1≤r∧r≤15)∧o.getD r.toNat 0=1∧0≤x.A.A8.getD r.toNat 0)):=λr hr=>.inr ⟨eF _ r hr,noE hany r hr,fre r hr⟩
  have va:=val _ (q1.elim .inl (rd _));have vb:=val _ (q2.elim .inl (rd _));have hdo:doM (insG p m0 n) (getM ({x.A with A6:=(kx s false x.A.A6).1}:aI) (insG p m0 n).2.2.1) (getM ({x.A with A6:=(kx s false x.A.A6).1}:aI) (insG p m0 n).2.2.2.1)=gDo (runG p m0 n) (insG p m0 n):=by rw[va,vb]; rfl
  unfold actA;rw[if_pos (show (bJ 1 (insG p m0 n) (runG p m0 n).pc off).1=1 from rfl)];unfold doA;have he:(bJ 1 (insG p m0 n) (runG p m0 n).pc off).2.1=insG p m0 n:=rfl;rw[he];simp only[hdo];cases hg:(gDo (runG p m0 n) (insG p m0 n)).2 with
  | true =>
   have htr:bX (runG p m0 n) (insG p m0 n)=0:=by unfold bX; rw[if_pos f3,if_pos hg]
   have hlt:=d5S cf (insG p m0 n).1;rw[if_pos rfl];refine⟨n+1,0,by omega,c.nextA (R':=bo x) h hd hpc hnn hi hl (by omega) (by unfold trS; rw[if_pos f3,if_pos (by simp[hs])]; exact htr) rfl ?_ ?_ (by show w.i64 ((setM _ _ _ _).A5+1)=_; rw[gG]; exact hdone) (by rw[hab (by omega),mJ]) (by rw[heb (by omega)]; rfl) (qs0 (by omega)) rfl (ld0 (by omega)) ?_⟩
   ·rw[ib s,d9e,hgo (by omega)]
   ·
    show (setM _ _ _ _).A4=false;rw[g8v]; exact hd
   ·
    refine lo.write (d:={x.A with A6:=(kx s false x.A.A6).1}) (D:=(insG p m0 n).2.1) (λg1 g2=>g8E hfr (r:=(insG p m0 n).2.1) ?_ ⟨g1,g2⟩) (by rw[wI (by omega) (by omega)]; omega) (λg1 g2=>?_) (λr hne=>?_)
    ·
     show (insG p m0 n).2.1∈aY (insG p m0 n)++[jO (insG p m0 n)];unfold jO;rw[if_pos hr]; simp
    ·
     rw[g8L hpc];unfold rgsG;rw[if_neg (by rw[htr]; simp),if_pos f3,h0D]
    ·exact h7W (.inl hne) hpc
  | false =>
   have htr:bX (runG p m0 n) (insG p m0 n)=3:=by unfold bX; rw[if_pos f3,if_neg (by simp[hg])]
   rw[if_neg (by simp),gz];refine⟨n,j,mG _,c0.pa,c0.pe,c0.aeq,c0.abq,c0.ebq,⟨c0.mc.mem,c0.mc.wr,c0.mc.pt,c0.mc.ld,c0.mc.lo⟩,c0.re,?_⟩;refine c0.tr.note ⟨n,rfl,.inl ⟨hpc,.inl ?_⟩,rfl⟩;unfold trS;rw[if_pos f3,if_pos (by simp[hs]),htr]
 rw[if_neg f3]at hk;have addr:∀kd:Int,(kd=2∨kd=3∨kd=4)→kc=bJ kd (insG p m0 n) (runG p m0 n).pc off→(ae (insG p m0 n).1=4∨ae (insG p m0 n).1=5)→dC kc {x with A:={x.A with A6:=(kx s false x.A.A6).1}}=c9 (runG p m0 n) (insG p m0 n)∧chkM kc {x with A:={x.A with A6:=(kx s false x.A.A6).1}}=bX (runG p m0 n) (insG p m0 n):=by
  intro kd hkd e hf;have va:getM ({x.A with A6:=(kx s false x.A.A6).1}:aI) (insG p m0 n).2.2.1=gv (runG p m0 n) (insG p m0 n).2.2.1:=by
   refine val _ (q1.elim .inl λhm=>.inr ⟨eF _ _ hm,?_,?_⟩)
   ·
    obtain⟨b1,b2⟩:=eF _ _ hm;rcases g8h h b1 b2 with g | g
    ·exact g
    ·
     unfold badI at hbad;rw[mw,decide_eq_true hf,mO]at hbad;have:=hbad.1;unfold onEM at this;rw[decide_eq_true (show (insG p m0 n).2.2.1>0 by omega),g]at this;simp at this
   ·
    refine g8E hfr ?_ (eF _ _ hm);rw[e];rcases hkd with rfl | rfl | rfl
    ·exact nc _ hm
    ·exact mI.2 rfl
    ·exact mI.2 rfl
  have ea:dC kc {x with A:={x.A with A6:=(kx s false x.A.A6).1}}=c9 (runG p m0 n) (insG p m0 n):=by
   rw[e];show w.u32 (getM ({x.A with A6:=(kx s false x.A.A6).1}:aI) (insG p m0 n).2.2.1+_)=_;rw[va]; rfl
  refine⟨ea,?_⟩;unfold chkM bX;rw[ea,if_neg f3,if_pos (by omega),← lenM,e];rfl
 have trA:trS p o m0 false n=bX (runG p m0 n) (insG p m0 n):=by unfold trS; rw[if_neg f3,if_neg (by simp)]
 have trapped:∀(kd:Int) (t:Int),t=bX (runG p m0 n) (insG p m0 n)→kc=bJ kd (insG p m0 n) (runG p m0 n).pc off→∃n' j',n≤n'∧Cos p o s m0 (bo (bG {x with A:={x.A with A6:=(kx s false x.A.A6).1}} t (n:Int) kc.2.2.2.1)) (bG {x with A:={x.A with A6:=(kx s false x.A.A6).1}} t (n:Int) kc.2.2.2.1) n' j' (ka+1) m i ke:=by
  intro kd t ht e;rw[gz];refine⟨n,j,mG _,c0.pa,c0.pe,c0.aeq,c0.abq,c0.ebq,⟨c0.mc.mem,c0.mc.wr,c0.mc.pt,c0.mc.ld,c0.mc.lo⟩,c0.re,?_⟩;exact c0.tr.note ⟨n,rfl,.inl ⟨hpc,.inl (trA.trans ht.symm)⟩,by rw[e]; rfl⟩
 have hUa:0≤c9 (runG p m0 n) (insG p m0 n):=(dI _).1;by_cases f4:ae (insG p m0 n).1=4
 ·
  have ho:=h0d f4;have hz:=d6S (op:=(insG p m0 n).1) ⟨by omega,by omega⟩
  rw[if_pos f4]at hk
  have kinds:(onEM o (insG p m0 n).2.1=true∧kc=bJ 3 (insG p m0 n) (runG p m0 n).pc off)∨(onEM o (insG p m0 n).2.1=false∧kc=bJ 2 (insG p m0 n) (runG p m0 n).pc off):=by
   cases hoo:onEM o (insG p m0 n).2.1 with
   | true=>rw[hoo,if_pos rfl]at hk; exact .inl ⟨rfl,((mY hk).1).symm⟩
   | false=>rw[hoo,if_neg (by simp)]at hk; exact .inr ⟨rfl,((mY hk).1).symm⟩
  have hins:kc.2.1=insG p m0 n:=by rcases kinds with⟨_,e⟩ | ⟨_,e⟩<;>rw[e]<;>rfl
  have hkd:kc.1=2∨kc.1=3:=by rcases kinds with⟨_,e⟩ | ⟨_,e⟩<;>rw[e]<;>first | exact .inl rfl | exact .inr rfl
  have hac:=kinds.elim (λg=>addr 3 (by omega) g.2 (.inl f4)) (λg=>addr 2 (by omega) g.2 (.inl f4));unfold actA;rw[if_neg (by omega),if_pos hkd];unfold gM;rw[hac.2];by_cases ht:bX (runG p m0 n) (insG p m0 n)≠0
  ·
   rw[if_pos ht];exact kinds.elim (λg=>trapped 3 _ rfl g.2) (λg=>trapped 2 _ rfl g.2)
  rw[if_neg ht];have ht:bX (runG p m0 n) (insG p m0 n)=0:=pS.1 ht;have hck:eN (aZ (insG p m0 n).1) (c9 (runG p m0 n) (insG p m0 n)) (len x.Mem)=0:=by
   have:=ht;unfold bX jP at this;rw[if_neg f3,if_pos (by omega),if_neg (by omega),← lenM]at this;exact this
  have hps:∀t,t<n→(runG p m0 t).pc<p.Code.length∧trS p o m0 false t=0:=λt ht=>⟨(c.pa.ps t ht).1,(c.pa.ps t ht).2.2⟩
  have lv:=h0M c.mc hps hen hmm ho hck hUa;rw[hac.1,hins];show ∃n' j',n≤n'∧Cos p o s m0 (bo (if (du x.B0 (c9 (runG p m0 n) (insG p m0 n)) (aZ (insG p m0 n).1) x.B0.length).2=true then _ else if len x.A0<cf.B7 then _ else _)) (if (du x.B0 (c9 (runG p m0 n) (insG p m0 n)) (aZ (insG p m0 n).1) x.B0.length).2=true then _ else if len x.A0<cf.B7 then _ else _) n' j' (ka+1) m i ke
  have regD:∀r:Int,r≠(insG p m0 n).2.1→(runG p m0 (n+1)).regs r=(runG p m0 n).regs r:=λr hne=>h7W (.inl hne) hpc
  have newD:(runG p m0 (n+1)).regs (insG p m0 n).2.1=bW (runG p m0 n).mem (insG p m0 n).1 (c9 (runG p m0 n) (insG p m0 n)):=by
   rw[g8L hpc];unfold rgsG;rw[if_neg (by rw[ht]; simp),if_neg f3,if_pos f4,h0D]
  have ownE:onEM o (insG p m0 n).2.1=true→∀r:Int,1≤r→r≤15→o.getD r.toNat 0=1→r≠(insG p m0 n).2.1:=by
   rintro hoo r _ _ g rfl
   unfold onEM at hoo;rw[g]at hoo;simp at hoo
  have fchE:onEM o (insG p m0 n).2.1=true→fch p o m0 n=[bW (runG p m0 n).mem (insG p m0 n).1 (c9 (runG p m0 n) (insG p m0 n))]:=λhoo=>by unfold fch; rw[if_pos ⟨f4,hoo⟩]
  have frD:onEM o (insG p m0 n).2.1=false→kc=bJ 2 (insG p m0 n) (runG p m0 n).pc off→1≤(insG p m0 n).2.1→0≤x.A.A8.getD (insG p m0 n).2.1.toNat 0:=λ_ e g1=>by
   refine g8E hfr (r:=(insG p m0 n).2.1) ?_ ⟨g1,d1⟩;rw[e];show (insG p m0 n).2.1∈aY (insG p m0 n)++[jO (insG p m0 n)];unfold jO;rw[if_pos hr]; simp
  have wtag:w.i64 (x.C0+1)=x.C0+1:=wI (by omega) (by omega);obtain⟨vs,v1,v2⟩:=c.mc.ld;cases hsr:(du x.B0 (c9 (runG p m0 n) (insG p m0 n)) (aZ (insG p m0 n).1) x.B0.length).2 with
  | true =>
   rw[if_pos rfl];by_cases hby:(bypM (du x.B0 (c9 (runG p m0 n) (insG p m0 n)) (aZ (insG p m0 n).1) x.B0.length).1 (insG p m0 n).1 (c9 (runG p m0 n) (insG p m0 n))).2=true
   case neg=>rw[if_neg hby]; exact stay _ rfl
   rw[if_pos hby,lv.2 hsr hby];unfold gX;rcases kinds with⟨hoo,e⟩ | ⟨hoo,e⟩
   ·
    rw[if_neg (by rw[e]; exact (by decide:¬((3:Int)=2)))];show ∃n' j',n≤n'∧Cos p o s m0 (bo (if len x.B9<cf.B9 then _ else _)) (if len x.B9<cf.B9 then _ else _) n' j' (ka+1) m i ke
    by_cases hq:len x.B9<cf.B9
    case neg=>rw[if_neg hq]; exact stay _ rfl
    rw[if_pos hq];have er:resM cf {x with A:={x.A with A6:=(kx s false x.A.A6).1}}={x with A:={x.A with A6:=(kx s false x.A.A6).1},B9:=x.B9++[(x.C0,(false,(0,())))],C0:=x.C0+1}:=by
     unfold resM;rw[if_pos hq];show ({x with A:=_,B9:=_,C0:=w.i64 (x.C0+1)}:aa)=_;rw[wtag]
    rw[er];refine⟨n+1,0,by omega,c.nextA (R':=bo x) h hd hpc hnn hi hl (by omega) (by rw[trA]; exact ht) rfl ?_ hd hdone (by rw[hab (by omega),mJ]) (by rw[heb (by omega)]; rfl) (qs0 (by omega)) rfl ⟨vs++[bW (runG p m0 n).mem (insG p m0 n).1 (c9 (runG p m0 n) (insG p m0 n))],?_,?_⟩ ?_⟩
    ·rw[ib s,hgo (by omega)]
    ·
     show evq (fch p o m0) n++fch p o m0 n=_;rw[fchE hoo,v1,mQ]
    ·
     show Slots (bo x) (gy (x.B9++[(x.C0,(false,(0,())))]) x.C0 _) x.Mem (x.C0+1) _;rw[h0o _ _ _ v2.tb];exact v2.full
    ·exact lo.step λr g1 g2 g3=>regD r (ownE hoo r g1 g2 g3)
   ·
    rw[if_pos (by rw[e]; rfl),hins];refine⟨n+1,0,by omega,c.nextA (R':=bo x) h hd hpc hnn hi hl (by omega) (by rw[trA]; exact ht) rfl ?_ ?_ (by show w.i64 ((setM _ _ _ _).A5+1)=_; rw[gG]; exact hdone) (by rw[hab (by omega),mJ]) (by rw[heb (by omega)]; rfl) (qs0 (by omega)) rfl (ld0 (by rw[hoo]; simp)) ?_⟩
    ·rw[ib s,d9e,hgo (by omega)]
    ·
     show (setM _ _ _ _).A4=false;rw[g8v]; exact hd
    ·exact lo.write (d:={x.A with A6:=(kx s false x.A.A6).1}) (D:=(insG p m0 n).2.1) (λg1 _=>frD hoo e g1) (by rw[wI (x:=x.A1+1) (by omega) (by omega)]; omega) (λ_ _=>newD) regD
  | false =>
   rw[if_neg (by simp)];by_cases hfl:len x.A0<cf.B7
   case neg=>rw[if_neg hfl]; exact stay _ rfl
   rw[if_pos hfl];obtain⟨l1,l2⟩:=lv.1 hsr;have rq:∀reg tag:Int,-1≤reg∧reg≤15→reqM (len x.Mem) (eI kc (c9 (runG p m0 n) (insG p m0 n)) reg tag)=true:=λreg tag hrt=>g9K (by rw[hins]; exact f4) (by rw[hins]; exact hck) hUa hrt
   have hdj:∀q'∈bo x,q'.1=true→fA (c9 (runG p m0 n) (insG p m0 n)) (aZ (insG p m0 n).1) q'.2.2.1 q'.2.2.2.1:=by
    intro q' hq' h1;obtain⟨dn,rest,_,_,w3⟩:=c.mc.wr;obtain⟨g1,g2⟩:=w3.st q' hq' h1;have hp:=g8u g1;obtain⟨e1,e2,_⟩:=w3.en 0 hp;have h3:=l2 0 hp;rw[e1,e2,← g2]at h3;exact h3
   have estr:∀(q:am) (y:aa),cW q=q→y.A0=x.A0++[q]→bo y=bo x++[q]:=by
    intro q y hq hy;unfold bo;rw[hy,mv,nN,hq]; rfl
   obtain⟨dn,rest,w1,w2,w3⟩:=c.mc.wr;have qsA:∀q:am,q.1=false→∃dn rest:List (Nat × bv),evq (qst p m0) (n+1)=dn++rest∧dn.map (·.2)=x.A2∧Stos (bo x++[q]) x.B0 rest:=λq hq=>by
    rw[gC (f:=qst p m0) (n:=n) (by unfold qst; rw[if_neg (by omega)])]; exact⟨dn,rest,w1,w2,w3.load hq⟩
   unfold askM;rcases kinds with⟨hoo,e⟩ | ⟨hoo,e⟩
   ·
    rw[if_pos (by rw[e]; rfl)];show ∃n' j',n≤n'∧Cos p o s m0 (bo (if len x.B9<cf.B9 then _ else _)) (if len x.B9<cf.B9 then _ else _) n' j' (ka+1) m i ke
    by_cases hq:len x.B9<cf.B9
    case neg=>rw[if_neg hq]; exact stay _ rfl
    rw[if_pos hq];have er:resM cf {x with A:={x.A with A6:=(kx s false x.A.A6).1}}={x with A:={x.A with A6:=(kx s false x.A.A6).1},B9:=x.B9++[(x.C0,(false,(0,())))],C0:=x.C0+1}:=by
     unfold resM;rw[if_pos hq];show ({x with A:=_,B9:=_,C0:=w.i64 (x.C0+1)}:aa)=_;rw[wtag]
    rw[er,estr (eI kc (c9 (runG p m0 n) (insG p m0 n)) (-1) x.C0) _ rfl rfl];refine⟨n+1,0,by omega,c.nextA (R':=bo x++[eI kc (c9 (runG p m0 n) (insG p m0 n)) (-1) x.C0]) h hd hpc hnn hi hl (by omega) (by rw[trA]; exact ht) rfl ?_ hd hdone (by rw[hab (by omega),mJ]) (by rw[heb (by omega)]; rfl) (qsA _ rfl) rfl ⟨vs++[bW (runG p m0 n).mem (insG p m0 n).1 (c9 (runG p m0 n) (insG p m0 n))],?_,?_⟩ ?_⟩
    ·rw[ib s,hgo (by omega)]
    ·
     show evq (fch p o m0) n++fch p o m0 n=_;rw[fchE hoo,v1,mQ]
    ·
     have h1:=v2.open_ (q:=eI kc (c9 (runG p m0 n) (insG p m0 n)) (-1) x.C0) ⟨rfl,by show (-1:Int)<0; omega,rfl⟩
     have h2:bW x.Mem (eI kc (c9 (runG p m0 n) (insG p m0 n)) (-1) x.C0).2.1 (eI kc (c9 (runG p m0 n) (insG p m0 n)) (-1) x.C0).2.2.1=bW (runG p m0 n).mem (insG p m0 n).1 (c9 (runG p m0 n) (insG p m0 n)):=by
      show bW x.Mem kc.2.1.1 _=_;rw[hins]; exact l1
     rw[h2]at h1;exact h1
    ·
     refine lo.ask rfl (rq _ _ (by omega)) ?_ lo.l16.2 (λr g1 g2=>?_) (λg=>?_) (λ_ a ha g1 g2=>?_) (λr g1 g2 g3 _=>regD r (ownE hoo r g1 g2 g3))
     ·
      show ∀q'∈_,_→fA _ (aZ kc.2.1.1) _ _
      rw[hins]; exact hdj
     ·
      show x.A.A8.getD r.toNat 0=if r=(-1:Int) then -1 else x.A.A8.getD r.toNat 0
      rw[if_neg (by omega)]
     ·
      have g:1≤(-1:Int):=g;omega
     ·
      obtain⟨t,t1,t2,t3⟩:=v2.cl a ha g1 g2;have:=v2.tb t t1;show a.2.2.2.2.2.2.2.1≠x.C0;omega
   ·
    rw[if_neg (by rw[e]; exact (by decide:¬((2:Int)=3))),hins];by_cases hD:0<(insG p m0 n).2.1∧(insG p m0 n).2.1<16
    ·
     rw[if_pos hD,estr (eI kc (c9 (runG p m0 n) (insG p m0 n)) (insG p m0 n).2.1 0) _ rfl rfl];have hoD:o.getD (insG p m0 n).2.1.toNat 0=1:=by
      rcases g8h h (show 1≤(insG p m0 n).2.1 by omega) d1 with g | g
      ·exact g
      ·
       unfold onEM at hoo;rw[decide_eq_true (show (insG p m0 n).2.1>0 by omega),g]at hoo;simp at hoo
     refine⟨n+1,0,by omega,c.nextA (R':=bo x++[eI kc (c9 (runG p m0 n) (insG p m0 n)) (insG p m0 n).2.1 0]) h hd hpc hnn hi hl (by omega) (by rw[trA]; exact ht) rfl ?_ hd hdone (by rw[hab (by omega),mJ]) (by rw[heb (by omega)]; rfl) (qsA _ rfl) rfl ?_ ?_⟩
     ·rw[ib s,hgo (by omega)]
     ·
      rw[gC (f:=fch p o m0) (n:=n) (by unfold fch; rw[if_neg (by rw[hoo]; simp)])];exact⟨vs,v1,v2.more (by show 0≤(insG p m0 n).2.1; omega)⟩
     ·
      refine lo.ask rfl (rq _ _ (by omega)) ?_ (by show (x.A.A8.set _ _).length=16; rw[mp]; exact lo.l16.2) (λr g1 g2=>?_) (λg=>⟨hoD,frD hoo e (by omega),?_⟩) (λg=>absurd (show (insG p m0 n).2.1<0 from g) (by omega)) (λr g1 g2 g3 g4=>regD r g4)
      ·
       show ∀q'∈_,_→fA _ (aZ kc.2.1.1) _ _
       rw[hins]; exact hdj
      ·
       show (x.A.A8.set (insG p m0 n).2.1.toNat (-1)).getD r.toNat 0=if r=(insG p m0 n).2.1 then -1 else _
       have:=lo.l16.2;rw[kN _ _ _ _ (by omega)];by_cases er:r=(insG p m0 n).2.1
       ·rw[if_pos (by omega),if_pos er]
       ·rw[if_neg (by omega),if_neg er]
      ·
       show bW x.Mem kc.2.1.1 _=(runG p m0 (n+1)).regs (insG p m0 n).2.1;rw[hins,newD]; exact l1
    ·
     rw[if_neg hD,estr (eI kc (c9 (runG p m0 n) (insG p m0 n)) (insG p m0 n).2.1 0) _ rfl rfl];have hD0:(insG p m0 n).2.1=0:=by omega
     refine⟨n+1,0,by omega,c.nextA (R':=bo x++[eI kc (c9 (runG p m0 n) (insG p m0 n)) (insG p m0 n).2.1 0]) h hd hpc hnn hi hl (by omega) (by rw[trA]; exact ht) rfl ?_ hd hdone (by rw[hab (by omega),mJ]) (by rw[heb (by omega)]; rfl) (qsA _ rfl) rfl ?_ ?_⟩
     ·rw[ib s,hgo (by omega)]
     ·
      rw[gC (f:=fch p o m0) (n:=n) (by unfold fch; rw[if_neg (by rw[hoo]; simp)])];exact⟨vs,v1,v2.more (by show 0≤(insG p m0 n).2.1; omega)⟩
     ·
      refine lo.ask rfl (rq _ _ (by omega)) ?_ lo.l16.2 (λr g1 g2=>?_) (λg=>?_) (λg=>absurd (show (insG p m0 n).2.1<0 from g) (by omega)) (λr g1 g2 g3 g4=>regD r g4)
      ·
       show ∀q'∈_,_→fA _ (aZ kc.2.1.1) _ _
       rw[hins]; exact hdj
      ·
       show x.A.A8.getD r.toNat 0=if r=(insG p m0 n).2.1 then -1 else x.A.A8.getD r.toNat 0
       rw[if_neg (by omega)]
      ·
       have g:1≤(insG p m0 n).2.1:=g;omega
 rw[if_neg f4]at hk;by_cases f5:ae (insG p m0 n).1=5
 ·
  rw[if_pos f5]at hk;have hk:=((mY hk).1).symm;have hac:=addr 4 (by omega) hk (.inr f5);unfold actA;rw[if_neg (by rw[hk]; exact (by decide:¬((4:Int)=1))),if_neg (by rw[hk]; exact (by decide:¬((4:Int)=2∨(4:Int)=3))),if_pos (by rw[hk]; rfl)];unfold gj;rw[hac.2];by_cases ht:bX (runG p m0 n) (insG p m0 n)≠0
  ·
   rw[if_pos ht];exact trapped 4 _ rfl hk
  rw[if_neg ht];have ht:bX (runG p m0 n) (insG p m0 n)=0:=pS.1 ht;show ∃n' j',n≤n'∧Cos p o s m0 (bo (if len x.B0<cf.B0 then _ else _)) (if len x.B0<cf.B0 then _ else _) n' j' (ka+1) m i ke
  by_cases hq:len x.B0<cf.B0
  case neg=>rw[if_neg hq]; exact stay _ rfl
  rw[if_pos hq,hac.1];obtain⟨dn,rest,w1,w2,w3⟩:=c.mc.wr;refine⟨n+1,0,by omega,c.nextA (R':=bo x) h hd hpc hnn hi hl (by omega) (by rw[trA]; exact ht) rfl ?_ hd hdone (by rw[hab (by omega),mJ]) (by rw[heb (by omega)]; rfl) ⟨dn,rest++[(n,gWr (runG p m0 n) (insG p m0 n))],?_,w2,?_⟩ ?_ (ld0 (by omega)) (step5 (by omega))⟩
  ·rw[ib s,hgo (by omega)]
  ·
   show evq (qst p m0) n++qst p m0 n=_;unfold qst;rw[if_pos f5];show evq (qst p m0) n++_=_;rw[w1,mQ]
  ·
   refine w3.snoc ⟨rfl,?_,rfl,λg=>by cases g⟩ rfl
   rw[hk]; rfl
  ·
   unfold dV;rw[g8A rfl]
 rw[if_neg f5]at hk;have ht0:trS p o m0 false n=0:=by rw[trA]; unfold bX; rw[if_neg f3,if_neg (by omega)]
 by_cases f6:ae (insG p m0 n).1=6
 ·
  rw[if_pos f6]at hk;have hgo:goes (runG p m0 n) (insG p m0 n)=gTk (runG p m0 n) (insG p m0 n):=by
   unfold goes;rw[decide_eq_false (by omega),decide_eq_true f6]; simp
  cases ha:bY o (aY (insG p m0 n)) with
  | false =>
   rw[ha,if_pos rfl]at hk;have hk:=(mY hk).1;subst hk;have rd:∀r,r∈aY (insG p m0 n)→(r=0∨((1≤r∧r≤15)∧o.getD r.toNat 0=1∧0≤x.A.A8.getD r.toNat 0)):=λr hr=>.inr ⟨eF _ r hr,noE ha r hr,g8E hfr hr (eF _ r hr)⟩
   have va:=val _ (q1.elim .inl (rd _));have vb:=val _ (q2.elim .inl (rd _));unfold actA;rw[if_neg (show ¬(bJ 9 (insG p m0 n) (runG p m0 n).pc off).1=1 from (by decide:¬((9:Int)=1))),if_neg (show ¬((bJ 9 (insG p m0 n) (runG p m0 n).pc off).1=2∨(bJ 9 (insG p m0 n) (runG p m0 n).pc off).1=3) from (by decide:¬((9:Int)=2∨(9:Int)=3))),if_neg (show ¬(bJ 9 (insG p m0 n) (runG p m0 n).pc off).1=4 from (by decide:¬((9:Int)=4))),if_neg (show ¬(bJ 9 (insG p m0 n) (runG p m0 n).pc off).1=5 from (by decide:¬((9:Int)=5))),if_pos (show (bJ 9 (insG p m0 n) (runG p m0 n).pc off).1=9 from rfl)];unfold gN;show ∃n' j',n≤n'∧Cos p o s m0 (bo (if len x.C6≥cf.C6 then _ else {x with A:=goD s x.A1 ({x.A with A6:=(kx s false x.A.A6).1}:aI) (fX (insG p m0 n).1 (getM ({x.A with A6:=(kx s false x.A.A6).1}:aI) (insG p m0 n).2.2.1) (getM ({x.A with A6:=(kx s false x.A.A6).1}:aI) (insG p m0 n).2.2.2.1)),C6:=x.C6++[fX (insG p m0 n).1 (getM ({x.A with A6:=(kx s false x.A.A6).1}:aI) (insG p m0 n).2.2.1) (getM ({x.A with A6:=(kx s false x.A.A6).1}:aI) (insG p m0 n).2.2.2.1)]})) (if len x.C6≥cf.C6 then _ else {x with A:=goD s x.A1 ({x.A with A6:=(kx s false x.A.A6).1}:aI) (fX (insG p m0 n).1 (getM ({x.A with A6:=(kx s false x.A.A6).1}:aI) (insG p m0 n).2.2.1) (getM ({x.A with A6:=(kx s false x.A.A6).1}:aI) (insG p m0 n).2.2.2.1)),C6:=x.C6++[fX (insG p m0 n).1 (getM ({x.A with A6:=(kx s false x.A.A6).1}:aI) (insG p m0 n).2.2.1) (getM ({x.A with A6:=(kx s false x.A.A6).1}:aI) (insG p m0 n).2.2.2.1)]}) n' j' (ka+1) m i ke
   by_cases hq:len x.C6≥cf.C6
   ·rw[if_pos hq]; exact stay _ rfl
   ·
    rw[if_neg hq,va,vb];exact⟨n+1,0,by omega,c.nextA (R':=bo x) h hd hpc hnn hi hl (by omega) ht0 rfl (by rw[hgo]; rfl) hd hdone (by unfold abr; rw[if_pos ⟨f6,ha⟩]; rfl) (by unfold ebr; rw[if_neg (by rw[ha]; simp)]; rfl) (qs0 (by omega)) rfl (ld0 (by omega)) (step5 (by omega))⟩
  | true =>
   rw[ha,if_neg (by simp)]at hk;have hk:=(mY hk).1;subst hk;unfold actA;rw[if_neg (show ¬(aM 10 0 (runG p m0 n).pc off).1=1 from (by decide:¬((10:Int)=1))),if_neg (show ¬((aM 10 0 (runG p m0 n).pc off).1=2∨(aM 10 0 (runG p m0 n).pc off).1=3) from (by decide:¬((10:Int)=2∨(10:Int)=3))),if_neg (show ¬(aM 10 0 (runG p m0 n).pc off).1=4 from (by decide:¬((10:Int)=4))),if_neg (show ¬(aM 10 0 (runG p m0 n).pc off).1=5 from (by decide:¬((10:Int)=5))),if_neg (show ¬(aM 10 0 (runG p m0 n).pc off).1=9 from (by decide:¬((10:Int)=9))),if_pos (show (aM 10 0 (runG p m0 n).pc off).1=10 from rfl)];unfold gP;show ∃n' j',n≤n'∧Cos p o s m0 (bo (if x.C8.length=0 then _ else _)) (if x.C8.length=0 then _ else _) n' j' (ka+1) m i ke
   have hbe:ebr p o m0 n=[gTk (runG p m0 n) (insG p m0 n)]:=by unfold ebr; rw[if_pos ⟨f6,ha⟩]
   cases hA:x.C8 with
   | nil=>rw[if_pos (show ([]:List Bool).length=0 from rfl)]; exact stay _ (by rw[hA])
   | cons b br =>
    rw[if_neg (by simp)];have h1:=c.ebq;rw[hA]at h1;obtain⟨a1,a2⟩:=g9N _ h1 hbe;refine⟨n+1,0,by omega,c.nextA (R':=bo x) h hd hpc hnn hi hl (by omega) ht0 rfl ?_ hd hdone (by unfold abr; rw[if_neg (by rw[ha]; simp),mJ]) ?_ (qs0 (by omega)) rfl (ld0 (by omega)) (step5 (by omega))⟩
    ·rw[hgo,← a1]; rfl
    ·rw[hA,hbe,a1]; rfl
 rw[if_neg f6]at hk;by_cases f7:ae (insG p m0 n).1=7
 ·
  rw[if_pos f7]at hk;have hk:=(mY hk).1;subst hk;unfold actA;rw[if_neg (show ¬(aM 11 0 (runG p m0 n).pc off).1=1 from (by decide:¬((11:Int)=1))),if_neg (show ¬((aM 11 0 (runG p m0 n).pc off).1=2∨(aM 11 0 (runG p m0 n).pc off).1=3) from (by decide:¬((11:Int)=2∨(11:Int)=3))),if_neg (show ¬(aM 11 0 (runG p m0 n).pc off).1=4 from (by decide:¬((11:Int)=4))),if_neg (show ¬(aM 11 0 (runG p m0 n).pc off).1=5 from (by decide:¬((11:Int)=5))),if_neg (show ¬(aM 11 0 (runG p m0 n).pc off).1=9 from (by decide:¬((11:Int)=9))),if_neg (show ¬(aM 11 0 (runG p m0 n).pc off).1=10 from (by decide:¬((11:Int)=10))),if_pos (show (aM 11 0 (runG p m0 n).pc off).1=11 from rfl)];exact⟨n+1,0,by omega,c.nextA (R':=bo x) h hd hpc hnn hi hl (by omega) ht0 rfl (by unfold goes; rw[decide_eq_true f7]; rfl) hd hdone (by rw[hab f6,mJ]) (by rw[heb f6]; rfl) (qs0 f5) rfl (ld0 (by omega)) (step5 (by omega))⟩
 ·
  rw[if_neg f7]at hk;have hk:=(mY hk).1;subst hk;unfold actA;rw[if_neg (show ¬(aM 12 0 (runG p m0 n).pc off).1=1 from (by decide:¬((12:Int)=1))),if_neg (show ¬((aM 12 0 (runG p m0 n).pc off).1=2∨(aM 12 0 (runG p m0 n).pc off).1=3) from (by decide:¬((12:Int)=2∨(12:Int)=3))),if_neg (show ¬(aM 12 0 (runG p m0 n).pc off).1=4 from (by decide:¬((12:Int)=4))),if_neg (show ¬(aM 12 0 (runG p m0 n).pc off).1=5 from (by decide:¬((12:Int)=5))),if_neg (show ¬(aM 12 0 (runG p m0 n).pc off).1=9 from (by decide:¬((12:Int)=9))),if_neg (show ¬(aM 12 0 (runG p m0 n).pc off).1=10 from (by decide:¬((12:Int)=10))),if_neg (show ¬(aM 12 0 (runG p m0 n).pc off).1=11 from (by decide:¬((12:Int)=11))),if_pos (show (aM 12 0 (runG p m0 n).pc off).1=12 from rfl)];have pa0:Pl p o s m0 false (kx s false x.A.A6).1 false x.A.A5 n j (ka+1):=by have g:=(c.pa.settled hn hbk).mono; rw[hd]at g; exact g
  have pa1:=pa0.halt (by omega) hpc (g8X hn hbk hf);rw[← hdone]at pa1;exact⟨n,j,mG _,pa1,c0.pe,c0.aeq,c0.abq,c0.ebq,⟨c0.mc.mem,c0.mc.wr,c0.mc.pt,c0.mc.ld,c0.mc.lo⟩,c0.re,c0.tr⟩
end
section
variable {p:aw} {o:List Int} {s:ao} {m0:List Int} {n j m i k ka ke:Nat} {R R':List am} {x:aa} {e hal:Bool} {pos:bc} {dn:Int} {cf:ay}
theorem g8S (hr:bu cf s x=true):(0≤x.A1∧x.A1≤2000000000000)∧(0≤x.C0∧x.C0≤2000000000000):=by
 unfold bu at hr;simp only[mE]at hr;have h:=hr.2.2.2.1;simp only[mE,allB,mt,nT,decide_eq_true_eq,most]at h;have h1:=of_decide_eq_true h.1;have h2:=of_decide_eq_true h.2.2.2.1;omega
theorem h0h {l:List Int} {t:Nat} (h:t<l.length):l.take (t+1)=l.take t++[l.getD t 0]:=by
 rw[pQ,mA,mC h]; rfl
theorem Cos.runA (h:Spl p o s) (c:Cos p o s m0 (bo x) x n j ka m i ke) (hr:bu cf s x=true) (hb:p.Code.length*(ka+1)≤1000000000):∃n' j',n≤n'∧Cos p o s m0 (bo (aP cf s x)) (aP cf s x) n' j' (ka+1) m i ke:=by
 have hn:=h.next.1
 have hbk:=ie (iX hr);have hdb:=h1l (iX hr);have hdone:w.i64 (x.A.A5+1)=x.A.A5+1:=wI (by omega) (by omega);by_cases hw:x.A.A4=true∨x.A.C3>x.A1
 ·
  unfold aP;rw[e5o hw,if_pos (.inl rfl)];exact⟨n,j,mG _,{c with pa:=c.pa.mono}⟩
 have hd:x.A.A4=false:=by
  cases hh:x.A.A4 with
  | false=>rfl
  | true=>exact absurd (.inl hh) hw
 obtain⟨n1,j1,hle,c,here⟩:=c.normA h hd hb _ n j (mG _)
 suffices hs:∃n' j',n1≤n'∧Cos p o s m0 (bo (aP cf s x)) (aP cf s x) n' j' (ka+1) m i ke by
  obtain⟨n',j',h1,h2⟩:=hs;exact⟨n',j',by omega,h2⟩
 have hlt:=WAt.lt h c.pa.wt;have hnn:n1≤1000000000:=by have:=c.pa.bd; rw[nF]at hb; omega
 have c0:Cos p o s m0 (bo x) {x with A:={x.A with A6:=(kx s false x.A.A6).1}} n1 j1 (ka+1) m i ke:=⟨(c.pa.settled hn hbk).mono,c.pe,c.aeq,c.abq,c.ebq,⟨c.mc.mem,c.mc.wr,c.mc.pt,c.mc.ld,c.mc.lo⟩,c.re,c.tr⟩;rcases here with⟨hpc,hj⟩ | hpc
 ·
  rcases hj with hj | ⟨hj,hl⟩
  ·
   obtain⟨hf,off,hx⟩:=c.pa.send h hpc hnn hj;rw[g9T hn hbk hw hf hx];split
   ·exact⟨n1,j1,mG _,c0⟩
   rename_i hnot;simp only[not_or]at hnot;have hfr:eg x.A (aM (sndK false) ((sndR o (insG p m0 n1)).getD j1 0) (runG p m0 n1).pc off) x.A1=true:=by simpa using hnot.2.2
   have hrm:(sndR o (insG p m0 n1)).getD j1 0∈sndR o (insG p m0 n1):=ck 0 hj;obtain⟨hb1,hb2⟩:=g8M hrm;have hrd:=g8E hfr (r:=(sndR o (insG p m0 n1)).getD j1 0) (mI.2 rfl) hb1;have va:getM ({x.A with A6:=(kx s false x.A.A6).1}:aI) ((sndR o (insG p m0 n1)).getD j1 0)=gv (runG p m0 n1) ((sndR o (insG p m0 n1)).getD j1 0):=valA (d:={x.A with A6:=(kx s false x.A.A6).1}) c.mc.lo (.inr ⟨hb1,hb2,hrd⟩);unfold actA;rw[if_neg (show ¬(aM (sndK false) ((sndR o (insG p m0 n1)).getD j1 0) (runG p m0 n1).pc off).1=1 by show ¬sndK false=1; decide),if_neg (show ¬((aM (sndK false) ((sndR o (insG p m0 n1)).getD j1 0) (runG p m0 n1).pc off).1=2∨(aM (sndK false) ((sndR o (insG p m0 n1)).getD j1 0) (runG p m0 n1).pc off).1=3) by show ¬(sndK false=2∨sndK false=3); decide),if_neg (show ¬(aM (sndK false) ((sndR o (insG p m0 n1)).getD j1 0) (runG p m0 n1).pc off).1=4 by show ¬sndK false=4; decide),if_pos (show (aM (sndK false) ((sndR o (insG p m0 n1)).getD j1 0) (runG p m0 n1).pc off).1=5 from rfl)];show ∃n' j',n1≤n'∧Cos p o s m0 (bo (if len x.C7<cf.C7 then {x with A:=cj ({x.A with A6:=(kx s false x.A.A6).1}:aI),C7:=x.C7++[getM ({x.A with A6:=(kx s false x.A.A6).1}:aI) ((sndR o (insG p m0 n1)).getD j1 0)]} else {x with A:={x.A with A6:=(kx s false x.A.A6).1}})) (if len x.C7<cf.C7 then {x with A:=cj ({x.A with A6:=(kx s false x.A.A6).1}:aI),C7:=x.C7++[getM ({x.A with A6:=(kx s false x.A.A6).1}:aI) ((sndR o (insG p m0 n1)).getD j1 0)]} else {x with A:={x.A with A6:=(kx s false x.A.A6).1}}) n' j' (ka+1) m i ke
   by_cases hq:len x.C7<cf.C7
   case neg=>rw[if_neg hq]; exact⟨n1,j1,mG _,c0⟩
   rw[if_pos hq,va];have pa:=c.pa;rw[hd]at pa;refine⟨n1,j1+1,mG _,?_,c.pe,?_,c.abq,c.ebq,⟨c.mc.mem,c.mc.wr,c.mc.pt,c.mc.ld,c.mc.lo⟩,c.re,c.tr⟩
   ·
    have g:=(pa.on1 h hpc hnn hj).mono;show Pl p o s m0 false (cj ({x.A with A6:=(kx s false x.A.A6).1}:aI)).A6 x.A.A4 (w.i64 (x.A.A5+1)) n1 (j1+1) (ka+1);rw[ib s,hd,hdone];exact g
   ·
    rw[h0h (by rw[iP]; exact hj),← mQ,c.aeq];show _=_++(x.C7++[_]);rw[mQ];congr 3;unfold sv;rw[g9Y hj]
  ·
   obtain⟨hf,off,kc,hk,hx⟩:=c.pa.last h hpc hnn hj hl;rw[g9T hn hbk hw hf hx];split
   ·exact⟨n1,j1,mG _,c0⟩
   ·
    rename_i hnot;simp only[not_or]at hnot;obtain⟨b1,b2⟩:=g8S hr;exact c.actA_last h hd hpc hnn hj hl hn hbk hf hdb b1 b2 (c9r hr) (b8A hr) hk (by simpa using hnot.2.2)
 ·
  obtain⟨q,q1,q2,q3,q4⟩:=c.pa.fell h hpc hnn;have hf:(kx s false x.A.A6).2=true:=by rw[q1]
  obtain⟨a1,a2⟩:=d9H hn hbk hw hf;unfold aP;rw[if_pos (.inl a1),a2,gz];refine⟨n1,j1,mG _,c0.pa,c0.pe,c0.aeq,c0.abq,c0.ebq,⟨c0.mc.mem,c0.mc.wr,c0.mc.pt,c0.mc.ld,c0.mc.lo⟩,c0.re,?_⟩;refine c0.tr.note ⟨n1,by rw[q2],.inr ⟨rfl,hpc⟩,?_⟩
  rw[q1,q4];exact q3
theorem g9l {k:Nat} (t:bH) (hs:dx s.A3) (h:RI k cf s x) (hk:k≤12000) (hl:s.A3.length≤100000) :
  bu cf s x=true∧Lies (aX cf t x).B0∧len (aX cf t x).Mem≤65536∧bu cf s (bD cf (aX cf t x))=true∧bu cf s (aG cf s (bD cf (aX cf t x)))=true ∧
  fQ cf s t x={(aP cf s (aG cf s (bD cf (aX cf t x)))) with A1:=w.i64 ((aP cf s (aG cf s (bD cf (aX cf t x)))).A1+1)}:=by
 have hI:=h.inv;have hr:=h.rp.right (by omega) (by omega) (by omega);have hb:=Bnd.of hr;have hcy:=h.cyc;have hlat:=h.lat
 have hpck:=h.pck;have htag:=h.tag;obtain⟨m1,x0,t1,t2,t3,bg⟩:=c7l (t:=t) hI (by omega) hr;have m2:=e2j cf (aX cf t x) (by have:=m1.tab; have:=hb.tab; omega);have hL:Lies (aX cf t x).B0:=λe he=>by
  rw[m1.saq]at he;exact c9l (m:=len x.Mem) (b8A hr) x.B0 true (c9r hr) e (oZ he)
 have hst:∀y,bu cf s (bD cf (aX cf t x))=true→bu cf s (aG cf s (bD cf (aX cf t x)))=true→y=({(aP cf s (aG cf s (bD cf (aX cf t x)))) with A1:=w.i64 ((aP cf s (aG cf s (bD cf (aX cf t x)))).A1+1)}:aa)→fQ cf s t x=y:=by
  intro y g1 g2 e;rw[e];unfold fQ h7H;rw[if_pos hr,if_pos g1];unfold h7D;rw[if_pos g2]
 obtain⟨r1,adds,w1⟩:=e7m h.rp m1 t1 t2 t3 bg hb.bk (by omega) (by omega) (by omega) (by omega);obtain⟨r2,w2⟩:=e7S r1 m2;have hr2:=r2.right (by omega) (by omega) (by omega);have fr1:=m1.fr;have fr2:=m2.fr;have c2:(bD cf (aX cf t x)).A1=x.A1:=by rw[fr2]; show (aX cf t x).A1=_; rw[fr1]
 have r3:=e5T hs r2 (by omega) (by omega) (by rw[c2]; omega) (by omega);have hr3:=r3.right (by omega) (by omega) (by omega);exact⟨hr,hL,r1.q.2.2.2.2.2.2.2,hr2,hr3,hst _ hr2 hr3 rfl⟩
theorem Cos.step {k:Nat} (t:bH) (h:Spl p o s) (hR:RI k cf s x) (hk:k≤12000) (hl:s.A3.length≤100000) (c:Cos p o s m0 (bo x) x n j ka m i ke) (hb:p.Code.length*(ka+1)≤1000000000) (hb2:p.Code.length*(ke+1)≤1000000000) :
  ∃n' j' m' i',n≤n'∧m≤m'∧Cos p o s m0 (bo (fQ cf s t x)) (fQ cf s t x) n' j' (ka+1) m' i' (ke+1):=by
 obtain⟨hr,hL,hM,hr2,hr3,e⟩:=g9l t h.next.2 hR hk hl
 obtain⟨b1,_⟩:=g8S hr;have c1:=c.move (c:=cf) t (by rw[wI (by omega) (by omega)]; omega) (b8A hr) (Bnd.of hr).la;have c2:=c1.sent hL hM hr2;obtain⟨m',i',h1,c3⟩:=c2.runE h hr2 hb2;have eT:bo (aG cf s (bD cf (aX cf t x)))=bo (bD cf (aX cf t x)):=by
  unfold bo;rw[(d9F cf s (bD cf (aX cf t x))).fr]
 rw[← eT]at c3;obtain⟨n',j',h2,c4⟩:=c3.runA h hr3 hb;rw[e];exact⟨n',j',m',i',h2,h1,c4.pa,c4.pe,c4.aeq,c4.abq,c4.ebq,⟨c4.mc.mem,c4.mc.wr,c4.mc.pt,c4.mc.ld,c4.mc.lo⟩,c4.re,c4.tr⟩
theorem g8K (n:Nat) (t:Nat):(List.replicate n (0:Int)).getD t 0=0:=by
 rw[mA,List.getElem?_replicate];split<;>rfl
theorem Cos.first (h:Spl p o s):Cos p o s m0 (bo (st0 m0)) (st0 m0) 0 0 0 0 0 0:=by
 have pl:∀e,Pl p o s m0 e ⟨0,0,0⟩ false 0 0 0 0:=λe=>⟨rfl,h.first,nU _,λhh=>(by cases hh),nU _,λt ht=>absurd ht (by omega)⟩
 refine⟨pl false,pl true,rfl,rfl,rfl,⟨rfl,⟨[],[],rfl,rfl,?_⟩,⟨[],rfl,rfl⟩,⟨[],rfl,?_⟩,?_⟩,⟨λr _ _ _=>?_,λt ht=>absurd ht (by omega),rfl⟩,λhh=>absurd rfl hh⟩
 ·exact⟨rfl,λt ht=>absurd ht (by show ¬t<0; omega),λt _=>rfl,λq hq=>(by cases hq),λhh=>(by cases hh),nU _⟩
 ·exact⟨rfl,λt ht=>absurd ht (by show ¬t<0; omega),λt ht=>absurd ht (by show ¬t<0; omega),λq hq=>(by cases hq),λt u _ hu=>absurd hu (by show ¬u<0; omega),λt ht=>absurd ht (by show ¬t<0; omega)⟩
 ·
  refine⟨λq hq=>(by cases hq),λr _ _ hr=>?_,by exact List.Pairwise.nil,λq hq=>(by cases hq),λq hq=>(by cases hq),λr _ _ _ _=>?_,rfl,rfl⟩
  ·
   have hr:(List.replicate 16 (0:Int)).getD r.toNat 0<0:=hr;rw[g8K]at hr; omega
  ·
   show (List.replicate 16 (0:Int)).getD r.toNat 0=0;exact g8K _ _
 ·
  show (List.replicate 16 (0:Int)).getD r.toNat 0=0;exact g8K _ _
end
end Go.Proofs.Zz
