import Derived.Test.YtnfpdmhdpeffjaaGreatYS
import Derived.Test.YtnfpdmhdpeffjaaGreatYT
set_option linter.unusedSimpArgs false
set_option linter.unusedVariables false
set_option maxRecDepth 100000
namespace Go.Proofs.Zz
open Go
def qP (L:Nat) (q:am):Nat:=if q.2.2.2.2.2.1>0 then q.2.2.2.2.2.1.toNat else L+1
def tabP (L:Nat):List am→Nat
 | []=>0
 | q::r=>qP L q+tabP L r
theorem h2d (L:Nat):∀a b:List am,tabP L (a++b)=tabP L a+tabP L b
 | [],b=>by show tabP L b=0+tabP L b; omega
 | q::a,b=>by show qP L q+tabP L (a++b)=qP L q+tabP L a+tabP L b; rw[h2d L a b]; omega
theorem h2K (L:Nat):∀(l:List am) (k:Nat) (q:am),k<l.length→tabP L (l.set k q)+qP L (l.getD k am.z)=tabP L l+qP L q
 | [],k,q,h=>by simp at h
 | a::l,0,q,h=>by show qP L q+tabP L l+qP L a=qP L a+tabP L l+qP L q; omega
 | a::l,k+1,q,h=>by
  have:=h2K L l k q (by simpa using h);show qP L a+tabP L (l.set k q)+qP L (l.getD k am.z)=qP L a+tabP L l+qP L q;omega
def h7s (q:am):Bool:=decide (q.2.2.2.2.2.1>0)
theorem h2k (L:Nat):∀T:List am,(∀q∈T,LfOk q)→tabP L (T.filterMap bp)+T.countP h7s=tabP L T
 | [],_=>rfl
 | q::r,h=>by
  have ih:=h2k L r λa ha=>h a (nG _ ha)
  have hq:=h q (nj ..);unfold LfOk at hq;have hw:w.i64 (q.2.2.2.2.2.1-1)=q.2.2.2.2.2.1-1:=wI (by omega) (by omega);rw[pm,nV];show _=qP L q+tabP L r;unfold qP;by_cases h0:q.2.2.2.2.2.1>0
  ·
   rw[if_pos (show h7s q=true from decide_eq_true h0),if_pos h0];by_cases h1:q.2.2.2.2.2.1=1
   ·
    have hk:bp q=none:=by unfold bp; rw[if_pos h0,hw,if_pos (by omega)]
    rw[hk];show tabP L (r.filterMap bp)+_=_;omega
   ·
    have hk:bp q=some (cH q):=by unfold bp; rw[if_pos h0,hw,if_neg (by omega)]
    rw[hk];show qP L (cH q)+tabP L (r.filterMap bp)+_=_;have:qP L (cH q)=(q.2.2.2.2.2.1-1).toNat:=by
     unfold qP;show (if w.i64 (q.2.2.2.2.2.1-1)>0 then (w.i64 (q.2.2.2.2.2.1-1)).toNat else L+1)=_;rw[hw,if_pos (by omega)]
    omega
  ·
   have hk:bp q=some q:=by unfold bp; rw[if_neg h0]
   rw[hk,if_neg (show ¬h7s q=true by unfold h7s; simp; omega),if_neg h0];show qP L q+tabP L (r.filterMap bp)+_=_;unfold qP;rw[if_neg h0];omega
theorem h1Y (n b:Int):∀(l:List am) (i:Nat),∀r∈d7 n b l i,(l.getD (r.toNat-i) am.z).2.2.2.2.2.1=0
 | [],i=>by simp[d7]
 | q::l,i=>by
  intro r hr;rw[d7]at hr;rcases mM.1 hr with h | h
  ·
   split at h
   ·
    rename_i hb;rw[mI.1 h,mF,oT];exact hb.2
   ·simp at h
  ·
   have h1:=h1Y n b l (i+1) r h;have h2:=(d2M n b l (i+1)).2 r h;rw[show r.toNat-i=(r.toNat-(i+1))+1 by omega];exact h1
theorem h2z (n b:Int):∀(l:List am) (i:Nat),(∃q∈l,dr q.2.2.1 n=b∧q.2.2.2.2.2.1=0)→(d7 n b l i).length≠0
 | [],i,h=>by obtain⟨q,hq,_⟩:=h; cases hq
 | q::l,i,h=>by
  rw[d7,mD];obtain⟨a,ha,h1⟩:=h;rcases mV.1 ha with rfl | ha
  ·rw[if_pos h1]; simp
  ·
   have:=h2z n b l (i+1) ⟨a,ha,h1⟩;omega
theorem h2w (l:List am) (i j:Nat) (v:am) (h:i<l.length):(l.set i v).getD j am.z=if i=j then v else l.getD j am.z:=by
 rw[mA,oO,mA];by_cases e:i=j
 ·subst e; simp[h]
 ·simp[e]
theorem h2U {c:ay} (t:bH) (b:Int) (x:aa) (hc:1≤c.C4∧c.C4≤1000) :
  tabP c.C4.toNat (eO c t b x).A0≤tabP c.C4.toNat x.A0∧(eO c t b x).A0.length=x.A0.length ∧
  (∀k:Nat,((eO c t b x).A0.getD k am.z).2.2.1=(x.A0.getD k am.z).2.2.1) ∧
  (∀k:Nat,k<x.A0.length→dr (x.A0.getD k am.z).2.2.1 c.B2≠b→(eO c t b x).A0.getD k am.z=x.A0.getD k am.z) ∧
  ((∀q∈x.A0,cN c.B2 b q=false)→(∃q∈x.A0,dr q.2.2.1 c.B2=b∧q.2.2.2.2.2.1=0)→tabP c.C4.toNat (eO c t b x).A0+1≤tabP c.C4.toNat x.A0):=by
 have hl:=d8o t.B6 x.B6 hc.1;have hb:=g7z c.B2 b x.A0 0;have hz:=h1Y c.B2 b x.A0 0;have hi:=(d2M c.B2 b x.A0 0).2;have hh:=h2z c.B2 b x.A0 0;have same:tabP c.C4.toNat x.A0≤tabP c.C4.toNat x.A0∧x.A0.length=x.A0.length∧(∀k:Nat,(x.A0.getD k am.z).2.2.1=(x.A0.getD k am.z).2.2.1)∧(∀k:Nat,k<x.A0.length→dr (x.A0.getD k am.z).2.2.1 c.B2≠b→x.A0.getD k am.z=x.A0.getD k am.z):=⟨mG _,rfl,λ_=>rfl,λ_ _ _=>rfl⟩
 unfold eO;split
 ·
  rename_i hw;obtain⟨q,hq,h1⟩:=pY.1 hw;exact⟨same.1,same.2.1,same.2.2.1,same.2.2.2,λh=>by rw[h q hq]at h1; cases h1⟩
 dsimp only
 generalize d7 c.B2 b x.A0 0=wt at *;have wl:w.i64 (1+nthM t.B6 x.B6 c.C4)=1+nthM t.B6 x.B6 c.C4:=wI (by omega) (by omega);have put:∀r∈wt,tabP c.C4.toNat (putL x r (w.i64 (1+nthM t.B6 x.B6 c.C4)))+1≤tabP c.C4.toNat x.A0∧(putL x r (w.i64 (1+nthM t.B6 x.B6 c.C4))).length=x.A0.length ∧
   (∀k:Nat,((putL x r (w.i64 (1+nthM t.B6 x.B6 c.C4))).getD k am.z).2.2.1=(x.A0.getD k am.z).2.2.1) ∧
   (∀k:Nat,k<x.A0.length→dr (x.A0.getD k am.z).2.2.1 c.B2≠b→(putL x r (w.i64 (1+nthM t.B6 x.B6 c.C4))).getD k am.z=x.A0.getD k am.z):=by
  intro r hr;have h1:=hi r hr;have h2:=hb r hr;have h3:=hz r hr;rw[oD]at h2 h3;have hlt:r.toNat<x.A0.length:=by omega
  unfold putL;rw[wl];have h4:=h2K c.C4.toNat x.A0 r.toNat (h8J (1+nthM t.B6 x.B6 c.C4) (x.A0.getD r.toNat am.z)) hlt;have h5:qP c.C4.toNat (x.A0.getD r.toNat am.z)=c.C4.toNat+1:=by unfold qP; rw[h3]; rfl
  have h6:qP c.C4.toNat (h8J (1+nthM t.B6 x.B6 c.C4) (x.A0.getD r.toNat am.z))=(1+nthM t.B6 x.B6 c.C4).toNat:=by
   unfold qP;show (if 1+nthM t.B6 x.B6 c.C4>0 then (1+nthM t.B6 x.B6 c.C4).toNat else _)=_;rw[if_pos (by omega)]
  refine⟨by omega,mp,λk=>?_,λk hk hne=>?_⟩
  ·
   rw[h2w _ _ _ _ hlt];split
   ·rename_i e; subst e; rfl
   ·rfl
  ·
   rw[h2w _ _ _ _ hlt,if_neg]
   rintro rfl
   exact hne h2
 split
 ·
  rename_i h0;exact⟨same.1,same.2.1,same.2.2.1,same.2.2.2,λ_ h=>absurd h0 (hh h)⟩
 rename_i h0;split
 ·
  obtain⟨p0,p1⟩:=d8o t.B5 x.B5 (m:=len wt) (by simp only[len]; omega);obtain⟨g1,g2,g3,g4⟩:=put (wt.getD (nthM t.B5 x.B5 (len wt)).toNat 0) (ck 0 (by have:len wt=(wt.length:Int):=rfl; omega));exact⟨by show tabP _ (putL x _ _)≤_; omega,g2,g3,g4,λ_ _=>g1⟩
 ·
  obtain⟨g1,g2,g3,g4⟩:=put (wt.getD 0 0) (ck 0 (by omega));exact⟨by show tabP _ (putL x _ _)≤_; omega,g2,g3,g4,λ_ _=>g1⟩
theorem h1M {c:ay} (t:bH) (hc:1≤c.C4∧c.C4≤1000):∀(n i:Nat) (x:aa),tabP c.C4.toNat (gO c t n i x).A0≤tabP c.C4.toNat x.A0 ∧
  (∀k:Nat,k<x.A0.length→(∀u:Nat,u<x.A0.length→(x.A0.getD u am.z).2.2.2.2.2.1=0)→(i:Int)≤dr (x.A0.getD k am.z).2.2.1 c.B2→dr (x.A0.getD k am.z).2.2.1 c.B2<i+n→tabP c.C4.toNat (gO c t n i x).A0+1≤tabP c.C4.toNat x.A0)
 | 0,i,x=>⟨mG _,λk _ _ h1 h2=>by omega⟩
 | n+1,i,x=>by
  rw[gO];obtain⟨g1,g2,g3,g4,g5⟩:=h2U t (i:Int) x hc;obtain⟨f1,f2⟩:=h1M t hc n (i+1) (eO c t (i:Int) x);refine⟨by omega,λk hk hz h1 h2=>?_⟩
  have strict:∀k:Nat,k<x.A0.length→dr (x.A0.getD k am.z).2.2.1 c.B2=(i:Int)→tabP c.C4.toNat (gO c t n (i+1) (eO c t (i:Int) x)).A0+1≤tabP c.C4.toNat x.A0:=λk hk e=>by
   have:=g5 (λq hq=>by
    obtain⟨u,hu,rfl⟩:=nC hq;have hzu:=hz u hu;rw[mA,mC hu,mj]at hzu;unfold cN;rw[hzu];simp) ⟨_,ck am.z hk,e,hz k hk⟩
   omega
  by_cases e:dr (x.A0.getD k am.z).2.2.1 c.B2=(i:Int)
  ·exact strict k hk e
  ·
   by_cases hany:∃u,u<x.A0.length∧dr (x.A0.getD u am.z).2.2.1 c.B2=(i:Int)
   ·
    obtain⟨u,hu,eu⟩:=hany;exact strict u hu eu
   ·
    have hsame:∀u:Nat,u<x.A0.length→(eO c t (i:Int) x).A0.getD u am.z=x.A0.getD u am.z:=λu hu=>g4 u hu λeu=>hany ⟨u,hu,eu⟩
    have:=f2 k (by rw[g2]; exact hk) (λu hu=>by rw[g2]at hu; rw[hsame u hu]; exact hz u hu) (by rw[g3]; omega) (by rw[g3]; omega);omega
theorem h3h (a:Int) {n:Int} (hn:1≤n) (ha:a≤100000):0≤dr a n∧dr a n<n:=by
 unfold dr;split
 ·omega
 ·
  rename_i h;have e1:Int.tdiv a 4=a / 4:=ou (by omega);rw[e1,wI (x:=a / 4) (by omega) (by omega),oQ (by omega)];exact⟨ol _ (by omega),oW _ (by omega)⟩
theorem h3x {c : ay} (t : bH) {x : aa} (hc : 1 ≤ c.C4 ∧ c.C4 ≤ 1000) (hbk : 1 ≤ c.B2 ∧ c.B2 ≤ 16) (hl : ∀ q ∈ x.A0, LfOk q) (ha : ∀ q ∈ x.A0, q.2.2.1 ≤ 100000) :
    tabP c.C4.toNat (aX c t x).A0 ≤ tabP c.C4.toNat x.A0 ∧ (x.A0 ≠ [] → tabP c.C4.toNat (aX c t x).A0 + 1 ≤ tabP c.C4.toNat x.A0) := by
  obtain ⟨g1, g2⟩ := h1M t hc c.B2.toNat 0 { bO x.A0 x with A0 := x.A0.filterMap bp }
  have hk := h2k c.C4.toNat x.A0 hl
  have g1 : tabP c.C4.toNat (aX c t x).A0 ≤ tabP c.C4.toNat (x.A0.filterMap bp) := g1
  refine ⟨by omega, fun hne => ?_⟩
  by_cases h0 : x.A0.countP h7s = 0
  · have hz : ∀ q ∈ x.A0, q.2.2.2.2.2.1 = 0 := fun q hq => by
      have h1 := oI.1 h0 q hq
      have h2 := (hl q hq).1
      unfold h7s at h1
      have h3 : ¬ q.2.2.2.2.2.1 > 0 := by simpa using h1
      omega
    have hf : x.A0.filterMap bp = x.A0 := by
      have : ∀ T : List am, (∀ q ∈ T, q.2.2.2.2.2.1 = 0) → T.filterMap bp = T := by
        intro T
        induction T with
        | nil => intro _; rfl
        | cons q r ih =>
          intro h
          have hk : bp q = some q := by unfold bp; rw [if_neg (by have := h q (nj ..); omega)]
          rw [pm, hk, ih fun a ha => h a (nG _ ha)]
      exact this _ hz
    have hpos : 0 < x.A0.length := oH.2 hne
    have hm := ck am.z hpos
    have hr := h3h (x.A0.getD 0 am.z).2.2.1 hbk.1 (ha _ hm)
    have := g2 0 (by show 0 < (x.A0.filterMap bp).length; rw [hf]; exact hpos) (fun u hu => by
      have hu : u < (x.A0.filterMap bp).length := hu
      show ((x.A0.filterMap bp).getD u am.z).2.2.2.2.2.1 = 0
      rw [hf] at hu ⊢
      exact hz _ (ck am.z hu)) (by show ((0 : Nat) : Int) ≤ dr ((x.A0.filterMap bp).getD 0 am.z).2.2.1 c.B2; rw [hf]; omega) (by show dr ((x.A0.filterMap bp).getD 0 am.z).2.2.1 c.B2 < _; rw [hf]; omega)
    have this : tabP c.C4.toNat (aX c t x).A0 + 1 ≤ tabP c.C4.toNat (x.A0.filterMap bp) := this
    omega
  · omega
def rdL:List Int→Int→Nat
 | [],_=>0
 | r::l,cy=>max (r-cy).toNat (rdL l cy)
theorem h1D:∀(l:List Int) (cy:Int),rdL l (cy+1)=rdL l cy-1
 | [],_=>rfl
 | r::l,cy=>by
  show max (r-(cy+1)).toNat (rdL l (cy+1))=max (r-cy).toNat (rdL l cy)-1;rw[h1D l cy];omega
theorem h4l {l:List Int} {cy:Int}:∀r∈l,r-cy≤(rdL l cy:Int):=by
 induction l with
 | nil=>intro r hr; cases hr
 | cons a l ih =>
  intro r hr;show r-cy≤((max (a-cy).toNat (rdL l cy):Nat):Int);rcases mV.1 hr with rfl | hr
  ·omega
  ·have:=ih r hr; omega
theorem h1N:∀(l:List Int) (k:Nat) (v cy:Int),rdL (l.set k v) cy≤max (rdL l cy) (v-cy).toNat
 | [],_,_,_=>by simp[rdL]
 | a::l,0,v,cy=>by show max (v-cy).toNat (rdL l cy)≤max (max (a-cy).toNat (rdL l cy)) _; omega
 | a::l,k+1,v,cy=>by
  have:=h1N l k v cy;show max (a-cy).toNat (rdL (l.set k v) cy)≤max (max (a-cy).toNat (rdL l cy)) _;omega
def sdP (d:aI) (cy:Int):Nat:=rdL d.A8 cy+(d.C3-cy).toNat
theorem h2L {d:aI} {cy:Int} (h:sdP d cy=0):¬d.C3>cy∧∀r∈d.A8,r≤cy:=by
 unfold sdP at h;refine⟨by omega,λr hr=>?_⟩
 have:=h4l (cy:=cy) r hr;omega
def EZ (x:aa):Prop:=∀r∈x.E.A8,0≤r
theorem h2F {d:aI} {r v y:Int} (h:∀q∈d.A8,0≤q) (hy:0≤y):∀q∈(setM d r v y).A8,0≤q:=by
 unfold setM;split
 ·
  intro q hq;rcases nI hq with hq | rfl
  ·exact h q hq
  ·exact hy
 ·exact h
theorem h3P {c:ay} {s:ao} {x:aa} (h:EZ x) (hc:0≤x.A1∧x.A1≤2000000000000):EZ (aG c s x):=by
 have ha:EZ (atE s x).2.2.2∧(atE s x).2.2.2.A1=x.A1:=by
  unfold atE;split
  ·exact⟨h,rfl⟩
  ·
   simp only[];split
   ·rw[gz]; exact⟨h,rfl⟩
   ·exact⟨h,rfl⟩
 unfold aG;split
 ·exact ha.1
 ·
  obtain⟨h1,h2⟩:=ha;generalize (atE s x).2.2.2=z at *;have hl:=d5S c (atE s x).1.2.1.1;have p1:0≤w.i64 (z.A1+1):=by rw[h2,wI (by omega) (by omega)]; omega
  have p2:0≤w.i64 (z.A1+latM c (atE s x).1.2.1.1):=by rw[h2,wI (by omega) (by omega)]; omega
  unfold actE;split
  ·
   split
   ·exact h2F h1 p2
   ·rw[gz]; exact h1
  split
  ·
   split
   ·exact h1
   ·exact h2F h1 p1
  split
  ·
   split
   ·exact h1
   ·exact h2F h1 p1
  split
  ·split<;>exact h1
  split
  ·split<;>exact h1
  split
  ·split<;>exact h1
  split
  ·exact h1
  split<;>exact h1
theorem h1J {d:aI} {k:ak} {cy:Int} (h:∀r:Int,1≤r→r≤15→0≤d.A8.getD r.toNat 0∧d.A8.getD r.toNat 0≤cy):eg d k cy=true:=by
 unfold eg jQ;refine mz.2 λr hr=>decide_eq_true ?_
 have:=(oA.1 hr).2;unfold fy at this;have:=of_decide_eq_true this;exact h r this.1 this.2
theorem h1v {x:aa} {k st pc:Int} (h:dk x st=false) (hk:k≠0):(bG x k st pc).A9.C2≠0∧(bG x k st pc).A9.C5=st:=by
 unfold dk at h;have h:=of_decide_eq_false h;unfold bG;rw[if_pos (by omega)];exact⟨hk,rfl⟩
section
variable {p:aw} {o:List Int} {s:ao} {m0:List Int} {n j m i k ka ke:Nat} {R:List am} {x:aa} {cf:ay}
theorem h2H (h:Spl p o s) (c:Cos p o s m0 R x n j ka m i ke) (hr:bu cf s x=true) (hm:m≤1000000000) (hw:¬(x.E.A4=true∨x.E.C3>x.A1)) (hfr:∀r:Int,1≤r→r≤15→0≤x.E.A8.getD r.toNat 0∧x.E.A8.getD r.toNat 0≤x.A1) (hh:Here p o m0 true m i) (hst:dk x (m:Int)=false)
  (r1:i<(sndR o (insG p m0 m)).length→x.C7.length≠0) (r2:i=(sndR o (insG p m0 m)).length→ae (insG p m0 m).1=4→onEM o (insG p m0 m).2.1=true→(popM x.B9).2.2=true)
  (r3:i=(sndR o (insG p m0 m)).length→ae (insG p m0 m).1=5→len x.C9<cf.C9) (r4:i=(sndR o (insG p m0 m)).length→ae (insG p m0 m).1=6→bY o (aY (insG p m0 m))=true→len x.C8<cf.C8)
  (r5:i=(sndR o (insG p m0 m)).length→ae (insG p m0 m).1=6→bY o (aY (insG p m0 m))=false→x.C6.length≠0) :
  (aG cf s x).E.A5=x.E.A5+1∨((aG cf s x).A9.C2≠0∧(aG cf s x).A9.C5=(m:Int)):=by
 have hn:=h.next.1
 have hbk:=ie (jA hr);have hdb:=h1l (jA hr);have hdone:w.i64 (x.E.A5+1)=x.E.A5+1:=wI (by omega) (by omega);have sd:∀d:aI,∀r v y:Int,(cj (setM d r v y)).A5=w.i64 (d.A5+1):=λd r v y=>by show w.i64 ((setM d r v y).A5+1)=_; rw[gG]
 rcases hh with⟨hpc,hj⟩ | hpc
 ·
  rcases hj with hj | ⟨hj,hl⟩
  ·
   obtain⟨hf,off,hx⟩:=c.pe.send h hpc hm hj;rw[g9R hn hbk hw hf hx,if_neg (by rw[hst,h1J hfr]; simp)];unfold actE;rw[if_neg (show ¬(aM (sndK true) ((sndR o (insG p m0 m)).getD i 0) (runG p m0 m).pc off).1=1 by show ¬sndK true=1; decide),if_pos (show (aM (sndK true) ((sndR o (insG p m0 m)).getD i 0) (runG p m0 m).pc off).1=6 from rfl),if_neg (show ¬x.C7.length=0 from r1 hj)];exact .inl ((sd _ _ _ _).trans hdone)
  ·
   obtain⟨hf,off,kc,hk,hx⟩:=c.pe.last h hpc hm hj hl;have hri:=jR h.right hpc;rw[g9R hn hbk hw hf hx,if_neg (by rw[hst,h1J hfr]; simp)];have hst2:dk ({x with E:={x.E with A6:=(kx s true x.E.A6).1}}:aa) (m:Int)=false:=hst;unfold lstS at hk;rw[if_pos rfl]at hk;unfold lstE at hk;rw[hri,if_neg (by simp)]at hk;have kind:∀a:Int,kc.1=a→(a=1∨(a=7∧(popM x.B9).2.2=true)∨(a=8∧len x.C9<cf.C9)∨(a=9∧len x.C8<cf.C8)∨(a=10∧x.C6.length≠0)∨a=11∨a=12) →
     (actE cf s kc (m:Int) {x with E:={x.E with A6:=(kx s true x.E.A6).1}}).E.A5=x.E.A5+1∨((actE cf s kc (m:Int) {x with E:={x.E with A6:=(kx s true x.E.A6).1}}).A9.C2≠0∧(actE cf s kc (m:Int) {x with E:={x.E with A6:=(kx s true x.E.A6).1}}).A9.C5=(m:Int)):=by
    intro a ha hcase;unfold actE;rcases hcase with rfl | ⟨rfl,g⟩ | ⟨rfl,g⟩ | ⟨rfl,g⟩ | ⟨rfl,g⟩ | rfl | rfl
    ·
     rw[if_pos ha];split
     ·exact .inl ((sd _ _ _ _).trans hdone)
     ·exact .inr (h1v hst2 (by omega))
    ·
     rw[if_neg (by omega),if_neg (by omega),if_pos ha];show (if (popM x.B9).2.2=false then _ else _:aa).E.A5=_∨_;rw[if_neg (by rw[g]; simp)];exact .inl ((sd _ _ _ _).trans hdone)
    ·
     rw[if_neg (by omega),if_neg (by omega),if_neg (by omega),if_pos ha];show (if len x.C9<cf.C9 then _ else _:aa).E.A5=_∨_;rw[if_pos g];exact .inl hdone
    ·
     rw[if_neg (by omega),if_neg (by omega),if_neg (by omega),if_neg (by omega),if_pos ha];show (if len x.C8≥cf.C8 then _ else _:aa).E.A5=_∨_;rw[if_neg (by omega)];exact .inl hdone
    ·
     rw[if_neg (by omega),if_neg (by omega),if_neg (by omega),if_neg (by omega),if_neg (by omega),if_pos ha];show (if x.C6.length=0 then _ else _:aa).E.A5=_∨_;rw[if_neg g];exact .inl hdone
    ·
     rw[if_neg (by omega),if_neg (by omega),if_neg (by omega),if_neg (by omega),if_neg (by omega),if_neg (by omega),if_pos ha];exact .inl hdone
    ·
     rw[if_neg (by omega),if_neg (by omega),if_neg (by omega),if_neg (by omega),if_neg (by omega),if_neg (by omega),if_neg (by omega),if_pos ha];exact .inl hdone
   by_cases f3:ae (insG p m0 m).1≤3
   ·
    rw[if_pos f3]at hk;by_cases hs:cX (insG p m0 m) o=1
    ·rw[if_pos hs]at hk; cases hk
    ·
     rw[if_neg hs]at hk;exact kind 1 (by rw[← (mY hk).1]; rfl) (.inl rfl)
   rw[if_neg f3]at hk;by_cases f4:ae (insG p m0 m).1=4
   ·
    rw[if_pos f4]at hk;by_cases hs:onEM o (insG p m0 m).2.1=true
    ·
     rw[if_pos hs]at hk;exact kind 7 (by rw[← (mY hk).1]; rfl) (.inr (.inl ⟨rfl,r2 hj f4 hs⟩))
    ·rw[if_neg hs]at hk; cases hk
   rw[if_neg f4]at hk;by_cases f5:ae (insG p m0 m).1=5
   ·
    rw[if_pos f5]at hk;exact kind 8 (by rw[← (mY hk).1]; rfl) (.inr (.inr (.inl ⟨rfl,r3 hj f5⟩)))
   rw[if_neg f5]at hk;by_cases f6:ae (insG p m0 m).1=6
   ·
    rw[if_pos f6]at hk;cases hs:bY o (aY (insG p m0 m)) with
    | false =>
     rw[hs,if_pos rfl]at hk;exact kind 10 (by rw[← (mY hk).1]; rfl) (.inr (.inr (.inr (.inr (.inl ⟨rfl,r5 hj f6 hs⟩)))))
    | true =>
     rw[hs,if_neg (by simp)]at hk;exact kind 9 (by rw[← (mY hk).1]; rfl) (.inr (.inr (.inr (.inl ⟨rfl,r4 hj f6 hs⟩))))
   rw[if_neg f6]at hk;by_cases f7:ae (insG p m0 m).1=7
   ·
    rw[if_pos f7]at hk;exact kind 11 (by rw[← (mY hk).1]; rfl) (.inr (.inr (.inr (.inr (.inr (.inl rfl))))))
   ·
    rw[if_neg f7]at hk;exact kind 12 (by rw[← (mY hk).1]; rfl) (.inr (.inr (.inr (.inr (.inr (.inr rfl))))))
 ·
  obtain⟨q,q1,q2,q3,q4⟩:=c.pe.fell h hpc hm;have hf:(kx s true x.E.A6).2=true:=by rw[q1]
  obtain⟨a1,a2⟩:=d8m hn hbk hw hf;unfold aG;rw[if_pos (.inl a1),a2,q2];exact .inr (h1v hst (by omega))
end
section
variable {p:aw} {o:List Int} {s:ao} {m0:List Int} {n j m i k ka ke:Nat} {R:List am} {x:aa} {cf:ay}
theorem h3Y (h:Spl p o s) (c:Cos p o s m0 R x n j ka m i ke) (hr:bu cf s x=true) (hm:n≤1000000000) (hw:¬(x.A.A4=true∨x.A.C3>x.A1)) (hfr:∀r:Int,1≤r→r≤15→0≤x.A.A8.getD r.toNat 0∧x.A.A8.getD r.toNat 0≤x.A1) (hh:Here p o m0 false n j) (hst:dk x (n:Int)=false)
  (hah:gZ cf s {x with A:={x.A with A6:=(kx s false x.A.A6).1}}=false)
  (r1:j<(sndR o (insG p m0 n)).length→len x.C7<cf.C7) (r2:j=(sndR o (insG p m0 n)).length→ae (insG p m0 n).1=4→x.B0=[]∧len x.A0<cf.B7∧len x.B9<cf.B9)
  (r3:j=(sndR o (insG p m0 n)).length→ae (insG p m0 n).1=5→len x.B0<cf.B0) (r4:j=(sndR o (insG p m0 n)).length→ae (insG p m0 n).1=6→bY o (aY (insG p m0 n))=false→len x.C6<cf.C6)
  (r5:j=(sndR o (insG p m0 n)).length→ae (insG p m0 n).1=6→bY o (aY (insG p m0 n))=true→x.C8.length≠0) :
  (aP cf s x).A.A5=x.A.A5+1∨((aP cf s x).A9.C2≠0∧(aP cf s x).A9.C5=(n:Int)):=by
 have hn:=h.next.1
 have hbk:=ie (iX hr);have hdb:=h1l (iX hr);have hdone:w.i64 (x.A.A5+1)=x.A.A5+1:=wI (by omega) (by omega);have sd:∀d:aI,∀r v y:Int,(cj (setM d r v y)).A5=w.i64 (d.A5+1):=λd r v y=>by show w.i64 ((setM d r v y).A5+1)=_; rw[gG]
 rcases hh with⟨hpc,hj⟩ | hpc
 ·
  rcases hj with hj | ⟨hj,hl⟩
  ·
   obtain⟨hf,off,hx⟩:=c.pa.send h hpc hm hj;rw[g9T hn hbk hw hf hx,if_neg (by rw[hst,hah,h1J hfr]; simp)];unfold actA;rw[if_neg (show ¬(aM (sndK false) ((sndR o (insG p m0 n)).getD j 0) (runG p m0 n).pc off).1=1 by show ¬sndK false=1; decide),if_neg (show ¬((aM (sndK false) ((sndR o (insG p m0 n)).getD j 0) (runG p m0 n).pc off).1=2∨(aM (sndK false) ((sndR o (insG p m0 n)).getD j 0) (runG p m0 n).pc off).1=3) by show ¬(sndK false=2∨sndK false=3); decide),if_neg (show ¬(aM (sndK false) ((sndR o (insG p m0 n)).getD j 0) (runG p m0 n).pc off).1=4 by show ¬sndK false=4; decide),if_pos (show (aM (sndK false) ((sndR o (insG p m0 n)).getD j 0) (runG p m0 n).pc off).1=5 from rfl)];show (if len x.C7<cf.C7 then _ else _:aa).A.A5=_∨_;rw[if_pos (r1 hj)];exact .inl hdone
  ·
   obtain⟨hf,off,kc,hk,hx⟩:=c.pa.last h hpc hm hj hl;have hri:=jR h.right hpc;rw[g9T hn hbk hw hf hx,if_neg (by rw[hst,hah,h1J hfr]; simp)];have hst2:dk ({x with A:={x.A with A6:=(kx s false x.A.A6).1}}:aa) (n:Int)=false:=hst;unfold lstS at hk;rw[if_neg (by simp)]at hk;unfold lstA at hk;rw[hri,if_neg (by simp)]at hk;have kind:∀a:Int,kc.1=a→(a=1∨((a=2∨a=3)∧x.B0=[]∧len x.A0<cf.B7∧len x.B9<cf.B9)∨(a=4∧len x.B0<cf.B0)∨(a=9∧len x.C6<cf.C6)∨(a=10∧x.C8.length≠0)∨a=11∨a=12) →
     (actA cf s kc (n:Int) {x with A:={x.A with A6:=(kx s false x.A.A6).1}}).A.A5=x.A.A5+1∨((actA cf s kc (n:Int) {x with A:={x.A with A6:=(kx s false x.A.A6).1}}).A9.C2≠0∧(actA cf s kc (n:Int) {x with A:={x.A with A6:=(kx s false x.A.A6).1}}).A9.C5=(n:Int)):=by
    intro a ha hcase;obtain⟨y,hy⟩:∃y,y=({x with A:={x.A with A6:=(kx s false x.A.A6).1}}:aa):=⟨_,rfl⟩
    rw[← hy]at hst2 ⊢;have eS:y.B0=x.B0:=by rw[hy]
    have eT:y.A0=x.A0:=by rw[hy]
    have eL:y.B9=x.B9:=by rw[hy]
    have eB:y.C6=x.C6:=by rw[hy]
    have eE:y.C8=x.C8:=by rw[hy]
    have eD:w.i64 (y.A.A5+1)=x.A.A5+1:=by rw[show y.A.A5=x.A.A5 by rw[hy]]; exact hdone
    unfold actA;rcases hcase with rfl | ⟨g0,g1,g2,g3⟩ | ⟨rfl,g⟩ | ⟨rfl,g⟩ | ⟨rfl,g⟩ | rfl | rfl
    ·
     rw[if_pos ha];unfold doA;split
     ·exact .inl ((sd _ _ _ _).trans eD)
     ·exact .inr (h1v hst2 (by omega))
    ·
     rw[if_neg (by omega),if_pos (by omega)];have hs0:(du y.B0 (dC kc y) (aZ kc.2.1.1) y.B0.length).2=false:=by rw[eS,g1]; rfl
     unfold gM;by_cases hc:chkM kc y≠0
     ·rw[if_pos hc]; exact .inr (h1v hst2 hc)
     ·
      rw[if_neg hc,hs0,if_neg (by simp),eT,if_pos g2];unfold askM;split
      ·
       rw[eL,if_pos g3];exact .inl eD
      ·
       split
       ·exact .inl eD
       ·exact .inl eD
    ·
     rw[if_neg (by omega),if_neg (by omega),if_pos ha];unfold gj;by_cases hc:chkM kc y≠0
     ·rw[if_pos hc]; exact .inr (h1v hst2 hc)
     ·
      rw[if_neg hc,eS,if_pos g];exact .inl eD
    ·
     rw[if_neg (by omega),if_neg (by omega),if_neg (by omega),if_neg (by omega),if_pos ha];unfold gN;rw[eB,if_neg (by omega)];exact .inl eD
    ·
     rw[if_neg (by omega),if_neg (by omega),if_neg (by omega),if_neg (by omega),if_neg (by omega),if_pos ha];unfold gP;rw[eE,if_neg g];exact .inl eD
    ·
     rw[if_neg (by omega),if_neg (by omega),if_neg (by omega),if_neg (by omega),if_neg (by omega),if_neg (by omega),if_pos ha];exact .inl eD
    ·
     rw[if_neg (by omega),if_neg (by omega),if_neg (by omega),if_neg (by omega),if_neg (by omega),if_neg (by omega),if_neg (by omega),if_pos ha];exact .inl eD
   by_cases f3:ae (insG p m0 n).1≤3
   ·
    rw[if_pos f3]at hk;by_cases hs:cX (insG p m0 n) o=1
    ·
     rw[if_pos hs]at hk;exact kind 1 (by rw[← (mY hk).1]; rfl) (.inl rfl)
    ·rw[if_neg hs]at hk; cases hk
   rw[if_neg f3]at hk;by_cases f4:ae (insG p m0 n).1=4
   ·
    rw[if_pos f4]at hk;by_cases hs:onEM o (insG p m0 n).2.1=true
    ·
     rw[if_pos hs]at hk;exact kind 3 (by rw[← (mY hk).1]; rfl) (.inr (.inl ⟨.inr rfl,r2 hj f4⟩))
    ·
     rw[if_neg hs]at hk;exact kind 2 (by rw[← (mY hk).1]; rfl) (.inr (.inl ⟨.inl rfl,r2 hj f4⟩))
   rw[if_neg f4]at hk;by_cases f5:ae (insG p m0 n).1=5
   ·
    rw[if_pos f5]at hk;exact kind 4 (by rw[← (mY hk).1]; rfl) (.inr (.inr (.inl ⟨rfl,r3 hj f5⟩)))
   rw[if_neg f5]at hk;by_cases f6:ae (insG p m0 n).1=6
   ·
    rw[if_pos f6]at hk;cases hs:bY o (aY (insG p m0 n)) with
    | false =>
     rw[hs,if_pos rfl]at hk;exact kind 9 (by rw[← (mY hk).1]; rfl) (.inr (.inr (.inr (.inl ⟨rfl,r4 hj f6 hs⟩))))
    | true =>
     rw[hs,if_neg (by simp)]at hk;exact kind 10 (by rw[← (mY hk).1]; rfl) (.inr (.inr (.inr (.inr (.inl ⟨rfl,r5 hj f6 hs⟩)))))
   rw[if_neg f6]at hk;by_cases f7:ae (insG p m0 n).1=7
   ·
    rw[if_pos f7]at hk;exact kind 11 (by rw[← (mY hk).1]; rfl) (.inr (.inr (.inr (.inr (.inr (.inl rfl))))))
   ·
    rw[if_neg f7]at hk;exact kind 12 (by rw[← (mY hk).1]; rfl) (.inr (.inr (.inr (.inr (.inr (.inr rfl))))))
 ·
  obtain⟨q,q1,q2,q3,q4⟩:=c.pa.fell h hpc hm;have hf:(kx s false x.A.A6).2=true:=by rw[q1]
  obtain⟨a1,a2⟩:=d9H hn hbk hw hf;unfold aP;rw[if_pos (.inl a1),a2,q2];exact .inr (h1v hst (by omega))
end
end Go.Proofs.Zz
