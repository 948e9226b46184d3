import Derived.Test.YtnfpdmhdpeffjaaGreatLB
import Derived.Test.YtnfpdmhdpeffjaaGreatYU
set_option linter.unusedSimpArgs false
set_option linter.unusedVariables false
set_option maxRecDepth 100000
namespace Go.Proofs.Zz
open Go
section
variable {s:ao} {x:aa} {cf:ay}
theorem h2P (d:aI) (cy:Int):sdP d (cy+1)≤sdP d cy∧(sdP d cy≠0→sdP d (cy+1)+1≤sdP d cy):=by
 unfold sdP;rw[h1D];constructor
 ·omega
 ·intro h; omega
theorem h3W (d:aI) (r v y cy:Int):rdL (setM d r v y).A8 cy≤max (rdL d.A8 cy) (y-cy).toNat:=by
 unfold setM;split
 ·exact h1N _ _ _ _
 ·exact pN _ _
theorem h3z (d:aI) (r v y:Int):(setM d r v y).C3=d.C3:=by unfold setM; split<;>rfl
theorem h3j (d:aI) (r v y cy:Int) {rho:Nat} (hy:y≤cy+rho):sdP (cj (setM d r v y)) (cy+1)≤sdP d cy+rho+1:=by
 have h1:=h3W d r v y (cy+1);rw[h1D d.A8]at h1;show rdL (setM d r v y).A8 (cy+1)+((setM d r v y).C3-(cy+1)).toNat≤rdL d.A8 cy+(d.C3-cy).toNat+rho+1;rw[h3z];omega
theorem h4a (s:ao) (d:aI) (cy:Int) (t:Bool) (rho:Nat) (h0:0≤cy∧cy≤2000000000000):sdP (goD s cy d t) (cy+1)≤sdP d cy+rho+1:=by
 show rdL d.A8 (cy+1)+((if t=true then w.i64 (cy+2) else d.C3)-(cy+1)).toNat≤rdL d.A8 cy+(d.C3-cy).toNat+rho+1;rw[h1D];cases t with
 | true=>rw[if_pos rfl,wI (x:=cy+2) (by omega) (by omega)]; omega
 | false=>rw[if_neg (by simp)]; omega
theorem h2N (d:aI) (cy:Int) (rho:Nat):sdP d (cy+1)≤sdP d cy+rho+1:=by
 have:=(h2P d cy).1;omega
theorem h2S {rho:Nat} (h1:1≤rho) (hk:latM cf (atE s x).1.2.1.1≤rho) (hc:0≤x.A1∧x.A1≤2000000000000) (hd:0≤x.E.A5∧x.E.A5≤2000000000000) :
  ((aG cf s x).E.A5=x.E.A5∧(aG cf s x).E.A8=x.E.A8∧(aG cf s x).E.C3=x.E.C3)∨((aG cf s x).E.A5=x.E.A5+1∧sdP (aG cf s x).E (x.A1+1)≤sdP x.E x.A1+rho+1):=by
 have hdone:w.i64 (x.E.A5+1)=x.E.A5+1:=wI (by omega) (by omega);have ha:(atE s x).2.2.2.E.A5=x.E.A5∧(atE s x).2.2.2.E.A8=x.E.A8∧(atE s x).2.2.2.E.C3=x.E.C3∧(atE s x).2.2.2.A1=x.A1:=by
  unfold atE;split
  ·exact⟨rfl,rfl,rfl,rfl⟩
  ·
   simp only[];split
   ·rw[gz]; exact⟨rfl,rfl,rfl,rfl⟩
   ·exact⟨rfl,rfl,rfl,rfl⟩
 unfold aG;split
 ·exact .inl ⟨ha.1,ha.2.1,ha.2.2.1⟩
 ·
  obtain⟨a1,a2,a3,a4⟩:=ha;have hlat:=d5S cf (atE s x).1.2.1.1;generalize (atE s x).2.2.2=z at *;generalize (atE s x).1=kc at *;generalize (atE s x).2.1=st at *;have hz:sdP z.E x.A1=sdP x.E x.A1:=by unfold sdP; rw[a2,a3]
  have hD:w.i64 (z.E.A5+1)=x.E.A5+1:=by rw[a1]; exact hdone
  have same:(z.E.A5=x.E.A5∧z.E.A8=x.E.A8∧z.E.C3=x.E.C3):=⟨a1,a2,a3⟩;have sd:∀r v y:Int,(cj (setM z.E r v y)).A5=x.E.A5+1:=λr v y=>by show w.i64 ((setM z.E r v y).A5+1)=_; rw[gG]; exact hD
  have p1:w.i64 (z.A1+1)≤x.A1+rho:=by rw[a4,wI (by omega) (by omega)]; omega
  have p2:w.i64 (z.A1+latM cf kc.2.1.1)≤x.A1+rho:=by rw[a4,wI (by omega) (by omega)]; omega
  have cost:∀r v y:Int,y≤x.A1+rho→sdP (cj (setM z.E r v y)) (x.A1+1)≤sdP x.E x.A1+rho+1:=λr v y hy=>by
   rw[← hz]; exact h3j _ _ _ _ _ hy
  have goes':∀t:Bool,sdP (goD s z.A1 z.E t) (x.A1+1)≤sdP x.E x.A1+rho+1:=λt=>by
   rw[a4,← hz]; exact h4a s z.E x.A1 t rho hc
  have stay:sdP (cj z.E) (x.A1+1)≤sdP x.E x.A1+rho+1:=by rw[← hz]; exact h2N z.E x.A1 rho
  unfold actE;split
  ·
   split
   ·exact .inr ⟨sd _ _ _,cost _ _ _ p2⟩
   ·rw[gz]; exact .inl same
  split
  ·
   split
   ·exact .inl same
   ·exact .inr ⟨sd _ _ _,cost _ _ _ p1⟩
  split
  ·
   split
   ·exact .inl same
   ·exact .inr ⟨sd _ _ _,cost _ _ _ p1⟩
  split
  ·
   split
   ·exact .inr ⟨hD,stay⟩
   ·exact .inl same
  split
  ·
   split
   ·exact .inl same
   ·exact .inr ⟨hD,goes' _⟩
  split
  ·
   split
   ·exact .inl same
   ·exact .inr ⟨hD,goes' _⟩
  split
  ·exact .inr ⟨hD,goes' _⟩
  split
  ·exact .inr ⟨hD,by rw[← hz]; exact h2N z.E x.A1 rho⟩
  ·exact .inl same
end
section
variable {s:ao} {x:aa} {cf:ay}
theorem h3N (L:Nat) (T:List am) (k:ak) (a reg tag:Int):tabP L (T++[eI k a reg tag])=tabP L T+(L+1):=by
 rw[h2d];rfl
theorem h2T {rho L:Nat} (h1:1≤rho) (hk:latM cf (atA s x).1.2.1.1≤rho) (hc:0≤x.A1∧x.A1≤2000000000000) (hd:0≤x.A.A5∧x.A.A5≤2000000000000) :
  ((aP cf s x).A.A5=x.A.A5∧(aP cf s x).A.A8=x.A.A8∧(aP cf s x).A.C3=x.A.C3∧(aP cf s x).A0=x.A0)∨((aP cf s x).A.A5=x.A.A5+1∧sdP (aP cf s x).A (x.A1+1)≤sdP x.A x.A1+rho+1∧tabP L (aP cf s x).A0≤tabP L x.A0+(L+1)):=by
 have hdone:w.i64 (x.A.A5+1)=x.A.A5+1:=wI (by omega) (by omega);have ha:(atA s x).2.2.2.A.A5=x.A.A5∧(atA s x).2.2.2.A.A8=x.A.A8∧(atA s x).2.2.2.A.C3=x.A.C3∧(atA s x).2.2.2.A1=x.A1∧(atA s x).2.2.2.A0=x.A0:=by
  unfold atA;split
  ·exact⟨rfl,rfl,rfl,rfl,rfl⟩
  ·
   simp only[];split
   ·rw[gz]; exact⟨rfl,rfl,rfl,rfl,rfl⟩
   ·exact⟨rfl,rfl,rfl,rfl,rfl⟩
 unfold aP;split
 ·exact .inl ⟨ha.1,ha.2.1,ha.2.2.1,ha.2.2.2.2⟩
 ·
  obtain⟨a1,a2,a3,a4,a5⟩:=ha;have hlat:=d5S cf (atA s x).1.2.1.1;generalize (atA s x).2.2.2=z at *;generalize (atA s x).1=kc at *;generalize (atA s x).2.1=st at *;have hz:sdP z.A x.A1=sdP x.A x.A1:=by unfold sdP; rw[a2,a3]
  have hD:w.i64 (z.A.A5+1)=x.A.A5+1:=by rw[a1]; exact hdone
  have same:(z.A.A5=x.A.A5∧z.A.A8=x.A.A8∧z.A.C3=x.A.C3∧z.A0=x.A0):=⟨a1,a2,a3,a5⟩;have sd:∀r v y:Int,(cj (setM z.A r v y)).A5=x.A.A5+1:=λr v y=>by show w.i64 ((setM z.A r v y).A5+1)=_; rw[gG]; exact hD
  have p1:w.i64 (z.A1+1)≤x.A1+rho:=by rw[a4,wI (by omega) (by omega)]; omega
  have p2:w.i64 (z.A1+latM cf kc.2.1.1)≤x.A1+rho:=by rw[a4,wI (by omega) (by omega)]; omega
  have cost:∀r v y:Int,y≤x.A1+rho→sdP (cj (setM z.A r v y)) (x.A1+1)≤sdP x.A x.A1+rho+1:=λr v y hy=>by
   rw[← hz]; exact h3j _ _ _ _ _ hy
  have goes':∀t:Bool,sdP (goD s z.A1 z.A t) (x.A1+1)≤sdP x.A x.A1+rho+1:=λt=>by
   rw[a4,← hz]; exact h4a s z.A x.A1 t rho hc
  have stay:sdP (cj z.A) (x.A1+1)≤sdP x.A x.A1+rho+1:=by rw[← hz]; exact h2N z.A x.A1 rho
  have t0:tabP L z.A0≤tabP L x.A0+(L+1):=by rw[a5]; omega
  have t1:∀a reg tag:Int,tabP L (z.A0++[eI kc a reg tag])≤tabP L x.A0+(L+1):=λa reg tag=>by rw[h3N,a5]; exact mG _
  have res:(resM cf z).A=z.A∧(resM cf z).A0=z.A0:=by unfold resM; split<;>exact⟨rfl,rfl⟩
  unfold actA;split
  ·
   unfold doA;split
   ·exact .inr ⟨sd _ _ _,cost _ _ _ p2,t0⟩
   ·rw[gz]; exact .inl same
  split
  ·
   unfold gM;split
   ·rw[gz]; exact .inl same
   ·
    split
    ·
     split
     ·
      unfold gX;split
      ·exact .inr ⟨sd _ _ _,cost _ _ _ p1,t0⟩
      ·
       split
       ·
        refine .inr ⟨hD,stay,?_⟩;show tabP L (resM cf z).A0≤_;rw[res.2]; exact t0
       ·exact .inl same
     ·exact .inl same
    ·
     split
     ·
      unfold askM;split
      ·
       split
       ·exact .inr ⟨hD,stay,t1 _ _ _⟩
       ·exact .inl same
      ·
       split
       ·
        refine .inr ⟨hD,?_,t1 _ _ _⟩;have h2:=h1N z.A.A8 kc.2.1.2.1.toNat (-1) (x.A1+1);rw[h1D z.A.A8]at h2;show rdL (z.A.A8.set kc.2.1.2.1.toNat (-1)) (x.A1+1)+(z.A.C3-(x.A1+1)).toNat≤_;rw[← hz];unfold sdP;omega
       ·exact .inr ⟨hD,stay,t1 _ _ _⟩
     ·exact .inl same
  split
  ·
   unfold gj;split
   ·rw[gz]; exact .inl same
   ·
    split
    ·exact .inr ⟨hD,stay,t0⟩
    ·exact .inl same
  split
  ·
   split
   ·exact .inr ⟨hD,stay,t0⟩
   ·exact .inl same
  split
  ·
   unfold gN;split
   ·exact .inl same
   ·exact .inr ⟨hD,goes' _,t0⟩
  split
  ·
   unfold gP;split
   ·exact .inl same
   ·exact .inr ⟨hD,goes' _,t0⟩
  split
  ·exact .inr ⟨hD,goes' _,t0⟩
  split
  ·exact .inr ⟨hD,by rw[← hz]; exact h2N z.A x.A1 rho,t0⟩
  ·exact .inl same
end
theorem h3c (q:am) (x:aa) (hc:0≤x.A1∧x.A1≤2000000000000):rdL (cI q x).A.A8 (x.A1+1)≤rdL x.A.A8 (x.A1+1)∧rdL (cI q x).A.A8 x.A1≤max (rdL x.A.A8 x.A1) 1:=by
 have hw:w.i64 (x.A1+1)=x.A1+1:=wI (by omega) (by omega);unfold cI ldS;split
 ·exact⟨mG _,pN _ _⟩
 ·
  split
  ·exact⟨mG _,pN _ _⟩
  ·
   split
   ·
    have h1:=h1N x.A.A8 q.2.2.2.2.2.2.1.toNat (w.i64 (x.A1+1)) (x.A1+1);have h2:=h1N x.A.A8 q.2.2.2.2.2.2.1.toNat (w.i64 (x.A1+1)) x.A1;rw[hw]at h1 h2;show rdL (x.A.A8.set q.2.2.2.2.2.2.1.toNat (w.i64 (x.A1+1))) (x.A1+1)≤_∧rdL (x.A.A8.set q.2.2.2.2.2.2.1.toNat (w.i64 (x.A1+1))) x.A1≤_;rw[hw];omega
   ·exact⟨mG _,pN _ _⟩
theorem h1L:∀(T:List am) (x:aa),0≤x.A1∧x.A1≤2000000000000→rdL (bO T x).A.A8 (x.A1+1)≤rdL x.A.A8 (x.A1+1)∧rdL (bO T x).A.A8 x.A1≤max (rdL x.A.A8 x.A1) 1
 | [],x,_=>⟨mG _,pN _ _⟩
 | q::r,x,hc=>by
  rw[bO];split
  ·
   have h1:=h3c (cH q) x hc;have e:(cI (cH q) x).A1=x.A1:=by rw[g9V]
   have h2:=h1L r (cI (cH q) x) (by rw[e]; exact hc);rw[e]at h2;omega
  ·exact h1L r x hc
theorem h2u {c:ay} (t:bH) {x:aa} (hc:0≤x.A1∧x.A1≤2000000000000) (hl:1≤c.C4∧c.C4≤1000) :
  (aX c t x).A.A5=x.A.A5∧(aX c t x).E=x.E∧(aX c t x).A1=x.A1∧(aX c t x).A9=x.A9∧sdP (aX c t x).A (x.A1+1)≤sdP x.A (x.A1+1)∧sdP (aX c t x).A x.A1≤sdP x.A x.A1+1:=by
 have hb:=g7y t hl c.B2.toNat 0 {bO x.A0 x with A0:=x.A0.filterMap bp};have fe:=g9s x.A0 x;have fb:aX c t x={({bO x.A0 x with A0:=x.A0.filterMap bp}:aa) with A0:=(aX c t x).A0,B6:=(aX c t x).B6,B5:=(aX c t x).B5}:=hb.fr;have eA:(aX c t x).A=(bO x.A0 x).A:=by rw[fb]
 have e1:(aX c t x).E=x.E:=by rw[fb]; show (bO x.A0 x).E=_; rw[fe]
 have e2:(aX c t x).A1=x.A1:=by rw[fb]; show (bO x.A0 x).A1=_; rw[fe]
 have e3:(aX c t x).A9=x.A9:=by rw[fb]; show (bO x.A0 x).A9=_; rw[fe]
 have e4:(bO x.A0 x).A.A5=x.A.A5:=by rw[fe]
 have e5:(bO x.A0 x).A.C3=x.A.C3:=by rw[fe]
 have h:=h1L x.A0 x hc;refine⟨by rw[eA]; exact e4,e1,e2,e3,?_,?_⟩
 ·
  unfold sdP;rw[eA,e5];omega
 ·
  unfold sdP;rw[eA,e5];omega
section
variable {p:aw} {o:List Int} {s:ao} {m0:List Int} {n j m i k ka ke:Nat} {R:List am} {x:aa} {cf:ay} {e hal:Bool} {pos:bc} {dn:Int}
theorem h4f {ins:af} {pc off:Int} {kc:ak} (h:lstS e o ins pc off=[kc]):kc.2.1=ins∨kc.2.1=af.z:=by
 have hI:∀(kd o1:Int),[bJ kd ins pc o1]=[kc]→kc.2.1=ins:=λkd o1 h=>by rw[← (mY h).1]; rfl
 have hR:∀(kd r o1:Int),[aM kd r pc o1]=[kc]→kc.2.1=af.z:=λkd r o1 h=>by rw[← (mY h).1]; rfl
 unfold lstS lstA lstE at h
 repeat' split at h
 all_goals first | cases h; done | exact .inl (hI _ _ h) | exact .inr (hR _ _ _ h)
theorem h2M {rho:Nat} (h:Spl p o s) (g:Pl p o s m0 e pos hal dn n j k) (hn:n≤1000000000) (hh:Here p o m0 e n j) (h1:1≤rho) (hc:∀q∈p.Code,latM cf q.1≤rho):latM cf (aT s e pos).1.2.1.1≤rho:=by
 have hz:latM cf af.z.1≤rho:=by
  have:latM cf af.z.1=1:=by unfold latM; rw[if_neg (by decide),if_neg (by decide)]
  omega
 rcases hh with⟨hpc,hj | ⟨hj,hl⟩⟩ | hpc
 ·
  obtain⟨_,off,hx⟩:=g.send h hpc hn hj;rw[hx]; exact hz
 ·
  obtain⟨_,off,kc,hk,hx⟩:=g.last h hpc hn hj hl;rw[hx];rcases h4f hk with e1 | e1
  ·
   show latM cf kc.2.1.1≤_;rw[e1];exact hc _ (ck af.z hpc)
  ·
   show latM cf kc.2.1.1≤_;rw[e1]; exact hz
 ·
  obtain⟨q,_,hx,_⟩:=g.fell h hpc hn;rw[hx]; exact hz
theorem h4m {rho:Nat} (h1:1≤rho):latM cf ak.z.2.1.1≤rho:=by
 have:latM cf ak.z.2.1.1=1:=by unfold latM; rw[if_neg (by decide),if_neg (by decide)]
 omega
theorem h4p {rho:Nat} (h:Spl p o s) (c:Cos p o s m0 R x n j ka m i ke) (hr:bu cf s x=true) (hm:m≤1000000000) (hh:x.E.A4=true∨Here p o m0 true m i) (h1:1≤rho) (hc:∀q∈p.Code,latM cf q.1≤rho):latM cf (atE s x).1.2.1.1≤rho:=by
 by_cases hw:x.E.A4=true∨x.E.C3>x.A1
 ·rw[d8k hw]; exact h4m h1
 ·
  have hh:=hh.resolve_left λg=>hw (.inl g)
  have:(atE s x).1=(aT s true x.E.A6).1:=by
   unfold atE;rw[if_neg hw];show (aT s true (kx s true x.E.A6).1).1=_;rw[je h.next.1 true _ (ie (jA hr))]
  rw[this];exact h2M h c.pe hm hh h1 hc
theorem h4q {rho:Nat} (h:Spl p o s) (c:Cos p o s m0 R x n j ka m i ke) (hr:bu cf s x=true) (hm:n≤1000000000) (hh:x.A.A4=true∨Here p o m0 false n j) (h1:1≤rho) (hc:∀q∈p.Code,latM cf q.1≤rho):latM cf (atA s x).1.2.1.1≤rho:=by
 by_cases hw:x.A.A4=true∨x.A.C3>x.A1
 ·rw[e5o hw]; exact h4m h1
 ·
  have hh:=hh.resolve_left λg=>hw (.inl g)
  have:(atA s x).1=(aT s false x.A.A6).1:=by
   unfold atA;rw[if_neg hw];show (aT s false (kx s false x.A.A6).1).1=_;rw[je h.next.1 false _ (ie (iX hr))]
  rw[this];exact h2M h c.pa hm hh h1 hc
def dL (x:aa):Nat:=x.A2.length+dV x.B0
theorem h1H (c:MemC p o m0 R x n m):(evq (pts p m0) m).length=dL x+x.C9.length:=by
 obtain⟨cn,p1,p2⟩:=c.pt;rw[p1,mD,p2];rfl
theorem h4c (c:MemC p o m0 R x n m):dL x≤(evq (pts p m0) n).length∧dL x≤(evq (pts p m0) m).length:=by
 have h1:=h1H c;obtain⟨dn,rest,w1,w2,w3⟩:=c.wr;have h2:=(ia p m0 n).1;have hdl:dn.length=x.A2.length:=by rw[← w2,mr]
 have hl:=w3.ln;refine⟨?_,by omega⟩
 rw[h2,w1,mD];unfold dL dV;split
 ·
  rename_i hk;have:=g8u hk;omega
 ·omega
end
section
variable {p:aw} {o:List Int} {s:ao} {m0:List Int} {n j m i k ka ke t:Nat} {e hal:Bool} {pos:bc} {dn:Int}
def limS (p:aw) (o:List Int) (m0:List Int) (e:Bool) (t:Nat):Nat:=if (runG p m0 t).pc<p.Code.length then cntS p o m0 e (t+1) else cntS p o m0 e t+1
theorem h2E (p:aw) (o m0:List Int) (e:Bool) {a b:Nat} (h:a≤b):cntS p o m0 e a≤cntS p o m0 e b:=by
 induction b with
 | zero=>rw[show a=0 by omega]; exact mG _
 | succ b ih =>
  by_cases g:a=b+1
  ·rw[g]; exact mG _
  ·
   have:=ih (by omega);show _≤cntS p o m0 e b+_+_;omega
theorem h1u (p:aw) (o m0:List Int) (e:Bool):∀n:Nat,cntS p o m0 e n≤3*n
 | 0=>mG _
 | n+1=>by
  have ih:=h1u p o m0 e n;have h1:=h0z e o (insG p m0 n) (runG p m0 n).pc 0;have h2:(sndR o (insG p m0 n)).length≤2:=by
   have:=f8h (insG p m0 n) o;unfold sndR
   repeat' split
   all_goals first | omega | simp
  show cntS p o m0 e n+(sndR o (insG p m0 n)).length+(lstS e o (insG p m0 n) (runG p m0 n).pc 0).length≤_;omega
theorem h1E (g:Pl p o s m0 e pos false dn n j k) (hh:Here p o m0 e n j) (hs:Stops p m0 t) (hn:n≤t):dn<(limS p o m0 e t:Int):=by
 have hd:=g.dc;rw[if_neg (by simp)]at hd;have hstep:(runG p m0 n).pc<p.Code.length→cntS p o m0 e n+j<cntS p o m0 e (n+1):=λhpc=>by
  show _<cntS p o m0 e n+(sndR o (insG p m0 n)).length+(lstS e o (insG p m0 n) (runG p m0 n).pc 0).length;rcases hh with⟨_,hj | ⟨hj,hl⟩⟩ | hh
  ·omega
  ·
   have:=oH.2 hl;omega
  ·exact absurd hpc hh
 have key:cntS p o m0 e n+j<limS p o m0 e t:=by
  unfold limS;by_cases hnt:n=t
  ·
   subst hnt;by_cases hpc:(runG p m0 n).pc<p.Code.length
   ·rw[if_pos hpc]; exact hstep hpc
   ·
    rw[if_neg hpc];have hz:insG p m0 n=af.z:=by
     unfold insG aQ;rw[mA,mg (by omega)]; rfl
    have:=g.jb;rw[hz]at this;have h0:sndR o af.z=[]:=rfl;rw[h0]at this;have:j=0:=pj.1 this;omega
  ·
   have hpc:=(hs.1 n (by omega)).1;have h1:=hstep hpc;have h2:=h2E p o m0 e (show n+1≤t by omega);have h3:=h2E p o m0 e (show t≤t+1 by omega);split<;>omega
 omega
end
section
variable {p:aw} {o:List Int} {s:ao} {m0:List Int} {n j m i k ka ke t:Nat} {R R':List am} {x y:aa} {cf:ay}
theorem h2v (cf:ay) (x:aa) (L:Nat):(canM cf x=false∧bD cf x=x)∨(canM cf x=true∧tabP L (bD cf x).A0=tabP L x.A0+(L+1)∧dL (bD cf x)=dL x+1∧(bD cf x).A=x.A∧(bD cf x).E=x.E∧(bD cf x).A1=x.A1∧(bD cf x).A9=x.A9):=by
 cases hc:canM cf x with
 | false=>exact .inl ⟨rfl,by unfold bD; rw[hc]; rfl⟩
 | true =>
  refine .inr ⟨rfl,?_⟩;have n0:=(d8A hc).1;have hk:d8 x.B0=false:=by
   unfold canM at hc;simp only[mE,decide_eq_true_eq,mu]at hc;exact hc.2.1
  have e:bD cf x={x with C9:=x.C9.drop 1,B0:=x.B0.set 0 (gL x),A0:=x.A0++[h7O x]}:=by unfold bD; rw[if_pos hc]
  have hk2:d8 (x.B0.set 0 (gL x))=true:=by
   unfold d8;rw[mA,oF (by omega)];rfl
  rw[e];refine⟨?_,?_,rfl,rfl,rfl,rfl⟩
  ·
   show tabP L (x.A0++[h7O x])=_;rw[h2d];rfl
  ·
   show x.A2.length+dV (x.B0.set 0 (gL x))=x.A2.length+dV x.B0+1;unfold dV;rw[hk2,hk];rfl
theorem h2o (c:MemC p o m0 R x n m) {n':Nat} (c':MemC p o m0 R' y n' m) (h:y.C9=x.C9):dL y=dL x:=by
 have h1:=h1H c;have h2:=h1H c';rw[h]at h2;omega
theorem h3w (h:y.A2=x.A2) (g:y.B0=x.B0):dL y=dL x:=by
 unfold dL;rw[h,g]
end
def fi (t:Nat) (tr:cQ):Nat:=if tr.C2=0 then 2 else if tr.C5>(t:Int) then 1 else 0
theorem h1V {a b:cQ} (t:Nat) (h:TrLess a b):fi t b≤fi t a:=by
 unfold fi;rcases h with rfl | ⟨h1,h2⟩
 ·exact mG _
 ·
  rw[if_neg h1];by_cases h0:a.C2=0
  ·rw[if_pos h0]; split<;>omega
  ·
   rw[if_neg h0];have:=h2 h0;split<;>split<;>omega
theorem h3k {a b:cQ} {t u:Nat} (h:TrLess a b) (hb:b.C2≠0) (hu:b.C5=(u:Int)) (ht:u≤t) (hne:b≠a ) (ha:a.C2≠0→(t:Int)≤a.C5) (hut:a.C2≠0→a.C5≠(t:Int)):fi t b+1≤fi t a:=by
 unfold fi;rw[if_neg hb,if_neg (by omega)];by_cases h0:a.C2=0
 ·rw[if_pos h0]; omega
 ·
  have:=ha h0;have:=hut h0;rw[if_neg h0,if_pos (by omega)];omega
section
variable {p:aw} {o:List Int} {s:ao} {m0:List Int} {n j m i k ka ke t:Nat} {R R':List am} {x y:aa} {cf:ay}
theorem h3f (c:Cos p o s m0 R x n j ka m i ke) (hs:Stops p m0 t):n≤t∨m≤t:=by
 by_cases h1:n≤t
 ·exact .inl h1
 ·
  refine .inr (oR λh2=>?_);obtain⟨a1,a2,a3⟩:=c.pa.ps t (by omega);obtain⟨_,_,b3⟩:=c.pe.ps t h2;rcases hs.2 with g | g | g
  ·exact g a1
  ·exact g (h0C a3 b3)
  ·exact a2 g
theorem h4o (h:Spl p o s) (c:Cos p o s m0 R x n j ka m i ke) (hr:bu cf s x=true) (hs:Stops p m0 t) (hb:p.Code.length*(ka+1)≤1000000000) (hb2:p.Code.length*(ke+1)≤1000000000) (hD:(aP cf s x).A.A5=x.A.A5+1) (hl:(limS p o m0 false t:Int)≤x.A.A5):x.A.A5<((cntS p o m0 false (t+65):Nat):Int):=by
 have hn:=h.next.1
 have hbk:=ie (iX hr);by_cases hw:x.A.A4=true∨x.A.C3>x.A1
 ·
  have:aP cf s x=x:=by unfold aP; rw[e5o hw,if_pos (.inl rfl)]
  rw[this]at hD;omega
 have hd:x.A.A4=false:=by
  cases hh:x.A.A4 with
  | false=>rfl
  | true=>exact absurd (.inl hh) hw
 obtain⟨n,j,_,c,here⟩:=c.normA h hd hb _ n j (mG _);have hlt:=WAt.lt h c.pa.wt;have hnn:n≤1000000000:=by have:=c.pa.bd; rw[nF]at hb; omega
 have pa:=c.pa;rw[hd]at pa;have hnt:t<n:=Nat.lt_of_not_le λg=>by
  have:=h1E pa here hs g;omega
 have hmt:m≤t:=(h3f c hs).resolve_left (by omega);have hde:x.E.A4=false:=by
  cases hh:x.E.A4 with
  | false=>rfl
  | true =>
   obtain⟨e8,_,_⟩:=c.pe.hl hh;exact absurd e8 (c.pa.ps m (by omega)).2.1
 have hpcn:(runG p m0 n).pc<p.Code.length∨¬(runG p m0 n).pc<p.Code.length:=Classical.em _;have hah:gZ cf s {x with A:={x.A with A6:=(kx s false x.A.A6).1}}=false∧(aT s false x.A.A6).2.2=true∧cntS p o m0 false n+j<cntS p o m0 false (n+1):=by
  rcases here with⟨hpc,hj⟩ | hpc
  ·
   have hlt2:cntS p o m0 false n+j<cntS p o m0 false (n+1):=by
    show _<cntS p o m0 false n+(sndR o (insG p m0 n)).length+(lstS false o (insG p m0 n) (runG p m0 n).pc 0).length;rcases hj with hj | ⟨hj,hl⟩
    ·omega
    ·
     have:=oH.2 hl;omega
   rcases hj with hj | ⟨hj,hl⟩
   ·
    obtain⟨hf,off,hx⟩:=c.pa.send h hpc hnn hj;rw[g9T hn hbk hw hf hx]at hD;split at hD
    ·
     have hD:x.A.A5=x.A.A5+1:=hD;omega
    ·
     rename_i hnot;simp only[not_or]at hnot;exact⟨by simpa using hnot.2.1,by rw[hx],hlt2⟩
   ·
    obtain⟨hf,off,kc,hk,hx⟩:=c.pa.last h hpc hnn hj hl;rw[g9T hn hbk hw hf hx]at hD;split at hD
    ·
     have hD:x.A.A5=x.A.A5+1:=hD;omega
    ·
     rename_i hnot;simp only[not_or]at hnot;exact⟨by simpa using hnot.2.1,by rw[hx],hlt2⟩
  ·
   obtain⟨q,q1,q2,q3,q4⟩:=c.pa.fell h hpc hnn;have hf:(kx s false x.A.A6).2=true:=by rw[q1]
   obtain⟨a1,a2⟩:=d9H hn hbk hw hf;unfold aP at hD;rw[if_pos (.inl a1),a2,gz]at hD;have hD:x.A.A5=x.A.A5+1:=hD;omega
 obtain⟨hah,hnx,hcnt⟩:=hah;obtain⟨m,i,_,c,hereE⟩:=c.normE h hde hb2 _ m i (mG _);have hlt':=WAt.lt h c.pe.wt;have hmm:m≤1000000000:=by have:=c.pe.bd; rw[nF]at hb2; omega
 have hmt:m≤t:=(h3f c hs).resolve_left (by omega);have hpcm:=(c.pa.ps m (by omega)).1;have e1:=c.pe.stepIs h hmm hereE;have e2:=c.pa.stepIs h hnn here;have e3:(aT s true x.E.A6).2.2=true:=by
  rcases hereE with⟨hpc,hj⟩ | hpc
  ·
   rcases hj with hj | ⟨hj,hl⟩
   ·
    obtain⟨_,off,hx⟩:=c.pe.send h hpc hmm hj;rw[hx]
   ·
    obtain⟨_,off,kc,hk,hx⟩:=c.pe.last h hpc hmm hj hl;rw[hx]
  ·exact absurd hpcm hpc
 unfold gZ at hah;have hah:(!x.E.A4&&((aT s true x.E.A6).2.2&&((aT s false (kx s false x.A.A6).1).2.2&&jl (aT s false (kx s false x.A.A6).1).2.1 (aT s true x.E.A6).2.1 cf.D8)))=false:=hah;rw[je hn false _ hbk,hde,e3,hnx,e1,e2]at hah;have hah:jl (n:Int) (m:Int) cf.D8=false:=by simpa using hah
 have hsl:=d8B hr;have hfar:n<m+64:=by
  unfold jl at hah;rw[if_pos (by omega),if_neg (by omega)]at hah;have:=of_decide_eq_false hah;simp only[w.u64,IntKind.wrap_u64]at this;omega
 have hd1:=pa.dc;rw[if_neg (by simp)]at hd1;have h9:=h2E p o m0 false (show n+1≤t+65 by omega);omega
theorem h2V (hk:(atA s x).1.1≠2∧(atA s x).1.1≠3):(aP cf s x).A0=x.A0:=by
 have h0:∀z k st pc,(bG z k st pc).A0=z.A0:=by intro z k st pc; unfold bG; split<;>rfl
 have ha:(atA s x).2.2.2.A0=x.A0:=by
  unfold atA;split
  ·rfl
  ·
   simp only[];split
   ·rw[h0]
   ·rfl
 unfold aP;split
 ·exact ha
 ·
  generalize (atA s x).2.2.2=z at *;rw[← ha];unfold actA;split
  ·
   unfold doA;split
   ·rfl
   ·exact h0 _ _ _ _
  split
  ·
   rename_i h2;exact absurd h2 (by omega)
  split
  ·
   unfold gj;split
   ·exact h0 _ _ _ _
   ·split<;>rfl
  split
  ·split<;>rfl
  split
  ·
   unfold gN;split<;>rfl
  split
  ·
   unfold gP;split<;>rfl
  split
  ·rfl
  split<;>rfl
theorem h3R (h:Spl p o s) (c:Cos p o s m0 R x n j ka m i ke) (hr:bu cf s x=true) (hm:n≤1000000000) (hh:x.A.A4=true∨Here p o m0 false n j) (hc:∀q∈p.Code,ae q.1≠4):(atA s x).1.1≠2∧(atA s x).1.1≠3:=by
 by_cases hw:x.A.A4=true∨x.A.C3>x.A1
 ·rw[e5o hw]; exact⟨show (0:Int)≠2 by decide,show (0:Int)≠3 by decide⟩
 ·
  have hh:=hh.resolve_left λg=>hw (.inl g)
  have:(atA s x).1=(aT s false x.A.A6).1:=by
   unfold atA;rw[if_neg hw];show (aT s false (kx s false x.A.A6).1).1=_;rw[je h.next.1 false _ (ie (iX hr))]
  rw[this];rcases hh with⟨hpc,hj | ⟨hj,hl⟩⟩ | hpc
  ·
   obtain⟨_,off,hx⟩:=c.pa.send h hpc hm hj;rw[hx];exact⟨(by show sndK false≠2; decide),(by show sndK false≠3; decide)⟩
  ·
   obtain⟨_,off,kc,hk,hx⟩:=c.pa.last h hpc hm hj hl;rw[hx];have h4:ae (insG p m0 n).1≠4:=hc _ (ck af.z hpc);have hkd:∀a:Int,a≠2→a≠3→kc.1=a→kc.1≠2∧kc.1≠3:=λa h2 h3 e=>by rw[e]; exact⟨h2,h3⟩
   show kc.1≠2∧kc.1≠3;unfold lstS at hk;rw[if_neg (by simp)]at hk;unfold lstA at hk;have last:∀(a:Int) (ins:af) (pc o1:Int),[bJ a ins pc o1]=[kc]→a≠2→a≠3→kc.1≠2∧kc.1≠3:=λa ins pc o1 g h2 h3=>hkd a h2 h3 (by rw[← (mY g).1]; rfl)
   have lastR:∀(a r:Int) (pc o1:Int),[aM a r pc o1]=[kc]→a≠2→a≠3→kc.1≠2∧kc.1≠3:=λa r pc o1 g h2 h3=>hkd a h2 h3 (by rw[← (mY g).1]; rfl)
   repeat' split at hk
   all_goals first | (exact absurd ‹ae (insG p m0 n).1=4› h4) | cases hk; done | exact last _ _ _ _ hk (by decide) (by decide) | exact lastR _ _ _ _ hk (by decide) (by decide)
  ·
   obtain⟨q,_,hx,_⟩:=c.pa.fell h hpc hm;rw[hx]; exact⟨show (0:Int)≠2 by decide,show (0:Int)≠3 by decide⟩
theorem h3Z (hc:∀q∈p.Code,ae q.1≠5):∀n:Nat,evq (qst p m0) n=[]
 | 0=>rfl
 | n+1=>by
  show evq (qst p m0) n++qst p m0 n=[];rw[h3Z hc n];unfold qst;by_cases h5:ae (insG p m0 n).1=5
  ·
   exfalso;unfold insG aQ at h5;by_cases hpc:(runG p m0 n).pc<p.Code.length
   ·exact hc _ (ck af.z hpc) h5
   ·
    rw[mA,mg (by omega)]at h5;exact absurd h5 (by decide)
  ·rw[if_neg h5]; rfl
end
def sP (lim:Nat) (d:aI) (cy:Int):Nat:=if d.A5<(lim:Int) then sdP d cy else 0
theorem h3C {lim rho:Nat} {d d0 d':aI} {cy:Int} (e0:d0.A5=d.A5) (h0:sdP d0 (cy+1)≤sdP d (cy+1)) (h1:sdP d0 cy≤sdP d cy+1)
  (h:(d'.A5=d0.A5∧d'.A8=d0.A8∧d'.C3=d0.C3)∨(d'.A5=d0.A5+1∧sdP d' (cy+1)≤sdP d0 cy+rho+1)) :
  ∃a:Nat,a≤1∧((lim:Int)-d'.A5).toNat+a≤((lim:Int)-d.A5).toNat∧sP lim d' (cy+1)≤sP lim d cy+(rho+2)*a∧(a=0→sP lim d cy≠0→sP lim d' (cy+1)+1≤sP lim d cy)∧(d'.A5=d.A5+1→d.A5<(lim:Int)→a=1):=by
 rcases h with⟨g1,g2,g3⟩ | ⟨g1,g2⟩
 ·
  have e:sdP d' (cy+1)=sdP d0 (cy+1):=by unfold sdP; rw[g2,g3]
  obtain⟨n1,n2⟩:=h2P d cy;refine⟨0,by omega,by omega,?_,λ_ hne=>?_,λhh=>by omega⟩
  ·
   unfold sP;rw[g1,e0];split<;>omega
  ·
   unfold sP at hne ⊢;rw[g1,e0];split at hne
   ·
    rename_i hin;rw[if_pos hin,if_pos hin];have:=n2 hne;omega
   ·exact absurd rfl hne
 ·
  by_cases hin:d.A5<(lim:Int)
  ·
   refine⟨1,by omega,by omega,?_,λhh=>by omega,λ_ _=>rfl⟩
   unfold sP;rw[if_pos hin];split<;>omega
  ·
   refine⟨0,by omega,by omega,?_,λ_ hne=>?_,λ_ hh=>absurd hh hin⟩
   ·
    unfold sP;rw[if_neg (show ¬d'.A5<(lim:Int) by omega)];omega
   ·
    unfold sP at hne;rw[if_neg hin]at hne;exact absurd rfl hne
theorem h3r {rho lam T T' B B' sA sA' sE sE' U U' dA dB dE dS dT:Nat} (a1:dA≤1) (a2:dB≤1) (a3:dE≤1) (a4:dS≤1) (a5:dT≤1)
  (h1:T'+(dA+dE+dS+dT)≤T) (h2:B'+dB≤B) (h3:sA'≤sA+(rho+2)*dA) (h4:sE'≤sE+(rho+2)*dE) (h5:U'≤U+lam*dS+lam*(dA+dB))
  (h6:dA+dE+dS+dT≠0∨U'+1≤U+lam*dS+lam*(dA+dB)∨(dA=0∧sA'+1≤sA)∨(dE=0∧sE'+1≤sE)) :
  (rho+lam+3)*T'+lam*B'+sA'+sE'+U'+1≤(rho+lam+3)*T+lam*B+sA+sE+U:=by
 have m1:(rho+lam+3)*T'+(rho+lam+3)*(dA+dE+dS+dT)≤(rho+lam+3)*T:=by rw[← qQ]; exact nv _ h1
 have m2:lam*B'+lam*dB≤lam*B:=by rw[← qQ]; exact nv _ h2
 have cA:dA=0∨dA=1:=by omega
 have cB:dB=0∨dB=1:=by omega
 have cE:dE=0∨dE=1:=by omega
 have cS:dS=0∨dS=1:=by omega
 have cT:dT=0∨dT=1:=by omega
 generalize (rho+lam+3)*T'=P' at *;generalize (rho+lam+3)*T=P at *;generalize lam*B'=Q' at *;generalize lam*B=Q at *;rcases cA with rfl | rfl<;>rcases cB with rfl | rfl<;>rcases cE with rfl | rfl<;>rcases cS with rfl | rfl<;>rcases cT with rfl | rfl<;>simp only[Nat.mul_zero,qO,nS,ml,Nat.reduceAdd] at*<;> omega
def h8I (la le S t:Nat) (x:aa):Nat:=((la:Int)-x.A.A5).toNat+((le:Int)-x.E.A5).toNat+(S-dL x)+fi t x.A9
def phi (p:aw) (o m0:List Int) (t rho lam L:Nat) (x:aa):Nat :=
 (rho+lam+3)*h8I (limS p o m0 false t) (limS p o m0 true t) (evq (pts p m0) (t+1)).length t x+lam*(((cntS p o m0 false (t+65):Nat):Int)-x.A.A5).toNat+sP (limS p o m0 false t) x.A x.A1+sP (limS p o m0 true t) x.E x.A1+tabP L x.A0
theorem h3s {l:List Int} {cy:Int} (h:∀r∈l,r≤cy) (h0:0≤cy) (k:Nat):l.getD k 0≤cy:=by
 by_cases hk:k<l.length
 ·exact h _ (ck 0 hk)
 ·rw[mA,mg (by omega)]; exact h0
theorem h4d {l:List Int} (h:∀r∈l,0≤r) (k:Nat):0≤l.getD k 0:=by
 by_cases hk:k<l.length
 ·exact h _ (ck 0 hk)
 ·rw[mA,mg (by omega)]; exact mo _
section
variable {p:aw} {o:List Int} {s:ao} {m0:List Int} {n j m i k ka ke t:Nat} {R R':List am} {x y:aa} {cf:ay}
theorem h3m {tr:cQ} (g:TrapOk p o m0 tr) (hs:Stops p m0 t) (hk:tr.C2≠0):(t:Int)≤tr.C5:=by
 obtain⟨u,u1,u2,_⟩:=g hk;rw[u1];refine Int.ofNat_le.2 (oR λhlt=>?_);obtain⟨q1,q2,q3⟩:=hs.1 u hlt;rcases u2 with⟨_,g2⟩ | ⟨_,g2⟩
 ·
  rcases g2 with g2 | g2
  ·
   rcases g9S (p:=p) (o:=o) (m0:=m0) false u with g3 | g3
   ·rw[g3,q3]at g2; exact hk g2.symm
   ·rw[g3]at g2; exact hk g2.symm
  ·
   rcases g9S (p:=p) (o:=o) (m0:=m0) true u with g3 | g3
   ·rw[g3,q3]at g2; exact hk g2.symm
   ·rw[g3]at g2; exact hk g2.symm
 ·exact g2 q1
theorem h1Q {a b:cQ} (h:TrLess a b) (gb:TrapOk p o m0 b) (hs:Stops p m0 t) {u:Nat} (hu:u≤t) (hb:b.C2≠0) (hbu:b.C5=(u:Int)) (hst:¬(a.C2≠0∧a.C5≤(u:Int))):fi t b+1≤fi t a:=by
 have ht:=h3m gb hs hb;rw[hbu]at ht;have hut:u=t:=by omega
 subst hut;refine h3k h hb hbu (mG _) ?_ (λg=>?_) (λg=>?_)
 ·
  rintro rfl
  exact hst ⟨hb,by omega⟩
 ·exact Int.le_of_lt (Int.not_le.1 λg2=>hst ⟨g,g2⟩)
 ·
  intro g2;exact hst ⟨g,by omega⟩
theorem h2I {rho lam : Nat} (ts : bH) (h : Spl p o s) (hR : RI k cf s x) (hk : k ≤ 12000) (hl : s.A3.length ≤ 100000) (hlp : p.Code.length * (k + 2) ≤ 1000000000) (c : Cos p o s m0 (bo x) x n j k m i k) (ez : EZ x) (hs : Stops p m0 t) (hov : da cf s x = false) (h1 : 1 ≤ rho) (hrho : ∀ q ∈ p.Code, latM cf q.1 ≤ rho)
    (hlam : lam = cf.C4.toNat + 1 ∨ (lam = 0 ∧ ∀ q ∈ p.Code, ae q.1 ≠ 4 ∧ ae q.1 ≠ 5)) : phi p o m0 t rho lam cf.C4.toNat (fQ cf s ts x) + 1 ≤ phi p o m0 t rho lam cf.C4.toNat x := by
  have hb : p.Code.length * (k + 1) ≤ 1000000000 := by rw [nF] at hlp; omega
  obtain ⟨hr, hL, hM, hr2, hr3, e⟩ := g9l ts h.next.2 hR hk hl
  obtain ⟨b1, _⟩ := g8S hr
  have hB := Bnd.of hr
  obtain ⟨mt1, mt2, mt3, mt4, mt5, mt6⟩ := h2u (c := cf) ts b1 hB.la
  obtain ⟨tb1, tb2⟩ := h3x (c := cf) ts hB.la hB.bk (fun q hq => e7X (b4n hr q hq)) (fun q hq => by have := h3H (b4n hr q hq) (b8A hr); omega)
  have msd : (aX cf ts x).C9 = x.C9 := by rw [(c7l (t := ts) hR.inv (by omega) hr).1.fr]
  have c1 := c.move (c := cf) ts (by rw [wI (by omega) (by omega)]; omega) (b8A hr) hB.la
  have c2 := c1.sent hL hM hr2
  have sn1 : dL (aX cf ts x) = dL x := h2o c.mc c1.mc msd
  have st := h2v cf (aX cf ts x) cf.C4.toNat
  have empty1 : x.A0 = [] → aX cf ts x = x := fun hT => e1q hT
  generalize hx1 : aX cf ts x = x1 at *
  have nE : ∃ m i, Cos p o s m0 (bo (bD cf x1)) (bD cf x1) n j k m i k ∧ ((bD cf x1).E.A4 = true ∨ Here p o m0 true m i) := by
    cases hh : (bD cf x1).E.A4 with
    | true => exact ⟨m, i, c2, .inl rfl⟩
    | false =>
      obtain ⟨n', j', _, c', hh'⟩ := c2.normE h hh hb _ m i (mG _)
      exact ⟨n', j', c', .inr hh'⟩
  obtain ⟨m, i, c2, hE2⟩ := nE
  have mm : m ≤ 1000000000 := by have := WAt.lt h c2.pe.wt; have := c2.pe.bd; rw [nF] at hb; omega
  -- what a send costs
  have hds : ∃ ds : Nat, ds ≤ 1 ∧ tabP cf.C4.toNat (bD cf x1).A0 ≤ tabP cf.C4.toNat x1.A0 + lam * ds ∧ ((evq (pts p m0) (t + 1)).length - dL (bD cf x1)) + ds ≤ (evq (pts p m0) (t + 1)).length - dL x1 ∧ (canM cf x1 = true → ds = 1) ∧ (bD cf x1).A = x1.A ∧ (bD cf x1).E = x1.E ∧ (bD cf x1).A1 = x1.A1 ∧ (bD cf x1).A9 = x1.A9 := by
    rcases st with ⟨g1, g2⟩ | ⟨g1, g2, g3, g4, g5, g6, g7⟩
    · refine ⟨0, by omega, ?_, ?_, fun g => ?_, ?_⟩
      · rw [g2]; omega
      · rw [g2]; omega
      · rw [g1] at g; cases g
      · rw [g2]; exact ⟨rfl, rfl, rfl, rfl⟩
    · obtain ⟨w1, w2⟩ := h4c c2.mc
      have hS : dL (bD cf x1) ≤ (evq (pts p m0) (t + 1)).length := by
        rcases h3f c2 hs with g | g
        · exact nO w1 (gQ _ (by omega))
        · exact nO w2 (gQ _ (by omega))
      refine ⟨1, mG _, ?_, by omega, fun _ => rfl, g4, g5, g6, g7⟩
      rcases hlam with rfl | ⟨_, hno⟩
      · rw [g2]; omega
      · exfalso
        rw [(ia p m0 n).1, h3Z (fun q hq => (hno q hq).2)] at w1
        rw [ma] at w1
        omega
  obtain ⟨ds, ds1, ds2, ds3, ds4, sA, sE, sC, sT⟩ := hds
  have can0 : canM cf x1 = false → bD cf x1 = x1 := fun g => by unfold bD; rw [if_neg (by rw [g]; simp)]
  generalize hx2 : bD cf x1 = x2 at *
  have hcy2 : x2.A1 = x.A1 := sC.trans mt3
  have latE := h4p h c2 hr2 mm hE2 h1 hrho
  have hdE := h1l (jA hr2)
  have tE := h2S (cf := cf) h1 latE (by rw [hcy2]; exact b1) hdE
  rw [hcy2] at tE
  obtain ⟨m', i', hmm', c3⟩ := c2.runE h hr2 hb
  have trE := h0f cf s x2
  have frE := (d9F cf s x2).fr
  have eT : (aG cf s x2).A0 = x2.A0 := by rw [frE]
  have eA : (aG cf s x2).A = x2.A := by rw [frE]
  have eC : (aG cf s x2).A1 = x2.A1 := by rw [frE]
  have eS : dL (aG cf s x2) = dL x2 := h3w (by rw [frE]) (by rw [frE])
  have eR : bo (aG cf s x2) = bo x2 := by unfold bo; rw [eT]
  rw [← eR] at c3
  have nA : ∃ n j, Cos p o s m0 (bo (aG cf s x2)) (aG cf s x2) n j k m' i' (k + 1) ∧ ((aG cf s x2).A.A4 = true ∨ Here p o m0 false n j) := by
    cases hh : (aG cf s x2).A.A4 with
    | true => exact ⟨n, j, c3, .inl rfl⟩
    | false =>
      obtain ⟨n', j', _, c', hh'⟩ := c3.normA h hh hb _ n j (mG _)
      exact ⟨n', j', c', .inr hh'⟩
  obtain ⟨n3, j3, c3, hA3⟩ := nA
  have nn3 : n3 ≤ 1000000000 := by have := WAt.lt h c3.pa.wt; have := c3.pa.bd; rw [nF] at hb; omega
  have latA := h4q h c3 hr3 nn3 hA3 h1 hrho
  have hdA := h1l (iX hr3)
  have tA := h2T (L := cf.C4.toNat) h1 latA (by rw [eC, hcy2]; exact b1) hdA
  rw [eC, hcy2] at tA
  have keepA : lam = 0 → (aP cf s (aG cf s x2)).A0 = (aG cf s x2).A0 := fun g => by
    rcases hlam with g2 | ⟨_, hno⟩
    · omega
    · exact h2V (h3R h c3 hr3 nn3 hA3 fun q hq => (hno q hq).1)
  have far := h4o h c3 hr3 hs hb hlp
  obtain ⟨n', j', _, c4⟩ := c3.runA h hr3 hb
  have trA := h0g cf s (aG cf s x2)
  have frA := (d3T cf s (aG cf s x2)).fr
  have aE : (aP cf s (aG cf s x2)).E = (aG cf s x2).E := by rw [frA]
  have aC : (aP cf s (aG cf s x2)).A1 = (aG cf s x2).A1 := by rw [frA]
  have aS : dL (aP cf s (aG cf s x2)) = dL (aG cf s x2) := h2o c3.mc c4.mc (by rw [frA])
  -- the side E
  obtain ⟨dE, dE1, dE2, dE3, dE4, dE5⟩ := h3C (lim := limS p o m0 true t) (rho := rho) (d := x.E) (d0 := x2.E) (d' := (aG cf s x2).E) (cy := x.A1) (by rw [sE, mt2]) (by rw [sE, mt2]; exact mG _) (by rw [sE, mt2]; omega) tE
  -- the side A
  obtain ⟨dA, dA1, dA2, dA3, dA4, dA5⟩ := h3C (lim := limS p o m0 false t) (rho := rho) (d := x.A) (d0 := (aG cf s x2).A) (d' := (aP cf s (aG cf s x2)).A) (cy := x.A1) (by rw [eA, sA, mt1]) (by rw [eA, sA]; exact mt5) (by rw [eA, sA]; exact mt6) (tA.imp (fun g => ⟨g.1, g.2.1, g.2.2.1⟩) (fun g => ⟨g.1, g.2.1⟩))
  have hDA : (aG cf s x2).A.A5 = x.A.A5 := by rw [eA, sA, mt1]
  have hdB : ∃ dB : Nat, dB ≤ 1 ∧ (((cntS p o m0 false (t + 65) : Nat) : Int) - (aP cf s (aG cf s x2)).A.A5).toNat + dB ≤ (((cntS p o m0 false (t + 65) : Nat) : Int) - x.A.A5).toNat ∧ tabP cf.C4.toNat (aP cf s (aG cf s x2)).A0 ≤ tabP cf.C4.toNat (aG cf s x2).A0 + lam * (dA + dB) := by
    rcases tA with ⟨g1, g2, g3, g4⟩ | ⟨g1, g2, g3⟩
    · exact ⟨0, by omega, by omega, by rw [g4]; omega⟩
    · by_cases hin : x.A.A5 < (limS p o m0 false t : Int)
      · have hd1 := dA5 (by omega) hin
        refine ⟨0, by omega, by omega, ?_⟩
        rw [hd1]
        rcases hlam with rfl | ⟨hz, _⟩
        · omega
        · rw [keepA hz]; omega
      · have hf := far g1 (by omega)
        refine ⟨1, by omega, by omega, ?_⟩
        rcases hlam with rfl | ⟨hz, _⟩
        · have := nv (cf.C4.toNat + 1) (show 1 ≤ dA + 1 by omega)
          omega
        · rw [keepA hz]; omega
  obtain ⟨dB, dB1, dB2, dB3⟩ := hdB
  have tr1 := h1V t trE
  have tr2 := h1V t trA
  have hdT : ∃ dT : Nat, dT ≤ 1 ∧ fi t (aP cf s (aG cf s x2)).A9 + dT ≤ fi t x.A9 ∧ (fi t (aP cf s (aG cf s x2)).A9 + 1 ≤ fi t x.A9 → dT = 1) := by
    rw [sT, mt4] at tr1
    by_cases g : fi t (aP cf s (aG cf s x2)).A9 + 1 ≤ fi t x.A9
    · exact ⟨1, by omega, g, fun _ => rfl⟩
    · exact ⟨0, by omega, by omega, fun g2 => absurd g2 g⟩
  obtain ⟨dT, dT1, dT2, dT3⟩ := hdT
  have hcyc : w.i64 ((aP cf s (aG cf s x2)).A1 + 1) = x.A1 + 1 := by rw [aC, eC, hcy2]; exact wI (by omega) (by omega)
  rw [e]
  unfold phi h8I
  show (rho + lam + 3) * (((limS p o m0 false t : Int) - (aP cf s (aG cf s x2)).A.A5).toNat + ((limS p o m0 true t : Int) - (aP cf s (aG cf s x2)).E.A5).toNat + ((evq (pts p m0) (t + 1)).length - dL (aP cf s (aG cf s x2))) + fi t (aP cf s (aG cf s x2)).A9) + lam * (((cntS p o m0 false (t + 65) : Nat) : Int) - (aP cf s (aG cf s x2)).A.A5).toNat + sP (limS p o m0 false t) (aP cf s (aG cf s x2)).A (w.i64 ((aP cf s (aG cf s x2)).A1 + 1)) + sP (limS p o m0 true t) (aP cf s (aG cf s x2)).E (w.i64 ((aP cf s (aG cf s x2)).A1 + 1)) + tabP cf.C4.toNat (aP cf s (aG cf s x2)).A0 + 1 ≤ _
  rw [hcyc, aE, aS, eS]
  rw [eT] at dB3
  rw [sn1] at ds3
  refine h3r dA1 dB1 dE1 ds1 dT1 (by omega) dB2 dA3 dE3 (by omega) ?_
  -- something goes on
  by_cases hT : x.A0 = []
  · have e1 := empty1 hT
    subst e1
    cases hcan : canM cf x1 with
    | true => have := ds4 hcan; exact .inl (by omega)
    | false =>
      have e2 := can0 hcan
      subst e2
      by_cases zA : sP (limS p o m0 false t) x2.A x2.A1 = 0
      case neg =>
        by_cases g : dA = 0
        · exact .inr (.inr (.inl ⟨g, dA4 g zA⟩))
        · exact .inl (by omega)
      by_cases zE : sP (limS p o m0 true t) x2.E x2.A1 = 0
      case neg =>
        by_cases g : dE = 0
        · exact .inr (.inr (.inr ⟨g, dE4 g zE⟩))
        · exact .inl (by omega)
      have hS0 : bo x2 = [] := by unfold bo; rw [hT]; rfl
      have nA : ∃ n j, Cos p o s m0 (bo x2) x2 n j k m i k ∧ (x2.A.A4 = true ∨ Here p o m0 false n j) := by
        cases hh : x2.A.A4 with
        | true => exact ⟨n, j, c2, .inl rfl⟩
        | false =>
          obtain ⟨n', j', _, c', hh'⟩ := c2.normA h hh hb _ n j (mG _)
          exact ⟨n', j', c', .inr hh'⟩
      obtain ⟨n2, j2, c2, hA2⟩ := nA
      rw [hS0] at c2
      have inA : x2.A.A4 = false → n2 ≤ t → x2.A.A5 < (limS p o m0 false t : Int) := fun g1 g2 => by
        have pa := c2.pa
        rw [g1] at pa
        exact h1E pa (hA2.resolve_left (by rw [g1]; simp)) hs g2
      have inE : x2.E.A4 = false → m ≤ t → x2.E.A5 < (limS p o m0 true t : Int) := fun g1 g2 => by
        have pe := c2.pe
        rw [g1] at pe
        exact h1E pe (hE2.resolve_left (by rw [g1]; simp)) hs g2
      have go := h4h h c2 hr hr3 hov hT hcan hs hb hlp hA2 hE2 (fun g1 g2 => by
          unfold sP at zA
          rw [if_pos (inA g1 g2)] at zA
          obtain ⟨f1, f2⟩ := h2L zA
          exact ⟨f1, fun r _ _ => h3s f2 b1.1 _⟩) (fun g1 g2 => by
          unfold sP at zE
          rw [if_pos (inE g1 g2)] at zE
          obtain ⟨f1, f2⟩ := h2L zE
          exact ⟨f1, fun r _ _ => ⟨h4d ez _, h3s f2 b1.1 _⟩⟩)
      rcases go with ⟨g1, g2⟩ | ⟨g1, g2⟩
      · rcases g2 with g2 | ⟨g2, g3, g4⟩
        · have hal : x2.E.A4 = false := by
            cases hh : x2.E.A4 with
            | false => rfl
            | true =>
              have : aG cf s x2 = x2 := by unfold aG; rw [d8k (.inl hh), if_pos (.inl rfl)]
              rw [this] at g2
              omega
          have := dE5 g2 (inE hal g1)
          exact .inl (by omega)
        · have := h1Q trE c3.tr hs g1 g2 g3 (of_decide_eq_false g4)
          have := dT3 (by omega)
          exact .inl (by omega)
      · rcases g2 with g2 | ⟨g2, g3, g4⟩
        · have hal : x2.A.A4 = false := by
            cases hh : x2.A.A4 with
            | false => rfl
            | true =>
              have hh3 : (aG cf s x2).A.A4 = true := by rw [eA]; exact hh
              have : aP cf s (aG cf s x2) = aG cf s x2 := by unfold aP; rw [e5o (.inl hh3), if_pos (.inl rfl)]
              rw [this, eA] at g2
              omega
          have := dA5 g2 (inA hal g1)
          exact .inl (by omega)
        · have := h1Q trA c4.tr hs g1 g2 g3 (of_decide_eq_false g4)
          have := dT3 (by omega)
          exact .inl (by omega)
  · have := tb2 hT
    exact .inr (.inl (by omega))
end
end Go.Proofs.Zz
