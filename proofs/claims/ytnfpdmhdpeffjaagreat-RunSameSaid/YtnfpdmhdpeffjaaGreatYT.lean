import Derived.Test.YtnfpdmhdpeffjaaGreatYS
import Derived.Test.YtnfpdmhdpeffjaaGreatPB
set_option linter.unusedSimpArgs false
set_option linter.unusedVariables false
set_option maxRecDepth 100000
namespace Go.Proofs.Zz
open Go
section
variable {p:aw} {o:List Int} {s:ao} {m0:List Int} {n j m i k ka ke t u:Nat} {R R':List am} {x:aa} {e hal:Bool} {pos:bc} {dn:Int} {cf:ay}
def Stops (p:aw) (m0:List Int) (t:Nat):Prop :=
 (∀u,u<t→(runG p m0 u).pc<p.Code.length∧ae (insG p m0 u).1≠8∧bX (runG p m0 u) (insG p m0 u)=0)∧(¬(runG p m0 t).pc<p.Code.length∨bX (runG p m0 t) (insG p m0 t)≠0∨ae (insG p m0 t).1=8)
theorem Stops.uniq (h:Stops p m0 t) (g:Stops p m0 u):t=u:=by
 rcases nw t u with h1 | h1 | h1
 ·
  obtain⟨a,b,c⟩:=g.1 t h1;rcases h.2 with d | d | d
  ·exact absurd a d
  ·exact absurd c d
  ·exact absurd d b
 ·exact h1
 ·
  obtain⟨a,b,c⟩:=h.1 u h1;rcases g.2 with d | d | d
  ·exact absurd a d
  ·exact absurd c d
  ·exact absurd d b
def gk (g:GS):List Int:=(List.range 16).map λ(r:Nat)=>gv g (r:Int)
def wrG (p:aw) (m0:List Int) (t:Nat):List bv:=(evq (qst p m0) t).map (·.2)
def resG (p:aw) (m0:List Int) (t:Nat):cO :=
 if ¬(runG p m0 t).pc<p.Code.length then cO.mk 2 ⟨4,(t:Int),((runG p m0 t).pc:Int)⟩ (t:Int) (List.replicate 16 (0:Int)) ((wrG p m0 t).foldl wrOf m0) (wrG p m0 t)
 else if bX (runG p m0 t) (insG p m0 t)≠0 then cO.mk 2 ⟨bX (runG p m0 t) (insG p m0 t),(t:Int),((runG p m0 t).pc:Int)⟩ (t:Int) (List.replicate 16 (0:Int)) ((wrG p m0 t).foldl wrOf m0) (wrG p m0 t)
 else cO.mk 1 cQ.z ((t:Int)+1) (gk (runG p m0 t)) ((wrG p m0 t).foldl wrOf m0) (wrG p m0 t)
theorem g9S (e:Bool) (t:Nat):trS p o m0 e t=bX (runG p m0 t) (insG p m0 t)∨trS p o m0 e t=0:=by
 unfold trS;split
 ·
  split
  ·exact .inl rfl
  ·exact .inr rfl
 ·
  split
  ·exact .inr rfl
  ·exact .inl rfl
theorem h0C {t:Nat} (h1:trS p o m0 false t=0) (h2:trS p o m0 true t=0):bX (runG p m0 t) (insG p m0 t)=0:=by
 unfold trS at h1 h2;by_cases f3:ae (insG p m0 t).1≤3
 ·
  rw[if_pos f3]at h1 h2;by_cases hs:cX (insG p m0 t) o=1
  ·rwa [if_pos (by simp[hs])]at h1
  ·rwa [if_pos (by simp[hs])]at h2
 ·rwa [if_neg f3,if_neg (by simp)]at h1
theorem h0r {t:Nat} (h:ae (insG p m0 t).1=8):bX (runG p m0 t) (insG p m0 t)=0:=by
 unfold bX;rw[if_neg (by omega),if_neg (by omega)]
theorem g9m (hpc:(runG p m0 n).pc<p.Code.length) (h8:ae (insG p m0 n).1=8):∀d:Nat,(runG p m0 (n+d)).pc=(runG p m0 n).pc
 | 0=>rfl
 | d+1=>by
  have ih:=g9m hpc h8 d;have e1:insG p m0 (n+d)=insG p m0 n:=by unfold insG; rw[ih]
  show (runG p m0 (n+d+1)).pc=_;rw[iQ (by rw[ih]; exact hpc)];show gPc p (runG p m0 (n+d)) (insG p m0 (n+d))=_;unfold gPc goes;rw[e1,decide_eq_false (show ¬ae (insG p m0 n).1=7 by omega),decide_eq_false (show ¬ae (insG p m0 n).1=6 by omega),if_neg (by simp),if_pos h8];exact ih
theorem g9p (pa:Pl p o s m0 false pos hal dn n j ka) {pos':bc} {hal':Bool} {dn':Int} (pe:Pl p o s m0 true pos' hal' dn' m i ke) {kd:Int} (h:h7U p o m0 t kd) (hk:kd≠0):n≤t∨m≤t:=by
 rcases h with⟨h1,h2 | h2⟩ | ⟨_,h2⟩
 ·
  refine .inl (oR λhc=>?_);rw[(pa.ps t hc).2.2]at h2; exact hk h2.symm
 ·
  refine .inr (oR λhc=>?_);rw[(pe.ps t hc).2.2]at h2; exact hk h2.symm
 ·exact .inl (oR λhc=>h2 (pa.ps t hc).1)
theorem g9B (g:Pl p o s m0 e pos hal dn n j k) {kd:Int} (ht:h7U p o m0 t kd) (hk:kd≠0) (h:hal=true∨t≤n):t≤n:=by
 rcases h with h | h
 ·
  obtain⟨h8,hpc,_⟩:=g.hl h;refine oR λhc=>?_
  obtain⟨d,rfl⟩:∃d,t=n+d:=⟨t-n,by omega⟩
  have hs:=g9m hpc h8 d;have e1:insG p m0 (n+d)=insG p m0 n:=by unfold insG; rw[hs]
  rcases ht with⟨_,h2⟩ | ⟨_,h2⟩
  ·
   have h0:=h0r (p:=p) (m0:=m0) (t:=n+d) (by rw[e1]; exact h8);rcases h2 with h2 | h2
   ·
    rcases g9S (p:=p) (o:=o) (m0:=m0) false (n+d) with g1 | g1
    ·rw[g1,h0]at h2; exact hk h2.symm
    ·rw[g1]at h2; exact hk h2.symm
   ·
    rcases g9S (p:=p) (o:=o) (m0:=m0) true (n+d) with g1 | g1
    ·rw[g1,h0]at h2; exact hk h2.symm
    ·rw[g1]at h2; exact hk h2.symm
  ·rw[hs]at h2; exact h2 hpc
 ·exact h
theorem Pl.stepIs (h:Spl p o s) (g:Pl p o s m0 e pos hal dn n j k) (hn:n≤1000000000) (hh:Here p o m0 e n j):(aT s e pos).2.1=(n:Int):=by
 rcases hh with⟨hpc,hj | ⟨hj,hl⟩⟩ | hpc
 ·
  obtain⟨_,off,hx⟩:=g.send h hpc hn hj;rw[hx]
 ·
  obtain⟨_,off,kc,_,hx⟩:=g.last h hpc hn hj hl;rw[hx]
 ·
  obtain⟨q,_,hx,_⟩:=g.fell h hpc hn;rw[hx]
theorem g9G (p:aw) (m0:List Int):∀(n:Nat),∀q∈evq (qst p m0) n,q.1<n
 | 0,q,hq=>by cases hq
 | n+1,q,hq=>by
  have hq:q∈evq (qst p m0) n++qst p m0 n:=hq;rcases mM.1 hq with hq | hq
  ·have:=g9G p m0 n q hq; omega
  ·
   unfold qst at hq;split at hq
   ·
    simp only[mI]at hq;rw[hq]; show n<n+1; omega
   ·cases hq
theorem h0c (p:aw) (m0:List Int) (t:Nat):∀d:Nat,∃r,evq (qst p m0) (t+d)=evq (qst p m0) t++r∧∀q∈r,t≤q.1
 | 0=>⟨[],by simp,by simp⟩
 | d+1=>by
  obtain⟨r,h1,h2⟩:=h0c p m0 t d;refine⟨r++qst p m0 (t+d),?_,λq hq=>?_⟩
  ·
   show evq (qst p m0) (t+d)++qst p m0 (t+d)=_;rw[h1,mQ]
  ·
   rcases mM.1 hq with hq | hq
   ·exact h2 q hq
   ·
    unfold qst at hq;split at hq
    ·
     simp only[mI]at hq;rw[hq]; show t≤t+d; omega
    ·cases hq
theorem h0O {l r a b:List (Nat × bv)} (h:l++r=a++b) (hl:∀q∈l,q.1<t) (hr:∀q∈r,t≤q.1) (ha:∀q∈a,q.1<t) (hb:∀q∈b,t≤q.1):l=a:=by
 have f:∀l r:List (Nat × bv),(∀q∈l,q.1<t)→(∀q∈r,t≤q.1)→(l++r).filter (λq=>decide (q.1<t))=l:=by
  intro l r h1 h2;rw[oV,List.filter_eq_self.2 (λq hq=>decide_eq_true (h1 q hq)),List.filter_eq_nil_iff.2 (λq hq=>by have:=h2 q hq; simp; omega),mJ]
 have:=f l r hl hr;rw[h,f a b ha hb]at this;exact this.symm
theorem h0m (c:MemC p o m0 R x n m) {dn rest:List (Nat × bv)} (w1:evq (qst p m0) n=dn++rest) (w2:dn.map (·.2)=x.A2):∀q∈dn,q.1<n∧q.1<m:=by
 intro q hq;obtain⟨cn,p1,p2⟩:=c.pt;obtain⟨t,ht,rfl⟩:=nC hq;have hdl:dn.length=x.A2.length:=by rw[← w2,mr]
 have h:=g9z (p:=p) (m0:=m0) (n:=n) (m:=m) (t:=t) (by rw[w1]; simp; omega) (by rw[p1]; simp; omega);have e1:(evq (qst p m0) n).getD t noSt=dn[t]:=by rw[w1,mA,mW ht,mC ht]; rfl
 rw[e1]at h;exact h.2
theorem g9n (l:List Int) (i j:Nat) (v:Int):(l.set i v).getD j 0=if i=j∧i<l.length then v else l.getD j 0:=by
 rw[mA,oO,mA];by_cases e:i=j
 ·
  subst e;by_cases h:i<l.length
  ·simp[h]
  ·simp[h]
 ·simp[e]
theorem g9E (s:ao) (x:aa):∀(n i:Nat) (l:List Int),i+n=16→l.length=16→(jn s x n i l).length=16∧∀r:Nat,(jn s x n i l).getD r 0=if i≤r∧r<16 then (if s.D2.getD r 0=1 then x.A.B1.getD r 0 else if s.D2.getD r 0=2 then x.E.B1.getD r 0 else l.getD r 0) else l.getD r 0
 | 0,i,l,h,hl=>⟨hl,λr=>by show l.getD r 0=_; rw[if_neg (by omega)]⟩
 | n+1,i,l,h,hl=>by
  rw[g3v];have step:∀l':List Int,l'.length=16→(∀r,l'.getD r 0=if i=r then (if s.D2.getD i 0=1 then x.A.B1.getD i 0 else if s.D2.getD i 0=2 then x.E.B1.getD i 0 else l.getD i 0) else l.getD r 0) →
    (jn s x n (i+1) l').length=16∧∀r:Nat,(jn s x n (i+1) l').getD r 0=if i≤r∧r<16 then (if s.D2.getD r 0=1 then x.A.B1.getD r 0 else if s.D2.getD r 0=2 then x.E.B1.getD r 0 else l.getD r 0) else l.getD r 0:=by
   intro l' hl' hg;obtain⟨g1,g2⟩:=g9E s x n (i+1) l' (by omega) hl';refine⟨g1,λr=>?_⟩
   rw[g2,hg];by_cases e:i=r
   ·
    subst e;rw[if_neg (show ¬(i+1≤i∧i<16) by omega),if_pos (show i=i from rfl),if_pos (show i≤i∧i<16 by omega)]
   ·
    rw[if_neg e];by_cases h1:i+1≤r∧r<16
    ·rw[if_pos h1,if_pos (show i≤r∧r<16 by omega)]
    ·rw[if_neg h1,if_neg (show ¬(i≤r∧r<16) by omega)]
  by_cases c1:s.D2.getD i 0=1
  ·
   rw[if_pos c1];refine step _ (by rw[mp]; exact hl) λr=>?_
   rw[g9n,if_pos c1];by_cases e:i=r
   ·rw[if_pos ⟨e,by omega⟩,if_pos e]
   ·rw[if_neg (λh=>e h.1),if_neg e]
  ·
   rw[if_neg c1];by_cases c2:s.D2.getD i 0=2
   ·
    rw[if_pos c2];refine step _ (by rw[mp]; exact hl) λr=>?_
    rw[g9n,if_neg c1,if_pos c2];by_cases e:i=r
    ·rw[if_pos ⟨e,by omega⟩,if_pos e]
    ·rw[if_neg (λh=>e h.1),if_neg e]
   ·
    rw[if_neg c2];refine step _ hl λr=>?_
    rw[if_neg c1,if_neg c2];by_cases e:i=r
    ·rw[if_pos e,e]
    ·rw[if_neg e]
theorem g9u {a b:List Int} (hl:a.length=b.length) (h:∀r,r<a.length→a.getD r 0=b.getD r 0):a=b:=by
 refine List.ext_getElem hl λr h1 h2=>?_
 have:=h r h1;rw[mA,mC h1,mA,mC h2]at this;exact this
theorem h0A (h:Spl p o s) (c:Cos p o s m0 R x n j ka n i ke) (hT:R=[]):h8c s x=gk (runG p m0 n):=by
 obtain⟨g1,g2⟩:=g9E s x 15 1 (List.replicate 16 0) rfl rfl;have ho:s.D2=o:=by rw[h.eq]
 refine g9u (g1.trans (by simp[gk])) λr hr=>?_
 have hr:r<16:=by rw[show (h8c s x).length=16 from g1]at hr; exact hr
 rw[show (h8c s x).getD r 0=_ from g2 r];have e1:(gk (runG p m0 n)).getD r 0=gv (runG p m0 n) (r:Int):=by
  unfold gk;rw[mA,nW,pi hr];rfl
 rw[e1,ho,g8K];by_cases h1:1≤r
 ·
  rw[if_pos ⟨h1,hr⟩,h0S _ (by omega)];have cl:=g8h h (r:=(r:Int)) (by omega) (by omega);rw[mF]at cl;rcases cl with g | g
  ·
   rw[if_pos g];have hz:0≤x.A.A8.getD r 0:=by
    by_cases hneg:x.A.A8.getD r 0<0
    ·
     obtain⟨q,hq,_⟩:=c.mc.lo.pn (r:Int) (by omega) (by omega) (by rw[mF]; exact hneg);rw[hT]at hq; cases hq
    ·omega
   have:=c.mc.lo.ra (r:Int) (by omega) (by omega) (by rw[mF]; exact g) (by rw[mF]; exact hz);rw[mF]at this;exact this
  ·
   rw[if_neg (by omega),if_pos g];have:=c.re.re (r:Int) (by omega) (by omega) (by rw[mF]; exact g);rw[mF]at this;exact this
 ·
  rw[if_neg (by omega)];unfold gv;rw[if_neg (by omega)]
theorem h0U (h:Spl p o s) {b:Nat} (hb:b<(aJ p).length) {pc:Nat} (h1:frB p b≤pc) (h2:(pc:Int)<toB p b) (h8:ae (aQ p pc).1=8):toB p b=(pc:Int)+1:=by
 have hbb:=h.bounds hb;by_cases hx:(pc:Int)+1<toB p b
 ·
  have:=h0u hb h1 hx (by omega);unfold gn at this;have:=of_decide_eq_false this;omega
 ·omega
theorem g9y (h:Spl p o s) (g:Pl p o s m0 e pos true dn n j k) (hn:n≤1000000000):∃b:Nat,b<(aJ p).length∧frB p b≤(runG p m0 n).pc∧((runG p m0 n).pc:Int)<toB p b∧pos.A7=(b:Int)∧pos.D3=(n:Int)-(((runG p m0 n).pc:Int)-frB p b)∧endM s pos=(n:Int)+1:=by
 obtain⟨h8,hpc,hs⟩:=g.hl rfl;have hr:=jR h.right hpc;have hsn:sndR o (insG p m0 n)=[]:=by
  unfold sndR;rw[hr,if_neg (by simp),if_neg (by omega),if_neg (by omega),if_neg (by omega)]
 have hj:j=0:=by have:=g.jb; rw[hsn]at this; exact pj.1 this
 have hl:=g9o (p:=p) (o:=o) (n:=n) (e:=e) (m0:=m0);have hl1:(lstS e o (insG p m0 n) (runG p m0 n).pc 0).length=1:=by
  unfold lstS;cases e
  ·
   show (lstA o (insG p m0 n) (runG p m0 n).pc 0).length=1;unfold lstA;rw[hr,if_neg (show ¬(true=false) by simp),if_neg (show ¬ae (insG p m0 n).1≤3 by omega),if_neg (show ¬ae (insG p m0 n).1=4 by omega),if_neg (show ¬ae (insG p m0 n).1=5 by omega),if_neg (show ¬ae (insG p m0 n).1=6 by omega),if_neg (show ¬ae (insG p m0 n).1=7 by omega)];rfl
  ·
   show (lstE o (insG p m0 n) (runG p m0 n).pc 0).length=1;unfold lstE;rw[hr,if_neg (show ¬(true=false) by simp),if_neg (show ¬ae (insG p m0 n).1≤3 by omega),if_neg (show ¬ae (insG p m0 n).1=4 by omega),if_neg (show ¬ae (insG p m0 n).1=5 by omega),if_neg (show ¬ae (insG p m0 n).1=6 by omega),if_neg (show ¬ae (insG p m0 n).1=7 by omega)];rfl
 have w:=g.wt;obtain⟨b,b1,b2,b3,b4,b5⟩:=WAt.cell h w hpc hn (by omega);rw[hs]at b4;have e1:pos=posM p o e b (runG p m0 n).pc j n:=(Prod.mk.inj b4).1;have hbb:=h.bounds b1;refine⟨b,b1,b2,b3,by rw[e1]; rfl,by rw[e1]; rfl,?_⟩
 have hB:pos.D3=(n:Int)-(((runG p m0 n).pc:Int)-frB p b):=by rw[e1]; rfl
 rw[h.end_ b1 (by rw[e1]; rfl) (by omega) (by omega),h0U h b1 b2 b3 h8,hB];omega
end
section
variable {p:aw} {o:List Int} {s:ao} {m0:List Int} {n j m i k ka ke t u:Nat} {R R':List am} {x:aa} {e hal:Bool} {pos:bc} {dn:Int} {cf:ay}
theorem g9C (h:Spl p o s) (c:Cos p o s m0 (bo x) x n j ka m i ke) (hr:bu cf s x=true) (hov:da cf s x=true) (hb:p.Code.length*(ka+1)≤1000000000) (hb2:p.Code.length*(ke+1)≤1000000000) :
  ∃n j m i,Cos p o s m0 [] x n j ka m i ke∧n≤1000000000∧m≤1000000000∧(x.A.A4=true∨(x.A9.C2≠0∧x.A9.C5≤(n:Int)))∧(x.E.A4=true∨(x.A9.C2≠0∧x.A9.C5≤(m:Int)))∧x.B0.any (fw x)=false:=by
 obtain⟨hT,hA,hE,hS⟩:=d0S hr hov;have hR:bo x=[]:=by unfold bo; rw[hT]; rfl
 rw[hR]at c;have nA:∃n j,Cos p o s m0 [] x n j ka m i ke∧(x.A.A4=true∨Here p o m0 false n j):=by
  cases hh:x.A.A4 with
  | true=>exact⟨n,j,c,.inl rfl⟩
  | false =>
   obtain⟨n',j',_,c',hh'⟩:=c.normA h hh hb _ n j (mG _);exact⟨n',j',c',.inr hh'⟩
 obtain⟨n,j,c,ha⟩:=nA;have nE:∃m i,Cos p o s m0 [] x n j ka m i ke∧(x.E.A4=true∨Here p o m0 true m i):=by
  cases hh:x.E.A4 with
  | true=>exact⟨m,i,c,.inl rfl⟩
  | false =>
   obtain⟨n',j',_,c',hh'⟩:=c.normE h hh hb2 _ m i (mG _);exact⟨n',j',c',.inr hh'⟩
 obtain⟨m,i,c,he⟩:=nE;have l1:=WAt.lt h c.pa.wt;have l2:=WAt.lt h c.pe.wt;have nn:n≤1000000000:=by have:=c.pa.bd; rw[nF]at hb; omega
 have mm:m≤1000000000:=by have:=c.pe.bd; rw[nF]at hb2; omega
 refine⟨n,j,m,i,c,nn,mm,?_,?_,hS⟩
 ·
  rcases ha with ha | ha
  ·exact .inl ha
  ·
   unfold gt at hA;rw[c.pa.stepIs h nn ha,nq]at hA;rcases hA with hA | hA
   ·exact .inl hA
   ·exact .inr (of_decide_eq_true hA)
 ·
  rcases he with he | he
  ·exact .inl he
  ·
   unfold gt at hE;rw[c.pe.stepIs h mm he,nq]at hE;rcases hE with hE | hE
   ·exact .inl hE
   ·exact .inr (of_decide_eq_true hE)
theorem h1a (hp:cg p=true) (hpc:(runG p m0 n).pc<p.Code.length) (h8:ae (insG p m0 n).1=8):sndR o (insG p m0 n)=[]:=by
 unfold sndR;rw[jR hp hpc,if_neg (by simp),if_neg (by omega),if_neg (by omega),if_neg (by omega)]
theorem g9A (h:Spl p o s) (c:Cos p o s m0 [] x n j ka m i ke) (hA:x.A.A4=true) (hE:x.E.A4=true) (hk:x.A9.C2=0) (hS:x.B0.any (fw x)=false) :
  n=m∧Stops p m0 n∧¬¬(runG p m0 n).pc<p.Code.length∧x.B0=[]∧x.C7=[]∧x.C6=[]∧x.C8=[]∧x.B9=[]∧x.C9=[]∧x.A2=wrG p m0 n:=by
 obtain⟨a8,ap,_⟩:=c.pa.hl hA;obtain⟨e8,ep,_⟩:=c.pe.hl hE;have hnm:n=m:=by
  rcases nw n m with g | g | g
  ·exact absurd a8 (c.pe.ps n g).2.1
  ·exact g
  ·exact absurd e8 (c.pa.ps m g).2.1
 subst hnm;have sn:=h1a (o:=o) h.right ap a8;have hsv:sv p o m0 n=[]:=by unfold sv; rw[sn]; rfl
 have hsaq:x.B0=[]:=by
  cases hq:x.B0 with
  | nil=>rfl
  | cons a l =>
   rw[hq,ny,mw]at hS;have:=hS.1;unfold fw at this;rw[decide_eq_true hk,oE]at this;cases this
 obtain⟨dn,rest,w1,w2,w3⟩:=c.mc.wr;obtain⟨cn,p1,p2⟩:=c.mc.pt;obtain⟨vs,v1,v2⟩:=c.mc.ld;have hrest:rest=[]:=by
  have:=w3.ln;rw[hsaq]at this;exact mT.1 this
 rw[hrest,mJ]at w1;have hdl:dn.length=x.A2.length:=by rw[← w2,mr]
 have hkn:dV x.B0=0:=by rw[hsaq]; rfl
 have hlen:=(ia p m0 n).1;rw[w1,p1,mD,p2,hkn]at hlen;have haeq:=c.aeq;rw[hsv,List.take_nil,List.take_nil,mJ]at haeq;have self:∀{α:Type} {l r:List α},l=l++r→r=[]:=by
  intro α l r hh;have:=congrArg List.length hh;rw[mD]at this;exact mT.1 (by omega)
 refine⟨rfl,⟨λu hu=>⟨(c.pa.ps u hu).1,(c.pa.ps u hu).2.1,h0C (c.pa.ps u hu).2.2 (c.pe.ps u hu).2.2⟩,.inr (.inr a8)⟩,λg=>g ap,hsaq,self haeq,self c.abq,self c.ebq,?_,mT.1 (by omega),?_⟩
 ·
  have:=self v1;have hl:=v2.ln;rw[this]at hl;exact mT.1 hl.symm
 ·
  unfold wrG;rw[w1,w2]
theorem h0N (h:Spl p o s) (c:Cos p o s m0 (bo x) x n j ka m i ke) (hr:bu cf s x=true) (hov:da cf s x=true) (hb:p.Code.length*(ka+1)≤1000000000) (hb2:p.Code.length*(ke+1)≤1000000000) :
  ∃t,Stops p m0 t∧resR s x=resG p m0 t:=by
 obtain⟨n,j,m,i,c,nn,mm,hA,hE,hS⟩:=g9C h c hr hov hb hb2;have hmem:=c.mc.mem;by_cases hk:x.A9.C2=0
 ·
  have hA:x.A.A4=true:=hA.elim id λg=>absurd hk g.1
  have hE:x.E.A4=true:=hE.elim id λg=>absurd hk g.1
  obtain⟨hnm,st,hp,_,_,_,_,_,_,hw⟩:=g9A h c hA hE hk hS;subst hnm;have pa:=c.pa;rw[hA]at pa;obtain⟨a8,ap,_⟩:=pa.hl rfl;obtain⟨b,_,_,_,_,_,hend⟩:=g9y h pa nn;refine⟨n,st,?_⟩;unfold resR resG;rw[if_neg (by simp[hk]),if_neg hp,if_neg (by rw[h0r a8]; simp),hend,h0A h c rfl,hmem,hw]
 ·
  obtain⟨t,s1,s2,s3⟩:=c.tr hk;have tA:=g9B c.pa s2 hk (hA.imp id λg=>by omega);have tE:=g9B c.pe s2 hk (hE.imp id λg=>by omega);have before:∀u,u<t→(runG p m0 u).pc<p.Code.length∧ae (insG p m0 u).1≠8∧bX (runG p m0 u) (insG p m0 u)=0:=λu hu =>
   ⟨(c.pa.ps u (by omega)).1,(c.pa.ps u (by omega)).2.1,h0C (c.pa.ps u (by omega)).2.2 (c.pe.ps u (by omega)).2.2⟩
  have hcase:(¬(runG p m0 t).pc<p.Code.length∧x.A9.C2=4)∨((runG p m0 t).pc<p.Code.length∧bX (runG p m0 t) (insG p m0 t)=x.A9.C2):=by
   rcases s2 with⟨g1,g2⟩ | ⟨g1,g2⟩
   ·
    refine .inr ⟨g1,?_⟩;rcases g2 with g2 | g2
    ·
     rcases g9S (p:=p) (o:=o) (m0:=m0) false t with g3 | g3
     ·rw[← g3]; exact g2
     ·rw[g3]at g2; exact absurd g2.symm hk
    ·
     rcases g9S (p:=p) (o:=o) (m0:=m0) true t with g3 | g3
     ·rw[← g3]; exact g2
     ·rw[g3]at g2; exact absurd g2.symm hk
   ·exact .inl ⟨g2,g1⟩
  obtain⟨dn,rest,w1,w2,w3⟩:=c.mc.wr;have hdn:evq (qst p m0) t=dn:=by
   obtain⟨d,rfl⟩:∃d,n=t+d:=⟨n-t,by omega⟩
   obtain⟨r,r1,r2⟩:=h0c p m0 t d;rw[r1]at w1;refine h0O w1 (g9G p m0 t) r2 (λq hq=>?_) (λq hq=>?_)
   ·
    have:=h0m c.mc (r1.trans w1) w2 q hq;have:=g9p c.pa c.pe s2 hk;omega
   ·
    obtain⟨v,hv,rfl⟩:=nC hq;have hvl:v<x.B0.length:=by rw[← w3.ln]; exact hv
    have e3:=(w3.en v hvl).2.2.1;rw[mA (l:=rest),mC hv,mj]at e3;have h9:=pR.1 hS _ (ck aF.z hvl);unfold fw at h9;rw[decide_eq_false hk,nH]at h9;have h10:¬((x.B0.getD v aF.z).2.2.1<x.A9.C5):=λhh=>h9 (decide_eq_true hh)
    omega
  have hw:x.A2=wrG p m0 t:=by unfold wrG; rw[hdn,w2]
  refine⟨t,⟨before,?_⟩,?_⟩
  ·
   rcases hcase with g | g
   ·exact .inl g.1
   ·exact .inr (.inl (by rw[g.2]; exact hk))
  ·
   unfold resR resG;rw[if_pos hk,hmem,hw,s1];rcases hcase with g | g
   ·
    rw[if_pos g.1];have e:x.A9=⟨4,(t:Int),((runG p m0 t).pc:Int)⟩:=by rw[← g.2,← s1,← s3]
    rw[e]
   ·
    rw[if_neg (λhh=>hh g.1),if_pos (by rw[g.2]; exact hk),g.2];have e:x.A9=⟨x.A9.C2,(t:Int),((runG p m0 t).pc:Int)⟩:=by rw[← s1,← s3]
    rw[← e]
end
end Go.Proofs.Zz
