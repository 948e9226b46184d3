import Derived.Test.YtnfpdmhdpeffjaaGreatLA
import Derived.Test.YtnfpdmhdpeffjaaGreatYU
set_option linter.unusedSimpArgs false
set_option linter.unusedVariables false
set_option maxRecDepth 100000
namespace Go.Proofs.Zz
open Go
section
variable {p:aw} {o:List Int} {s:ao} {m0:List Int} {n j m i k ka ke:Nat} {x:aa} {cf:ay}
theorem gQ {α:Type} (f:Nat→List α) {a b:Nat} (h:a≤b):(evq f a).length≤(evq f b).length:=(g9e f h).length_le
theorem h1x {α:Type} (f:Nat→List α) (a:Nat):(evq f (a+1)).length=(evq f a).length+(f a).length:=by
 show (evq f a++f a).length=_;rw[mD]
theorem h1o (h:cfgM cf=true):1≤cf.B9∧1≤cf.C9∧1≤cf.C7∧1≤cf.C6∧1≤cf.C8∧1≤cf.B0∧1≤cf.B7∧1≤cf.D8:=by
 unfold cfgM at h;simp only[mE]at h;have h1:=h.1;simp only[allB,mt,nT,mE]at h1;obtain⟨a1,a2,a3,a4,a5,a6,a7,a8,_⟩:=h1;exact⟨(of_decide_eq_true a1).1,(of_decide_eq_true a2).1,(of_decide_eq_true a3).1,(of_decide_eq_true a4).1,(of_decide_eq_true a5).1,(of_decide_eq_true a6).1,(of_decide_eq_true a7).1,(of_decide_eq_true a8).1⟩
theorem h1j (h:bu cf s x=true):cfgM cf=true:=by
 unfold bu at h;simp only[mE]at h;exact h.1
theorem h1P (c:MemC p o m0 [] x n m):d8 x.B0=false:=by
 obtain⟨dn,rest,_,_,w3⟩:=c.wr;cases hk:d8 x.B0 with
 | false=>rfl
 | true =>
  obtain⟨q,hq,_⟩:=w3.cn hk;cases hq
theorem h1t (c:MemC p o m0 [] x n m):(evq (qst p m0) n).length=x.A2.length+x.B0.length∧(evq (pts p m0) m).length=x.A2.length+x.C9.length:=by
 have hk:=h1P c;obtain⟨dn,rest,w1,w2,w3⟩:=c.wr;obtain⟨cn,p1,p2⟩:=c.pt;have hkn:dV x.B0=0:=by unfold dV; rw[hk]; rfl
 have hdl:dn.length=x.A2.length:=by rw[← w2,mr]
 have:=w3.ln;rw[w1,p1,mD,mD];omega
theorem h1X (c:MemC p o m0 [] x n m) (h1:x.B0.length≠0) (h2:x.C9.length≠0):∃u:Nat,(bM x).2.2.1=(u:Int)∧u<n∧u<m:=by
 have hl:=h1t c;obtain⟨dn,rest,w1,w2,w3⟩:=c.wr;have hdl:dn.length=x.A2.length:=by rw[← w2,mr]
 have:=w3.ln;have h:=g9z (p:=p) (m0:=m0) (n:=n) (m:=m) (t:=dn.length) (by omega) (by omega);have e1:(evq (qst p m0) n).getD dn.length noSt=rest.getD 0 noSt:=by rw[w1,g9b]
 rw[e1]at h;exact⟨_,(w3.en 0 (by omega)).2.2.1,h.2⟩
theorem h1A (c:MemC p o m0 [] x n m) (hT:x.A0=[]) (hf:1≤cf.B7) (h1:x.B0.length≠0) (h2:x.C9.length≠0) (ht:x.A9.C2=0∨(bM x).2.2.1<x.A9.C5):canM cf x=true:=by
 have hk:=h1P c;unfold canM;rw[decide_eq_true h1,decide_eq_true h2,show (bM x).2.2.2.1=false from hk,hT,decide_eq_true (show len ([]:List am)<cf.B7 by simp only[len,ma]; omega)];rcases ht with ht | ht
 ·rw[decide_eq_true ht]; rfl
 ·rw[decide_eq_true ht,Bool.or_true]; rfl
theorem h3g (c:MemC p o m0 [] x n m) (hT:x.A0=[]) (hf:1≤cf.B7) (hcan:canM cf x=false) (hnm:n≤m) (hst:dk x (n:Int)=false):x.B0=[]:=by
 refine nu λhne=>?_
 have h1:x.B0.length≠0:=λg=>hne (mT.1 g)
 obtain⟨l1,l2⟩:=h1t c;have l3:=(ia p m0 n).1;have l4:=gQ (pts p m0) hnm;have h2:x.C9.length≠0:=by omega
 obtain⟨u,u1,u2,u3⟩:=h1X c h1 h2;have hs:=of_decide_eq_false hst;rw[h1A c hT hf h1 h2 (by omega)]at hcan;cases hcan
theorem h3E (c:MemC p o m0 [] x n m) (hT:x.A0=[]) (hf:1≤cf.B7) (hq:1≤cf.C9) (hcan:canM cf x=false) (hnm:m≤n) (hst:dk x (m:Int)=false):len x.C9<cf.C9:=by
 refine nu λhne=>?_
 have h2:x.C9.length≠0:=by simp only[len]at hne; omega
 obtain⟨l1,l2⟩:=h1t c;have l3:=(ia p m0 m).1;have l4:=gQ (qst p m0) hnm;have h1:x.B0.length≠0:=by omega
 obtain⟨u,u1,u2,u3⟩:=h1X c h1 h2;have hs:=of_decide_eq_false hst;rw[h1A c hT hf h1 h2 (by omega)]at hcan;cases hcan
theorem h3u (c:MemC p o m0 [] x n m) (hnm:n≤m):x.B9=[]:=by
 obtain⟨vs,v1,v2⟩:=c.ld;have l:=gQ (fch p o m0) hnm;rw[v1,mD]at l;have:=v2.ln;exact mT.1 (by omega)
theorem h3i (c:MemC p o m0 [] x n m) (hmn:m<n) (h4:ae (insG p m0 m).1=4) (ho:onEM o (insG p m0 m).2.1=true):(popM x.B9).2.2=true:=by
 obtain⟨vs,v1,v2⟩:=c.ld;have l:=gQ (fch p o m0) (show m+1≤n by omega);have e1:(fch p o m0 m).length=1:=by unfold fch; rw[if_pos ⟨h4,ho⟩]; rfl
 rw[h1x,e1,v1,mD]at l;have hl:=v2.ln;have hfull:(x.B9.getD 0 aO.z).2.1=true:=by
  cases hf:(x.B9.getD 0 aO.z).2.1 with
  | true=>rfl
  | false =>
   obtain⟨q,hq,_⟩:=v2.em 0 (by omega) hf;cases hq
 unfold popM;rw[if_neg (by rintro (g | g); omega; rw[hfull]at g; cases g)]
section
variable {R:List am} (c:Cos p o s m0 R x n j ka m i ke)
include c
theorem h3y (hmn:m<n∨(m=n∧i<j)) (hi:i<(sndR o (insG p m0 m)).length):x.C7.length≠0:=by
 have h:=congrArg List.length c.aeq;rw[mD,mD,mD,nB,nB,iP,iP]at h;have hj:=c.pa.jb;rcases hmn with hmn | ⟨rfl,hij⟩
 ·
  have l:=gQ (sv p o m0) (show m+1≤n by omega);rw[h1x,iP]at l;omega
 ·omega
theorem h3l (hnm:n<m):j=(sndR o (insG p m0 n)).length:=by
 have h:=congrArg List.length c.aeq;rw[mD,mD,mD,nB,nB,iP,iP]at h;have l:=gQ (sv p o m0) (show n+1≤m by omega);rw[h1x,iP]at l;have:=c.pa.jb;omega
theorem h4e (hmn:m<n) (h6:ae (insG p m0 m).1=6) (ha:bY o (aY (insG p m0 m))=false):x.C6.length≠0:=by
 have h:=congrArg List.length c.abq;rw[mD]at h;have l:=gQ (abr p o m0) (show m+1≤n by omega);rw[h1x,show (abr p o m0 m).length=1 by unfold abr; rw[if_pos ⟨h6,ha⟩]; rfl]at l;omega
theorem h3Q (hmn:m≤n):x.C8.length=0:=by
 have h:=congrArg List.length c.ebq;rw[mD]at h;have l:=gQ (ebr p o m0) hmn;omega
theorem h3V (hnm:n≤m):x.C6.length=0:=by
 have h:=congrArg List.length c.abq;rw[mD]at h;have l:=gQ (abr p o m0) hnm;omega
theorem h4i (hnm:n<m) (h6:ae (insG p m0 n).1=6) (ha:bY o (aY (insG p m0 n))=true):x.C8.length≠0:=by
 have h:=congrArg List.length c.ebq;rw[mD]at h;have l:=gQ (ebr p o m0) (show n+1≤m by omega);rw[h1x,show (ebr p o m0 n).length=1 by unfold ebr; rw[if_pos ⟨h6,ha⟩]; rfl]at l;omega
end
end
section
variable {p:aw} {o:List Int} {s:ao} {m0:List Int} {n j m i k ka ke t:Nat} {x:aa} {cf:ay}
theorem h4n (h:Spl p o s) (c:Cos p o s m0 [] x n j ka m i ke) (hr:bu cf s x=true) (hT:x.A0=[]) (hcan:canM cf x=false) (hm:m≤1000000000) (hw:¬(x.E.A4=true∨x.E.C3>x.A1)) (hfr:∀r:Int,1≤r→r≤15→0≤x.E.A8.getD r.toNat 0∧x.E.A8.getD r.toNat 0≤x.A1) (hh:Here p o m0 true m i) (hst:dk x (m:Int)=false)
  (hcase:m<n∨(m=n∧i<j)∨(m=n∧i=(sndR o (insG p m0 m)).length∧ae (insG p m0 m).1=6∧bY o (aY (insG p m0 m))=true)∨(m=n∧i=(sndR o (insG p m0 m)).length∧ae (insG p m0 m).1≠4∧ae (insG p m0 m).1≠6)) :
  (aG cf s x).E.A5=x.E.A5+1∨((aG cf s x).A9.C2≠0∧(aG cf s x).A9.C5=(m:Int)):=by
 obtain⟨q1,q2,q3,q4,q5,q6,q7,q8⟩:=h1o (h1j hr);have hjb:=c.pa.jb;have hmn:m≤n:=by omega
 have hsd:=h3E c.mc hT q7 q2 hcan hmn hst;have heb:=h3Q c hmn;have heb2:len x.C8<cf.C8:=by simp only[len,heb]; omega
 rcases hcase with g | ⟨g,g2⟩ | ⟨g,g2,g3,g4⟩ | ⟨g,g2,g3,g4⟩
 ·exact h2H h c hr hm hw hfr hh hst (λe=>h3y c (.inl g) e) (λ_ e1 e2=>h3i c.mc g e1 e2) (λ_ _=>hsd) (λ_ _ _=>heb2) (λ_ e1 e2=>h4e c g e1 e2)
 ·
  subst g;exact h2H h c hr hm hw hfr hh hst (λe=>h3y c (.inr ⟨rfl,g2⟩) e) (λe=>by omega) (λe=>by omega) (λe=>by omega) (λe=>by omega)
 ·exact h2H h c hr hm hw hfr hh hst (λe=>by omega) (λ_ e=>by omega) (λ_ e=>by omega) (λ_ _ _=>heb2) (λ_ _ e=>by rw[g4]at e; cases e)
 ·exact h2H h c hr hm hw hfr hh hst (λe=>by omega) (λ_ e=>absurd e g3) (λ_ _=>hsd) (λ_ e=>absurd e g4) (λ_ e=>absurd e g4)
theorem h4j (h:Spl p o s) (c:Cos p o s m0 [] x n j ka m i ke) (hr:bu cf s x=true) (hT:x.A0=[]) (hS:x.B0=[]) (hm:n≤1000000000) (hw:¬(x.A.A4=true∨x.A.C3>x.A1)) (hfr:∀r:Int,1≤r→r≤15→0≤x.A.A8.getD r.toNat 0∧x.A.A8.getD r.toNat 0≤x.A1) (hh:Here p o m0 false n j) (hst:dk x (n:Int)=false)
  (hah:gZ cf s {x with A:={x.A with A6:=(kx s false x.A.A6).1}}=false)
  (hcase:n<m∨(n=m∧j≤i∧¬(j=(sndR o (insG p m0 n)).length∧ae (insG p m0 n).1=6∧bY o (aY (insG p m0 n))=true))) :
  (aP cf s x).A.A5=x.A.A5+1∨((aP cf s x).A9.C2≠0∧(aP cf s x).A9.C5=(n:Int)):=by
 obtain⟨q1,q2,q3,q4,q5,q6,q7,q8⟩:=h1o (h1j hr);have hnm:n≤m:=by omega
 have hl:=h3u c.mc hnm;have hab:=h3V c hnm;have hab2:len x.C6<cf.C6:=by simp only[len,hab]; omega
 have e4:x.B0=[]∧len x.A0<cf.B7∧len x.B9<cf.B9:=⟨hS,by rw[hT]; simp only[len,ma]; omega,by rw[hl]; simp only[len,ma]; omega⟩
 have e5:len x.B0<cf.B0:=by rw[hS]; simp only[len,ma]; omega
 rcases hcase with g | ⟨g,g2,g3⟩
 ·
  have hs:=h3l c g;exact h3Y h c hr hm hw hfr hh hst hah (λe=>by omega) (λ_ _=>e4) (λ_ _=>e5) (λ_ _ _=>hab2) (λ_ e1 e2=>h4i c g e1 e2)
 ·
  subst g;have hae:j<(sndR o (insG p m0 n)).length→len x.C7<cf.C7:=λe=>by
   have hq:=congrArg List.length c.aeq;rw[mD,mD,mD,nB,nB,iP]at hq;have:=c.pe.jb;simp only[len];omega
  exact h3Y h c hr hm hw hfr hh hst hah hae (λ_ _=>e4) (λ_ _=>e5) (λ_ _ _=>hab2) (λe1 e2 e3=>absurd ⟨e1,e2,e3⟩ g3)
theorem h3I (h:Spl p o s) (c:Cos p o s m0 [] x n j ka m i ke) (hr:bu cf s x=true) (hh:Here p o m0 false n j) (hn:n≤1000000000) (hb:p.Code.length*(ke+1)≤1000000000) (hnm:n≤m) :
  gZ cf s {x with A:={x.A with A6:=(kx s false x.A.A6).1}}=false:=by
 obtain⟨q1,q2,q3,q4,q5,q6,q7,q8⟩:=h1o (h1j hr);have hnx:=h.next.1
 have hbk:=ie (iX hr);unfold gZ;show (!x.E.A4&&((aT s true x.E.A6).2.2&&((aT s false (kx s false x.A.A6).1).2.2&&jl (aT s false (kx s false x.A.A6).1).2.1 (aT s true x.E.A6).2.1 cf.D8)))=false;cases hd:x.E.A4 with
 | true=>rfl
 | false =>
  obtain⟨m',i',h1,c',hh'⟩:=c.normE h hd hb _ m i (mG _);have hlt:=WAt.lt h c'.pe.wt;have hm':m'≤1000000000:=by have:=c'.pe.bd; rw[nF]at hb; omega
  have e1:=c'.pe.stepIs h hm' hh';have e2:=c.pa.stepIs h hn hh;rw[je hnx false _ hbk,e1,e2];have e3:jl (n:Int) (m':Int) cf.D8=false:=by
   unfold jl;by_cases g:(n:Int)≥(m':Int)
   ·
    rw[if_pos g,if_neg (by omega)];have:(m':Int)=(n:Int):=by omega
    rw[this];refine decide_eq_false ?_;simp only[w.u64,IntKind.wrap_u64];have hsl:=d8B hr;omega
   ·rw[if_neg g,if_neg (by omega)]
  rw[e3];simp
theorem h2R (c:Cos p o s m0 [] x n j ka m i ke) (hs:Stops p m0 t):n≤t∨m≤t:=by
 by_cases h1:n≤t
 ·exact .inl h1
 ·
  refine .inr (oR λh2=>?_);obtain⟨a1,a2,a3⟩:=c.pa.ps t (by omega);obtain⟨_,_,b3⟩:=c.pe.ps t h2;rcases hs.2 with g | g | g
  ·exact g a1
  ·exact g (h0C a3 b3)
  ·exact a2 g
end
section
variable {p:aw} {o:List Int} {s:ao} {m0:List Int} {n j m i k ka ke t:Nat} {x:aa} {cf:ay}
theorem h1W (p:aw) (m0:List Int):∀n:Nat,(evq (qst p m0) n).Pairwise λa b=>a.1<b.1
 | 0=>List.Pairwise.nil
 | n+1=>by
  show (evq (qst p m0) n++qst p m0 n).Pairwise _;refine na.2 ⟨h1W p m0 n,?_,λa ha b hb=>?_⟩
  ·
   unfold qst;split<;>simp
  ·
   have h1:=g9G p m0 n a ha;unfold qst at hb;split at hb
   ·
    simp only[mI]at hb;rw[hb]; exact h1
   ·cases hb
theorem h3O (c:MemC p o m0 [] x n m) (hT:x.A0=[]) (hf:1≤cf.B7) (hS:x.B0.any (fw x)=true) (hrest:(x.A9.C2=0∧n=m)∨(x.A9.C2≠0∧x.A9.C5≤(m:Int))):canM cf x=true:=by
 obtain⟨e,he,hl⟩:=pY.1 hS;obtain⟨v,hv,rfl⟩:=nC he;have h1:x.B0.length≠0:=by omega
 obtain⟨l1,l2⟩:=h1t c;have l3:=(ia p m0 m).1;rcases hrest with⟨hk,rfl⟩ | ⟨hk,ht⟩
 ·exact h1A c hT hf h1 (by omega) (.inl hk)
 ·
  obtain⟨dn,rest,w1,w2,w3⟩:=c.wr;have hln:=w3.ln;have hvr:v<rest.length:=by omega
  have e3:=(w3.en v hv).2.2.1;rw[mA,mC hv,mj,mA,mC hvr,mj]at e3;unfold fw at hl;rw[decide_eq_false hk,nH]at hl;have hl:=of_decide_eq_true hl;have hso:=h1W p m0 n;rw[w1]at hso;have hso2:=(na.1 hso).2.1;have hhead:rest[0].1≤rest[v].1:=by
   by_cases hv0:v=0
   ·subst hv0; exact mG _
   ·exact py (nY.1 hso2 0 v (by omega) hvr (by omega))
  have e0:=(w3.en 0 (by omega)).2.2.1;rw[mA (l:=rest),mC (show 0<rest.length by omega),mj]at e0;have e0:(bM x).2.2.1=(rest[0].1:Int):=e0;have h2:x.C9.length≠0:=by
   by_cases hnm:n≤m
   ·
    have:=gQ (pts p m0) hnm;have:=(ia p m0 n).1;omega
   ·
    obtain⟨d,rfl⟩:∃d,n=m+d:=⟨n-m,by omega⟩
    obtain⟨r,r1,r2⟩:=h0c p m0 m d;have hlt:dn.length+v<(evq (qst p m0) m).length:=by
     refine nu λhge=>?_
     have hdl:dn.length=x.A2.length:=by rw[← w2,mr]
     have hq:(evq (qst p m0) m++r).getD (dn.length+v) noSt=rest[v]:=by
      rw[← r1,w1,mA,mU (by omega),ni,mC hvr]; rfl
     have hin:(evq (qst p m0) m++r).getD (dn.length+v) noSt∈r:=by
      have hlen:dn.length+v<(evq (qst p m0) m++r).length:=by rw[← r1,w1,mD]; omega
      rw[mD]at hlen;rw[mA,mU (by omega),mC (by omega)];exact oK _
     rw[hq]at hin;have:=r2 _ hin;omega
    have hdl:dn.length=x.A2.length:=by rw[← w2,mr]
    omega
  exact h1A c hT hf h1 h2 (.inr (by omega))
theorem h4k (h:Spl p o s) (c:Cos p o s m0 [] x n j ka m i ke) (hr:bu cf s x=true) (hm:m≤1000000000) (hh:x.E.A4=true∨Here p o m0 true m i):(aG cf s x).A9=x.A9∨((aG cf s x).A9.C2≠0∧(aG cf s x).A9.C5=(m:Int)):=by
 have hn:=h.next.1
 have hbk:=ie (jA hr);by_cases hw:x.E.A4=true∨x.E.C3>x.A1
 ·
  unfold aG;rw[d8k hw,if_pos (.inl rfl)];exact .inl rfl
 rcases hh with hh | hh
 ·exact absurd (.inl hh) hw
 have note:∀(z:aa) (kd pc:Int),kd≠0→z.A9=x.A9→(bG z kd (m:Int) pc).A9=x.A9∨((bG z kd (m:Int) pc).A9.C2≠0∧(bG z kd (m:Int) pc).A9.C5=(m:Int)):=by
  intro z kd pc hk hz;unfold bG;split
  ·exact .inr ⟨hk,rfl⟩
  ·exact .inl hz
 have act:∀kc:ak,aT s true x.E.A6=(kc,(m:Int),true)→(kx s true x.E.A6).2=false→(aG cf s x).A9=x.A9∨((aG cf s x).A9.C2≠0∧(aG cf s x).A9.C5=(m:Int)):=by
  intro kc hx hf;rw[g9R hn hbk hw hf hx];split
  ·exact .inl rfl
  ·
   rcases h0K cf s kc (m:Int) {x with E:={x.E with A6:=(kx s true x.E.A6).1}} with e | e
   ·exact .inl e
   ·rw[e]; exact note _ _ _ (by omega) rfl
 rcases hh with⟨hpc,hj | ⟨hj,hl⟩⟩ | hpc
 ·
  obtain⟨hf,off,hx⟩:=c.pe.send h hpc hm hj;exact act _ hx hf
 ·
  obtain⟨hf,off,kc,_,hx⟩:=c.pe.last h hpc hm hj hl;exact act _ hx hf
 ·
  obtain⟨q,q1,q2,_,_⟩:=c.pe.fell h hpc hm;have hf:(kx s true x.E.A6).2=true:=by rw[q1]
  obtain⟨a1,a2⟩:=d8m hn hbk hw hf;unfold aG;rw[if_pos (.inl a1),a2,q2];exact note _ _ _ (by omega) rfl
end
section
variable {p:aw} {o:List Int} {s:ao} {m0:List Int} {n j m i k ka ke t:Nat} {x:aa} {cf:ay}
theorem h3X (h:Spl p o s) (c:Cos p o s m0 [] x n j ka m i ke) (hr:bu cf s x=true) (hov:da cf s x=false) (hT:x.A0=[]) (hcan:canM cf x=false) (nn:n≤1000000000) (mm:m≤1000000000) (hA:x.A.A4=true∨Here p o m0 false n j) (hE:x.E.A4=true∨Here p o m0 true m i) :
  ¬((x.A.A4=true∨(x.A9.C2≠0∧x.A9.C5≤(n:Int)))∧(x.E.A4=true∨(x.A9.C2≠0∧x.A9.C5≤(m:Int)))):=by
 obtain⟨q1,q2,q3,q4,q5,q6,q7,q8⟩:=h1o (h1j hr)
 rintro⟨ra,re⟩
 have rA:gt s false x.A x=true:=by
  unfold gt;rcases hA with g | g
  ·rw[g]; rfl
  ·
   rw[c.pa.stepIs h nn g,nq];exact ra.imp id λg2=>decide_eq_true g2
 have rE:gt s true x.E x=true:=by
  unfold gt;rcases hE with g | g
  ·rw[g]; rfl
  ·
   rw[c.pe.stepIs h mm g,nq];exact re.imp id λg2=>decide_eq_true g2
 have hS:x.B0.any (fw x)=true:=by
  cases hS:x.B0.any (fw x) with
  | true=>rfl
  | false =>
   unfold da at hov;rw[hr,rA,rE,hS,hT]at hov;cases hov
 have hl:(x.A9.C2=0∧n=m)∨(x.A9.C2≠0∧x.A9.C5≤(m:Int)):=by
  by_cases hk:x.A9.C2=0
  ·
   refine .inl ⟨hk,?_⟩;have a8:=(c.pa.hl (ra.elim id λg=>absurd hk g.1)).1;have e8:=(c.pe.hl (re.elim id λg=>absurd hk g.1)).1;rcases nw n m with g | g | g
   ·exact absurd a8 (c.pe.ps n g).2.1
   ·exact g
   ·exact absurd e8 (c.pa.ps m g).2.1
  ·
   obtain⟨u,u1,u2,_⟩:=c.tr hk;have:=g9B c.pe u2 hk (re.imp id λg=>by omega);exact .inr ⟨hk,by omega⟩
 rw[h3O c.mc hT q7 hS hl]at hcan;cases hcan
theorem A_on (h:Spl p o s) (c:Cos p o s m0 [] x n j ka m i ke) (hr:bu cf s x=true) (hr3:bu cf s (aG cf s x)=true) (hT:x.A0=[]) (hcan:canM cf x=false) (nn:n≤1000000000) (mm:m≤1000000000) (hbe:p.Code.length*(ke+1+1)≤1000000000) (hE:x.E.A4=true∨Here p o m0 true m i)
  (hwA:x.A.A4=false→n≤t→¬x.A.C3>x.A1∧∀r:Int,1≤r→r≤15→x.A.A8.getD r.toNat 0≤x.A1)
  (noE:m≤t→¬((aG cf s x).E.A5=x.E.A5+1∨((aG cf s x).A9.C2≠0∧(aG cf s x).A9.C5=(m:Int)∧dk x (m:Int)=false))) (noA:n≤t→¬((aP cf s (aG cf s x)).A.A5=x.A.A5+1∨((aP cf s (aG cf s x)).A9.C2≠0∧(aP cf s (aG cf s x)).A9.C5=(n:Int)∧dk (aG cf s x) (n:Int)=false))) :
  x.A.A4=false→Here p o m0 false n j→n≤t→¬(x.A9.C2≠0∧x.A9.C5≤(n:Int)) →
   (n<m∨(n=m∧j≤i∧¬(j=(sndR o (insG p m0 n)).length∧ae (insG p m0 n).1=6∧bY o (aY (insG p m0 n))=true)))→False:=by
 have hbe1:p.Code.length*(ke+1)≤1000000000:=by rw[nF]at hbe; omega
 obtain⟨q1,q2,q3,q4,q5,q6,q7,q8⟩:=h1o (h1j hr);have frA:x.A.A4=false→n≤t→∀r:Int,1≤r→r≤15→0≤x.A.A8.getD r.toNat 0∧x.A.A8.getD r.toNat 0≤x.A1:=λhd ht r r1 r2=>by
  refine⟨?_,(hwA hd ht).2 r r1 r2⟩;refine nu λhneg=>?_
  obtain⟨q,hq,_⟩:=c.mc.lo.pn r r1 r2 (by omega);cases hq
 have fr:=(d9F cf s x).fr;have e1:(aG cf s x).A=x.A:=by rw[fr]
 have e2:(aG cf s x).B0=x.B0:=by rw[fr]
 have e3:(aG cf s x).A0=x.A0:=by rw[fr]
 have e4:(aG cf s x).A1=x.A1:=by rw[fr]
 have stop:∀u:Nat,¬(x.A9.C2≠0∧x.A9.C5≤(u:Int))→dk x (u:Int)=false:=λu hu=>by
  unfold dk;exact decide_eq_false hu
 intro hd hh ht hst hcase;have hnm:n≤m:=by omega
 have hS:=h3g c.mc hT q7 hcan hnm (stop n hst);have hnote:=h4k h c hr mm hE;obtain⟨m',i',hle,c3⟩:=c.runE h hr hbe1;have hst3:dk (aG cf s x) (n:Int)=false:=by
  unfold dk;refine decide_eq_false λg=>?_
  rcases hnote with g2 | g2
  ·rw[g2]at g; exact hst g
  ·
   by_cases hmt:m≤t
   ·
    by_cases hsm:x.A9.C2≠0∧x.A9.C5≤(m:Int)
    ·
     rcases h0f cf s x with g3 | ⟨_,g3⟩
     ·rw[g3]at g; exact hst g
     ·
      have:=g3 hsm.1;omega
    ·exact noE hmt (.inr ⟨g2.1,g2.2,stop m hsm⟩)
   ·omega
 have hcase3:n<m'∨(n=m'∧j≤i'∧¬(j=(sndR o (insG p m0 n)).length∧ae (insG p m0 n).1=6∧bY o (aY (insG p m0 n))=true)):=by
  rcases hcase with g | ⟨g,g2,g3⟩
  ·exact .inl (by omega)
  ·
   by_cases hlt:n<m'
   ·exact .inl hlt
   ·
    have hmm:m'=m:=by omega
    refine .inr ⟨by omega,?_,g3⟩
    have hdb:=h1l (jA hr);have hdone:w.i64 (x.E.A5+1)=x.E.A5+1:=wI (by omega) (by omega);have hD:(aG cf s x).E.A5=x.E.A5:=by
     rcases (d9F cf s x).on with⟨d1,_⟩ | ⟨d1,_⟩
     ·exact d1
     ·exact absurd (.inl (by rw[d1,hdone])) (noE (by omega))
    have d1:=c.pe.dc;have d2:=c3.pe.dc;rw[hD,hmm]at d2;by_cases h3:(aG cf s x).E.A4=true
    ·
     by_cases h0:x.E.A4=true
     ·
      rw[if_pos h0]at d1;rw[if_pos h3]at d2;omega
     ·
      rw[if_neg h0]at d1;rw[if_pos h3]at d2;obtain⟨a8,ap,_⟩:=c3.pe.hl h3;rw[hmm]at a8 ap;have:=c.pe.jb;rw[h1a h.right ap a8]at this;have:i=0:=pj.1 this;omega
    ·
     rw[if_neg h3]at d2;split at d1<;>omega
 have hw3:¬((aG cf s x).A.A4=true∨(aG cf s x).A.C3>(aG cf s x).A1):=by
  rw[e1,e4,hd]
  rintro (g | g)
  ·cases g
  ·exact (hwA hd ht).1 g
 have:=h4j h c3 hr3 (by rw[e3]; exact hT) (by rw[e2]; exact hS) nn hw3 (by rw[e1,e4]; exact frA hd ht) hh hst3 (h3I h c3 hr3 hh nn hbe (by omega)) hcase3;rw[e1]at this;exact noA ht (this.imp id λg=>⟨g.1,g.2,hst3⟩)
theorem h4h (h : Spl p o s) (c : Cos p o s m0 [] x n j ka m i ke) (hr : bu cf s x = true) (hr3 : bu cf s (aG cf s x) = true) (hov : da cf s x = false) (hT : x.A0 = []) (hcan : canM cf x = false) (hs : Stops p m0 t) (hba : p.Code.length * (ka + 1) ≤ 1000000000) (hbe : p.Code.length * (ke + 1 + 1) ≤ 1000000000)
    (hA : x.A.A4 = true ∨ Here p o m0 false n j) (hE : x.E.A4 = true ∨ Here p o m0 true m i)
    (hwA : x.A.A4 = false → n ≤ t → ¬ x.A.C3 > x.A1 ∧ ∀ r : Int, 1 ≤ r → r ≤ 15 → x.A.A8.getD r.toNat 0 ≤ x.A1)
    (hwE : x.E.A4 = false → m ≤ t → ¬ x.E.C3 > x.A1 ∧ ∀ r : Int, 1 ≤ r → r ≤ 15 → 0 ≤ x.E.A8.getD r.toNat 0 ∧ x.E.A8.getD r.toNat 0 ≤ x.A1) :
    (m ≤ t ∧ ((aG cf s x).E.A5 = x.E.A5 + 1 ∨ ((aG cf s x).A9.C2 ≠ 0 ∧ (aG cf s x).A9.C5 = (m : Int) ∧ dk x (m : Int) = false))) ∨
    (n ≤ t ∧ ((aP cf s (aG cf s x)).A.A5 = x.A.A5 + 1 ∨ ((aP cf s (aG cf s x)).A9.C2 ≠ 0 ∧ (aP cf s (aG cf s x)).A9.C5 = (n : Int) ∧ dk (aG cf s x) (n : Int) = false))) := by
  have hbe1 : p.Code.length * (ke + 1) ≤ 1000000000 := by rw [nF] at hbe; omega
  obtain ⟨q1, q2, q3, q4, q5, q6, q7, q8⟩ := h1o (h1j hr)
  have l1 := WAt.lt h c.pa.wt
  have l2 := WAt.lt h c.pe.wt
  have nn : n ≤ 1000000000 := by have := c.pa.bd; rw [nF] at hba; omega
  have mm : m ≤ 1000000000 := by have := c.pe.bd; rw [nF] at hbe1; omega
  clear l1 l2
  have ow := h2R c hs
  refine nu fun hno => ?_
  have noE : m ≤ t → ¬ ((aG cf s x).E.A5 = x.E.A5 + 1 ∨ ((aG cf s x).A9.C2 ≠ 0 ∧ (aG cf s x).A9.C5 = (m : Int) ∧ dk x (m : Int) = false)) := fun a b => hno (.inl ⟨a, b⟩)
  have noA : n ≤ t → ¬ ((aP cf s (aG cf s x)).A.A5 = x.A.A5 + 1 ∨ ((aP cf s (aG cf s x)).A9.C2 ≠ 0 ∧ (aP cf s (aG cf s x)).A9.C5 = (n : Int) ∧ dk (aG cf s x) (n : Int) = false)) := fun a b => hno (.inr ⟨a, b⟩)
  have norest := h3X h c hr hov hT hcan nn mm hA hE
  have stop : ∀ u : Nat, ¬ (x.A9.C2 ≠ 0 ∧ x.A9.C5 ≤ (u : Int)) → dk x (u : Int) = false := fun u hu => by
    unfold dk
    exact decide_eq_false hu
  have onA := A_on (t := t) h c hr hr3 hT hcan nn mm hbe hE hwA noE noA
  have onE : x.E.A4 = false → Here p o m0 true m i → m ≤ t → ¬ (x.A9.C2 ≠ 0 ∧ x.A9.C5 ≤ (m : Int)) →
      (m < n ∨ (m = n ∧ i < j) ∨ (m = n ∧ i = (sndR o (insG p m0 m)).length ∧ ae (insG p m0 m).1 = 6 ∧ bY o (aY (insG p m0 m)) = true) ∨ (m = n ∧ i = (sndR o (insG p m0 m)).length ∧ ae (insG p m0 m).1 ≠ 4 ∧ ae (insG p m0 m).1 ≠ 6)) → False := by
    intro hd hh ht hst hcase
    refine noE ht ((h4n h c hr hT hcan mm ?_ (hwE hd ht).2 hh (stop m hst) hcase).imp id fun g => ⟨g.1, g.2, stop m hst⟩)
    rintro (g | g)
    · rw [hd] at g; cases g
    · exact (hwE hd ht).1 g
  rcases nw m n with hmn | hmn | hmn
  · have hd : x.E.A4 = false := by
      cases hh : x.E.A4 with
      | false => rfl
      | true => exact absurd (c.pe.hl hh).1 (c.pa.ps m hmn).2.1
    have hh := hE.resolve_left (by rw [hd]; simp)
    exact onE hd hh (ow.elim (fun g => nO (py hmn) g) id) (fun g => norest ⟨.inr ⟨g.1, pE g.2 (Int.ofNat_le.2 (py hmn))⟩, .inr g⟩) (.inl hmn)
  · subst hmn
    have ht : m ≤ t := ow.elim id id
    by_cases hst : x.A9.C2 ≠ 0 ∧ x.A9.C5 ≤ (m : Int)
    · exact norest ⟨.inr hst, .inr hst⟩
    cases ha : x.A.A4 with
    | true =>
      obtain ⟨a8, ap, _⟩ := c.pa.hl ha
      have hsn := h1a (o := o) h.right ap a8
      cases he : x.E.A4 with
      | true => exact norest ⟨.inl ha, .inl he⟩
      | false =>
        have hh := hE.resolve_left (by rw [he]; simp)
        have := c.pe.jb
        rw [hsn] at this
        have hi : i = 0 := pj.1 this
        exact onE he hh ht hst (.inr (.inr (.inr ⟨rfl, by rw [hsn, hi]; rfl, by omega, by omega⟩)))
    | false =>
      have hhA := hA.resolve_left (by rw [ha]; simp)
      cases he : x.E.A4 with
      | true =>
        obtain ⟨a8, ap, _⟩ := c.pe.hl he
        have hsn := h1a (o := o) h.right ap a8
        have := c.pa.jb
        rw [hsn] at this
        have hj : j = 0 := pj.1 this
        exact onA ha hhA ht hst (.inr ⟨rfl, by omega, fun g => by omega⟩)
      | false =>
        have hh := hE.resolve_left (by rw [he]; simp)
        by_cases hij : i < j
        · exact onE he hh ht hst (.inr (.inl ⟨rfl, hij⟩))
        · by_cases hdec : j = (sndR o (insG p m0 m)).length ∧ ae (insG p m0 m).1 = 6 ∧ bY o (aY (insG p m0 m)) = true
          · have := c.pe.jb
            exact onE he hh ht hst (.inr (.inr (.inl ⟨rfl, by omega, hdec.2.1, hdec.2.2⟩)))
          · exact onA ha hhA ht hst (.inr ⟨rfl, by omega, hdec⟩)
  · have hd : x.A.A4 = false := by
      cases hh : x.A.A4 with
      | false => rfl
      | true => exact absurd (c.pa.hl hh).1 (c.pe.ps n hmn).2.1
    have hh := hA.resolve_left (by rw [hd]; simp)
    exact onA hd hh (ow.elim id fun g => nO (py hmn) g) (fun g => norest ⟨.inr g, .inr ⟨g.1, pE g.2 (Int.ofNat_le.2 (py hmn))⟩⟩) (.inl hmn)
end
end Go.Proofs.Zz
