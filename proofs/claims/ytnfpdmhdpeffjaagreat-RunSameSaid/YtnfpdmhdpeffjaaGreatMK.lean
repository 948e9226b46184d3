import Derived.Test.YtnfpdmhdpeffjaaGreatMJ
import Derived.Test.YtnfpdmhdpeffjaaGreatMH
set_option linter.unusedSimpArgs false
set_option linter.unusedVariables false
set_option maxRecDepth 100000
namespace Go.Proofs.Zz
open Go
variable {N:Nat}
def fQ (c:ay) (s:ao) (t:bH) (x:aa):aa :=
 if bu c s x=true then {h7D c s (h7H c s (bD c (aX c t x))) with A1:=w.i64 ((h7D c s (h7H c s (bD c (aX c t x)))).A1+1)} else x
theorem e7X {m:Int} {q:am} (h:reqM m q=true):LfOk q:=((b8f m q).1 h).2
theorem g7L (a:Int) (m:List Int):∀n,U32 (rdB a m n)
 | 0=>⟨by show (0:Int)≤0; omega,by show (0:Int)≤4294967295; omega⟩
 | n+1=>dI _
theorem g7E (m:List Int) (op a:Int):U32 (bW m op a):=by
 unfold bW;split
 ·
  split
  ·exact d8Y op (g7L _ _ _)
  ·exact⟨by show (0:Int)≤0; omega,by show (0:Int)≤4294967295; omega⟩
 ·exact⟨by show (0:Int)≤0; omega,by show (0:Int)≤4294967295; omega⟩
theorem g7I (q:am) (x:aa) {v:Int} (hv:U32 v):EndR x (ldS q x v) 0:=by
 unfold ldS;split
 ·exact⟨⟨[],by simp,by simp,rfl,by simp⟩,rfl,rfl,rfl,c2A _ _ _,rfl,λh=>d8S h _ hv,λ_ h _=>h,rfl,λh=>h⟩
 ·
  split
  ·exact⟨⟨[],by simp,by simp,rfl,by simp⟩,rfl,rfl,rfl,rfl,rfl,λh=>h,λP hp hq r hr=>(nI hr).elim (hp r) (λe=>by rw[e]; exact hq),by simp,λh=>e3s h _ hv⟩
  ·exact EndR.refl x
theorem g7F (q:am) (x:aa) (h:bp q=none) (hL:q.1=true→LieW (wrQ q) (len x.Mem)):EndR x (cI (cH q) x) (if dg q=true then 1 else 0):=by
 have hk:q.2.2.2.2.2.1>0∧w.i64 (q.2.2.2.2.2.1-1)=0:=by
  unfold bp at h;split at h
  ·
   split at h
   ·rename_i h1 h2; exact⟨h1,h2⟩
   ·cases h
  ·cases h
 unfold cI dg;rw[decide_eq_true hk.1,decide_eq_true hk.2];cases hq:q.1 with
 | true =>
  have hl:=hL hq;rw[if_pos (show (cH q).1=true from hq),if_pos (by rfl)];exact⟨⟨[wrQ q],by simp,rfl,rfl,by intro p hp; simp only[mI]at hp; rw[hp]; exact hl⟩,rfl,rfl,c3A _ _ _ _,rfl,rfl,λh=>h,λ_ h _=>h,rfl,λh=>h⟩
 | false =>
  rw[if_neg (show ¬(cH q).1=true by rw[show (cH q).1=q.1 from rfl,hq]; simp)];refine g7I _ _ ?_;split
  ·exact g7E _ _ _
  ·exact⟨by show (0:Int)≤0; omega,by show (0:Int)≤4294967295; omega⟩
theorem g7A:∀(T:List am) (x:aa),Lefts T (len x.Mem)→EndR x (bO T x) (T.countP dg)
 | [],x,_=>EndR.refl x
 | q::r,x,h=>by
  rw[bO,nV,oM];have st:EndR x (if (bp q).isNone=true then cI (cH q) x else x) (if dg q=true then 1 else 0):=by
   cases hk:bp q with
   | none=>exact g7F q x hk (λhq=>h q (by simp) hq)
   | some a =>
    have:dg q=false:=by
     unfold bp at hk;unfold dg;split at hk
     ·
      split at hk
      ·cases hk
      ·rename_i _ h2; rw[decide_eq_false h2]; simp
     ·rename_i h1; rw[decide_eq_false h1]; simp
    rw[this];exact EndR.refl x
  refine st.trans (g7A r _ λp hp hq=>?_);rw[show len (if (bp q).isNone=true then cI (cH q) x else x).Mem=len x.Mem by simp only[len,st.mem]];exact h p (nG _ hp) hq
theorem g7z (n b:Int):∀(l:List am) (i:Nat),∀r∈d7 n b l i,dr (l.getD (r.toNat-i) am.z).2.2.1 n=b
 | [],i=>by simp[d7]
 | q::l,i=>by
  intro r hr;rw[d7]at hr;rcases mM.1 hr with h | h
  ·
   split at h
   ·
    rename_i hb;rw[mI.1 h,mF,oT];exact hb.1
   ·simp at h
  ·
   have h1:=g7z n b l (i+1) r h;have h2:=(d2M n b l (i+1)).2 r h;rw[show r.toNat-i=(r.toNat-(i+1))+1 by omega];exact h1
theorem g7D {c:ay} (t:bH) (b:Int) (x:aa) (hc:1≤c.C4∧c.C4≤1000):BegR c x (eO c t b x) 1:=by
 have r0:=(BegR.refl c x).mono (show 0≤1 by omega);have hl:=d8o t.B6 x.B6 hc.1;have hb:=g7z c.B2 b x.A0 0;have hi:=(d2M c.B2 b x.A0 0).2;unfold eO;split
 ·exact r0
 rename_i hw;have hw:∀q∈x.A0,cN c.B2 b q=false:=by simpa using hw
 dsimp only
 generalize d7 c.B2 b x.A0 0=wt at *;have key:∀k:Nat,k<wt.length→0≤wt.getD k 0∧wt.getD k 0<len x.A0∧dr (x.A0.getD (wt.getD k 0).toNat am.z).2.2.1 c.B2=b:=by
  intro k hk;have hm:=ck (0:Int) hk;have h1:=hi _ hm;have h2:=hb _ hm;rw[oD]at h2;exact⟨by omega,by simp only[len]; omega,h2⟩
 split
 ·exact r0
 split
 ·
  obtain⟨p0,p1⟩:=d8o t.B5 x.B5 (m:=len wt) (by simp only[len]; omega);exact e2Y hc (key _ (by have:len wt=(wt.length:Int):=rfl; omega)) hw hl (.inr rfl)
 ·exact e2Y hc (key 0 (by omega)) hw hl (.inl rfl)
theorem g7y {c:ay} (t:bH) (hc:1≤c.C4∧c.C4≤1000):∀(n i:Nat) (x:aa),BegR c x (gO c t n i x) n
 | 0,_,x=>BegR.refl c x
 | n+1,i,x=>by
  rw[gO];exact ((g7D t _ x hc).trans (g7y t hc n (i+1) _)).mono (by omega)
theorem c7l {c:ay} {s:ao} {t:bH} {x:aa} {k:Nat} (h:Inv k x) (hk:k≤14000) (hr:bu c s x=true):MovR x (aX c t x) (x.A0.countP dg) ∧
  ∃y,y.A0=x.A0.filterMap bp∧y.B6=x.B6∧y.B5=x.B5∧BegR c y (aX c t x) c.B2.toNat:=by
 have g:=g7A x.A0 x (Lefts.of hr);have hb:=g7y t (Bnd.of hr).la c.B2.toNat 0 {bO x.A0 x with A0:=x.A0.filterMap bp};have hf:=g.fr;refine⟨?_,_,rfl,by show (bO x.A0 x).B6=_; rw[hf],by show (bO x.A0 x).B5=_; rw[hf],hb⟩
 have e:aX c t x={({bO x.A0 x with A0:=x.A0.filterMap bp}:aa) with A0:=(aX c t x).A0,B6:=(aX c t x).B6,B5:=(aX c t x).B5}:=hb.fr;have e1:(aX c t x).A2=(bO x.A0 x).A2:=by rw[e]
 have e2:(aX c t x).Mem=(bO x.A0 x).Mem:=by rw[e]
 have e3:(aX c t x).A=(bO x.A0 x).A:=by rw[e]
 have e4:(aX c t x).B9=(bO x.A0 x).B9:=by rw[e]
 have e5:(aX c t x).B0=(bO x.A0 x).B0:=by rw[e]
 have hl:(aX c t x).A0.length≤x.A0.length:=by
  have h1:=congrArg List.length hb.tab;simp only[mr]at h1;show (gO _ _ _ _ _).A0.length≤_;rw[h1];exact List.length_filterMap_le _ _
 refine⟨by rw[e1,e2]; exact g.wr,?_,by rw[e3]; exact g.afr,by rw[e2]; exact g.mem,by rw[e4]; exact g.ldq,by rw[e5]; exact g.saq,λhu=>by unfold UL; rw[e4]; exact g.ul hu,hl,by rw[e3]; exact g.rdp,by rw[e3]; exact g.rdy,by rw[e3]; exact g.regs⟩
 rw[e,hf]
theorem g7M (v n:Int) (h:U32 v):U32 (fB v n):=by
 unfold fB;split
 ·exact dI _
 split
 ·exact dI _
 split
 ·exact h
 ·exact⟨by show (0:Int)≤0; omega,by show (0:Int)≤4294967295; omega⟩
theorem e2j (c:ay) (x:aa) (h:x.A0.length≤1000):SndR c x (bD c x):=by
 unfold bD;cases hc:canM c x with
 | false=>exact⟨.inl rfl,rfl,mG _,rfl,by simp,λ_ h=>h,λh=>h⟩
 | true =>
  unfold canM at hc;simp only[mE,decide_eq_true_eq,mu]at hc;obtain⟨h0,h1,h2,h3,_⟩:=hc;rw[if_pos rfl];refine⟨.inr ⟨h0,h1,h3,fB (x.C9.getD 0 0) (bM x).2.1,stOp (bM x).2.1,?_,rfl,rfl⟩,rfl,by simp,by simp,by simp,λhs hq e he=>?_,λhs v hv=>hs v (oZ hv)⟩
  ·
   show _∧(bM x).2.1=1∨_∧(bM x).2.1=2∨_∧(bM x).2.1≠1∧(bM x).2.1≠2;unfold stOp
   repeat' split
   all_goals omega
  ·
   rcases nI he with h4 | h4
   ·exact hq e h4
   ·
    rw[h4];exact g7M _ _ (hs _ (ck 0 (by omega)))
theorem SndR.refl (c:ay) (x:aa):SndR c x x:=⟨.inl rfl,rfl,mG _,rfl,by omega,λ_ h=>h,λh=>h⟩
theorem c6B {c:ay} {s:ao} {t:bH} {x:aa} {k:Nat} (h:Inv k x) (hk:k≤13900) (hr:bu c s x=true):Inv (k+1) (bD c (aX c t x))∧Inv (k+1) (aX c t x):=by
 obtain⟨m1,_⟩:=c7l (t:=t) h (by omega) hr;have hb:=Bnd.of hr;have ht:=m1.tab;have ht2:=hb.tab;exact⟨(invM h hr m1 (d7o hr) (e2j c _ (by omega))).1,(invM h hr m1 (d7o hr) (SndR.refl c _)).1⟩
def gt (s:ao) (e:Bool) (d:aI) (x:aa):Bool:=d.A4||dk x (aT s e d.A6).2.1
def fw (x:aa) (e:aF):Bool:=decide (x.A9.C2=0)||decide (e.2.2.1<x.A9.C5)
def da (c:ay) (s:ao) (x:aa):Bool :=
 !bu c s x||(decide (x.A0.length=0)&&(gt s false x.A x&&(gt s true x.E x&&!x.B0.any (fw x))))
theorem d8Q (s:ao) (x:aa) (d:aI) (e:Bool) (hl:s.A3.length≤100000) (hN:s.A3.length<N):b3l N s x d e=some (0,gB.dv (gt s e d x) []):=by
 unfold b3l gt;rw[a6W s e _ hl hN,au,ag,ag,ag,aj,b8F,au,ag,aj];cases d.A4<;>rfl
theorem e3O (l:List aF) (x:aa) (hT:l.length≤1000):∀(n i:Nat),i≤l.length→l.length-i<n →
  (l.drop i |>.any (fw x))=true∧(∃r:Int,0≤r∧ku N n l (len l) (i:Int) x=some (0,gI.dv r (il.dv x []))) ∨
  (l.drop i |>.any (fw x))=false∧ku N n l (len l) (i:Int) x=some (1,il.dv x []):=by
 intro n;induction n with
 | zero=>intro i h1 h2; omega
 | succ n ih =>
  intro i h1 h2;show _∧(∃r:Int,0≤r∧a1p N (ku N n) l (len l) (i:Int) x=_)∨_∧a1p N (ku N n) l (len l) (i:Int) x=_;unfold a1p;by_cases hi:i<l.length
  ·
   have again:=ih (i+1) (by omega) (by omega);have hdrop:l.drop i=l.getD i aF.z::l.drop (i+1):=by
    rw[mS hi,mA,mC hi]; rfl
   rw[bV hi,ai,bI hi,aH,mF,hdrop,ny];have hb:b1W N (l.getD i aF.z) x=some (0,gB.dv (fw x (l.getD i aF.z)) (il.dv x [])):=by
    unfold b1W fw;by_cases hk:x.A9.C2=0
    ·rw[bt hk,ai,decide_eq_true hk]; rfl
    ·rw[bf hk,ah,decide_eq_false hk]; rfl
   rw[hb,au,ag,ag,aj,wS (show i≤100000000 by omega)];cases fw x (l.getD i aF.z) with
   | true=>rw[ai,oE]; exact .inl ⟨rfl,_,oB _,rfl⟩
   | false=>rw[ah,nH]; exact again
  ·
   have:i=l.length:=by omega
   subst this;rw[ce (by omega),ah,mi];exact .inr ⟨rfl,rfl⟩
theorem e5R (l:List aF) (x:aa) (hT:l.length≤1000) (hN:1001<N):a1N N l x=some (0,gB.dv (l.any (fw x)) (il.dv x [])):=by
 unfold a1N a3Z;rcases e3O (N:=N) l x hT N 0 (by omega) (by omega) with⟨h1,r,hr,h⟩ | ⟨h1,h⟩
 ·
  rw[mX]at h1;rw[show ku N N l (len l) 0 x=_ from h,dF,ag,ag,aj,au,ag,ag,aj,h1,dt (show r≥0 from hr)]
 ·
  rw[mX]at h1;rw[show ku N N l (len l) 0 x=_ from h,dH _ _ (by decide),h1];rfl
variable {N:Nat}
variable {N:Nat}
theorem e4R {c:ay} {s:ao} (t:bH) {x:aa} {k:Nat} (hs:dx s.A3) (h:RI k c s x) (hk:k≤12000) (hl:s.A3.length≤100000):RI (k+1) c s (fQ c s t x)∧Adds c x (fQ c s t x):=by
 have hn:=NextOk.of hs;have hI:=h.inv;have hw:=hI.wf (by omega);have hr:=h.rp.right (by omega) (by omega) (by omega);have hb:=Bnd.of hr;have hcy:=h.cyc;have hlat:=h.lat
 have hpck:=h.pck;have htag:=h.tag;obtain⟨m1,x0,t1,t2,t3,bg⟩:=c7l (t:=t) hI (by omega) hr;have m2:=e2j c (aX c t x) (by have:=m1.tab; have:=hb.tab; omega);have stp:∀y,bu c s (bD c (aX c t x))=true→bu c s (aG c s (bD c (aX c t x)))=true→y=({(aP c s (aG c s (bD c (aX c t x)))) with A1:=w.i64 ((aP c s (aG c s (bD c (aX c t x)))).A1+1)}:aa)→fQ c s t x=y:=by
  intro y g1 g2 e;rw[e];unfold fQ h7H;rw[if_pos hr,if_pos g1];unfold h7D;rw[if_pos g2]
 generalize bD c (aX c t x)=x2 at *;generalize aX c t x=x1 at *;obtain⟨i2,_⟩:=invM hI hr m1 (d7o hr) m2;obtain⟨r1,adds,w1⟩:=e7m h.rp m1 t1 t2 t3 bg hb.bk (by omega) (by omega) (by omega) (by omega);obtain⟨r2,w2⟩:=e7S r1 m2;have hw2:=i2.wf (by omega);have hr2:=r2.right (by omega) (by omega) (by omega);have fr1:=m1.fr;have fr2:=m2.fr;have c2:x2.A1=x.A1:=by rw[fr2,fr1]
 have g2:x2.C0=x.C0:=by rw[fr2,fr1]
 have l2:x2.B6=x1.B6:=by rw[fr2]
 have p2:x2.B5=x1.B5:=by rw[fr2]
 have e2:x2.E=x.E:=by rw[fr2,fr1]
 have a2:x2.A.A5=x.A.A5:=by
  rw[show x2.A=x1.A by rw[fr2],m1.afr]
 obtain⟨i3,_⟩:=invE i2 hr2;have r3:=e5T hs r2 (by omega) (by omega) (by rw[c2]; omega) (by omega);have hw3:=i3.wf (by omega);have hr3:=r3.right (by omega) (by omega) (by omega);have o3:=d9F c s x2;have ht3:(aG c s x2).A0=x2.A0:=by rw[o3.fr]
 have c3:(aG c s x2).A1=x2.A1:=by rw[o3.fr]
 have g3:(aG c s x2).C0=x2.C0:=by rw[o3.fr]
 have l3:(aG c s x2).B6=x2.B6:=by rw[o3.fr]
 have p3:(aG c s x2).B5=x2.B5:=by rw[o3.fr]
 have a3:(aG c s x2).A=x2.A:=by rw[o3.fr]
 obtain⟨i4,_⟩:=invA i3 hr3;have r4:=e4y hs r3 (by omega) (by omega) (by rw[c3,c2]; omega) (by rw[g3,g2]; omega) (by omega);have o4:=d3T c s (aG c s x2);have w4:=e6j (c:=c) (s:=s) (x:=aG c s x2) (by rw[ht3]; exact w2 (w1 h.wk));have c4:(aP c s (aG c s x2)).A1=(aG c s x2).A1:=by rw[o4.fr]
 have l4:(aP c s (aG c s x2)).B6=(aG c s x2).B6:=by rw[o4.fr]
 have p4:(aP c s (aG c s x2)).B5=(aG c s x2).B5:=by rw[o4.fr]
 have e4:(aP c s (aG c s x2)).E=(aG c s x2).E:=by rw[o4.fr]
 have dA0:=h.dA;have dE0:=h.dE;have dA1:=h.rp.sA.done;have dE1:=h.rp.sE.done;have dE:(aG c s x2).E.A5=x.E.A5∨(aG c s x2).E.A5=x.E.A5+1:=by
  rcases o3.on with⟨g,_⟩ | ⟨g,_⟩
  ·exact .inl (by rw[g,e2])
  ·exact .inr (by rw[g,e2,wI (by omega) (by omega)])
 have dA:(aP c s (aG c s x2)).A.A5=x.A.A5∨(aP c s (aG c s x2)).A.A5=x.A.A5+1:=by
  rcases o4.on with⟨g,_⟩ | ⟨g,_⟩
  ·exact .inl (by rw[g,a3,a2])
  ·exact .inr (by rw[g,a3,a2,wI (by omega) (by omega)])
 have tg:(aP c s (aG c s x2)).C0≤x.C0+1:=by
  have h0:=h.rp.num.2.2.2;rcases o4.tg with⟨g,_⟩ | ⟨g,_⟩
  ·rw[g,g3,g2]; omega
  ·rw[g,g3,g2,wI (by omega) (by omega)]; omega
 have hc4:w.i64 ((aP c s (aG c s x2)).A1+1)=((k+1:Nat):Int):=by
  rw[c4,c3,c2,hcy,wI (by omega) (by omega)]; omega
 obtain⟨a,b,ab,ac,al,bl⟩:=adds;have hbk:=hb.bk;rw[stp _ hr2 hr3 rfl];refine⟨?_,⟨dA,by show (aP c s (aG c s x2)).E.A5=_∨(aP c s (aG c s x2)).E.A5=_; rw[e4]; exact dE,a,b,ab,ac,by show (aP c s (aG c s x2)).B6=_; rw[l4,l3,l2]; exact al,by show (aP c s (aG c s x2)).B5=_; rw[p4,p3,p2]; exact bl⟩⟩
 rw[hc4];have r5:=r4.mono (show _≤8100000*((k+1:Nat):Int) by omega) (show _≤2*((k+1:Nat):Int) by omega) (show _≤1000+20*((k+1:Nat):Int) by omega);generalize aP c s (aG c s x2)=z at *;exact {rp:=⟨r5.cfg,r5.sA,r5.sE,⟨by show 0≤((k+1:Nat):Int)∧((k+1:Nat):Int)≤_; omega,r5.num.2⟩,r5.q,r5.ent,r5.req,ik r5.snt rfl rfl,r5.trp⟩,inv:=i4.cyc _,cyc:=rfl,lat:=by show z.B6≤_; rw[l4,l3,l2,al]; omega,pck:=by show z.B5≤_; rw[p4,p3,p2,bl]; omega,tag:=by show z.C0≤_; omega,dA:=by show z.A.A5≤_; omega,dE:=by show z.E.A5≤_; rw[e4]; omega,wk:=w4}
theorem RI.right {k:Nat} {c:ay} {s:ao} {x:aa} (h:RI k c s x) (hk:k≤12001):bu c s x=true:=h.rp.right (by omega) (by omega) (by omega)
structure Calm (s:ao) (x y:aa):Prop where
 fr:y={x with A:={x.A with A6:=y.A.A6},E:={x.E with A6:=y.E.A6}}
 nA:aT s false y.A.A6=aT s false x.A.A6
 nE:aT s true y.E.A6=aT s true x.E.A6
theorem Calm.refl (s:ao) (x:aa):Calm s x x:=⟨rfl,rfl,rfl⟩
theorem e5o {s:ao} {x:aa} (h:x.A.A4=true∨x.A.C3>x.A1):atA s x=(ak.z,0,false,x):=if_pos h
theorem c5E (c:ay) (t:bH):∀(n i:Nat) (x:aa),x.A0=[]→gO c t n i x=x
 | 0,_,x,_=>rfl
 | n+1,i,x,h=>by
  unfold gO;have e:eO c t (i:Int) x=x:=by
   unfold eO;rw[h];rfl
  rw[e];exact c5E c t n (i+1) x h
theorem e1q {c:ay} {t:bH} {x:aa} (h:x.A0=[]):aX c t x=x:=by
 unfold aX;have e:({bO x.A0 x with A0:=x.A0.filterMap bp}:aa)=x:=by
  rw[h];show ({x with A0:=[]}:aa)=x;rw[← h]
 rw[e];exact c5E c t _ _ x h
theorem d0S {c:ay} {s:ao} {x:aa} (hr:bu c s x=true) (h:da c s x=true):x.A0=[]∧gt s false x.A x=true∧gt s true x.E x=true∧x.B0.any (fw x)=false:=by
 unfold da at h;rw[hr,mR,nH]at h;simp only[mE,decide_eq_true_eq,mu]at h;exact⟨mT.1 h.1,h.2.1,h.2.2.1,h.2.2.2⟩
end Go.Proofs.Zz
