import Derived.Test.YtnfpdmhdpeffjaaGreatPA
import Derived.Test.YtnfpdmhdpeffjaaGreatVK
import Derived.Test.YtnfpdmhdpeffjaaGreatMK
set_option linter.unusedSimpArgs false
set_option linter.unusedVariables false
set_option maxRecDepth 100000
namespace Go.Proofs.Zz
open Go
variable {N:Nat}
theorem g5E (c:List af) (f:Nat) {t:Int} (j:Nat) (h:(f:Int)+j<t) (ht:t≤c.length):(cutV c (f:Int) t).getD j af.z=c.getD (f+j) af.z:=by
 unfold cutV;rw[mA,List.getElem?_take_of_lt (by omega),pK,mF,mA]
theorem g4V (c:List af) (f:Nat) {t:Int} (h0:(f:Int)≤t) (ht:t≤c.length):((cutV c (f:Int) t).length:Int)=t-f:=by
 unfold cutV;simp only[nB,mq];omega
theorem h8R (ii nn i2:Int) (p:aw) (hc:iM p) (o:List Int) (rb:List aW) (ro so:List Int) (f:Nat) (t nx tk:Int) (hft:(f:Int)≤t) (ht:t≤p.Code.length) (hN:2000<N):∀(n j:Nat) (A E:List ak),(f:Int)+j≤t→t-f-j<n→(A.length:Int)≤8*j→(E.length:Int)≤8*j →
  jv N n nn ii (cutV p.Code (f:Int) t) (len (cutV p.Code (f:Int) t)) (j:Int) p.Code p.B8 p.D1 o rb ro nn i2 so (f:Int) t nx tk A E=some (3,dvG UV (nn,ii,p.Code,p.B8,p.D1,o,rb,ro,nn,i2,so,(f:Int),t,nx,tk,A++fG p o (f:Int) (f+j) (t-(f+j:Nat)).toNat,E++fH p o (f:Int) (f+j) (t-(f+j:Nat)).toNat,())):=by
 obtain⟨hc1,hc2,hc3⟩:=hc;have hcl:=g4V p.Code f hft ht;intro n;induction n with
 | zero=>intro j A E h1 h2; omega
 | succ n ih =>
  intro j A E h1 h2 hA hE;show f5m N (jv N n) nn ii (cutV p.Code (f:Int) t) (len (cutV p.Code (f:Int) t)) (j:Int) p.Code p.B8 p.D1 o rb ro nn i2 so (f:Int) t nx tk A E=_;unfold f5m;by_cases hi:(f:Int)+j<t
  ·
   have hw:w.i64 ((f:Int)+(j:Int))=((f+j:Nat):Int):=by rw[wI (by omega) (by omega)]; omega
   have hX:=g1q (p.Code.getD (f+j) af.z) o ((f+j:Nat):Int) (j:Int);have hrec:=ih (j+1) (A++(cR (p.Code.getD (f+j) af.z) o ((f+j:Nat):Int) (j:Int)).1) (E++(cR (p.Code.getD (f+j) af.z) o ((f+j:Nat):Int) (j:Int)).2) (by omega) (by omega) (by rw[mD]; omega) (by rw[mD]; omega);have hof:((f+j:Nat):Int)-(f:Int)=(j:Int):=by omega
   have hcA:fG p o (f:Int) (f+j) (t-(f+j:Nat)).toNat=(cR (p.Code.getD (f+j) af.z) o ((f+j:Nat):Int) (j:Int)).1++fG p o (f:Int) (f+(j+1)) (t-(f+(j+1):Nat)).toNat:=by
    unfold fG fE;rw[show (t-((f+j:Nat):Int)).toNat=(t-(f+(j+1):Nat)).toNat+1 by omega,nR,nN,oP,hof];rfl
   have hcE:fH p o (f:Int) (f+j) (t-(f+j:Nat)).toNat=(cR (p.Code.getD (f+j) af.z) o ((f+j:Nat):Int) (j:Int)).2++fH p o (f:Int) (f+(j+1)) (t-(f+(j+1):Nat)).toNat:=by
    unfold fH fE;rw[show (t-((f+j:Nat):Int)).toNat=(t-(f+(j+1):Nat)).toNat+1 by omega,nR,nN,oP,hof];rfl
   rw[bV (show j<(cutV p.Code (f:Int) t).length by omega),hcA,hcE];simp only[ai,bI (show j<(cutV p.Code (f:Int) t).length by omega),aH,mF,hw,g5E p.Code f j hi ht,g4J _ o _ _ hN,g4u _ o _ _ hN,au,ag,aj,wS (show j≤100000000 by omega)];rw[rmT (show (A.length+(cR (p.Code.getD (f+j) af.z) o ((f+j:Nat):Int) (j:Int)).1.length)*72≤35184372088832 by omega),aH,rmT (show (E.length+(cR (p.Code.getD (f+j) af.z) o ((f+j:Nat):Int) (j:Int)).2.length)*72≤35184372088832 by omega),aH,hrec];simp only[mQ]
  ·
   rw[ce (show (cutV p.Code (f:Int) t).length≤j by omega)];have:(t-((f+j:Nat):Int)).toNat=0:=by omega
   rw[this];unfold fG fH fE;simp only[qE,pw,qH,mJ];rfl
theorem g6z (p:aw) (hc:iM p) (o:List Int) (rb:List aW) (ro so:List Int) (n i:Int) (h0:0≤i) (h1:i<n) (h2:n≤2000) (v:D0) (hv0:0≤v.1) (hv1:v.1≤v.2.1) (hv2:v.2.1≤p.Code.length) (hN:2000<N) :
  st_V N n i (dvG XV (p.Code,p.B8,p.D1,o,rb,ro,())) (dvG SV (so,())) v=some (dvG XV (p.Code,p.B8,p.D1,o,rb,ro,()),dvG SV (so,()),gl p o v):=by
 have hfv:((v.1.toNat:Nat):Int)=v.1:=by omega
 have h3:=h8R (N:=N) i n i p hc o rb ro so v.1.toNat v.2.1 v.2.2.1 v.2.2.2.1 (by omega) hv2 hN N 0 [] [] (by omega) (by have:=hc.2.1; omega) (by simp) (by simp);rw[hfv,mf,mf,nS,hfv]at h3;unfold st_V;refine (gS XV _ (p.Code,p.B8,p.D1,o,rb,ro,())).trans ?_;refine (gS SV _ (so,())).trans ?_;show (if sb v.2.1 (len p.Code)=true∧sb v.1 v.2.1=true then onA 3 (jv N N n i (cutV p.Code v.1 v.2.1) (len (cutV p.Code v.1 v.2.1)) 0 p.Code p.B8 p.D1 o rb ro n i so v.1 v.2.1 v.2.2.1 v.2.2.2.1 [] []) _ else none)=_
 rw[if_pos ⟨by simp[sb,len]; omega,by simp[sb]; omega⟩,show jv N N n i (cutV p.Code v.1 v.2.1) (len (cutV p.Code v.1 v.2.1)) 0 p.Code p.B8 p.D1 o rb ro n i so v.1 v.2.1 v.2.2.1 v.2.2.2.1 [] []=_ from h3,dG];refine (gS UV _ (n,i,p.Code,p.B8,p.D1,o,rb,ro,n,i,so,v.1,v.2.1,v.2.2.1,v.2.2.2.1,_,_,())).trans ?_;show stV n i n i n i _=_;unfold stV;rw[if_pos ⟨h0,h1,rfl,rfl,rfl,rfl,wS' h0 (by omega)⟩];rfl
theorem g4x (p:aw) (hc:iM p) (o:List Int) (rb:List aW) (ro so:List Int) (n:Int) (h2:n≤2000) (hN:2000<N):∀(rest:List D0) (i:Int),0≤i→i+rest.length=n→(∀v∈rest,0≤v.1∧v.1≤v.2.1∧v.2.1≤p.Code.length) →
  (ol_V N).walk n rest i (dvG XV (p.Code,p.B8,p.D1,o,rb,ro,())) (dvG SV (so,()))=some (dvG XV (p.Code,p.B8,p.D1,o,rb,ro,()),dvG SV (so,()),rest.map (gl p o))
 | [],i,_,_,_=>rfl
 | v::rest,i,h0,h1,hv=>by
  simp only[mP]at h1;obtain⟨g1,g2,g3⟩:=hv v (by simp);have h3:=g6z (N:=N) p hc o rb ro so n i h0 (by omega) h2 v g1 g2 g3 hN;have h6:=g4x p hc o rb ro so n h2 hN rest (i+1) (by omega) (by omega) (λu hu=>hv u (by simp[hu]));have h3':(ol_V N).step n i (dvG XV (p.Code,p.B8,p.D1,o,rb,ro,())) (dvG SV (so,())) v=some (dvG XV (p.Code,p.B8,p.D1,o,rb,ro,()),dvG SV (so,()),gl p o v):=h3;refine (OL.walk_cons (ol_V N) n v rest i _ _).trans ?_;rw[h3'];simp only[];rw[h6];rfl
theorem g2e (p:aw) (o:List Int) (ho:o.length=16) (hN:2000<N):f8e N p o=some (0,cm.dv (ky p o) (gI.dv (withE p o) [])):=by
 unfold f8e ky withE;rw[g1i p o ho hN,au,ag,aj];cases hcl:dK p o with
 | false=>rfl
 | true =>
  have hr:=f5s hcl;have hc:=dW hr;have hcl2:=g0H p;have hll:=(fm p).len;have hc2:=hc.2.1;have h5:=g4x (N:=N) p hc o [] (List.replicate 16 0) o ((cutM p).length:Int) (by omega) hN (cutM p) 0 (by omega) (by omega) (λv hv=>by have:=g0F hr v hv; omega);have hl:f3e N N (len (cutM p)) 0 p.Code p.B8 p.D1 o [] (List.replicate 16 0) (cutM p) o=some (1,dvG LU (p.Code,p.B8,p.D1,o,[],List.replicate 16 0,(cutM p).map (gl p o),o,())):=by
   unfold f3e;rw[if_pos ⟨rfl,rfl⟩,h5];rfl
  rw[mR,ah,g2h p hN hr,au,if_pos rfl,if_pos rfl];refine (ag _ _ _ _ _).trans ?_;rw[aj];show onA 1 (f3e N N (len (cutM p)) 0 p.Code p.B8 p.D1 o [] (List.replicate 16 0) (cutM p) o) _=_;rw[hl,dG];exact gS LU _ (p.Code,p.B8,p.D1,o,[],List.replicate 16 0,(cutM p).map (gl p o),o,())
end Go.Proofs.Zz
namespace Go.Proofs.Zz
open Go
open Classical
variable {N:Nat}
theorem g3I (a b:ak):((a.1==b.1)&&((a.2.1.1==b.2.1.1)&&((a.2.1.2.1==b.2.1.2.1)&&((a.2.1.2.2.1==b.2.1.2.2.1)&&((a.2.1.2.2.2.1==b.2.1.2.2.2.1)&&((a.2.1.2.2.2.2.1==b.2.1.2.2.2.2.1)&&((a.2.2.1==b.2.2.1)&&((a.2.2.2.1==b.2.2.2.1)&&(a.2.2.2.2.1==b.2.2.2.2.1)))))))))=decide (a=b):=by
 obtain⟨k,⟨op,d,a1,b1,im,u1⟩,r,pc,off,u2⟩:=a;obtain⟨k',⟨op',d',a1',b1',im',u1'⟩,r',pc',off',u2'⟩:=b;rw[md];simp only[mE,beq_iff_eq,decide_eq_true_eq];constructor
 ·
  rintro⟨h1,h2,h3,h4,h5,h6,h7,h8,h9⟩
  subst h1 h2 h3 h4 h5 h6 h7 h8 h9;rfl
 ·
  intro h;cases h;exact⟨rfl,rfl,rfl,rfl,rfl,rfl,rfl,rfl,rfl⟩
theorem g0G {α:Type} (a b:α) (l m:List α) [Decidable (a::l=b::m)] [Decidable (a=b)] [Decidable (l=m)]:decide (a::l=b::m)=(decide (a=b)&&decide (l=m)):=by
 rw[md];simp
theorem g3m (a b:List ak) (hab:a.length=b.length) (hl:a.length≤100000):∀(n i:Nat),i≤a.length→a.length-i<n →
  f2F N n a b (len a) (i:Int)=if decide (a.drop i=b.drop i)=true then some (1,[]) else some (0,gB.dv false []):=by
 intro n;induction n with
 | zero=>intro i h1 h2; omega
 | succ n ih =>
  intro i h1 h2;show f3a N (f2F N n) a b (len a) (i:Int)=_;unfold f3a;by_cases hi:i<a.length
  ·
   have hrec:=ih (i+1) (by omega) (by omega);rw[bV hi,ai,bI hi,aH,bI (show i<b.length by omega),aH,g3I,mF,wS (show i≤100000000 by omega),hrec,ic hi ak.z,ic (show i<b.length by omega) ak.z,g0G];cases decide (a.getD i ak.z=b.getD i ak.z) with
   | false=>rw[mn,ai,mZ,if_neg (by simp)]
   | true=>rw[mR,ah,mO]
  ·
   have:i=a.length:=by omega
   subst this;rw[ce (by omega),ah,mi,hab,mi];rfl
theorem g4y (a b:List ak) (hl:a.length≤100000) (hN:a.length<N):f2s N a b=some (0,gB.dv (decide (a=b)) []):=by
 unfold f2s;by_cases h:a.length=b.length
 ·
  have h0:=g3m (N:=N) a b h hl N 0 (by omega) (by omega);rw[mX,mX]at h0;rw[show (len a != len b)=false by simp[len,h],ah,show f2F N N a b (len a) 0=_ from h0];cases decide (a=b) with
  | true=>rw[if_pos rfl,dH _ _ (by decide),aj]
  | false=>rw[if_neg (by simp),dF,ag,aj]
 ·rw[show (len a != len b)=true by simp only[len,bne_iff_ne,ne_eq]; omega,ai,df (λe=>h (by rw[e]))]
def h7E (n:Nat) (b:aW):Prop:=b.2.2.2.2.1.length≤n∧b.2.2.2.2.2.1.length≤n
theorem g1P (a b:List ak) (hl:b.length≤100000) (hN:b.length<N):f2s N a b=some (0,gB.dv (decide (a=b)) []):=by
 by_cases h:a.length=b.length
 ·exact g4y a b (by omega) (by omega)
 ·
  unfold f2s;rw[show (len a != len b)=true by simp only[len,bne_iff_ne,ne_eq]; omega,ai,df (λe=>h (by rw[e]))]
theorem g3W (a b:aW) (hb:h7E 100000 b) (hN:100000<N):f7Z N a b=some (0,gB.dv (decide (a=b)) []):=by
 obtain⟨h1,h2⟩:=hb;obtain⟨f,t,nx,tk,A,E,u⟩:=a;obtain⟨f',t',nx',tk',A',E',u'⟩:=b;simp only at h1 h2;unfold f7Z;simp only[g1P (N:=N) A A' h1 (by omega),g1P (N:=N) E E' h2 (by omega),au,ag,aj];by_cases c1:f=f'
 ·
  rw[bt c1,ai];by_cases c2:t=t'
  ·
   rw[bt c2,ai];by_cases c3:nx=nx'
   ·
    rw[bt c3,ai];by_cases c4:tk=tk'
    ·
     rw[bt c4,ai];by_cases c5:A=A'
     ·
      rw[dt c5,ai];by_cases c6:E=E'
      ·rw[dt c6,dt (by rw[c1,c2,c3,c4,c5,c6])]
      ·rw[df c6,df (λe=>c6 (by cases e; rfl))]
     ·rw[df c5,ah,df (λe=>c5 (by cases e; rfl))]
    ·rw[bf c4,ah,df (λe=>c4 (by cases e; rfl))]
   ·rw[bf c3,ah,df (λe=>c3 (by cases e; rfl))]
  ·rw[bf c2,ah,df (λe=>c2 (by cases e; rfl))]
 ·rw[bf c1,ah,df (λe=>c1 (by cases e; rfl))]
theorem g2C (a b:List aW) (hab:b.length=a.length) (hl:b.length≤100000) (hs:∀v∈b,h7E 100000 v) (hN:100000<N):∀(n i:Nat),i≤b.length→b.length-i<n →
  f2l N n b a (len a) (i:Int)=if decide (a.drop i=b.drop i)=true then some (1,[]) else some (0,gB.dv false []):=by
 intro n;induction n with
 | zero=>intro i h1 h2; omega
 | succ n ih =>
  intro i h1 h2;show f2v N (f2l N n) b a (len a) (i:Int)=_;unfold f2v;by_cases hi:i<b.length
  ·
   have hrec:=ih (i+1) (by omega) (by omega);have hm:=hs _ (ck aW.z hi);rw[bV (show i<a.length by omega),ai,bI (show i<a.length by omega),aH,bI hi,aH,mF,g3W _ _ hm hN,au,ag,aj,wS (show i≤100000000 by omega),hrec,ic hi aW.z,ic (show i<a.length by omega) aW.z,g0G];cases decide (a.getD i aW.z=b.getD i aW.z) with
   | false=>rw[mn,ai,mZ,if_neg (by simp)]
   | true=>rw[mR,ah,mO]
  ·
   have:i=b.length:=by omega
   subst this;rw[ce (by omega),ah,mi,hab,mi];rfl
theorem g4k (a b:List aW) (hl:b.length≤10000) (hs:∀v∈b,h7E 100000 v) (hN:100000<N):f2K N a b=some (0,gB.dv (decide (a=b)) []):=by
 unfold f2K;by_cases h:b.length=a.length
 ·
  have h0:=g2C (N:=N) a b h (by omega) hs hN N 0 (by omega) (by omega);rw[mX,mX]at h0;rw[show (len a != len b)=false by simp[len,h],ah,show f2l N N b a (len a) 0=_ from h0];cases decide (a=b) with
  | true=>rw[if_pos rfl,dH _ _ (by decide),aj]
  | false=>rw[if_neg (by simp),dF,ag,aj]
 ·rw[show (len a != len b)=true by simp only[len,bne_iff_ne,ne_eq]; omega,ai,df (λe=>h (by rw[e]))]
theorem f8J {p:aw} {o:List Int} (h:dK p o=true):(ky p o).A3.length≤10000∧(∀v∈(ky p o).A3,h7E 100000 v)∧(ky p o).D2=o:=by
 have hr:=f5s h;have hc:=(dW hr).2.1;unfold ky;rw[if_pos h];refine⟨?_,?_,rfl⟩
 ·
  simp only[mr];have:=(fm p).len;rw[g0H];omega
 ·
  intro v hv;obtain⟨d,hd,rfl⟩:=nK.1 hv;have hb:=g0F hr d hd;have:=g3X p o d.1 d.1.toNat (d.2.1-d.1).toNat
  unfold h7E gl;simp only;omega
noncomputable def iN (p:aw) (s:ao):Bool:=dK p s.D2&&decide (s.A3=(ky p s.D2).A3)
theorem f9v {p:aw} {s:ao} (h:iN p s=true):Spl p s.D2 s:=by
 unfold iN at h;simp only[mE,decide_eq_true_eq]at h;obtain⟨h1,h2⟩:=h;refine⟨?_,h1⟩;unfold ky at h2;rw[if_pos h1]at h2;obtain⟨b,o⟩:=s;simp only at h2 ⊢;rw[h2]
theorem g2w (p:aw) (s:ao) (ho:s.D2.length=16) (hN:100000<N):f7V N p s=some (0,gB.dv (iN p s) []):=by
 unfold f7V iN;rw[g2e p _ ho (by omega),au,ag,ag,aj];unfold withE;cases hc:dK p s.D2 with
 | false=>rfl
 | true =>
  obtain⟨h1,h2,h3⟩:=f8J hc;rw[if_pos rfl,bt rfl,ai,mO];unfold f9y;rw[show (s.D2==(ky p s.D2).D2)=true by rw[h3]; simp,ai,g4k _ _ h1 h2 hN];simp only[au,ag,aj]
end Go.Proofs.Zz
namespace Go.Proofs.Zz
open Go
variable {N:Nat}
theorem g3l {c:ay} {s:ao} (t:bH) {x:aa} {k:Nat} (hs:dx s.A3) (h:RI k c s x) (hk:k≤12000) :
  bu c s x=true∧bu c s (bD c (aX c t x))=true∧bu c s (aG c s (bD c (aX c t x)))=true:=by
 have hr:=h.right (by omega);have hI:=h.inv;have hb:=Bnd.of hr;have hcy:=h.cyc;have hlat:=h.lat
 have hpck:=h.pck;obtain⟨m1,y,hy,hl,hp,bg⟩:=c7l (t:=t) hI (by omega) hr;obtain⟨r1,_,_⟩:=e7m h.rp m1 hy hl hp bg hb.bk (by omega) (by omega) (by omega) (by omega);have sd:=e2j c (aX c t x) (by have:=m1.tab; have:=hb.tab; omega);obtain⟨r2,_⟩:=e7S r1 sd;have fr1:=m1.fr;have fr2:=sd.fr;have c2:(bD c (aX c t x)).A1=x.A1:=by rw[fr2]; show (aX c t x).A1=_; rw[fr1]
 have r3:=e5T hs r2 (by omega) (by omega) (by rw[c2]; omega) (by omega);exact⟨hr,r2.right (by omega) (by omega) (by omega),r3.right (by omega) (by omega) (by omega)⟩
theorem g3c (c:ay) (s:ao) (t:bH) (x:aa) {k:Nat} (hs:dx s.A3) (h:RI k c s x) (hk:k≤12000) (hl:s.A3.length≤100000) (hN:s.A3.length<N) (hN2:1001<N) :
  f8V N c s t x=some (0,aA.dv (fQ c s t x) []):=by
 obtain⟨hr,hr2,hr3⟩:=g3l t hs h hk;have hn:=NextOk.of hs;have hI:=h.inv;have hb:=Bnd.of hr;have ht:=hb.tab;have hlq:=hI.ldq;have hwr:=hI.wri;obtain⟨i2,i1⟩:=c6B (t:=t) hI (by omega) hr;have hw2:=i2.wf (by omega);have ht1:=i1.tab;obtain⟨i3,_⟩:=invE i2 hr2;unfold f8V fQ h7H;rw[if_pos hr,e3w (N:=N) c t x hb.bk hb.la (by omega) (Lefts.of hr) (λq hq=>e7X (b4n hr q hq)) hI.mem (by omega) (by omega) hN2,au,ag,aj,e4c c _ (by omega) hN2,au,ag,aj,d3Y c s _ hw2 hl hN hN2 hn (ie (jA hr2)),au,ag,aj,d4f c s _ i3.wfa hl hN hN2 hn (ie (iX hr3)),au,ag,aj,if_pos hr2];unfold h7D;rw[if_pos hr3]
theorem f9k (c:ay) (s:ao) (x:aa) (hx:Wf x) (hr:bu c s x=true) (hl:s.A3.length≤100000) (hN:s.A3.length<N) (hN2:1001<N):c3l N s x=some (0,gB.dv (da c s x) []):=by
 unfold c3l da;rw[hr,mR,nH,d8Q s x x.A false hl hN,au,ag,aj,d8Q s x x.E true hl hN,au,ag,aj,e5R _ _ hx.saq hN2,au,ag,ag,aj];by_cases h0:x.A0.length=0
 ·
  rw[df (show ¬len x.A0>0 by simp only[len]; omega),ah,decide_eq_true h0,mO];cases gt s false x.A x<;>cases gt s true x.E x<;>rfl
 ·rw[dt (show len x.A0>0 by simp only[len]; omega),ai,decide_eq_false h0]; rfl
def memM (p:aw):List Int:=p.D1++List.replicate (p.B8.toNat-p.D1.length) 0
theorem kO {p:aw} (h:cg p=true):0≤p.B8∧p.B8≤65536∧(p.D1.length:Int)≤p.B8:=by
 unfold cg at h;simp only[mE,decide_eq_true_eq]at h;exact h.1.2.2
theorem g5G {p:aw} (h:cg p=true):laid (List.replicate p.B8.toNat (0:Int)) 0 (List.take (List.length (List.replicate p.B8.toNat (0:Int))) p.D1)=memM p:=by
 obtain⟨h1,h2,h3⟩:=kO h;unfold laid memM;rw[oi,nP (show p.D1.length≤p.B8.toNat by omega),pz,mf,ml,List.drop_replicate]
theorem g1Z {p:aw} (h:cg p=true):(memM p).length=p.B8.toNat:=by
 obtain⟨h1,h2,h3⟩:=kO h;unfold memM;rw[mD,oi];omega
theorem f9o {p:aw} (h:cg p=true):f8b N p=some (0,(gD (.sl tU)).dv (memM p) []):=by
 obtain⟨h1,h2,h3⟩:=kO h;unfold f8b;rw[show decide (0≤p.B8∧p.B8≤p.B8∧p.B8*((1:Nat):Int)≤((dQ:Nat):Int)∧p.B8≤((dQ:Nat):Int))=true from decide_eq_true (by simp only[dQ]; omega),aH,g5G h]
theorem g3r {p:aw} (h:cg p=true):d3t N p=some (0,(gD (.sl tU)).dv (memM p) []):=f9o (N:=N) h
theorem g1D {p:aw} (h:cg p=true) (hN:2000<N):f6R N p=some (0,aA.dv (st0 (memM p)) []):=by
 unfold f6R;rw[f6b p hN,au,ag,aj,h,mR,ah,f9o h,au,ag,aj]
def runN (c:ay) (s:ao) (t:bH):Nat→aa→aa
 | 0,x=>x
 | n+1,x=>if da c s x=true then x else runN c s t n (fQ c s t x)
abbrev res0:cO:=cO.mk 0 cQ.z 0 (List.replicate 16 (0 :Int)) ([]:List Int) ([]:List bv)
section
variable (c:ay) (t:bH) (s:ao)
theorem g5g (r:cO) (z:aa) (hs:dx s.A3) (hl:s.A3.length≤100000) (hN:s.A3.length<N) (hN2:1001<N):∀(n m k:Nat) (x:aa),m<n→RI k c s x→k+m≤12000 →
  f8a N n (da c s x) (m:Int) s c t r z x=some (1,gB.dv (da c s (runN c s t m x)) (cm.dv s (fK.dv r (aA.dv z (aA.dv (runN c s t m x) []))))):=by
 intro n;induction n with
 | zero=>intro m k x h; omega
 | succ n ih =>
  intro m k x hm h hk;show f8j N (f8a N n) (da c s x) (m:Int) s c t r z x=_;unfold f8j;cases m with
  | zero=>rfl
  | succ m =>
   rw[dt (show ((m+1:Nat):Int)>0 by omega),ai];unfold runN;cases ho:da c s x with
   | true=>rw[mR,ah,if_pos rfl,ho]
   | false =>
    obtain⟨h2,_⟩:=e4R t hs h (by omega) hl;rw[mn,ai,if_neg (by simp),g3c c s t x hs h (by omega) hl hN hN2,au,ag,aj,f9k c s _ (h2.inv.wf (by omega)) (h2.right (by omega)) hl hN hN2,au,ag,aj,wI (x:=((m+1:Nat):Int)-1) (by omega) (by omega),show ((m+1:Nat):Int)-1=(m:Int) by omega];exact ih m (k+1) _ (by omega) h2 (by omega)
theorem g2i (hs:dx s.A3) (hl:s.A3.length≤100000):∀(m k:Nat) (x:aa),RI k c s x→k+m≤12000→∃j,j≤m∧RI (k+j) c s (runN c s t m x)∧(da c s (runN c s t m x)=false→j=m)
 | 0,k,x,h,_=>⟨0,by omega,h,λ_=>rfl⟩
 | m+1,k,x,h,hk=>by
  unfold runN;cases ho:da c s x with
  | true=>rw[if_pos rfl]; exact⟨0,by omega,h,λh=>by rw[ho]at h; cases h⟩
  | false =>
   rw[if_neg (by simp)];obtain⟨h2,_⟩:=e4R t hs h (by omega) hl;obtain⟨j,hj,hr,he⟩:=g2i hs hl m (k+1) _ h2 (by omega);exact⟨j+1,by omega,by rw[show k+(j+1)=k+1+j by omega]; exact hr,λh=>by rw[he h]⟩
theorem g6N (n:Nat) (x:aa):runN c s t (n+1) x=if da c s x=true then x else runN c s t n (fQ c s t x):=rfl
theorem g6W {x:aa} (h:da c s x=true):∀n,runN c s t n x=x
 | 0=>rfl
 | n+1=>by unfold runN; rw[h,if_pos rfl]
end
def jn (s:ao) (x:aa):Nat→Nat→List Int→List Int
 | 0,_,o=>o
 | n+1,i,o=>jn s x n (i+1) (if s.D2.getD i 0=1 then o.set i (x.A.B1.getD i 0) else if s.D2.getD i 0=2 then o.set i (x.E.B1.getD i 0) else o)
theorem g3v (s:ao) (x:aa) (n i:Nat) (o:List Int):jn s x (n+1) i o=jn s x n (i+1) (if s.D2.getD i 0=1 then o.set i (x.A.B1.getD i 0) else if s.D2.getD i 0=2 then o.set i (x.E.B1.getD i 0) else o):=rfl
def h8c (s:ao) (x:aa):List Int:=jn s x 15 1 (List.replicate 16 0)
theorem g4d (s:ao) (x:aa) (r:List Int):∀(n m i:Nat) (o:List Int),i+m=16→m<n →
  f4Q N n (i:Int) s x r o=some (1,(gD (.ar 16 tW)).dv r ((gD (.ar 16 tW)).dv (jn s x m i o) [])):=by
 intro n;induction n with
 | zero=>intro m i o h1 h2; omega
 | succ n ih =>
  intro m i o h1 h2;show f5P N (f4Q N n) (i:Int) s x r o=_;unfold f5P;cases m with
  | zero =>
   have:i=16:=by omega
   subst this;rfl
  | succ m =>
   have hrec:=λo=>ih m (i+1) o (by omega) (by omega)
   rw[dt (show (i:Int)<16 by omega),ai,bI (show i<16 by omega),aH,mF,wS (show i≤100000000 by omega),aH,aH,aH,aH,hrec,hrec,hrec];rw[g3v];by_cases c1:s.D2.getD i 0=1
   ·rw[bt c1,ai,if_pos c1]
   ·
    rw[bf c1,ah,if_neg c1];by_cases c2:s.D2.getD i 0=2
    ·rw[bt c2,ai,if_pos c2]
    ·rw[bf c2,ah,if_neg c2]
theorem f7L (s:ao) (x:aa) (hN:100<N):f6u N s x=some (0,(gD (.ar 16 tW)).dv (h8c s x) []):=by
 unfold f6u h8c;have h:=g4d (N:=N) s x (List.replicate 16 0) N 15 1 (List.replicate 16 0) (by omega) (by omega);rw[show f4Q N N 1 s x (List.replicate 16 0) (List.replicate 16 0)=_ from h,dG,ag,ag,aj]
def resR (s:ao) (x:aa):cO :=
 if x.A9.C2≠0 then cO.mk 2 x.A9 x.A9.C5 (List.replicate 16 (0 :Int)) x.Mem x.A2
 else cO.mk 1 cQ.z (endM s x.A.A6) (h8c s x) x.Mem x.A2
theorem g2k (s:ao) (x:aa) (h:Wf x) (hN:100<N):f8d N s x=some (0,fK.dv (resR s x) []):=by
 unfold f8d a7k a2I resR;have h8:=h.mem;have h9:=h.wri;simp only[rm0 (l:=x.Mem) (n:=1) (by omega),rm0 (l:=x.A2) (n:=24) (by omega),aH,au,ag,aj,mf,b6X,f7L s x hN];by_cases hk:x.A9.C2=0
 ·rw[show (x.A9.C2 != 0)=false by rw[hk]; rfl,ah,if_neg (by simp[hk])]
 ·rw[show (x.A9.C2 != 0)=true from bne_iff_ne.2 hk,ai,if_pos hk]
def outM (c:ay) (s:ao) (x:aa):cO:=if da c s x=true then resR s x else cO.mk 3 cQ.z 0 (List.replicate 16 (0 :Int)) ([]:List Int) ([]:List bv)
theorem f9J (p:aw) (s:ao) (c:ay) (t:bH) (f:Int) (ho:s.D2.length=16) (hf:f≤10000) (hN:100000<N) :
  jq N p s c t f=(if cfgM c=true∧iN p s=true then some (0,fK.dv (outM c s (runN c s t f.toNat (st0 (memM p)))) (aA.dv (runN c s t f.toNat (st0 (memM p))) (gI.dv 0 [])))
   else some (0,fK.dv res0 (aA.dv (st0 []) (gI.dv 1 [])))):=by
 unfold jq;rw[e2d c (by omega),au,ag,aj];cases hc:cfgM c with
 | false=>rw[mn,ai,if_neg (by simp)]
 | true =>
  rw[mR,ah,g2w p s ho hN,au,ag,aj];cases hr:iN p s with
  | false=>rw[mn,ai,if_neg (by simp)]
  | true =>
   have hsp:=f9v hr;have hs:=hsp.next.2
   have hrp:=hsp.right;have hll:s.A3.length≤2000:=by rw[hsp.len]; have:=(fm p).len; have:=(dW hrp).2.1; omega
   have hmem:len (memM p)≤65536:=by have:=kO hrp; simp only[len,g1Z hrp]; omega
   have h0:=e4P hc hs hmem;have hfu:(if 0<(if 1000000<f then 1000000 else f) then (if 1000000<f then 1000000 else f) else 0)=((f.toNat:Nat):Int):=by
    rw[if_neg (show ¬1000000<f by omega)];split<;>omega
   have hlp:=g5g (N:=N) c t s res0 (st0 []) hs (by omega) (by omega) (by omega) N f.toNat 0 (st0 (memM p)) (by omega) h0 (by omega);obtain⟨j,hj,hR,_⟩:=g2i c t s hs (by omega) f.toNat 0 (st0 (memM p)) h0 (by omega);rw[mR,ah,g1D hrp (by omega),au,ag,aj,f9k c s _ (h0.inv.wf (by omega)) (h0.right (by omega)) (by omega) (by omega) (by omega),au,ag,aj,hfu,hlp,dG];simp only[ag,aj,g2k s _ (hR.inv.wf (by omega)) (by omega:100<N),au];rw[if_pos (by simp)];unfold outM;cases da c s (runN c s t f.toNat (st0 (memM p)))<;>rfl
variable {N:Nat}
theorem g4P {l o:List Int} {f:Int→Nat} {v:Int} (h:o.length=16):(l.foldl (λo r=>o.set (f r) v) o).length=16:=by
 induction l generalizing o with
 | nil=>exact h
 | cons a l ih=>exact ih (by rw[mp]; exact h)
theorem g4z {o:List Int} (x:af) (h:o.length=16):(h8h o x).length=16:=by
 unfold h8h;have h1:(if (ae x.1=4∨ae x.1=5)∧0<x.2.2.1 then o.set x.2.2.1.toNat 1 else o).length=16:=by
  split
  ·rw[mp]; exact h
  ·exact h
 dsimp only
 generalize (if (ae x.1=4∨ae x.1=5)∧0<x.2.2.1 then o.set x.2.2.1.toNat 1 else o)=o1 at h1 ⊢;split
 ·exact g4P (f:=λr=>r.toNat) h1
 ·exact h1
theorem g3M (p:aw):∀(n:Nat) (o:List Int),o.length=16→(ownN p n o).length=16
 | 0,o,h=>h
 | n+1,o,h=>by
  unfold ownN;refine g3M p n _ ?_;generalize p.Code=l;induction l generalizing o with
  | nil=>exact h
  | cons a l ih=>exact ih _ (g4z a h)
theorem g4r (p:aw):(fI p).length=16:=by
 unfold fI;split
 ·exact g3M p 17 _ rfl
 ·rfl
theorem g6U (pick:Int) (r:List Int):∀(n:Nat) (i:Int) (o:List Int),1≤i→i≤16→16-i<n→o.length=16 →
  ∃o',a9y N n pick i r o=some (1,(gD (.ar 16 tI)).dv r ((gD (.ar 16 tI)).dv o' []))∧o'.length=16:=by
 intro n;induction n with
 | zero=>intro i o h0 h1 h2; omega
 | succ n ih =>
  intro i o h0 h1 h2 h3;show ∃o',a9w N (a9y N n) pick i r o=_∧_
  unfold a9w;by_cases hi:i<16
  ·
   have hu:w.u64 i=i:=IntWalk.u64_in _ (by omega);rw[dt hi,cd (by omega) (by omega),hu,df (show ¬i<0 by omega),wS' (by omega) (by omega)];simp only[ai,aH,iy];simp only[cP];split
   ·exact ih _ _ (by omega) (by omega) (by omega) (by simp[h3])
   ·exact ih _ _ (by omega) (by omega) (by omega) (by simp[h3])
  ·
   rw[df hi];exact⟨_,rfl,h3⟩
theorem g6V (p:aw) (pick:Int) (hN:2000<N):∃o:List Int,o.length=16∧b2R N p pick=some (0,cm.dv (ky p o) (gB.dv (dK p o) [])):=by
 unfold b2R c3E;obtain⟨o,ho,hl⟩:=g6U (N:=N) pick (List.replicate 16 0) N 1 (List.replicate 16 0) (by omega) (by omega) (by omega) rfl;simp only[ho,dG,au,ag,aj,g3z p _ hN,g5e p hN];unfold withE;cases hc:dK p o with
 | true=>exact⟨o,hl,by rw[hc]; rfl⟩
 | false =>
  refine⟨fI p,g4r p,?_⟩;rw[if_neg (by simp)];cases dK p (fI p)<;>rfl
theorem g1O {p:aw} {o:List Int} (h:dK p o=true):iN p (ky p o)=true∧(ky p o).D2=o:=by
 have e:(ky p o).D2=o:=(f8J h).2.2;unfold iN;rw[e,h];exact⟨by simp,rfl⟩
abbrev pEx:aw:=aw.mk [(17,(3,(0,(0,(7,()))))),(31,(0,(0,(3,(4,()))))),(41,(0,bv.z))] 8 ([]:List Int)
abbrev cOne:ay:=ay.mk 1 1 1 1 1 1 1 1 1 1 1 1
theorem g5R:d8d N=some (0,cM.dv cOne []):=rfl
theorem g3f:dK pEx (fI pEx)=true:=by kernel_rfl
theorem g5T:cfgM cOne=true:=by kernel_rfl
theorem g4L:((outM cOne (ky pEx (fI pEx)) (runN cOne (ky pEx (fI pEx)) (bH.mk [] []) 100 (st0 (memM pEx)))).D4,(outM cOne (ky pEx (fI pEx)) (runN cOne (ky pEx (fI pEx)) (bH.mk [] []) 100 (st0 (memM pEx)))).B1.getD 3 0,len (outM cOne (ky pEx (fI pEx)) (runN cOne (ky pEx (fI pEx)) (bH.mk [] []) 100 (st0 (memM pEx)))).A2)=(1,7,1):=by kernel_rfl
theorem g4n:f9q 200000=some (0,gB.dv true []):=by
 unfold f9q;obtain⟨e1,e2,e3⟩:_=(1:Int)∧_=(7:Int)∧_=(1:Int):=⟨congrArg (·.1) g4L,congrArg (·.2.1) g4L,congrArg (·.2.2) g4L⟩;simp only at e1 e2 e3;have hb:¬(cfgM ay.z=true∧iN (aw.mk ([]:List af) 0 ([]:List Int)) (ao.mk ([]:List aW) (List.replicate 16 (0 :Int)))=true):=by
  rintro⟨h,_⟩
  exact absurd h (by decide)
 rw[g5e _ (by omega),au,ag,ag,aj,f9J _ _ _ _ _ rfl (by omega) (by omega),if_neg hb];simp only[au,ag,aj,g5R];rw[f9J pEx (ky pEx (fI pEx)) cOne (bH.mk [] []) 100 (by rw[(g1O g3f).2]; exact g4r pEx) (by omega) (by omega),if_pos ⟨g5T,(g1O g3f).1⟩];simp only[au,ag,aj];unfold f8G;simp only[au,ag,aj];show bi ((1:Int)==1) (bi ((0:Int)==0) _ _) _=_;rw[bt rfl,ai,bt rfl,ai,show ((100:Int).toNat)=100 from rfl,bt e1,ai,cd (by omega) (by omega),aH,bt e2,ai,bt e3]
theorem g5o (p:aw):∃b,c8s N p=some (0,gB.dv b [])∧(b=true→p.Code.length≤200∧p.D1.length≤500∧p.B8≤300):=by
 unfold c8s;rw[e6F,au,ag,aj];by_cases h:p.Code.length≤200∧p.D1.length≤500
 ·
  rw[dt h,ai];exact⟨_,rfl,λhb=>⟨h.1,h.2,of_decide_eq_true hb⟩⟩
 ·
  rw[df h,ah];exact⟨_,rfl,λhb=>by cases hb⟩
theorem g4m {c:ay} {s:ao} {x:aa} (h:Wf x):(outM c s x).A2.length≤100000:=by
 have h9:=h.wri;unfold outM resR;split
 ·split<;>(simp only; omega)
 ·simp
end Go.Proofs.Zz
