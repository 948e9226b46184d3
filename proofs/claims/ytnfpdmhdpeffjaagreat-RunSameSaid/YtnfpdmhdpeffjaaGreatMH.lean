import Derived.Test.YtnfpdmhdpeffjaaGreatMG
set_option linter.unusedSimpArgs false
set_option linter.unusedVariables false
set_option maxRecDepth 100000
namespace Go.Proofs.Zz
open Go
variable {N:Nat}
structure SideR (s:ao) (e:Bool) (d:aI) (B D R:Int):Prop where
 has:hasM s d.A6.A7=true
 ix:0≤d.A6.B3∧d.A6.B3≤len (cu s e d.A6.A7)
 base:0≤d.A6.D3∧d.A6.D3≤B
 wait:0≤d.C3∧d.C3≤R
 done:0≤d.A5∧d.A5≤D
 rdy:∀r∈d.A8,-1≤r∧r≤R
theorem SideR.mono {s:ao} {e:Bool} {d:aI} {B D R B' D' R':Int} (h:SideR s e d B D R) (hB:B≤B') (hD:D≤D') (hR:R≤R'):SideR s e d B' D' R' :=
 ⟨h.has,h.ix,⟨h.base.1,by have:=h.base.2; omega⟩,⟨h.wait.1,by have:=h.wait.2; omega⟩,⟨h.done.1,by have:=h.done.2; omega⟩,λr hr=>by have:=h.rdy r hr; omega⟩
theorem SideR.sideM {s:ao} {e:Bool} {d:aI} {B D R:Int} (h:SideR s e d B D R) (hB:B≤1099511627776) (hD:D≤1099511627776) (hR:R≤1099511627776):sideM s e d=true:=by
 unfold Zz.sideM;have h3:=h.base;have h4:=h.wait;have h5:=h.done;have e1:allB 0 (len (cu s e d.A6.A7)) [d.A6.B3]=true:=by
  simp only[allB,mt,nT,oX];exact decide_eq_true h.ix
 have e2:allB 0 most [d.A6.D3,d.C3,d.A5]=true:=by
  simp only[allB,mt,nT,oX,mE,most];exact⟨decide_eq_true (by omega),decide_eq_true (by omega),decide_eq_true (by omega)⟩
 have e3:allB (-1) most d.A8=true:=by
  unfold allB;rw[mz];intro r hr;have:=h.rdy r hr;exact decide_eq_true (by unfold most; omega)
 rw[h.has,e1,e2,e3];rfl
theorem d4I {s:ao} (h:dx s.A3) (e:Bool) {b:Int} (hb:hasM s b=true):len (cu s e b)≤16000:=by
 obtain⟨g1,g2,g3,g4,g5⟩:=c6Z h hb;unfold cu;rw[if_pos hb];have l4:=g4.len;have l5:=g5.len;cases e with
 | true=>rw[if_pos rfl]; simp only[len]; omega
 | false=>rw[if_neg (by simp)]; simp only[len]; omega
theorem d0l {s:ao} (e:Bool):∀(n:Nat) (p:bc),(0≤p.B3∧p.B3≤len (cu s e p.A7))→0≤(bL s e n p).1.B3∧(bL s e n p).1.B3≤len (cu s e (bL s e n p).1.A7)
 | 0,p,h=>h
 | n+1,p,h=>by
  unfold bL;split
  ·exact h
  ·
   split
   ·exact h
   ·
    split
    ·exact h
    ·exact d0l e n _ ⟨mo _,by show (0:Int)≤len _; simp only[len]; omega⟩
theorem SideR.settle {s:ao} {e:Bool} {d:aI} {B D R:Int} (hs:dx s.A3) (h:SideR s e d B D R) (hB:B≤1000000000000):SideR s e {d with A6:=(kx s e d.A6).1} (B+4000000) D R:=by
 have hl:=hs.len;have hb:=b1l hs e s.A3.length d.A6 h.has h.base.1 (by have:=h.base.2; omega);refine⟨a3G (NextOk.of hs) e _ _ h.has,d0l e _ _ h.ix,⟨hb.1,?_⟩,h.wait,h.done,h.rdy⟩;have:=h.base.2;have:=hb.2;show (bL s e s.A3.length d.A6).1.D3≤_;omega
theorem SideR.behind {s:ao} {e:Bool} {d:aI} {B D R:Int} (hs:dx s.A3) (h:SideR s e d B D R) (hi:d.A6.B3<len (cu s e d.A6.A7)) (hD:D≤1000000000000):SideR s e (cj d) B (D+1) R:=by
 have hc:=d4I hs e h.has;have h1:=h.ix;have h2:=h.done;have e1:w.i64 (d.A6.B3+1)=d.A6.B3+1:=wI (by omega) (by omega);have e2:w.i64 (d.A5+1)=d.A5+1:=wI (by omega) (by omega);unfold cj;rw[e1,e2];exact⟨h.has,⟨by show 0≤d.A6.B3+1; omega,by show d.A6.B3+1≤len (cu s e d.A6.A7); omega⟩,h.base,h.wait,⟨by show 0≤d.A5+1; omega,by show d.A5+1≤_; omega⟩,h.rdy⟩
theorem SideR.setR {s:ao} {e:Bool} {d:aI} {B D R:Int} (h:SideR s e d B D R) (r v:Int) {y:Int} (hy:-1≤y∧y≤R):SideR s e (setM d r v y) B D R:=by
 unfold setM;split
 ·
  refine⟨h.has,h.ix,h.base,h.wait,h.done,λz hz=>?_⟩
  rcases nI hz with h1 | h1
  ·exact h.rdy z h1
  ·rw[h1]; exact hy
 ·exact h
theorem SideR.goR {s:ao} {e:Bool} {d:aI} {B D R:Int} (hs:dx s.A3) (h:SideR s e d B D R) (hi:d.A6.B3<len (cu s e d.A6.A7)) (hB:B≤1000000000000) (hD:D≤1000000000000) {cy:Int} (hc:0≤cy) (hR:cy+2≤R) (hR2:R≤1000000000000) (t:Bool):SideR s e (goD s cy d t) (B+2000) (D+1) R:=by
 have hcl:=d4I hs e h.has;have h1:=h.ix;have h2:=h.done;have h3:=h.base;have e1:w.i64 (d.A6.B3+1)=d.A6.B3+1:=wI (by omega) (by omega);have e2:w.i64 (d.A5+1)=d.A5+1:=wI (by omega) (by omega);have e3:w.i64 (cy+2)=cy+2:=wI (by omega) (by omega);have he:=b8B hs h.has h3.1 (by omega);have hp:hasM s (goM s d.A6 t).A7=true∧(0≤(goM s d.A6 t).B3∧(goM s d.A6 t).B3≤len (cu s e (goM s d.A6 t).A7))∧(0≤(goM s d.A6 t).D3∧(goM s d.A6 t).D3≤B+2000):=by
  unfold goM;split
  ·
   rename_i hg;exact⟨hg.2.2,⟨by simp,by show (0:Int)≤len _; simp only[len]; omega⟩,⟨by show 0≤endM s d.A6; omega,by show endM s d.A6≤_; omega⟩⟩
  ·
   rw[e1];exact⟨h.has,⟨by show 0≤d.A6.B3+1; omega,by show d.A6.B3+1≤len (cu s e d.A6.A7); omega⟩,⟨h3.1,by show d.A6.D3≤_; omega⟩⟩
 unfold goD;rw[e2,e3];refine⟨hp.1,hp.2.1,hp.2.2,?_,⟨by show 0≤d.A5+1; omega,by show d.A5+1≤_; omega⟩,h.rdy⟩
 have hw:=h.wait;show 0≤(if t=true then cy+2 else d.C3)∧(if t=true then cy+2 else d.C3)≤R;split<;>omega
theorem SideR.haltR {s:ao} {e:Bool} {d:aI} {B D R:Int} (h:SideR s e d B D R) (hD:D≤1000000000000):SideR s e (h7M d) B (D+1) R:=by
 have h2:=h.done;have e2:w.i64 (d.A5+1)=d.A5+1:=wI (by omega) (by omega);unfold h7M;rw[e2];exact⟨h.has,h.ix,h.base,h.wait,⟨by show 0≤d.A5+1; omega,by show d.A5+1≤_; omega⟩,h.rdy⟩
theorem d1o {s:ao} (hs:dx s.A3) (e:Bool) {p:bc} {B:Int} (hb:hasM s p.A7=true) (h0:0≤p.D3) (h1:p.D3≤B) (hB:B≤1000000000000):0≤(aT s e p).2.1∧(aT s e p).2.1≤B+4010000:=by
 have hl:=hs.len;have hs2:=a3G (NextOk.of hs) e s.A3.length p hb;have hr:=b1l hs e s.A3.length p hb h0 (by omega);rw[show bL s e s.A3.length p=kx s e p from rfl]at hs2 hr;have he:=b8B hs hs2 hr.1 (by omega);have hc:=d0V hs e hs2;unfold aT;split
 ·simp only; omega
 ·
  simp only;rw[wI (by omega) (by omega)];omega
theorem e3i {s:ao} (hs:dx s.A3) (e:Bool) {p:bc} (hb:hasM s p.A7=true):0≤(fW s e p).2.2.2.1∧(fW s e p).2.2.2.1≤2000:=by
 obtain⟨g1,g2,g3,g4,g5⟩:=c6Z hs hb;have key:∀(ks:List Int) (l:List ak),jm ks (bz s p.A7).1 (bz s p.A7).2.1 l→0≤(l.getD p.B3.toNat ak.z).2.2.2.1∧(l.getD p.B3.toNat ak.z).2.2.2.1≤2000:=by
  intro ks l hl;by_cases hi:p.B3.toNat<l.length
  ·
   have:=hl.all _ (ck ak.z hi);omega
  ·
   rw[mA,mg (by omega)];exact⟨by simp,by simp⟩
 unfold fW cu;rw[if_pos hb];cases e with
 | true=>exact key _ _ g5
 | false=>exact key _ _ g4
theorem d2m {x:aa} (h:h7l x.A9=true) {k st pc:Int} (hk:1≤k∧k≤4) (hs:0≤st∧st≤1099511627776) (hp:0≤pc∧pc≤2000):h7l (bG x k st pc).A9=true:=by
 unfold bG;split
 ·
  unfold h7l;show (if k=0 then _ else _)=true;rw[if_neg (by omega)];simp only[allB,mt,nT,oX,mE,most];exact⟨decide_eq_true hk,decide_eq_true hs,decide_eq_true (by omega)⟩
 ·exact h
variable {N:Nat}
def QB (c:ay) (x:aa):Prop :=
 len x.B9≤c.B9∧len x.C9≤c.C9∧len x.C7≤c.C7∧len x.C6≤c.C6∧len x.C8≤c.C8∧len x.B0≤c.B0∧len x.A0≤c.B7∧len x.Mem≤65536
structure RP (c:ay) (s:ao) (x:aa) (B D R:Int):Prop where
 cfg:cfgM c=true
 sA:SideR s false x.A B D R
 sE:SideR s true x.E B D R
 num:(0≤x.A1∧x.A1≤R)∧(0≤x.B6∧x.B6≤R)∧(0≤x.B5∧x.B5≤R)∧(0≤x.C0∧x.C0≤R)
 q:QB c x
 ent:dh (len x.Mem) true x.B0=true
 req:∀q∈x.A0,reqM (len x.Mem) q=true
 snt:eJ x=true
 trp:h7l x.A9=true
theorem RP.right {c:ay} {s:ao} {x:aa} {B D R:Int} (h:RP c s x B D R) (hB:B≤1000000000000) (hD:D≤1000000000000) (hR:R≤1000000000000):bu c s x=true:=by
 obtain⟨n1,n2,n3,n4⟩:=h.num;have e1:allB 0 most [x.A1,x.B6,x.B5,x.C0]=true:=by
  simp only[allB,mt,nT,oX,mE,most];exact⟨decide_eq_true (by omega),decide_eq_true (by omega),decide_eq_true (by omega),decide_eq_true (by omega)⟩
 have e2:h7k c x=true:=by
  obtain⟨a1,a2,a3,a4,a5,a6,a7,a8⟩:=h.q;unfold h7k;simp only[mE,decide_eq_true_eq];exact⟨a1,a2,a3,a4,a5,a6,a7,a8⟩
 unfold bu;rw[h.cfg,h.sA.sideM (by omega) (by omega) (by omega),h.sE.sideM (by omega) (by omega) (by omega),e1,e2,h.ent,mz.2 h.req,h.snt,h.trp];rfl
theorem RP.mono {c:ay} {s:ao} {x:aa} {B D R B' D' R':Int} (h:RP c s x B D R) (hB:B≤B') (hD:D≤D') (hR:R≤R'):RP c s x B' D' R' :=
 {h with sA:=h.sA.mono hB hD hR,sE:=h.sE.mono hB hD hR,num:=by have:=h.num; omega}
theorem b0q {x y:aa} (h:y.B0=x.B0):∀(l:List am) (n:Int),bQ y n l=bQ x n l
 | [],n=>rfl
 | q::r,n=>by
  unfold bQ bM;rw[h,b0q h r n,b0q h r (n+1)]
theorem c8F {x y:aa} (h:y.B0=x.B0) (g:y.A0=x.A0):eJ y=eJ x:=by
 unfold eJ;rw[g,b0q h,h];unfold bM;rw[h]
theorem RP.withE {c:ay} {s:ao} {x y:aa} {B D R B' D':Int} (h:RP c s x B D R) (fr:y={x with E:=y.E,B9:=y.B9,C9:=y.C9,C7:=y.C7,C6:=y.C6,C8:=y.C8,A9:=y.A9}) (hB:B≤B') (hD:D≤D')
  (hE:SideR s true y.E B' D' R) (hq:len y.B9≤c.B9∧len y.C9≤c.C9∧len y.C7≤c.C7∧len y.C6≤c.C6∧len y.C8≤c.C8) (ht:h7l y.A9=true):RP c s y B' D' R:=by
 have e1:y.A=x.A:=by rw[fr]
 have e2:y.B0=x.B0:=by rw[fr]
 have e3:y.A0=x.A0:=by rw[fr]
 have e4:y.Mem=x.Mem:=by rw[fr]
 have e5:y.A1=x.A1∧y.B6=x.B6∧y.B5=x.B5∧y.C0=x.C0:=by rw[fr]; exact⟨rfl,rfl,rfl,rfl⟩
 obtain⟨q1,q2,q3,q4,q5⟩:=hq;obtain⟨_,_,_,_,_,a6,a7,a8⟩:=h.q;refine⟨h.cfg,by rw[e1]; exact h.sA.mono hB hD (mo _),hE,by rw[e5.1,e5.2.1,e5.2.2.1,e5.2.2.2]; exact h.num,⟨q1,q2,q3,q4,q5,by rw[e2]; exact a6,by rw[e3]; exact a7,by rw[e4]; exact a8⟩,by rw[e2,e4]; exact h.ent,by rw[e3,e4]; exact h.req,by rw[c8F e2 e3]; exact h.snt,ht⟩
theorem d9e (d:aI) (r v y:Int):(setM d r v y).A6=d.A6:=by unfold setM; split<;>rfl
theorem d5S (c:ay) (op:Int):1≤latM c op∧latM c op≤50:=by
 unfold latM
 repeat' split
 all_goals omega
theorem b3S {α:Type} (l:List α) (n:Nat):len (l.drop n)≤len l:=by simp only[len,mq]; omega
theorem e7l {c:ay} {s:ao} {x:aa} {B D R:Int} (hs:dx s.A3) (h:RP c s x B D R) (hi:x.E.A6.B3<len (cu s true x.E.A6.A7)) (hB:B≤900000000000) (hD:D≤900000000000) (hR:x.A1+60≤R) (hR2:R≤900000000000)
  {k:ak} {st:Int} (hst:0≤st∧st≤1099511627776) (hpc:0≤k.2.2.2.1∧k.2.2.2.1≤2000):RP c s (actE c s k st x) (B+2000) (D+1) R:=by
 obtain⟨a1,a2,a3,a4,a5,_,_,_⟩:=h.q;have hcy:=h.num.1;have ready:∀n:Int,1≤n→n≤50→-1≤w.i64 (x.A1+n)∧w.i64 (x.A1+n)≤R:=by
  intro n h1 h2;rw[wI (by omega) (by omega)]; omega
 have beh:∀r v y:Int,(-1≤y∧y≤R)→SideR s true (cj (setM x.E r v y)) (B+2000) (D+1) R:=λr v y hy=>((h.sE.setR r v hy).behind hs (by rw[d9e]; exact hi) (by omega)).mono (by omega) (mo _) (mo _)
 have beh0:SideR s true (cj x.E) (B+2000) (D+1) R:=(h.sE.behind hs hi (by omega)).mono (by omega) (mo _) (mo _);have go:∀t,SideR s true (goD s x.A1 x.E t) (B+2000) (D+1) R:=λt=>h.sE.goR hs hi (by omega) (by omega) hcy.1 (by omega) (by omega) t
 have same:=h.mono (show B≤B+2000 by omega) (show D≤D+1 by omega) (mo R);unfold actE;split
 ·
  split
  ·
   have hl:=d5S c k.2.1.1;exact h.withE rfl (by omega) (by omega) (beh _ _ _ (ready _ hl.1 hl.2)) ⟨a1,a2,a3,a4,a5⟩ h.trp
  ·
   have hn:=d2m (x:=x) h.trp (k:=3) (st:=st) (pc:=k.2.2.2.1) (by omega) hst hpc;have fr:bG x 3 st k.2.2.2.1={x with A9:=(bG x 3 st k.2.2.2.1).A9}:=by unfold bG; split<;>rfl
   rw[fr];exact h.withE rfl (by omega) (by omega) (h.sE.mono (by omega) (by omega) (mo _)) ⟨a1,a2,a3,a4,a5⟩ hn
 split
 ·
  split
  ·exact same
  ·exact h.withE rfl (by omega) (by omega) (beh _ _ _ (ready 1 (by omega) (by omega))) ⟨a1,a2,pE (b3S _ _) a3,a4,a5⟩ h.trp
 split
 ·
  split
  ·exact same
  ·
   have hp:len (popM x.B9).1≤len x.B9:=by
    unfold popM;split
    ·exact mo _
    ·exact b3S _ _
   exact h.withE rfl (by omega) (by omega) (beh _ _ _ (ready 1 (by omega) (by omega))) ⟨pE hp a1,a2,a3,a4,a5⟩ h.trp
 split
 ·
  split
  ·
   rename_i hlt;exact h.withE rfl (by omega) (by omega) beh0 ⟨a1,by simp only[len,mD,mP,ma]at hlt ⊢; omega,a3,a4,a5⟩ h.trp
  ·exact same
 split
 ·
  split
  ·exact same
  ·
   rename_i hlt;exact h.withE rfl (by omega) (by omega) (go _) ⟨a1,a2,a3,a4,by simp only[len,mD,mP,ma]at hlt ⊢; omega⟩ h.trp
 split
 ·
  split
  ·exact same
  ·exact h.withE rfl (by omega) (by omega) (go _) ⟨a1,a2,a3,pE (b3S _ _) a4,a5⟩ h.trp
 split
 ·exact h.withE rfl (by omega) (by omega) (go _) ⟨a1,a2,a3,a4,a5⟩ h.trp
 split
 ·exact h.withE rfl (by omega) (by omega) ((h.sE.haltR (by omega)).mono (by omega) (mo _) (mo _)) ⟨a1,a2,a3,a4,a5⟩ h.trp
 ·exact same
theorem e5T {c:ay} {s:ao} {x:aa} {B D R:Int} (hs:dx s.A3) (h:RP c s x B D R) (hB:B≤800000000000) (hD:D≤800000000000) (hR:x.A1+60≤R) (hR2:R≤800000000000):RP c s (aG c s x) (B+4002000) (D+1) R:=by
 have hn:=NextOk.of hs;have hb:=h.sE.has;obtain⟨a1,a2,a3,a4,a5,_,_,_⟩:=h.q;by_cases hw:x.E.A4=true∨x.E.C3>x.A1
 ·
  have e:aG c s x=x:=by
   unfold aG;rw[d8k hw,if_pos (.inl rfl)]
  rw[e];exact h.mono (by omega) (by omega) (mo _)
 have hse:=h.sE.settle hs (by omega);have h1:RP c s {x with E:={x.E with A6:=(kx s true x.E.A6).1}} (B+4000000) D R:=h.withE rfl (by omega) (mo _) hse ⟨a1,a2,a3,a4,a5⟩ h.trp;have hst:=d1o hs true hb h.sE.base.1 h.sE.base.2 (by omega);have hb2:hasM s (kx s true x.E.A6).1.A7=true:=hse.has;cases hf:(kx s true x.E.A6).2 with
 | true =>
  have hi:=c1H hf;obtain⟨g1,g2⟩:=d8m hn hb hw hf;have e:aG c s x=(atE s x).2.2.2:=by
   unfold aG;rw[if_pos (.inl g1)]
  rw[e,g2];have hpc:=c6Z hs hb2;have hnk:=d2m (x:={x with E:={x.E with A6:=(kx s true x.E.A6).1}}) h.trp (k:=4) (st:=(aT s true x.E.A6).2.1) (pc:=(bz s (kx s true x.E.A6).1.A7).2.1) (by omega) (by omega) (by omega);generalize hx1:({x with E:={x.E with A6:=(kx s true x.E.A6).1}}:aa)=x1 at *;have fr:bG x1 4 (aT s true x.E.A6).2.1 (bz s (kx s true x.E.A6).1.A7).2.1={x1 with A9:=(bG x1 4 (aT s true x.E.A6).2.1 (bz s (kx s true x.E.A6).1.A7).2.1).A9}:=by unfold bG; split<;>rfl
  rw[fr];obtain⟨b1,b2,b3,b4,b5,_,_,_⟩:=h1.q;exact h1.withE rfl (by omega) (by omega) (h1.sE.mono (by omega) (by omega) (mo _)) ⟨b1,b2,b3,b4,b5⟩ hnk
 | false =>
  have ha:=at_cell hn hb hw hf;unfold aG;rw[ha];split
  ·exact h1.mono (by omega) (by omega) (mo _)
  ·
   have h2:=a6J hn true s.A3.length x.E.A6 hb (by have:=fq.1 hb; omega);rw[show bL s true s.A3.length x.E.A6=kx s true x.E.A6 from rfl,hf]at h2;have hi:(kx s true x.E.A6).1.B3<len (cu s true (kx s true x.E.A6).1.A7):=h2.2.elim (λh=>h.2) (λh=>Bool.noConfusion h.1);have hk:(aT s true x.E.A6).1=fW s true (kx s true x.E.A6).1:=by
    unfold aT;rw[if_neg (by rw[hf]; have:=hse.ix.1; simp only at this; simp; omega)]
   have hpc:=e3i hs true hb2;rw[← hk]at hpc;exact (e7l (k:=(aT s true x.E.A6).1) (st:=(aT s true x.E.A6).2.1) hs h1 hi (by omega) (by omega) hR (by omega) (by omega) hpc).mono (by omega) (mo _) (mo _)
variable {N:Nat}
theorem d8V {s:ao} (hs:dx s.A3) (e:Bool) {p:bc} (hb:hasM s p.A7=true):InsK (fW s e p).1 (fW s e p).2.1:=by
 obtain⟨g1,g2,g3,g4,g5⟩:=c6Z hs hb;have key:∀(ks:List Int) (l:List ak),jm ks (bz s p.A7).1 (bz s p.A7).2.1 l→InsK (l.getD p.B3.toNat ak.z).1 (l.getD p.B3.toNat ak.z).2.1:=by
  intro ks l hl;by_cases hi:p.B3.toNat<l.length
  ·exact hl.ins _ (ck ak.z hi)
  ·
   rw[mA,mg (by omega)];exact d7F (by decide) (by decide) (by decide)
 unfold fW cu;rw[if_pos hb];cases e with
 | true=>exact key _ _ g5
 | false=>exact key _ _ g4
theorem d9s {m:Int} {e:aF} (h1:h7K e.1 e.2.1 m=true) (h2:0≤e.2.2.1∧e.2.2.1≤1099511627776) (h3:e.2.2.2.1=false):∀(l:List aF) (b:Bool),dh m b l=true→dh m b (l++[e])=true
 | [],b,_=>by
  show dh m b [e]=true;unfold dh;rw[h1,h3];simp only[allB,mt,nT,oX,mn,oE,most,mO];unfold dh;simp only[oX];exact decide_eq_true h2
 | a::r,b,h=>by
  unfold dh at h;simp only[mE]at h;show dh m b (a::(r++[e]))=true;unfold dh;simp only[mE];exact⟨h.1,h.2.1,h.2.2.1,d9s h1 h2 h3 r false h.2.2.2⟩
theorem c8W (x:aa) {q:am} (hq:q.1=false):∀(l:List am) (n:Int),bQ x n (l++[q])=bQ x n l
 | [],n=>by
  show bQ x n [q]=bQ x n [];unfold bQ;rw[if_pos hq];rfl
 | a::r,n=>by
  show bQ x n (a::(r++[q]))=_;unfold bQ;rw[c8W x hq r n,c8W x hq r (n+1)]
theorem d0j {x:aa} (h:x.B0.length=0):∀(l:List am) (n m:Int),bQ x n l=some m→m=n∧∀q∈l,q.1=false
 | [],n,m,hm=>by simp only[bQ,mB]at hm; exact⟨hm.symm,by simp⟩
 | q::r,n,m,hm=>by
  unfold bQ at hm;split at hm
  ·
   rename_i hq;obtain⟨h1,h2⟩:=d0j h r n m hm;refine⟨h1,λp hp=>?_⟩
   rcases mV.1 hp with rfl | hp
   ·exact hq
   ·exact h2 p hp
  ·
   rw[if_pos (.inl h)]at hm;simp at hm
theorem c0q (y:aa):∀(l:List am) (n:Int),(∀q∈l,q.1=false)→bQ y n l=some n
 | [],n,_=>rfl
 | q::r,n,h=>by
  unfold bQ;rw[if_pos (h q (nj ..))];exact c0q y r n λp hp=>h p (nG _ hp)
theorem c3v {x y:aa} (h1:bM y=bM x) (h2:y.B0.length=0↔x.B0.length=0):∀(l:List am) (n:Int),bQ y n l=bQ x n l
 | [],n=>rfl
 | q::r,n=>by
  unfold bQ;rw[h1,c3v h1 h2 r n,c3v h1 h2 r (n+1)];simp only[h2]
theorem e1g {x y:aa} {e:aF} (hy:y.B0=x.B0++[e]) (he:e.2.2.2.1=false) (ht:y.A0=x.A0) (h:eJ x=true):eJ y=true:=by
 have hyl:y.B0.length=x.B0.length+1:=by rw[hy]; simp
 unfold eJ at h ⊢;rw[ht];by_cases h0:x.B0.length=0
 ·
  split at h
  ·simp at h
  ·
   rename_i n hn;obtain⟨h1,h2⟩:=d0j h0 _ _ _ hn;rw[c0q y _ _ h2];have hh:bM y=e:=by
    unfold bM;rw[hy,mT.1 h0];rfl
   simp only[hh,he,mN,and_false,if_false];rfl
 ·
  have hh:bM y=bM x:=by
   unfold bM;rw[hy,mA,mA,mW (by omega)]
  rw[c3v hh (by omega),hh];split at h
  ·simp at h
  ·
   rename_i n hn;have:=of_decide_eq_true h;refine decide_eq_true ?_;rw[this];have e1:0<x.B0.length:=by omega
   have e2:0<y.B0.length:=by omega
   simp only[e1,e2,true_and]
theorem c3u {x y:aa} {q:am} (hs:y.B0=x.B0) (ht:y.A0=x.A0++[q]) (hq:q.1=false) (h:eJ x=true):eJ y=true:=by
 unfold eJ at h ⊢;rw[ht,c8W y hq,b0q hs,hs];unfold bM at h ⊢;rw[hs];exact h
theorem ik {x y:aa} (h:eJ x=true) (a:y.B0=x.B0) (b:y.A0=x.A0):eJ y=true:=(c8F a b).trans h
theorem RP.withA {c:ay} {s:ao} {x y:aa} {B D R B' D':Int} (h:RP c s x B D R) (fr:y={x with A:=y.A,B9:=y.B9,C7:=y.C7,C6:=y.C6,C8:=y.C8,B0:=y.B0,A0:=y.A0,A9:=y.A9,C0:=y.C0}) (hB:B≤B') (hD:D≤D')
  (hA:SideR s false y.A B' D' R) (hq:len y.B9≤c.B9∧len y.C7≤c.C7∧len y.C6≤c.C6∧len y.C8≤c.C8) (h6:len y.B0≤c.B0) (h7:len y.A0≤c.B7) (he:dh (len x.Mem) true y.B0=true) (hr:∀q∈y.A0,reqM (len x.Mem) q=true) (hs:eJ y=true) (ht:h7l y.A9=true) (hg:0≤y.C0∧y.C0≤R):RP c s y B' D' R:=by
 have e1:y.E=x.E:=by rw[fr]
 have e2:y.C9=x.C9:=by rw[fr]
 have e4:y.Mem=x.Mem:=by rw[fr]
 have e5:y.A1=x.A1∧y.B6=x.B6∧y.B5=x.B5:=by rw[fr]; exact⟨rfl,rfl,rfl⟩
 obtain⟨q1,q3,q4,q5⟩:=hq;obtain⟨_,a2,_,_,_,_,_,a8⟩:=h.q;obtain⟨n1,n2,n3,n4⟩:=h.num;exact⟨h.cfg,hA,by rw[e1]; exact h.sE.mono hB hD (mo _),by rw[e5.1,e5.2.1,e5.2.2]; exact⟨n1,n2,n3,hg⟩,⟨q1,by rw[e2]; exact a2,q3,q4,q5,h6,h7,by rw[e4]; exact a8⟩,by rw[e4]; exact he,by rw[e4]; exact hr,hs,ht⟩
theorem d6g (k:ak) (x:aa):0≤chkM k x∧chkM k x≤2:=by
 unfold chkM jP eN
 repeat' split
 all_goals omega
theorem d9k {k:ak} {x:aa} (hz:aZ k.2.1.1=1∨aZ k.2.1.1=2∨aZ k.2.1.1=4) (h:chkM k x=0):h7K (dC k x) (aZ k.2.1.1) (len x.Mem)=true:=by
 have hu:U32 (dC k x):=dI _;unfold chkM jP eN at h;rw[if_neg (by omega)]at h;unfold h7K;refine decide_eq_true ⟨hz,hu.1,?_,?_⟩
 ·
  split at h
  ·omega
  ·
   split at h
   ·omega
   ·rename_i g; omega
 ·
  split at h
  ·omega
  ·rename_i g; omega
theorem d6S {op:Int} (h:26≤op∧op≤33):aZ op=1∨aZ op=2∨aZ op=4:=by
 have:op=26∨op=27∨op=28∨op=29∨op=30∨op=31∨op=32∨op=33:=by omega
 rcases this with rfl | rfl | rfl | rfl | rfl | rfl | rfl | rfl<;>decide
theorem e6P {op:Int} (h:26≤op∧op≤30):ae op=4:=by
 have:op=26∨op=27∨op=28∨op=29∨op=30:=by omega
 rcases this with rfl | rfl | rfl | rfl | rfl<;>decide
theorem e2J {k:ak} {x:aa} (ho:26≤k.2.1.1∧k.2.1.1≤30) (h:chkM k x=0) {reg tag:Int} (hr:-1≤reg∧reg≤15):reqM (len x.Mem) (eI k (dC k x) reg tag)=true:=by
 have hl:=d9k (d6S (by omega)) h;unfold reqM eI;simp only[hl,e6P ho,allB,mt,nT,oX,mO,mN,if_false,decide_true];exact decide_eq_true hr
theorem e3U (x:aa) (k st pc:Int):bG x k st pc={x with A9:=(bG x k st pc).A9}:=by unfold bG; split<;>rfl
theorem d3h {l:List am} {m:Int} (h:∀q∈l,reqM m q=true) {a:am} (ha:reqM m a=true):∀q∈l++[a],reqM m q=true:=by
 intro q hq;rcases mM.1 hq with hq | hq
 ·exact h q hq
 ·
  simp only[mI]at hq;rw[hq]; exact ha
theorem j5 {α:Type} (l:List α) (a:α):len (l++[a])=len l+1:=by simp only[len,mD,mP,ma]; omega
section
variable {c:ay} {s:ao} {x:aa} {B D R:Int}
theorem e6V (hs:dx s.A3) (h:RP c s x B D R) (hi:x.A.A6.B3<len (cu s false x.A.A6.A7)) (hB:B≤900000000000) (hD:D≤900000000000) (hR:x.A1+60≤R) (hT:x.C0+1≤R) (hR2:R≤900000000000)
  {k:ak} {st:Int} (hst:0≤st∧st≤1099511627776) (hpc:0≤k.2.2.2.1∧k.2.2.2.1≤2000) (hk:InsK k.1 k.2.1):RP c s (actA c s k st x) (B+2000) (D+1) R:=by
 obtain⟨a1,a2,a3,a4,a5,a6,a7,a8⟩:=h.q;have hcy:=h.num.1;have htg:=h.num.2.2.2;have ready:∀n:Int,1≤n→n≤50→-1≤w.i64 (x.A1+n)∧w.i64 (x.A1+n)≤R:=by
  intro n h1 h2;rw[wI (by omega) (by omega)]; omega
 have beh:∀r v y:Int,(-1≤y∧y≤R)→SideR s false (cj (setM x.A r v y)) (B+2000) (D+1) R:=λr v y hy=>((h.sA.setR r v hy).behind hs (by rw[d9e]; exact hi) (by omega)).mono (by omega) (mo _) (mo _)
 have beh0:SideR s false (cj x.A) (B+2000) (D+1) R:=(h.sA.behind hs hi (by omega)).mono (by omega) (mo _) (mo _);have go:∀t,SideR s false (goD s x.A1 x.A t) (B+2000) (D+1) R:=λt=>h.sA.goR hs hi (by omega) (by omega) hcy.1 (by omega) (by omega) t
 have same:=h.mono (show B≤B+2000 by omega) (show D≤D+1 by omega) (mo R);have note:∀kd:Int,1≤kd∧kd≤4→RP c s (bG x kd st k.2.2.2.1) (B+2000) (D+1) R:=by
  intro kd hkd;have hn:=d2m (x:=x) h.trp hkd hst hpc;rw[e3U];exact h.withA rfl (by omega) (by omega) (h.sA.mono (by omega) (by omega) (mo _)) ⟨a1,a3,a4,a5⟩ a6 a7 h.ent h.req (ik h.snt rfl rfl) hn htg
 have htg1:w.i64 (x.C0+1)=x.C0+1:=wI (by omega) (by omega);unfold actA;split
 ·
  unfold doA;split
  ·
   have hl:=d5S c k.2.1.1;exact h.withA rfl (by omega) (by omega) (beh _ _ _ (ready _ hl.1 hl.2)) ⟨a1,a3,a4,a5⟩ a6 a7 h.ent h.req (ik h.snt rfl rfl) h.trp htg
  ·exact note 3 (by omega)
 split
 ·
  rename_i h23;obtain⟨o1,o2,o3,o4⟩:=hk.1 h23;unfold gM;split
  ·
   rename_i hc;have:=d6g k x;exact note _ (by omega)
  ·
   rename_i hc;have hc:chkM k x=0:=Decidable.not_not.1 hc;split
   ·
    split
    ·
     unfold gX;split
     ·exact h.withA rfl (by omega) (by omega) (beh _ _ _ (ready 1 (by omega) (by omega))) ⟨a1,a3,a4,a5⟩ a6 a7 h.ent h.req (ik h.snt rfl rfl) h.trp htg
     ·
      split
      ·
       rename_i hlt;unfold resM;rw[if_pos hlt];exact h.withA rfl (by omega) (by omega) beh0 ⟨by simp only[len,c2A,mD,mP,ma]at hlt ⊢; omega,a3,a4,a5⟩ a6 a7 h.ent h.req (ik h.snt rfl rfl) h.trp (by show 0≤w.i64 (x.C0+1)∧w.i64 (x.C0+1)≤R; rw[htg1]; omega)
      ·exact same
    ·exact same
   ·
    split
    ·
     rename_i hfl;unfold askM;split
     ·
      split
      ·
       rename_i hlt;unfold resM;rw[if_pos hlt];exact h.withA rfl (by omega) (by omega) beh0 ⟨by rw[j5]; omega,a3,a4,a5⟩ a6 (by rw[j5]; omega) h.ent (d3h h.req (e2J (by omega) hc (by omega))) (by exact c3u (x:=x) rfl rfl rfl h.snt) h.trp (by show 0≤w.i64 (x.C0+1)∧w.i64 (x.C0+1)≤R; rw[htg1]; omega)
      ·exact same
     ·
      split
      ·
       refine h.withA rfl (by omega) (by omega) ?_ ⟨a1,a3,a4,a5⟩ a6 (by rw[j5]; omega) h.ent (d3h h.req (e2J (by omega) hc (by omega))) (by exact c3u (x:=x) rfl rfl rfl h.snt) h.trp htg;have hset:SideR s false {x.A with A8:=x.A.A8.set k.2.1.2.1.toNat (-1)} B D R:=by
        refine⟨h.sA.has,h.sA.ix,h.sA.base,h.sA.wait,h.sA.done,λz hz=>?_⟩
        rcases nI hz with h1 | h1
        ·exact h.sA.rdy z h1
        ·rw[h1]; omega
       exact (hset.behind hs hi (by omega)).mono (by omega) (mo _) (mo _)
      ·exact h.withA rfl (by omega) (by omega) beh0 ⟨a1,a3,a4,a5⟩ a6 (by rw[j5]; omega) h.ent (d3h h.req (e2J (by omega) hc (by omega))) (by exact c3u (x:=x) rfl rfl rfl h.snt) h.trp htg
    ·exact same
 split
 ·
  rename_i h4;have ho:=hk.2 h4;unfold gj;split
  ·
   have:=d6g k x;exact note _ (by omega)
  ·
   rename_i hc;have hc:chkM k x=0:=Decidable.not_not.1 hc;split
   ·
    rename_i hlt;have hl:=d9k (d6S (by omega)) hc;exact h.withA rfl (by omega) (by omega) beh0 ⟨a1,a3,a4,a5⟩ (by rw[j5]; omega) a7 (d9s (e:=(dC k x,(aZ k.2.1.1,(st,(false,(0,())))))) hl hst rfl _ _ h.ent) h.req (by exact e1g (x:=x) rfl rfl rfl h.snt) h.trp htg
   ·exact same
 split
 ·
  split
  ·exact h.withA rfl (by omega) (by omega) beh0 ⟨a1,by rw[j5]; omega,a4,a5⟩ a6 a7 h.ent h.req (ik h.snt rfl rfl) h.trp htg
  ·exact same
 split
 ·
  unfold gN;split
  ·exact same
  ·exact h.withA rfl (by omega) (by omega) (go _) ⟨a1,a3,by rw[j5]; omega,a5⟩ a6 a7 h.ent h.req (ik h.snt rfl rfl) h.trp htg
 split
 ·
  unfold gP;split
  ·exact same
  ·exact h.withA rfl (by omega) (by omega) (go _) ⟨a1,a3,a4,pE (b3S _ _) a5⟩ a6 a7 h.ent h.req (ik h.snt rfl rfl) h.trp htg
 split
 ·exact h.withA rfl (by omega) (by omega) (go _) ⟨a1,a3,a4,a5⟩ a6 a7 h.ent h.req (ik h.snt rfl rfl) h.trp htg
 split
 ·exact h.withA rfl (by omega) (by omega) ((h.sA.haltR (by omega)).mono (by omega) (mo _) (mo _)) ⟨a1,a3,a4,a5⟩ a6 a7 h.ent h.req (ik h.snt rfl rfl) h.trp htg
 ·exact same
theorem e4y (hs:dx s.A3) (h:RP c s x B D R) (hB:B≤800000000000) (hD:D≤800000000000) (hR:x.A1+60≤R) (hT:x.C0+1≤R) (hR2:R≤800000000000):RP c s (aP c s x) (B+4002000) (D+1) R:=by
 have hn:=NextOk.of hs;have hb:=h.sA.has;obtain⟨a1,a2,a3,a4,a5,a6,a7,a8⟩:=h.q;have htg:=h.num.2.2.2;by_cases hw:x.A.A4=true∨x.A.C3>x.A1
 ·
  have e:atA s x=(ak.z,0,false,x):=if_pos hw;have e:aP c s x=x:=by
   unfold aP;rw[e,if_pos (.inl rfl)]
  rw[e];exact h.mono (by omega) (by omega) (mo _)
 have hse:=h.sA.settle hs (by omega);have h1:RP c s {x with A:={x.A with A6:=(kx s false x.A.A6).1}} (B+4000000) D R:=h.withA rfl (by omega) (mo _) hse ⟨a1,a3,a4,a5⟩ a6 a7 h.ent h.req (ik h.snt rfl rfl) h.trp htg;have hst:=d1o hs false hb h.sA.base.1 h.sA.base.2 (by omega);have hb2:hasM s (kx s false x.A.A6).1.A7=true:=hse.has;have e0:atA s x=((aT s false x.A.A6).1,(aT s false x.A.A6).2.1,(aT s false x.A.A6).2.2&&!dk (if (kx s false x.A.A6).2=true then bG {x with A:={x.A with A6:=(kx s false x.A.A6).1}} 4 (aT s false x.A.A6).2.1 (bz s (kx s false x.A.A6).1.A7).2.1 else {x with A:={x.A with A6:=(kx s false x.A.A6).1}}) (aT s false x.A.A6).2.1,
   if (kx s false x.A.A6).2=true then bG {x with A:={x.A with A6:=(kx s false x.A.A6).1}} 4 (aT s false x.A.A6).2.1 (bz s (kx s false x.A.A6).1.A7).2.1 else {x with A:={x.A with A6:=(kx s false x.A.A6).1}}):=by
  unfold atA;rw[if_neg hw];simp only[je hn false _ hb]
 cases hf:(kx s false x.A.A6).2 with
 | true =>
  have hi:=c1H hf;rw[hf,if_pos rfl,hi]at e0;have e:aP c s x=bG {x with A:={x.A with A6:=(kx s false x.A.A6).1}} 4 (aT s false x.A.A6).2.1 (bz s (kx s false x.A.A6).1.A7).2.1:=by
   unfold aP;rw[e0,if_pos (.inl (by simp))]
  rw[e];have hpc:=c6Z hs hb2;have hnk:=d2m (x:={x with A:={x.A with A6:=(kx s false x.A.A6).1}}) h.trp (k:=4) (st:=(aT s false x.A.A6).2.1) (pc:=(bz s (kx s false x.A.A6).1.A7).2.1) (by omega) (by omega) (by omega);generalize hx1:({x with A:={x.A with A6:=(kx s false x.A.A6).1}}:aa)=x1 at *;rw[e3U];obtain⟨b1,b2,b3,b4,b5,b6,b7,_⟩:=h1.q;exact h1.withA rfl (by omega) (by omega) (h1.sA.mono (by omega) (by omega) (mo _)) ⟨b1,b3,b4,b5⟩ b6 b7 h1.ent h1.req (ik h1.snt rfl rfl) hnk h1.num.2.2.2
 | false =>
  rw[hf,if_neg (by simp)]at e0;unfold aP;rw[e0];split
  ·exact h1.mono (by omega) (by omega) (mo _)
  ·
   have h2:=a6J hn false s.A3.length x.A.A6 hb (by have:=fq.1 hb; omega);rw[show bL s false s.A3.length x.A.A6=kx s false x.A.A6 from rfl,hf]at h2;have hi:(kx s false x.A.A6).1.B3<len (cu s false (kx s false x.A.A6).1.A7):=h2.2.elim (λh=>h.2) (λh=>Bool.noConfusion h.1);have hk:(aT s false x.A.A6).1=fW s false (kx s false x.A.A6).1:=by
    unfold aT;rw[if_neg (by rw[hf]; have:=hse.ix.1; simp only at this; simp; omega)]
   have hpc:=e3i hs false hb2;have hin:=d8V hs false hb2;rw[← hk]at hpc hin;exact (e6V (k:=(aT s false x.A.A6).1) (st:=(aT s false x.A.A6).2.1) hs h1 hi (by omega) (by omega) hR hT (by omega) (by omega) hpc hin).mono (by omega) (mo _) (mo _)
end
variable {N:Nat}
theorem b8f (m:Int) (q:am):reqM m q=true↔reqM m (cW q)=true∧LfOk q:=by
 have e:reqM m (cW q)=(decide (q.2.2.2.1=aZ q.2.1)&&(decide (ae q.2.1=if q.1=true then 5 else 4)&&(h7K q.2.2.1 q.2.2.2.1 m&&(true&&allB (-1) 15 [q.2.2.2.2.2.2.1])))):=rfl;rw[e];unfold reqM LfOk;simp only[mE,mO];have a1:allB 0 1000 [q.2.2.2.2.2.1]=true↔0≤q.2.2.2.2.2.1∧q.2.2.2.2.2.1≤1000:=by
  simp only[allB,mt,nT,oX,decide_eq_true_eq]
 rw[a1];constructor
 ·rintro⟨h1,h2,h3,h4,h5⟩; exact⟨⟨h1,h2,h3,h5⟩,h4⟩
 ·rintro⟨⟨h1,h2,h3,h5⟩,h4⟩; exact⟨h1,h2,h3,h4,h5⟩
theorem b2B {q q':am} (h:bp q=some q'):cW q'=cW q:=by
 unfold bp at h;split at h
 ·
  split at h
  ·simp at h
  ·simp only[mB]at h; rw[← h]; rfl
 ·simp only[mB]at h; rw[h]
theorem b7Z {a b:am} (h:cW a=cW b):a.1=b.1∧a.2.2.1=b.2.2.1∧a.2.2.2.1=b.2.2.2.1:=by
 have h1:(cW a).1=(cW b).1:=by rw[h]
 have h2:(cW a).2.2.1=(cW b).2.2.1:=by rw[h]
 have h3:(cW a).2.2.2.1=(cW b).2.2.2.1:=by rw[h]
 exact⟨h1,h2,h3⟩
theorem d4x {q q':am} (h:bp q=some q') (hq:LfOk q):LfOk q':=by
 unfold LfOk at *;unfold bp at h;split at h
 ·
  split at h
  ·simp at h
  ·
   rename_i h1 h2;simp only[mB]at h;have e:q'.2.2.2.2.2.1=w.i64 (q.2.2.2.2.2.1-1):=by rw[← h]; rfl
   rw[e,wI (by omega) (by omega)];omega
 ·simp only[mB]at h; rw[← h]; exact hq
theorem e2b {n b:Int} {q q':am} (h:bp q=some q') (hw:cN n b q'=true):cN n b q=true:=by
 have hs:=b2B h;have ea:q'.2.2.1=q.2.2.1:=(b7Z hs).2.1;unfold cN at hw ⊢;simp only[mE,decide_eq_true_eq]at hw ⊢;rw[ea]at hw;refine⟨hw.1,?_⟩;unfold bp at h;split at h
 ·assumption
 ·simp only[mB]at h; rw[h]; exact hw.2
theorem d4w (n b:Int):∀l:List am,(l.filterMap bp).countP (cN n b)≤l.countP (cN n b)
 | []=>by simp
 | q::r=>by
  have ih:=d4w n b r;rw[nV];cases hk:bp q with
  | none=>rw[oa hk]; omega
  | some q' =>
   rw[oc hk,nV];by_cases hw:cN n b q'=true
   ·rw[if_pos hw,if_pos (e2b hk hw)]; omega
   ·rw[if_neg hw]; omega
theorem b4i (x:aa):∀(l:List am) (n:Int),bQ x n (l.map cW)=bQ x n l
 | [],n=>rfl
 | q::r,n=>by
  rw[nN];unfold bQ;rw[b4i x r n,b4i x r (n+1)];rfl
theorem c0g (x:aa):∀(l:List am) (n m k:Int),bQ x n l=some m→bQ x (n+k) l=some (m+k)
 | [],n,m,k,h=>by simp only[bQ,mB]at h ⊢; omega
 | q::r,n,m,k,h=>by
  unfold bQ at h ⊢;split at h
  ·
   rename_i hq;rw[if_pos hq];exact c0g x r n m k h
  ·
   rename_i hq;rw[if_neg hq];split at h
   ·simp at h
   ·
    rename_i hh;rw[if_neg hh];have:=c0g x r (n+1) m k h;rw[show n+k+1=n+1+k by omega];exact this
theorem c3M (x:aa):∀(l:List am) (n m:Int),bQ x n l=some m→bQ x n (l.filterMap bp)=some (m-((l.countP dg:Nat):Int))
 | [],n,m,h=>by simpa using h
 | q::r,n,m,h=>by
  rw[nV];have h0:=h;unfold bQ at h;split at h
  ·
   rename_i hq;have he:dg q=false:=by unfold dg; rw[hq]; rfl
   rw[he,if_neg (by simp),nS];have ih:=c3M x r n m h;cases hk:bp q with
   | none=>rw[oa hk]; exact ih
   | some q' =>
    rw[oc hk];have e1:q'.1=q.1:=(b7Z (b2B hk)).1;unfold bQ;rw[if_pos (by rw[e1]; exact hq)];exact ih
  ·
   rename_i hq;have hq:q.1=true:=by simpa using hq
   split at h
   ·simp at h
   ·
    rename_i hh;have ih:=c3M x r (n+1) m h;cases hk:bp q with
    | none =>
     rw[oa hk];have he:dg q=true:=by
      unfold bp at hk;split at hk
      ·
       rename_i g1;split at hk
       ·
        rename_i g2;unfold dg;rw[hq,decide_eq_true g1,decide_eq_true g2]; rfl
       ·simp at hk
      ·simp at hk
     rw[he,if_pos rfl];have:=c0g x _ _ _ (-1) ih;rw[show n+1+-1=n by omega]at this;rw[this];congr 1;omega
    | some q' =>
     rw[oc hk];have he:dg q=false:=by
      unfold bp at hk;split at hk
      ·
       split at hk
       ·simp at hk
       ·
        rename_i g2;unfold dg;rw[decide_eq_false g2]; simp
      ·
       rename_i g1;unfold dg;rw[decide_eq_false g1]; simp
     rw[he,if_neg (by simp),nS];have hs:=b2B hk;have e1:q'.1=q.1:=(b7Z hs).1;have e2:q'.2.2.1=q.2.2.1:=(b7Z hs).2.1;have e3:q'.2.2.2.1=q.2.2.2.1:=(b7Z hs).2.2;unfold bQ;rw[if_neg (by rw[e1,hq]; simp),e2,e3,if_neg hh];exact ih
theorem e4e {m:Int}:∀{l:List aF},dh m false l=true→dh m true l=true
 | [],h=>rfl
 | e::r,h=>by
  unfold dh at h ⊢;simp only[mE]at h ⊢;exact⟨h.1,h.2.1,by simp,h.2.2.2⟩
theorem e3V {m:Int} {l:List aF} (h:dh m false l=true) (h0:0<l.length):(l.getD 0 aF.z).2.2.2.1=false:=by
 cases l with
 | nil=>simp at h0
 | cons e r =>
  unfold dh at h;simp only[mE,oe]at h;have:=h.2.2.1;show e.2.2.2.1=false
  simpa using this
theorem d4J {m:Int} {b:Bool} {l:List aF} (h:dh m b l=true):dh m false (l.drop 1)=true:=by
 cases l with
 | nil=>rfl
 | cons e r =>
  unfold dh at h;simp only[mE]at h;exact h.2.2.2
section
variable {c:ay} {s:ao} {x y z:aa} {B D R:Int}
theorem e7m (h : RP c s x B D R) (m : MovR x z (x.A0.countP dg)) (hy : y.A0 = x.A0.filterMap bp) (hl : y.B6 = x.B6) (hp : y.B5 = x.B5) (hb : BegR c y z c.B2.toNat) (hbk : 1 ≤ c.B2 ∧ c.B2 ≤ 16) (hR : x.A1 + 60 ≤ R) (hL : x.B6 + 16 ≤ R) (hP : x.B5 + 16 ≤ R) (hR2 : R ≤ 900000000000) :
    RP c s z B D R ∧ (∃ a b : Nat, b ≤ a ∧ (a : Int) ≤ c.B2 ∧ z.B6 = x.B6 + a ∧ z.B5 = x.B5 + b) ∧ ((∀ b, x.A0.countP (cN c.B2 b) ≤ 1) → ∀ b, z.A0.countP (cN c.B2 b) ≤ 1) := by
  have fr := m.fr
  obtain ⟨n1, n2, n3, n4⟩ := h.num
  obtain ⟨q1, q2, q3, q4, q5, q6, q7, q8⟩ := h.q
  have e1 : z.E = x.E := by rw [fr]
  have e2 : z.C9 = x.C9 ∧ z.C7 = x.C7 ∧ z.C6 = x.C6 ∧ z.C8 = x.C8 := by rw [fr]; exact ⟨rfl, rfl, rfl, rfl⟩
  have e3 : z.A1 = x.A1 ∧ z.C0 = x.C0 ∧ z.A9 = x.A9 := by rw [fr]; exact ⟨rfl, rfl, rfl⟩
  have e4 : len z.Mem = len x.Mem := by simp only [len, m.mem]
  have hsq := m.saq
  have hcnt : ∃ a b : Nat, b ≤ a ∧ (a : Int) ≤ c.B2 ∧ z.B6 = x.B6 + a ∧ z.B5 = x.B5 + b := by
    obtain ⟨a, b, h1, h2, h3, h4⟩ := hb.cnt (by rw [hl]; unfold I64; omega) (by rw [hp]; unfold I64; omega)
    refine ⟨a, b, h1, by omega, ?_, ?_⟩
    · rw [h3, hl, wI (by omega) (by omega)]
    · rw [h4, hp, wI (by omega) (by omega)]
  have hone : x.A0.countP dg ≤ 1 := by
    have h2 := h.snt
    unfold eJ at h2
    split at h2
    · simp at h2
    · rename_i n hn
      have h3 := a6f x _ _ _ hn
      have h4 := of_decide_eq_true h2
      have h5 : x.A0.countP dg ≤ x.A0.countP fun q => q.1 := List.countP_mono_left fun q _ hq => by
        unfold dg at hq
        simp only [mE] at hq
        exact hq.1
      split at h4 <;> omega
  refine ⟨⟨h.cfg, ?_, by rw [e1]; exact h.sE, ?_, ?_, ?_, ?_, ?_, by rw [e3.2.2]; exact h.trp⟩, hcnt, fun hw => hb.wk fun b => by rw [hy]; exact nO (d4w _ _ _) (hw b)⟩
  · have ha := m.afr
    have hr := m.rdp (fun r => -1 ≤ r ∧ r ≤ R) h.sA.rdy (by rw [wI (by omega) (by omega)]; omega)
    generalize z.A = d at ha hr
    rw [ha]
    exact ⟨h.sA.has, h.sA.ix, h.sA.base, h.sA.wait, h.sA.done, hr⟩
  · obtain ⟨a, b, h1, h2, h3, h4⟩ := hcnt
    rw [e3.1, e3.2.1, h3, h4]
    omega
  · have l1 := m.ldq
    have l2 := m.tab
    have l3 : z.B0.length ≤ x.B0.length := by rw [hsq]; simp
    refine ⟨by simp only [len] at q1 ⊢; omega, by rw [e2.1]; exact q2, by rw [e2.2.1]; exact q3, by rw [e2.2.2.1]; exact q4, by rw [e2.2.2.2]; exact q5, by simp only [len] at q6 ⊢; omega, by simp only [len] at q7 ⊢; omega, by rw [e4]; exact q8⟩
  · rw [e4, hsq]
    rcases Nat.lt_or_ge 0 (x.A0.countP dg) with h1 | h1
    · rw [show x.A0.countP dg = 1 by omega]
      exact e4e (d4J h.ent)
    · rw [show x.A0.countP dg = 0 by omega]
      exact h.ent
  · intro q hq
    rw [e4]
    have h1 : cW q ∈ z.A0.map cW := List.mem_map_of_mem hq
    rw [hb.tab, hy] at h1
    obtain ⟨q0, h2, h3⟩ := nK.1 h1
    obtain ⟨q1', h4, h5⟩ := pv.1 h2
    have h6 := (b8f (len x.Mem) q1').1 (h.req q1' h4)
    refine (b8f (len x.Mem) q).2 ⟨?_, ?_⟩
    · rw [← h3, b2B h5]; exact h6.1
    · refine hb.lf (fun p hp => ?_) q hq
      rw [hy] at hp
      obtain ⟨p1, h7, h8⟩ := pv.1 hp
      exact d4x h8 ((b8f (len x.Mem) p1).1 (h.req p1 h7)).2
  · have hz : ∀ n : Int, bQ z n z.A0 = bQ z n (x.A0.filterMap bp) := fun n => by
      rw [← b4i z z.A0, hb.tab, hy, b4i]
    have h2 := h.snt
    unfold eJ at h2 ⊢
    rw [hz]
    split at h2
    · simp at h2
    · rename_i n hn
      have hk := c3M x _ _ _ hn
      have h4 := of_decide_eq_true h2
      rcases Nat.lt_or_ge 0 (x.A0.countP dg) with h1 | h1
      · have h0 : n = 1 := by
          have h3 := a6f x _ _ _ hk
          split at h4 <;> omega
        rw [show x.A0.countP dg = 1 by omega, h0] at hk
        have hc := a6f x _ _ _ hk
        have hall : ∀ q ∈ x.A0.filterMap bp, q.1 = false := by
          have : (x.A0.filterMap bp).countP (fun q => q.1) = 0 := by omega
          intro q hq
          have := oI.1 this q hq
          simpa using this
        rw [c0q z _ _ hall]
        have ht := d4J h.ent
        rw [show x.A0.countP dg = 1 by omega] at hsq
        rw [← hsq] at ht
        refine decide_eq_true ?_
        split
        · rename_i g
          have := e3V ht g.1
          unfold bM at g
          rw [this] at g
          simp at g
        · rfl
      · have hsq0 : z.B0 = x.B0 := by rw [hsq, show x.A0.countP dg = 0 by omega]; rfl
        rw [show x.A0.countP dg = 0 by omega] at hk
        rw [b0q hsq0, hk]
        unfold bM at h4 ⊢
        rw [hsq0]
        refine decide_eq_true ?_
        rw [← h4]
        simp
theorem e7S (h:RP c s x B D R) (m:SndR c x y):RP c s y B D R∧((∀b,x.A0.countP (cN c.B2 b)≤1)→∀b,y.A0.countP (cN c.B2 b)≤1):=by
 rcases m.ex with e | ⟨h0,h1,h2,v,o,ho,hq,ht⟩
 ·rw[e]; exact⟨h,λh=>h⟩
 have fr:=m.fr;obtain⟨q1,q2,q3,q4,q5,q6,q7,q8⟩:=h.q;have e1:y.A=x.A∧y.E=x.E∧y.Mem=x.Mem∧y.A9=x.A9:=by rw[fr]; exact⟨rfl,rfl,rfl,rfl⟩
 have e2:y.A1=x.A1∧y.B6=x.B6∧y.B5=x.B5∧y.C0=x.C0:=by rw[fr]; exact⟨rfl,rfl,rfl,rfl⟩
 have e3:y.B9=x.B9∧y.C7=x.C7∧y.C6=x.C6∧y.C8=x.C8:=by rw[fr]; exact⟨rfl,rfl,rfl,rfl⟩
 -- the head lies in memory
 have hsaq:∃e r,x.B0=e::r:=by
  cases hx:x.B0 with
  | nil=>rw[hx]at h0; simp at h0
  | cons e r=>exact⟨e,r,rfl⟩
 obtain⟨e,r,hx⟩:=hsaq;have hent:=h.ent;rw[hx]at hent;unfold dh at hent;simp only[mE]at hent;rw[hx]at h1 hq ht ho;have hhead:(e::r).getD 0 aF.z=e:=rfl;rw[hhead]at h1 hq ht ho;rw[pu]at hq;have hlie:=hent.1;have hsz:=(of_decide_eq_true hlie).1;have hop:aZ o=e.2.1∧ae o=5:=by
  rcases ho with⟨rfl,g⟩ | ⟨rfl,g⟩ | ⟨rfl,g⟩
  ·rw[g]; exact⟨by decide,by decide⟩
  ·rw[g]; exact⟨by decide,by decide⟩
  ·
   have:e.2.1=4:=by omega
   rw[this]; exact⟨by decide,by decide⟩
 have hloads:bQ x 0 x.A0=some 0∧∀q∈x.A0,q.1=false:=by
  have h3:=h.snt;unfold eJ at h3;split at h3
  ·simp at h3
  ·
   rename_i n hn;have h4:=of_decide_eq_true h3;unfold bM at h4;rw[hx,hhead,h1]at h4;simp only[mN,and_false,if_false]at h4;rw[h4]at hn;have h5:=a6f x _ _ _ hn;refine⟨hn,λq hq=>?_⟩
   have:=oI.1 (show x.A0.countP (λq=>q.1)=0 by omega) q hq
   simpa using this
 refine⟨⟨h.cfg,by rw[e1.1]; exact h.sA,by rw[e1.2.1]; exact h.sE,by rw[e2.1,e2.2.1,e2.2.2.1,e2.2.2.2]; exact h.num,⟨by rw[e3.1]; exact q1,?_,by rw[e3.2.1]; exact q3,by rw[e3.2.2.1]; exact q4,by rw[e3.2.2.2]; exact q5,?_,?_,by rw[e1.2.2.1]; exact q8⟩,?_,?_,?_,by rw[e1.2.2.2]; exact h.trp⟩,λhw b=>?_⟩
 ·
  have:=m.sdq;simp only[len]at q2 ⊢;omega
 ·
  have:=m.saq;simp only[len]at q6 ⊢;omega
 ·rw[ht,j5]; omega
 ·
  rw[e1.2.2.1,hq];unfold dh;simp only[mE];exact⟨hent.1,hent.2.1,by simp,hent.2.2.2⟩
 ·
  rw[e1.2.2.1,ht];refine d3h h.req ?_;unfold reqM;simp only[hop.1,hop.2,hlie,allB,mt,nT,oX,decide_true,if_true,mO];decide
 ·
  unfold eJ;rw[ht];have:bQ y 0 (x.A0++[(true,(o,(e.1,(e.2.1,(v,(0,(0,(0,()))))))))])=some 1:=by
   have key:∀(l:List am) (n:Int),(∀q∈l,q.1=false)→bQ y n (l++[(true,(o,(e.1,(e.2.1,(v,(0,(0,(0,()))))))))])=some (n+1):=by
    intro l;induction l with
    | nil =>
     intro n _;show bQ y n [_]=_;unfold bQ;rw[if_neg (by simp),if_neg]
     ·rfl
     ·
      unfold bM;rw[hq];simp
    | cons a r ih =>
     intro n ha;show bQ y n (a::(r++_))=_;unfold bQ;rw[if_pos (ha a (nj ..))];exact ih n λq hq=>ha q (nG _ hq)
   have:=key x.A0 0 hloads.2
   simpa using this
  rw[this];refine decide_eq_true ?_;unfold bM;rw[hq];simp
 ·
  rw[ht,nd];have:[((true,(o,(e.1,(e.2.1,(v,(0,(0,(0,()))))))) ):am)].countP (cN c.B2 b)=0:=by
   rw[oI];intro q hq;simp only[mI]at hq;rw[hq];unfold cN;simp
  rw[this];exact hw b
end
variable {N:Nat}
theorem e1H (c:ay) (s:ao) (x:aa):(aP c s x).A0=x.A0∨∃q:am,(aP c s x).A0=x.A0++[q]∧q.2.2.2.2.2.1=0:=by
 have h0:∀z k st pc,(bG z k st pc).A0=z.A0:=by intro z k st pc; unfold bG; split<;>rfl
 have ha:(atA s x).2.2.2.A0=x.A0:=by
  unfold atA;split
  ·rfl
  ·
   simp only[];split
   ·rw[h0]
   ·rfl
 unfold aP;split
 ·exact .inl ha
 ·
  generalize (atA s x).2.2.2=z at *;rw[← ha];unfold actA;split
  ·
   unfold doA;split
   ·exact .inl rfl
   ·exact .inl (h0 _ _ _ _)
  split
  ·
   unfold gM;split
   ·exact .inl (h0 _ _ _ _)
   ·
    split
    ·
     split
     ·
      unfold gX;split
      ·exact .inl rfl
      ·
       split
       ·
        unfold resM;split<;>exact .inl rfl
       ·exact .inl rfl
     ·exact .inl rfl
    ·
     split
     ·
      unfold askM;split
      ·
       split
       ·exact .inr ⟨_,rfl,rfl⟩
       ·exact .inl rfl
      ·
       split
       ·exact .inr ⟨_,rfl,rfl⟩
       ·exact .inr ⟨_,rfl,rfl⟩
     ·exact .inl rfl
  split
  ·
   unfold gj;split
   ·exact .inl (h0 _ _ _ _)
   ·split<;>exact .inl rfl
  split
  ·split<;>exact .inl rfl
  split
  ·
   unfold gN;split<;>exact .inl rfl
  split
  ·
   unfold gP;split<;>exact .inl rfl
  split
  ·exact .inl rfl
  split<;>exact .inl rfl
theorem e6j {c:ay} {s:ao} {x:aa} (h:∀b,x.A0.countP (cN c.B2 b)≤1):∀b,(aP c s x).A0.countP (cN c.B2 b)≤1:=by
 intro b;rcases e1H c s x with e | ⟨q,e,hq⟩
 ·rw[e]; exact h b
 ·
  rw[e,nd];have:[q].countP (cN c.B2 b)=0:=by
   rw[oI];intro p hp;simp only[mI]at hp;rw[hp];unfold cN;rw[hq];simp
  rw[this];exact h b
structure RI (k:Nat) (c:ay) (s:ao) (x:aa):Prop where
 rp:RP c s x (8100000*(k:Int)) (2*(k:Int)) (1000+20*(k:Int))
 inv:Inv k x
 cyc:x.A1=k
 lat:x.B6≤16*(k:Int)
 pck:x.B5≤16*(k:Int)
 tag:x.C0≤k
 dA:x.A.A5≤k
 dE:x.E.A5≤k
 wk:∀b,x.A0.countP (cN c.B2 b)≤1
structure Adds (c:ay) (x y:aa):Prop where
 a:y.A.A5=x.A.A5∨y.A.A5=x.A.A5+1
 e:y.E.A5=x.E.A5∨y.E.A5=x.E.A5+1
 m:∃a b:Nat,b≤a∧(a:Int)≤c.B2∧y.B6=x.B6+a∧y.B5=x.B5+b
theorem e4P {c:ay} {s:ao} (hc:cfgM c=true) (hs:dx s.A3) {mem:List Int} (h:len mem≤65536):RI 0 c s (st0 mem):=by
 have hne:=oH.2 hs.ne;have hh:hasM s 0=true:=fq.2 (by omega);have hsd:∀e,SideR s e aI.z 0 0 1000:=by
  intro e;refine⟨hh,⟨by decide,by show (0:Int)≤len _; simp only[len]; omega⟩,⟨by decide,by decide⟩,⟨by decide,by decide⟩,⟨by decide,by decide⟩,λr hr=>?_⟩
  rw[show r=0 from pC (n:=16) hr];omega
 have hq:QB c (st0 mem):=by
  have:=hc;unfold cfgM at this;simp only[mE,allB,mt,nT,decide_eq_true_eq]at this;obtain⟨⟨a1,a2,a3,a4,a5,a6,a7,a8,_⟩,_⟩:=this;refine⟨?_,?_,?_,?_,?_,?_,?_,h⟩<;>simp only[len,ma]<;>omega
 exact {rp:=⟨hc,hsd false,hsd true,⟨by show (0:Int)≤0∧(0:Int)≤1000+20*((0:Nat):Int); omega,by show (0:Int)≤0∧(0:Int)≤1000+20*((0:Nat):Int); omega,by show (0:Int)≤0∧(0:Int)≤1000+20*((0:Nat):Int); omega,by show (0:Int)≤0∧(0:Int)≤1000+20*((0:Nat):Int); omega⟩,hq,rfl,by simp,rfl,rfl⟩,inv:=e3P h,cyc:=rfl,lat:=by show (0:Int)≤16*((0:Nat):Int); omega,pck:=by show (0:Int)≤16*((0:Nat):Int); omega,tag:=by show (0:Int)≤((0:Nat):Int); omega,dA:=by show (0:Int)≤((0:Nat):Int); omega,dE:=by show (0:Int)≤((0:Nat):Int); omega,wk:=by simp}
theorem h3H {m:Int} {q:am} (h:reqM m q=true) (hm:m≤65536):0≤q.2.2.1∧q.2.2.1≤70000:=by
 unfold reqM at h;simp only[mE]at h;have:=of_decide_eq_true h.2.2.1;omega
section
variable (c:ay) (t:bH) (s:ao)
end
end Go.Proofs.Zz
