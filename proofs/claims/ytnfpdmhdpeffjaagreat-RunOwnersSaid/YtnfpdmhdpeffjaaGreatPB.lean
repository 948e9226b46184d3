import Derived.Test.YtnfpdmhdpeffjaaGreatPA
import Derived.Test.YtnfpdmhdpeffjaaGreatVK
import Derived.Test.YtnfpdmhdpeffjaaGreatMK
set_option linter.unusedSimpArgs false
set_option linter.unusedVariables false
/- The program's splits are the reference's. -/
set_option maxRecDepth 100000
namespace Go.Proofs.Zz
open Go
variable {N:Nat}
theorem g5E (c:List a0o) (f:Nat) {t:Int} (j:Nat) (h:(f:Int)+j < t) (ht:t≤c.length):(cutV c (f:Int) t).getD j a0o.z = c.getD (f+j) a0o.z:=by
 unfold cutV;rw [List.getD_eq_getElem?_getD,List.getElem?_take_of_lt (by omega),List.getElem?_drop,Int.toNat_natCast,List.getD_eq_getElem?_getD]
theorem g4V (c:List a0o) (f:Nat) {t:Int} (h0:(f:Int)≤t) (ht:t≤c.length):((cutV c (f:Int) t).length:Int) = t - f:=by
 unfold cutV;simp only [List.length_take,List.length_drop];omega
theorem withV2 (ii nn i2:Int) (p:a0s) (hc:Right p) (o:List Int) (rb:List a0x) (ro so:List Int) (f:Nat) (t nx tk:Int) (hft:(f:Int)≤t) (ht:t≤p.Code.length) (hN:2000 < N):∀ (n j:Nat) (A E:List a0h),(f:Int)+j≤t→t - f - j < n→(A.length:Int)≤8*j→(E.length:Int)≤8*j →
  f2G N n nn ii (cutV p.Code (f:Int) t) (len (cutV p.Code (f:Int) t)) (j:Int) p.Code p.Size p.Data o rb ro nn i2 so (f:Int) t nx tk A E = some (3,dvG UV (nn,ii,p.Code,p.Size,p.Data,o,rb,ro,nn,i2,so,(f:Int),t,nx,tk,A++cellsOfA p o (f:Int) (f+j) (t - (f+j:Nat)).toNat,E++cellsOfE p o (f:Int) (f+j) (t - (f+j:Nat)).toNat,())):=by
 obtain ⟨hc1,hc2,hc3⟩:=hc;have hcl:=g4V p.Code f hft ht;intro n;induction n with
 | zero=>intro j A E h1 h2; omega
 | succ n ih =>
  intro j A E h1 h2 hA hE;show f5m N (f2G N n) nn ii (cutV p.Code (f:Int) t) (len (cutV p.Code (f:Int) t)) (j:Int) p.Code p.Size p.Data o rb ro nn i2 so (f:Int) t nx tk A E = _;unfold f5m;by_cases hi:(f:Int)+j < t
  ·
   have hw:w.i64 ((f:Int)+(j:Int)) = ((f+j:Nat):Int):=by rw [wI (by omega) (by omega)]; omega
   have hX:=g1q (p.Code.getD (f+j) a0o.z) o ((f+j:Nat):Int) (j:Int);have hrec:=ih (j+1) (A++(emitM (p.Code.getD (f+j) a0o.z) o ((f+j:Nat):Int) (j:Int)).1) (E++(emitM (p.Code.getD (f+j) a0o.z) o ((f+j:Nat):Int) (j:Int)).2) (by omega) (by omega) (by rw [List.length_append]; omega) (by rw [List.length_append]; omega);have hof:((f+j:Nat):Int) - (f:Int) = (j:Int):=by omega
   have hcA:cellsOfA p o (f:Int) (f+j) (t - (f+j:Nat)).toNat = (emitM (p.Code.getD (f+j) a0o.z) o ((f+j:Nat):Int) (j:Int)).1++cellsOfA p o (f:Int) (f+(j+1)) (t - (f+(j+1):Nat)).toNat:=by
    unfold cellsOfA fromM;rw [show (t - ((f+j:Nat):Int)).toNat = (t - (f+(j+1):Nat)).toNat+1 by omega,List.range'_succ,List.map_cons,List.flatMap_cons,hof];rfl
   have hcE:cellsOfE p o (f:Int) (f+j) (t - (f+j:Nat)).toNat = (emitM (p.Code.getD (f+j) a0o.z) o ((f+j:Nat):Int) (j:Int)).2++cellsOfE p o (f:Int) (f+(j+1)) (t - (f+(j+1):Nat)).toNat:=by
    unfold cellsOfE fromM;rw [show (t - ((f+j:Nat):Int)).toNat = (t - (f+(j+1):Nat)).toNat+1 by omega,List.range'_succ,List.map_cons,List.flatMap_cons,hof];rfl
   rw [a1f (show j < (cutV p.Code (f:Int) t).length by omega),hcA,hcE];simp only [g7k,a1Q (show j < (cutV p.Code (f:Int) t).length by omega),g7n,Int.toNat_natCast,hw,g5E p.Code f j hi ht,g4J _ o _ _ hN,g4u _ o _ _ hN,g7j,g7m,g7l,wS (show j≤100000000 by omega)];rw [rmT (show (A.length+(emitM (p.Code.getD (f+j) a0o.z) o ((f+j:Nat):Int) (j:Int)).1.length)*72≤35184372088832 by omega),g7n,rmT (show (E.length+(emitM (p.Code.getD (f+j) a0o.z) o ((f+j:Nat):Int) (j:Int)).2.length)*72≤35184372088832 by omega),g7n,hrec];simp only [List.append_assoc]
  ·
   rw [a1e (show (cutV p.Code (f:Int) t).length≤j by omega)];have:(t - ((f+j:Nat):Int)).toNat = 0:=by omega
   rw [this];unfold cellsOfA cellsOfE fromM;simp only [List.range'_zero,List.map_nil,List.flatMap_nil,List.append_nil];rfl
theorem g6z (p:a0s) (hc:Right p) (o:List Int) (rb:List a0x) (ro so:List Int) (n i:Int) (h0:0≤i) (h1:i < n) (h2:n≤2000) (v:D0) (hv0:0≤v.1) (hv1:v.1≤v.2.1) (hv2:v.2.1≤p.Code.length) (hN:2000 < N) :
  st_V N n i (dvG XV (p.Code,p.Size,p.Data,o,rb,ro,())) (dvG SV (so,())) v = some (dvG XV (p.Code,p.Size,p.Data,o,rb,ro,()),dvG SV (so,()),fillB p o v):=by
 have hfv:((v.1.toNat:Nat):Int) = v.1:=by omega
 have h3:=withV2 (N:=N) i n i p hc o rb ro so v.1.toNat v.2.1 v.2.2.1 v.2.2.2.1 (by omega) hv2 hN N 0 [] [] (by omega) (by have:=hc.2.1; omega) (by simp) (by simp);rw [hfv,List.nil_append,List.nil_append,Nat.add_zero,hfv] at h3;unfold st_V;refine (c5e XV _ (p.Code,p.Size,p.Data,o,rb,ro,())).trans ?_;refine (c5e SV _ (so,())).trans ?_;show (if sb v.2.1 (len p.Code) = true∧sb v.1 v.2.1 = true then onA 3 (f2G N N n i (cutV p.Code v.1 v.2.1) (len (cutV p.Code v.1 v.2.1)) 0 p.Code p.Size p.Data o rb ro n i so v.1 v.2.1 v.2.2.1 v.2.2.2.1 [] []) _ else none) = _
 rw [if_pos ⟨by simp [sb,len]; omega,by simp [sb]; omega⟩,show f2G N N n i (cutV p.Code v.1 v.2.1) (len (cutV p.Code v.1 v.2.1)) 0 p.Code p.Size p.Data o rb ro n i so v.1 v.2.1 v.2.2.1 v.2.2.2.1 [] [] = _ from h3,g7u];refine (c5e UV _ (n,i,p.Code,p.Size,p.Data,o,rb,ro,n,i,so,v.1,v.2.1,v.2.2.1,v.2.2.2.1,_,_,())).trans ?_;show stV n i n i n i _ = _;unfold stV;rw [if_pos ⟨h0,h1,rfl,rfl,rfl,rfl,wS' h0 (by omega)⟩];rfl
theorem g4x (p:a0s) (hc:Right p) (o:List Int) (rb:List a0x) (ro so:List Int) (n:Int) (h2:n≤2000) (hN:2000 < N):∀ (rest:List D0) (i:Int),0≤i→i+rest.length = n→(∀ v∈rest,0≤v.1∧v.1≤v.2.1∧v.2.1≤p.Code.length) →
  (ol_V N).walk n rest i (dvG XV (p.Code,p.Size,p.Data,o,rb,ro,())) (dvG SV (so,())) = some (dvG XV (p.Code,p.Size,p.Data,o,rb,ro,()),dvG SV (so,()),rest.map (fillB p o))
 | [],i,_,_,_=>rfl
 | v::rest,i,h0,h1,hv=>by
  simp only [List.length_cons] at h1;obtain ⟨g1,g2,g3⟩:=hv v (by simp);have h3:=g6z (N:=N) p hc o rb ro so n i h0 (by omega) h2 v g1 g2 g3 hN;have h6:=g4x p hc o rb ro so n h2 hN rest (i+1) (by omega) (by omega) (fun u hu=>hv u (by simp [hu]));have h3':(ol_V N).step n i (dvG XV (p.Code,p.Size,p.Data,o,rb,ro,())) (dvG SV (so,())) v = some (dvG XV (p.Code,p.Size,p.Data,o,rb,ro,()),dvG SV (so,()),fillB p o v):=h3;refine (OL.walk_cons (ol_V N) n v rest i _ _).trans ?_;rw [h3'];simp only [];rw [h6];rfl
theorem g2e (p:a0s) (o:List Int) (ho:o.length = 16) (hN:2000 < N):f8e N p o = some (0,a0H.dv (withS p o) (gI.dv (withE p o) [])):=by
 unfold f8e withS withE;rw [g1i p o ho hN,g7j,g7m,g7l];cases hcl:closedM p o with
 | false=>rfl
 | true =>
  have hr:=f5s hcl;have hc:=f2e hr;have hcl2:=g0H p;have hll:=(f2C p).len;have hc2:=hc.2.1;have h5:=g4x (N:=N) p hc o [] (List.replicate 16 0) o ((cutM p).length:Int) (by omega) hN (cutM p) 0 (by omega) (by omega) (fun v hv=>by have:=g0F hr v hv; omega);have hl:f3e N N (len (cutM p)) 0 p.Code p.Size p.Data o [] (List.replicate 16 0) (cutM p) o = some (1,dvG LU (p.Code,p.Size,p.Data,o,[],List.replicate 16 0,(cutM p).map (fillB p o),o,())):=by
   unfold f3e;rw [if_pos ⟨rfl,rfl⟩,h5];rfl
  rw [Bool.not_true,g7i,g2h p hN hr,g7j,if_pos rfl,if_pos rfl];refine (g7m _ _ _ _ _).trans ?_;rw [g7l];show onA 1 (f3e N N (len (cutM p)) 0 p.Code p.Size p.Data o [] (List.replicate 16 0) (cutM p) o) _ = _;rw [hl,g7u];exact c5e LU _ (p.Code,p.Size,p.Data,o,[],List.replicate 16 0,(cutM p).map (fillB p o),o,())
end Go.Proofs.Zz

/- Whether two splits are the same: the program and the reference alike. -/
set_option maxRecDepth 100000
namespace Go.Proofs.Zz
open Go
open Classical
variable {N:Nat}
theorem g3I (a b:a0h):((a.1 == b.1) && ((a.2.1.1 == b.2.1.1) && ((a.2.1.2.1 == b.2.1.2.1) && ((a.2.1.2.2.1 == b.2.1.2.2.1) && ((a.2.1.2.2.2.1 == b.2.1.2.2.2.1) && ((a.2.1.2.2.2.2.1 == b.2.1.2.2.2.2.1) && ((a.2.2.1 == b.2.2.1) && ((a.2.2.2.1 == b.2.2.2.1) && (a.2.2.2.2.1 == b.2.2.2.2.1))))))))) = decide (a = b):=by
 obtain ⟨k,⟨op,d,a1,b1,im,u1⟩,r,pc,off,u2⟩:=a;obtain ⟨k',⟨op',d',a1',b1',im',u1'⟩,r',pc',off',u2'⟩:=b;rw [Bool.eq_iff_iff];simp only [Bool.and_eq_true,beq_iff_eq,decide_eq_true_eq];constructor
 ·
  rintro ⟨h1,h2,h3,h4,h5,h6,h7,h8,h9⟩
  subst h1 h2 h3 h4 h5 h6 h7 h8 h9;rfl
 ·
  intro h;cases h;exact ⟨rfl,rfl,rfl,rfl,rfl,rfl,rfl,rfl,rfl⟩
theorem g0G {α:Type} (a b:α) (l m:List α) [Decidable (a::l = b::m)] [Decidable (a = b)] [Decidable (l = m)]:decide (a::l = b::m) = (decide (a = b) && decide (l = m)):=by
 rw [Bool.eq_iff_iff];simp
theorem g3m (a b:List a0h) (hab:a.length = b.length) (hl:a.length≤100000):∀ (n i:Nat),i≤a.length→a.length - i < n →
  f2F N n a b (len a) (i:Int) = if decide (a.drop i = b.drop i) = true then some (1,[]) else some (0,gB.dv false []):=by
 intro n;induction n with
 | zero=>intro i h1 h2; omega
 | succ n ih =>
  intro i h1 h2;show f3a N (f2F N n) a b (len a) (i:Int) = _;unfold f3a;by_cases hi:i < a.length
  ·
   have hrec:=ih (i+1) (by omega) (by omega);rw [a1f hi,g7k,a1Q hi,g7n,a1Q (show i < b.length by omega),g7n,g3I,Int.toNat_natCast,wS (show i≤100000000 by omega),hrec,f2q hi a0h.z,f2q (show i < b.length by omega) a0h.z,g0G];cases decide (a.getD i a0h.z = b.getD i a0h.z) with
   | false=>rw [Bool.not_false,g7k,Bool.false_and,if_neg (by simp)]
   | true=>rw [Bool.not_true,g7i,Bool.true_and]
  ·
   have:i = a.length:=by omega
   subst this;rw [a1e (by omega),g7i,List.drop_length,hab,List.drop_length];rfl
theorem g4y (a b:List a0h) (hl:a.length≤100000) (hN:a.length < N):f2s N a b = some (0,gB.dv (decide (a = b)) []):=by
 unfold f2s;by_cases h:a.length = b.length
 ·
  have h0:=g3m (N:=N) a b h hl N 0 (by omega) (by omega);rw [List.drop_zero,List.drop_zero] at h0;rw [show (len a != len b) = false by simp [len,h],g7i,show f2F N N a b (len a) 0 = _ from h0];cases decide (a = b) with
  | true=>rw [if_pos rfl,g7t _ _ (by decide),g7l]
  | false=>rw [if_neg (by simp),g7v,g7m,g7l]
 · rw [show (len a != len b) = true by simp only [len,bne_iff_ne,ne_eq]; omega,g7k,df (fun e=>h (by rw [e]))]
def ShortB (n:Nat) (b:a0x):Prop:=b.2.2.2.2.1.length≤n∧b.2.2.2.2.2.1.length≤n
theorem g1P (a b:List a0h) (hl:b.length≤100000) (hN:b.length < N):f2s N a b = some (0,gB.dv (decide (a = b)) []):=by
 by_cases h:a.length = b.length
 · exact g4y a b (by omega) (by omega)
 ·
  unfold f2s;rw [show (len a != len b) = true by simp only [len,bne_iff_ne,ne_eq]; omega,g7k,df (fun e=>h (by rw [e]))]
theorem g3W (a b:a0x) (hb:ShortB 100000 b) (hN:100000 < N):f7Z N a b = some (0,gB.dv (decide (a = b)) []):=by
 obtain ⟨h1,h2⟩:=hb;obtain ⟨f,t,nx,tk,A,E,u⟩:=a;obtain ⟨f',t',nx',tk',A',E',u'⟩:=b;simp only at h1 h2;unfold f7Z;simp only [g1P (N:=N) A A' h1 (by omega),g1P (N:=N) E E' h2 (by omega),g7j,g7m,g7l];by_cases c1:f = f'
 ·
  rw [bt c1,g7k];by_cases c2:t = t'
  ·
   rw [bt c2,g7k];by_cases c3:nx = nx'
   ·
    rw [bt c3,g7k];by_cases c4:tk = tk'
    ·
     rw [bt c4,g7k];by_cases c5:A = A'
     ·
      rw [dt c5,g7k];by_cases c6:E = E'
      · rw [dt c6,dt (by rw [c1,c2,c3,c4,c5,c6])]
      · rw [df c6,df (fun e=>c6 (by cases e; rfl))]
     · rw [df c5,g7i,df (fun e=>c5 (by cases e; rfl))]
    · rw [bf c4,g7i,df (fun e=>c4 (by cases e; rfl))]
   · rw [bf c3,g7i,df (fun e=>c3 (by cases e; rfl))]
  · rw [bf c2,g7i,df (fun e=>c2 (by cases e; rfl))]
 · rw [bf c1,g7i,df (fun e=>c1 (by cases e; rfl))]
theorem g2C (a b:List a0x) (hab:b.length = a.length) (hl:b.length≤100000) (hs:∀ v∈b,ShortB 100000 v) (hN:100000 < N):∀ (n i:Nat),i≤b.length→b.length - i < n →
  f2l N n b a (len a) (i:Int) = if decide (a.drop i = b.drop i) = true then some (1,[]) else some (0,gB.dv false []):=by
 intro n;induction n with
 | zero=>intro i h1 h2; omega
 | succ n ih =>
  intro i h1 h2;show f2v N (f2l N n) b a (len a) (i:Int) = _;unfold f2v;by_cases hi:i < b.length
  ·
   have hrec:=ih (i+1) (by omega) (by omega);have hm:=hs _ (a1E a0x.z hi);rw [a1f (show i < a.length by omega),g7k,a1Q (show i < a.length by omega),g7n,a1Q hi,g7n,Int.toNat_natCast,g3W _ _ hm hN,g7j,g7m,g7l,wS (show i≤100000000 by omega),hrec,f2q hi a0x.z,f2q (show i < a.length by omega) a0x.z,g0G];cases decide (a.getD i a0x.z = b.getD i a0x.z) with
   | false=>rw [Bool.not_false,g7k,Bool.false_and,if_neg (by simp)]
   | true=>rw [Bool.not_true,g7i,Bool.true_and]
  ·
   have:i = b.length:=by omega
   subst this;rw [a1e (by omega),g7i,List.drop_length,hab,List.drop_length];rfl
theorem g4k (a b:List a0x) (hl:b.length≤10000) (hs:∀ v∈b,ShortB 100000 v) (hN:100000 < N):f2K N a b = some (0,gB.dv (decide (a = b)) []):=by
 unfold f2K;by_cases h:b.length = a.length
 ·
  have h0:=g2C (N:=N) a b h (by omega) hs hN N 0 (by omega) (by omega);rw [List.drop_zero,List.drop_zero] at h0;rw [show (len a != len b) = false by simp [len,h],g7i,show f2l N N b a (len a) 0 = _ from h0];cases decide (a = b) with
  | true=>rw [if_pos rfl,g7t _ _ (by decide),g7l]
  | false=>rw [if_neg (by simp),g7v,g7m,g7l]
 · rw [show (len a != len b) = true by simp only [len,bne_iff_ne,ne_eq]; omega,g7k,df (fun e=>h (by rw [e]))]
/-! Splits of programs are short -/
theorem f8J {p:a0s} {o:List Int} (h:closedM p o = true):(withS p o).Blocks.length≤10000∧(∀ v∈(withS p o).Blocks,ShortB 100000 v)∧(withS p o).Owner = o:=by
 have hr:=f5s h;have hc:=(f2e hr).2.1;unfold withS;rw [if_pos h];refine ⟨?_,?_,rfl⟩
 ·
  simp only [List.length_map];have:=(f2C p).len;rw [g0H];omega
 ·
  intro v hv;obtain ⟨d,hd,rfl⟩:=List.mem_map.1 hv;have hb:=g0F hr d hd;have:=g3X p o d.1 d.1.toNat (d.2.1 - d.1).toNat
  unfold ShortB fillB;simp only;omega
noncomputable def rightSM (p:a0s) (s:a0g):Bool:=closedM p s.Owner && decide (s.Blocks = (withS p s.Owner).Blocks)
theorem f9v {p:a0s} {s:a0g} (h:rightSM p s = true):Spl p s.Owner s:=by
 unfold rightSM at h;simp only [Bool.and_eq_true,decide_eq_true_eq] at h;obtain ⟨h1,h2⟩:=h;refine ⟨?_,h1⟩;unfold withS at h2;rw [if_pos h1] at h2;obtain ⟨b,o⟩:=s;simp only at h2 ⊢;rw [h2]
theorem g2w (p:a0s) (s:a0g) (ho:s.Owner.length = 16) (hN:100000 < N):f7V N p s = some (0,gB.dv (rightSM p s) []):=by
 unfold f7V rightSM;rw [g2e p _ ho (by omega),g7j,g7m,g7m,g7l];unfold withE;cases hc:closedM p s.Owner with
 | false=>rfl
 | true =>
  obtain ⟨h1,h2,h3⟩:=f8J hc;rw [if_pos rfl,bt rfl,g7k,Bool.true_and];unfold f9y;rw [show (s.Owner == (withS p s.Owner).Owner) = true by rw [h3]; simp,g7k,g4k _ _ h1 h2 hN];simp only [g7j,g7m,g7l]
end Go.Proofs.Zz

/- The core's run is the reference's. -/
set_option maxRecDepth 100000
namespace Go.Proofs.Zz
open Go
variable {N:Nat}
/-! A cycle -/
theorem g3l {c:a0f} {s:a0g} (t:a0w) {x:a0b} {k:Nat} (hs:SplitOk s.Blocks) (h:RI k c s x) (hk:k≤12000) :
  rightM c s x = true∧rightM c s (sendM c (moveM c t x)) = true∧rightM c s (turnE c s (sendM c (moveM c t x))) = true:=by
 have hr:=h.right (by omega);have hI:=h.inv;have hb:=Bnd.of hr;have hcy:=h.cyc;have hlat:=h.lat
 have hpck:=h.pck;obtain ⟨m1,y,hy,hl,hp,bg⟩:=c7l (t:=t) hI (by omega) hr;obtain ⟨r1,_,_⟩:=e7m h.rp m1 hy hl hp bg hb.bk (by omega) (by omega) (by omega) (by omega);have sd:=e2j c (moveM c t x) (by have:=m1.tab; have:=hb.tab; omega);obtain ⟨r2,_⟩:=e7S r1 sd;have fr1:=m1.fr;have fr2:=sd.fr;have c2:(sendM c (moveM c t x)).Cycle = x.Cycle:=by rw [fr2]; show (moveM c t x).Cycle = _; rw [fr1]
 have r3:=e5T hs r2 (by omega) (by omega) (by rw [c2]; omega) (by omega);exact ⟨hr,r2.right (by omega) (by omega) (by omega),r3.right (by omega) (by omega) (by omega)⟩
theorem g3c (c:a0f) (s:a0g) (t:a0w) (x:a0b) {k:Nat} (hs:SplitOk s.Blocks) (h:RI k c s x) (hk:k≤12000) (hl:s.Blocks.length≤100000) (hN:s.Blocks.length < N) (hN2:1001 < N) :
  f8V N c s t x = some (0,a0c.dv (stepM c s t x) []):=by
 obtain ⟨hr,hr2,hr3⟩:=g3l t hs h hk;have hn:=NextOk.of hs;have hI:=h.inv;have hb:=Bnd.of hr;have ht:=hb.tab;have hlq:=hI.ldq;have hwr:=hI.wri;obtain ⟨i2,i1⟩:=c6B (t:=t) hI (by omega) hr;have hw2:=i2.wf (by omega);have ht1:=i1.tab;obtain ⟨i3,_⟩:=invE i2 hr2;unfold f8V stepM issueE;rw [if_pos hr,e3w (N:=N) c t x hb.bk hb.la (by omega) (Lefts.of hr) (fun q hq=>e7X (b4n hr q hq)) hI.mem (by omega) (by omega) hN2,g7j,g7m,g7l,e4c c _ (by omega) hN2,g7j,g7m,g7l,d3Y c s _ hw2 hl hN hN2 hn (a6O (b1P hr2)),g7j,g7m,g7l,d4f c s _ i3.wfa hl hN hN2 hn (a6O (b7L hr3)),g7j,g7m,g7l,if_pos hr2];unfold issueA;rw [if_pos hr3]
theorem f9k (c:a0f) (s:a0g) (x:a0b) (hx:Wf x) (hr:rightM c s x = true) (hl:s.Blocks.length≤100000) (hN:s.Blocks.length < N) (hN2:1001 < N):c3l N s x = some (0,gB.dv (overS c s x) []):=by
 unfold c3l overS;rw [hr,Bool.not_true,Bool.false_or,d8Q s x x.A false hl hN,g7j,g7m,g7l,d8Q s x x.E true hl hN,g7j,g7m,g7l,e5R _ _ hx.saq hN2,g7j,g7m,g7m,g7l];by_cases h0:x.Table.length = 0
 ·
  rw [df (show ¬ len x.Table > 0 by simp only [len]; omega),g7i,decide_eq_true h0,Bool.true_and];cases restM s false x.A x <;> cases restM s true x.E x <;> rfl
 · rw [dt (show len x.Table > 0 by simp only [len]; omega),g7k,decide_eq_false h0]; rfl
/-! Memory at first -/
def memM (p:a0s):List Int:=p.Data++List.replicate (p.Size.toNat - p.Data.length) 0
theorem f5u {p:a0s} (h:rightP p = true):0≤p.Size∧p.Size≤65536∧(p.Data.length:Int)≤p.Size:=by
 unfold rightP at h;simp only [Bool.and_eq_true,decide_eq_true_eq] at h;exact h.1.2.2
theorem g5G {p:a0s} (h:rightP p = true):laid (List.replicate p.Size.toNat (0:Int)) 0 (List.take (List.length (List.replicate p.Size.toNat (0:Int))) p.Data) = memM p:=by
 obtain ⟨h1,h2,h3⟩:=f5u h;unfold laid memM;rw [List.length_replicate,List.take_of_length_le (show p.Data.length≤p.Size.toNat by omega),List.take_zero,List.nil_append,Nat.zero_add,List.drop_replicate]
theorem g1Z {p:a0s} (h:rightP p = true):(memM p).length = p.Size.toNat:=by
 obtain ⟨h1,h2,h3⟩:=f5u h;unfold memM;rw [List.length_append,List.length_replicate];omega
theorem f9o {p:a0s} (h:rightP p = true):f8b N p = some (0,(gD (.sl tU)).dv (memM p) []):=by
 obtain ⟨h1,h2,h3⟩:=f5u h;unfold f8b;rw [show decide (0≤p.Size∧p.Size≤p.Size∧p.Size*((1:Nat):Int)≤((reach:Nat):Int)∧p.Size≤((reach:Nat):Int)) = true from decide_eq_true (by simp only [reach]; omega),g7n,g5G h]
theorem g1D {p:a0s} (h:rightP p = true) (hN:2000 < N):f6R N p = some (0,a0c.dv (st0 (memM p)) []):=by
 unfold f6R;rw [f6b p hN,g7j,g7m,g7l,h,Bool.not_true,g7i,f9o h,g7j,g7m,g7l]
/-! Cycles, as many as there are, or till it is over -/
def runN (c:a0f) (s:a0g) (t:a0w):Nat→a0b→a0b
 | 0,x=>x
 | n+1,x=>if overS c s x = true then x else runN c s t n (stepM c s t x)
abbrev res0:f1Y:=f1Y.mk 0 a1X.z 0 (List.replicate 16 (0 :Int)) ([]:List Int) ([]:List a0K)
section
variable (c:a0f) (t:a0w) (s:a0g)
theorem g5g (r:f1Y) (z:a0b) (hs:SplitOk s.Blocks) (hl:s.Blocks.length≤100000) (hN:s.Blocks.length < N) (hN2:1001 < N):∀ (n m k:Nat) (x:a0b),m < n→RI k c s x→k+m≤12000 →
  f8a N n (overS c s x) (m:Int) s c t r z x = some (1,gB.dv (overS c s (runN c s t m x)) (a0H.dv s (f2a.dv r (a0c.dv z (a0c.dv (runN c s t m x) []))))):=by
 intro n;induction n with
 | zero=>intro m k x h; omega
 | succ n ih =>
  intro m k x hm h hk;show f8j N (f8a N n) (overS c s x) (m:Int) s c t r z x = _;unfold f8j;cases m with
  | zero=>rfl
  | succ m =>
   rw [dt (show ((m+1:Nat):Int) > 0 by omega),g7k];unfold runN;cases ho:overS c s x with
   | true=>rw [Bool.not_true,g7i,if_pos rfl,ho]
   | false =>
    obtain ⟨h2,_⟩:=e4R t hs h (by omega) hl;rw [Bool.not_false,g7k,if_neg (by simp),g3c c s t x hs h (by omega) hl hN hN2,g7j,g7m,g7l,f9k c s _ (h2.inv.wf (by omega)) (h2.right (by omega)) hl hN hN2,g7j,g7m,g7l,wI (x:=((m+1:Nat):Int) - 1) (by omega) (by omega),show ((m+1:Nat):Int) - 1 = (m:Int) by omega];exact ih m (k+1) _ (by omega) h2 (by omega)
theorem g2i (hs:SplitOk s.Blocks) (hl:s.Blocks.length≤100000):∀ (m k:Nat) (x:a0b),RI k c s x→k+m≤12000→∃ j,j≤m∧RI (k+j) c s (runN c s t m x)∧(overS c s (runN c s t m x) = false→j = m)
 | 0,k,x,h,_=>⟨0,by omega,h,fun _=>rfl⟩
 | m+1,k,x,h,hk=>by
  unfold runN;cases ho:overS c s x with
  | true=>rw [if_pos rfl]; exact ⟨0,by omega,h,fun h=>by rw [ho] at h; cases h⟩
  | false =>
   rw [if_neg (by simp)];obtain ⟨h2,_⟩:=e4R t hs h (by omega) hl;obtain ⟨j,hj,hr,he⟩:=g2i hs hl m (k+1) _ h2 (by omega);exact ⟨j+1,by omega,by rw [show k+(j+1) = k+1+j by omega]; exact hr,fun h=>by rw [he h]⟩
theorem g6N (n:Nat) (x:a0b):runN c s t (n+1) x = if overS c s x = true then x else runN c s t n (stepM c s t x):=rfl
end
/-! What a state that is over comes to -/
def mergeM (s:a0g) (x:a0b):Nat→Nat→List Int→List Int
 | 0,_,o=>o
 | n+1,i,o=>mergeM s x n (i+1) (if s.Owner.getD i 0 = 1 then o.set i (x.A.Regs.getD i 0) else if s.Owner.getD i 0 = 2 then o.set i (x.E.Regs.getD i 0) else o)
theorem g3v (s:a0g) (x:a0b) (n i:Nat) (o:List Int):mergeM s x (n+1) i o = mergeM s x n (i+1) (if s.Owner.getD i 0 = 1 then o.set i (x.A.Regs.getD i 0) else if s.Owner.getD i 0 = 2 then o.set i (x.E.Regs.getD i 0) else o):=rfl
def regsM (s:a0g) (x:a0b):List Int:=mergeM s x 15 1 (List.replicate 16 0)
theorem g4d (s:a0g) (x:a0b) (r:List Int):∀ (n m i:Nat) (o:List Int),i+m = 16→m < n →
  f4Q N n (i:Int) s x r o = some (1,(gD (.ar 16 tW)).dv r ((gD (.ar 16 tW)).dv (mergeM s x m i o) [])):=by
 intro n;induction n with
 | zero=>intro m i o h1 h2; omega
 | succ n ih =>
  intro m i o h1 h2;show f5P N (f4Q N n) (i:Int) s x r o = _;unfold f5P;cases m with
  | zero =>
   have:i = 16:=by omega
   subst this;rfl
  | succ m =>
   have hrec:=fun o=>ih m (i+1) o (by omega) (by omega)
   rw [dt (show (i:Int) < 16 by omega),g7k,a1Q (show i < 16 by omega),g7n,Int.toNat_natCast,wS (show i≤100000000 by omega),g7n,g7n,g7n,g7n,hrec,hrec,hrec];rw [g3v];by_cases c1:s.Owner.getD i 0 = 1
   · rw [bt c1,g7k,if_pos c1]
   ·
    rw [bf c1,g7i,if_neg c1];by_cases c2:s.Owner.getD i 0 = 2
    · rw [bt c2,g7k,if_pos c2]
    · rw [bf c2,g7i,if_neg c2]
theorem f7L (s:a0g) (x:a0b) (hN:100 < N):f6u N s x = some (0,(gD (.ar 16 tW)).dv (regsM s x) []):=by
 unfold f6u regsM;have h:=g4d (N:=N) s x (List.replicate 16 0) N 15 1 (List.replicate 16 0) (by omega) (by omega);rw [show f4Q N N 1 s x (List.replicate 16 0) (List.replicate 16 0) = _ from h,g7u,g7m,g7m,g7l]
def resR (s:a0g) (x:a0b):f1Y :=
 if x.Trap.Kind≠0 then f1Y.mk 2 x.Trap x.Trap.Step (List.replicate 16 (0 :Int)) x.Mem x.Writes
 else f1Y.mk 1 a1X.z (endM s x.A.Pos) (regsM s x) x.Mem x.Writes
theorem g2k (s:a0g) (x:a0b) (h:Wf x) (hN:100 < N):f8d N s x = some (0,f2a.dv (resR s x) []):=by
 unfold f8d a7k a2I resR;have h8:=h.mem;have h9:=h.wri;simp only [rm0 (l:=x.Mem) (n:=1) (by omega),rm0 (l:=x.Writes) (n:=24) (by omega),g7n,g7j,g7m,g7l,List.nil_append,b6X,f7L s x hN];by_cases hk:x.Trap.Kind = 0
 · rw [show (x.Trap.Kind != 0) = false by rw [hk]; rfl,g7i,if_neg (by simp [hk])]
 · rw [show (x.Trap.Kind != 0) = true from bne_iff_ne.2 hk,g7k,if_pos hk]
def outM (c:a0f) (s:a0g) (x:a0b):f1Y:=if overS c s x = true then resR s x else f1Y.mk 3 a1X.z 0 (List.replicate 16 (0 :Int)) ([]:List Int) ([]:List a0K)
theorem f9J (p:a0s) (s:a0g) (c:a0f) (t:a0w) (f:Int) (ho:s.Owner.length = 16) (hf:f≤10000) (hN:100000 < N) :
  f9B N p s c t f = (if cfgM c = true∧rightSM p s = true then some (0,f2a.dv (outM c s (runN c s t f.toNat (st0 (memM p)))) (a0c.dv (runN c s t f.toNat (st0 (memM p))) (gI.dv 0 [])))
   else some (0,f2a.dv res0 (a0c.dv (st0 []) (gI.dv 1 [])))):=by
 unfold f9B;rw [e2d c (by omega),g7j,g7m,g7l];cases hc:cfgM c with
 | false=>rw [Bool.not_false,g7k,if_neg (by simp)]
 | true =>
  rw [Bool.not_true,g7i,g2w p s ho hN,g7j,g7m,g7l];cases hr:rightSM p s with
  | false=>rw [Bool.not_false,g7k,if_neg (by simp)]
  | true =>
   have hsp:=f9v hr;have hs:=hsp.next.2
   have hrp:=hsp.right;have hll:s.Blocks.length≤2000:=by rw [hsp.len]; have:=(f2C p).len; have:=(f2e hrp).2.1; omega
   have hmem:len (memM p)≤65536:=by have:=f5u hrp; simp only [len,g1Z hrp]; omega
   have h0:=e4P hc hs hmem;have hfu:(if 0 < (if 1000000 < f then 1000000 else f) then (if 1000000 < f then 1000000 else f) else 0) = ((f.toNat:Nat):Int):=by
    rw [if_neg (show ¬ 1000000 < f by omega)];split <;> omega
   have hlp:=g5g (N:=N) c t s res0 (st0 []) hs (by omega) (by omega) (by omega) N f.toNat 0 (st0 (memM p)) (by omega) h0 (by omega);obtain ⟨j,hj,hR,_⟩:=g2i c t s hs (by omega) f.toNat 0 (st0 (memM p)) h0 (by omega);rw [Bool.not_true,g7i,g1D hrp (by omega),g7j,g7m,g7l,f9k c s _ (h0.inv.wf (by omega)) (h0.right (by omega)) (by omega) (by omega) (by omega),g7j,g7m,g7l,hfu,hlp,g7u];simp only [g7m,g7l,g2k s _ (hR.inv.wf (by omega)) (by omega:100 < N),g7j];rw [if_pos (by simp)];unfold outM;cases overS c s (runN c s t f.toNat (st0 (memM p))) <;> rfl
end Go.Proofs.Zz

/- RunTells, RunFuel: the plain laws. -/
set_option maxRecDepth 100000
namespace Go.Proofs.Zz
open Go
variable {N:Nat}
theorem g4S (r:f1Y) (hl:r.Writes.length≤100000):∀ (n i:Nat),i≤r.Writes.length→r.Writes.length - i < n→f4m N n (i:Int) r r = some (1,[]):=by
 intro n;induction n with
 | zero=>intro i h0 h1; omega
 | succ n ih =>
  intro i h0 h1;show f5o N (f4m N n) (i:Int) r r = _;unfold f5o;by_cases hi:i < r.Writes.length
  ·
   rw [a1f hi];simp only [g7k,a1Q hi,g7n,Int.toNat_natCast,beq_self_eq_true,Bool.and_self,Bool.not_true,g7i,wS (show i≤100000000 by omega)];exact ih (i+1) (by omega) (by omega)
  · rw [a1e (by omega)]; rfl
theorem g2J (r:f1Y) (hl:r.Writes.length≤100000) (hN:100000 < N):f7W N r r = some (0,gB.dv true []):=by
 unfold f7W;have h:=g4S (N:=N) r hl N 0 (by omega) (by omega);simp only [bne_self_eq_false,g7i,beq_self_eq_true,Bool.and_self,Bool.not_true];rw [show f4m N N 0 r r = _ from h,g7t _ _ (by decide),g7l]
theorem g1d (r:f1Y) (hl:r.Writes.length≤100000) (hN:100000 < N):f3Y N r r = some (0,gB.dv true []):=by
 unfold f3Y;rw [show (r.Regs == r.Regs) = true by simp,g7k,g2J r hl hN,g7j,g7m,g7l]
/-! Owners -/
theorem g4P {l o:List Int} {f:Int→Nat} {v:Int} (h:o.length = 16):(l.foldl (fun o r=>o.set (f r) v) o).length = 16:=by
 induction l generalizing o with
 | nil=>exact h
 | cons a l ih=>exact ih (by rw [List.length_set]; exact h)
theorem g4z {o:List Int} (x:a0o) (h:o.length = 16):(giveM o x).length = 16:=by
 unfold giveM;have h1:(if (formM x.1 = 4∨formM x.1 = 5)∧0 < x.2.2.1 then o.set x.2.2.1.toNat 1 else o).length = 16:=by
  split
  · rw [List.length_set]; exact h
  · exact h
 dsimp only
 generalize (if (formM x.1 = 4∨formM x.1 = 5)∧0 < x.2.2.1 then o.set x.2.2.1.toNat 1 else o) = o1 at h1 ⊢;split
 · exact g4P (f:=fun r=>r.toNat) h1
 · exact h1
theorem g3M (p:a0s):∀ (n:Nat) (o:List Int),o.length = 16→(ownN p n o).length = 16
 | 0,o,h=>h
 | n+1,o,h=>by
  unfold ownN;refine g3M p n _ ?_;generalize p.Code = l;induction l generalizing o with
  | nil=>exact h
  | cons a l ih=>exact ih _ (g4z a h)
theorem g4r (p:a0s):(ownerM p).length = 16:=by
 unfold ownerM;split
 · exact g3M p 17 _ rfl
 · rfl
theorem g6U (pick:Int) (r:List Int):∀ (n:Nat) (i:Int) (o:List Int),1≤i→i≤16→16 - i < n→o.length = 16 →
  ∃ o',a9y N n pick i r o = some (1,(gD (.ar 16 tI)).dv r ((gD (.ar 16 tI)).dv o' []))∧o'.length = 16:=by
 intro n;induction n with
 | zero=>intro i o h0 h1 h2; omega
 | succ n ih =>
  intro i o h0 h1 h2 h3;show ∃ o',a9w N (a9y N n) pick i r o = _∧_
  unfold a9w;by_cases hi:i < 16
  ·
   have hu:w.u64 i = i:=IntWalk.u64_in _ (by omega);rw [dt hi,a1l (by omega) (by omega),hu,df (show ¬ i < 0 by omega),wS' (by omega) (by omega)];simp only [g7k,g7n,g7w];simp only [a1u];split
   · exact ih _ _ (by omega) (by omega) (by omega) (by simp [h3])
   · exact ih _ _ (by omega) (by omega) (by omega) (by simp [h3])
  ·
   rw [df hi];exact ⟨_,rfl,h3⟩
theorem g1O {p:a0s} {o:List Int} (h:closedM p o = true):rightSM p (withS p o) = true∧(withS p o).Owner = o:=by
 have e:(withS p o).Owner = o:=(f8J h).2.2;unfold rightSM;rw [e,h];exact ⟨by simp,rfl⟩
/-! The example -/
abbrev pEx:a0s:=a0s.mk [(17,(3,(0,(0,(7,()))))),(31,(0,(0,(3,(4,()))))),(41,(0,a0K.z))] 8 ([]:List Int)
abbrev cOne:a0f:=a0f.mk 1 1 1 1 1 1 1 1 1 1 1 1
theorem g5R:d8d N = some (0,a0D.dv cOne []):=rfl
theorem g3f:closedM pEx (ownerM pEx) = true:=by kernel_rfl
theorem g5T:cfgM cOne = true:=by kernel_rfl
theorem g4L:((outM cOne (withS pEx (ownerM pEx)) (runN cOne (withS pEx (ownerM pEx)) (a0w.mk [] []) 100 (st0 (memM pEx)))).End,(outM cOne (withS pEx (ownerM pEx)) (runN cOne (withS pEx (ownerM pEx)) (a0w.mk [] []) 100 (st0 (memM pEx)))).Regs.getD 3 0,len (outM cOne (withS pEx (ownerM pEx)) (runN cOne (withS pEx (ownerM pEx)) (a0w.mk [] []) 100 (st0 (memM pEx)))).Writes) = (1,7,1):=by kernel_rfl
theorem g4n:f9q 200000 = some (0,gB.dv true []):=by
 unfold f9q;obtain ⟨e1,e2,e3⟩:_ = (1:Int)∧_ = (7:Int)∧_ = (1:Int):=⟨congrArg (·.1) g4L,congrArg (·.2.1) g4L,congrArg (·.2.2) g4L⟩;simp only at e1 e2 e3;have hb:¬ (cfgM a0f.z = true∧rightSM (a0s.mk ([]:List a0o) 0 ([]:List Int)) (a0g.mk ([]:List a0x) (List.replicate 16 (0 :Int))) = true):=by
  rintro ⟨h,_⟩
  exact absurd h (by decide)
 rw [g5e _ (by omega),g7j,g7m,g7m,g7l,f9J _ _ _ _ _ rfl (by omega) (by omega),if_neg hb];simp only [g7j,g7m,g7l,g5R];rw [f9J pEx (withS pEx (ownerM pEx)) cOne (a0w.mk [] []) 100 (by rw [(g1O g3f).2]; exact g4r pEx) (by omega) (by omega),if_pos ⟨g5T,(g1O g3f).1⟩];simp only [g7j,g7m,g7l];unfold f8G;simp only [g7j,g7m,g7l];show bi ((1:Int) == 1) (bi ((0:Int) == 0) _ _) _ = _;rw [bt rfl,g7k,bt rfl,g7k,show ((100:Int).toNat) = 100 from rfl,bt e1,g7k,a1l (by omega) (by omega),g7n,bt e2,g7k,bt e3]
theorem g5o (p:a0s):∃ b,c8s N p = some (0,gB.dv b [])∧(b = true→p.Code.length≤200∧p.Data.length≤500∧p.Size≤300):=by
 unfold c8s;rw [e6F,g7j,g7m,g7l];by_cases h:p.Code.length≤200∧p.Data.length≤500
 ·
  rw [dt h,g7k];exact ⟨_,rfl,fun hb=>⟨h.1,h.2,of_decide_eq_true hb⟩⟩
 ·
  rw [df h,g7i];exact ⟨_,rfl,fun hb=>by cases hb⟩
theorem g4m {c:a0f} {s:a0g} {x:a0b} (h:Wf x):(outM c s x).Writes.length≤100000:=by
 have h9:=h.wri;unfold outM resR;split
 · split <;> (simp only; omega)
 · simp
end Go.Proofs.Zz
