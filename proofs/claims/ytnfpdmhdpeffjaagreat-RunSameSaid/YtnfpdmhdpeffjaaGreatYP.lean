import Derived.Test.YtnfpdmhdpeffjaaGreatXA
import Derived.Test.YtnfpdmhdpeffjaaGreatMK
set_option linter.unusedSimpArgs false
set_option linter.unusedVariables false
set_option maxRecDepth 100000
namespace Go.Proofs.Zz
open Go
structure GS where
 pc:Nat
 regs:Int→Int
 mem:List Int
def gv (g:GS) (r:Int):Int:=if 1≤r∧r≤15 then g.regs r else 0
def updG (f:Int→Int) (r v:Int):Int→Int:=λq=>if q=r then v else f q
def c9 (g:GS) (i:af):Int:=w.u32 (gv g i.2.2.1+w.u32 i.2.2.2.2.1)
def gDo (g:GS) (i:af):Int × Bool:=doM i (gv g i.2.2.1) (gv g i.2.2.2.1)
def gTk (g:GS) (i:af):Bool:=fX i.1 (gv g i.2.2.1) (gv g i.2.2.2.1)
def bX (g:GS) (i:af):Int :=
 if ae i.1≤3 then (if (gDo g i).2=true then 0 else 3) else if ae i.1≤5 then jP (aZ i.1) (c9 g i) (len g.mem) else 0
def gWr (g:GS) (i:af):bv:=(c9 g i,(aZ i.1,(fB (gv g i.2.2.2.1) (aZ i.1),())))
def goes (g:GS) (i:af):Bool:=decide (ae i.1=7)||(decide (ae i.1=6)&&gTk g i)
def gPc (p:aw) (g:GS) (i:af):Nat:=if goes g i=true then (tgtM p (g.pc:Int)).toNat else if ae i.1=8 then g.pc else g.pc+1
def rgsG (g:GS) (i:af):Int→Int :=
 if bX g i≠0 then g.regs else if ae i.1≤3 then updG g.regs i.2.1 (gDo g i).1 else if ae i.1=4 then updG g.regs i.2.1 (bW g.mem i.1 (c9 g i)) else g.regs
def gMem (g:GS) (i:af):List Int:=if ae i.1=5∧bX g i=0 then wrOf g.mem (gWr g i) else g.mem
def stG (p:aw) (g:GS):GS:=if g.pc<p.Code.length then ⟨gPc p g (aQ p g.pc),rgsG g (aQ p g.pc),gMem g (aQ p g.pc)⟩ else g
def runG (p:aw) (m0:List Int):Nat→GS
 | 0=>⟨0,λ_=>0,m0⟩
 | n+1=>stG p (runG p m0 n)
def insG (p:aw) (m0:List Int) (n:Nat):af:=aQ p (runG p m0 n).pc
theorem h0y {op:Int} (h:ae op≠7):op≠40:=by rintro rfl; exact h (by decide)
theorem h0x {op:Int} (h:ae op≠8):op≠41:=by rintro rfl; exact h (by decide)
theorem h0H {f:Int→Int} {r v q:Int} (h:q≠r):updG f r v q=f q:=if_neg h
theorem h0D {f:Int→Int} {r v:Int}:updG f r v r=v:=if_pos rfl
theorem h0W (g:GS) (i:af) {r:Int} (h:r≠i.2.1):rgsG g i r=g.regs r:=by
 unfold rgsG
 repeat' split
 ·rfl
 ·exact h0H h
 ·exact h0H h
 ·rfl
theorem h0X (g:GS) (i:af) (h:5≤ae i.1):rgsG g i=g.regs:=by
 unfold rgsG
 repeat' split
 ·rfl
 ·omega
 ·omega
 ·rfl
def sndR (o:List Int) (i:af):List Int :=
 if bC i=false then [] else if ae i.1≤3 then (if cX i o=1 then [] else cZ i o) else if ae i.1=5 then (if ownM o i.2.2.2.1=1 then [i.2.2.2.1] else []) else if ae i.1=6 then (if bY o (aY i)=false then [] else cZ i o) else []
def lstA (o:List Int) (i:af) (pc off:Int):List ak :=
 if bC i=false then [] else
 if ae i.1≤3 then (if cX i o=1 then [bJ 1 i pc off] else []) else
 if ae i.1=4 then (if onEM o i.2.1=true then [bJ 3 i pc off] else [bJ 2 i pc off]) else
 if ae i.1=5 then [bJ 4 i pc off] else
 if ae i.1=6 then (if bY o (aY i)=false then [bJ 9 i pc off] else [aM 10 0 pc off]) else
 if ae i.1=7 then [aM 11 0 pc off] else [aM 12 0 pc off]
def lstE (o:List Int) (i:af) (pc off:Int):List ak :=
 if bC i=false then [] else
 if ae i.1≤3 then (if cX i o=1 then [] else [bJ 1 i pc off]) else
 if ae i.1=4 then (if onEM o i.2.1=true then [bJ 7 i pc off] else []) else
 if ae i.1=5 then [aM 8 i.2.2.2.1 pc off] else
 if ae i.1=6 then (if bY o (aY i)=false then [aM 10 0 pc off] else [bJ 9 i pc off]) else
 if ae i.1=7 then [aM 11 0 pc off] else [aM 12 0 pc off]
def lstS (e:Bool) (o:List Int) (i:af) (pc off:Int):List ak:=if e=true then lstE o i pc off else lstA o i pc off
def sndK (e:Bool):Int:=if e=true then 6 else 5
theorem g8B (e:Bool) (i:af) (o:List Int) (pc off:Int):emS e i o pc off=(sndR o i).map (λr=>aM (sndK e) r pc off)++lstS e o i pc off:=by
 have hf:=kQ i.1;unfold emS cR sndR lstS lstA lstE sndK;cases hr:bC i with
 | false=>cases e<;>simp
 | true =>
  have h0:ae i.1≠0:=by
   intro h;unfold bC at hr;rw[h]at hr;simp at hr
  by_cases f3:ae i.1≤3
  ·
   rw[if_pos (show 1≤ae i.1∧ae i.1≤3 by omega),if_pos f3,if_pos f3,if_pos f3];by_cases h:cX i o=1
   ·cases e<;>simp[h]
   ·cases e<;>simp[h]
  ·
   rw[if_neg (show ¬(1≤ae i.1∧ae i.1≤3) by omega),if_neg f3,if_neg f3,if_neg f3];by_cases f4:ae i.1=4
   ·
    rw[if_pos f4,if_pos f4,if_pos f4,if_neg (show ¬ae i.1=5 by omega),if_neg (show ¬ae i.1=6 by omega)];cases onEM o i.2.1<;>cases e<;>simp
   rw[if_neg f4,if_neg f4,if_neg f4];by_cases f5:ae i.1=5
   ·
    rw[if_pos f5,if_pos f5,if_pos f5,if_pos f5];by_cases h:ownM o i.2.2.2.1=1<;>cases e<;>simp[h]
   rw[if_neg f5,if_neg f5,if_neg f5,if_neg f5];by_cases f6:ae i.1=6
   ·
    rw[if_pos f6,if_pos f6,if_pos f6,if_pos f6];cases bY o (aY i)<;>cases e<;>simp
   rw[if_neg f6,if_neg f6,if_neg f6,if_neg f6];by_cases f7:ae i.1=7
   ·
    rw[if_pos f7,if_pos f7];cases e<;>simp
   ·
    rw[if_neg f7,if_neg f7,if_pos (show ae i.1=8 by omega)];cases e<;>simp
theorem h0z (e:Bool) (o:List Int) (i:af) (pc off:Int):(lstS e o i pc off).length≤1:=by
 unfold lstS lstA lstE
 repeat' split
 all_goals simp
def evq {α:Type} (f:Nat→List α):Nat→List α
 | 0=>[]
 | n+1=>evq f n++f n
theorem g9e {α:Type} (f:Nat→List α) {n m:Nat} (h:n≤m):evq f n <+: evq f m:=by
 induction m with
 | zero=>rw[show n=0 by omega]; exact List.prefix_rfl
 | succ m ih =>
  by_cases h2:n=m+1
  ·rw[h2]; exact List.prefix_rfl
  ·exact (ih (by omega)).trans (List.prefix_append _ _)
theorem g9X {α:Type} (f:Nat→List α) {n m:Nat} (j:Nat) (h:n<m):evq f n++(f n).take j <+: evq f m:=by
 refine List.IsPrefix.trans ?_ (g9e f (show n+1≤m by omega));show _ <+: evq f n++f n;exact pf _ |>.2 (List.take_prefix _ _)
theorem h0R {α:Type} (d:α) (f:Nat→List α) {n m j i:Nat} {a:α} {r:List α} (h:evq f n++(f n).take j=evq f m++(f m).take i++a::r) (hi:i<(f m).length) :
  a=(f m).getD i d∧evq f n++(f n).take j=evq f m++(f m).take (i+1)++r:=by
 have ht:(f m).take (i+1)=(f m).take i++[(f m).getD i d]:=by
  rw[pQ,mA,mC hi]; rfl
 have p1:=g9X f (n:=n) (m:=max n m+1) j (by omega);have p2:=g9X f (n:=m) (m:=max n m+1) (i+1) (by omega);have hp:=List.prefix_of_prefix_length_le p2 p1 (by rw[h,ht]; simp);rw[h,ht,← mQ]at hp;have h2:=(pf _).1 hp;have h3:(f m).getD i d=a:=by
  obtain⟨t,ht⟩:=h2
  simpa using (mY ht).1
 refine⟨h3.symm,?_⟩;rw[h,ht,h3];simp
theorem g9N {α:Type} (f:Nat→List α) {n m:Nat} {a b:α} {r:List α} (h:evq f n=evq f m++a::r) (hb:f m=[b]):a=b∧evq f n=evq f (m+1)++r:=by
 have h2:=h0R b f (n:=n) (m:=m) (j:=0) (i:=0) (a:=a) (r:=r) (by simpa using h) (by rw[hb]; simp);rw[hb]at h2;refine⟨by simpa using h2.1,?_⟩
 show _=(evq f m++f m)++r;rw[hb]
 simpa using h2.2
theorem h1e {α:Type} (f:Nat→List α) {n m:Nat} {a:α} {r:List α} (h:evq f n=evq f m++a::r):m<n:=by
 by_cases hc:n≤m
 ·
  have:=(g9e f hc).length_le;rw[h]at this;simp at this;omega
 ·omega
theorem gC {α:Type} {f:Nat→List α} {n:Nat} (h:f n=[]):evq f (n+1)=evq f n:=by
 show evq f n++f n=_;rw[h,mJ]
section
variable (p:aw) (o:List Int) (m0:List Int)
def sv (n:Nat):List Int:=(sndR o (insG p m0 n)).map (gv (runG p m0 n))
def abr (n:Nat):List Bool:=if ae (insG p m0 n).1=6∧bY o (aY (insG p m0 n))=false then [gTk (runG p m0 n) (insG p m0 n)] else []
def ebr (n:Nat):List Bool:=if ae (insG p m0 n).1=6∧bY o (aY (insG p m0 n))=true then [gTk (runG p m0 n) (insG p m0 n)] else []
def fch (n:Nat):List Int:=if ae (insG p m0 n).1=4∧onEM o (insG p m0 n).2.1=true then [bW (runG p m0 n).mem (insG p m0 n).1 (c9 (runG p m0 n) (insG p m0 n))] else []
def qst (n:Nat):List (Nat × bv):=if ae (insG p m0 n).1=5 then [(n,gWr (runG p m0 n) (insG p m0 n))] else []
def pts (n:Nat):List Int:=if ae (insG p m0 n).1=5 then [gv (runG p m0 n) (insG p m0 n).2.2.2.1] else []
def trS (e:Bool) (n:Nat):Int :=
 if ae (insG p m0 n).1≤3 then (if (cX (insG p m0 n) o=1↔e=false) then bX (runG p m0 n) (insG p m0 n) else 0)
 else if e=true then 0 else bX (runG p m0 n) (insG p m0 n)
end
section
variable {p:aw} {o:List Int} {s:ao} {m0:List Int} {e:Bool} {n j:Nat} {pos:bc} (h:Spl p o s)
theorem iQ (hpc:(runG p m0 n).pc<p.Code.length):runG p m0 (n+1)=⟨gPc p (runG p m0 n) (insG p m0 n),rgsG (runG p m0 n) (insG p m0 n),gMem (runG p m0 n) (insG p m0 n)⟩:=if_pos hpc
theorem h0L (hpc:¬(runG p m0 n).pc<p.Code.length):runG p m0 (n+1)=runG p m0 n:=if_neg hpc
theorem jR (hp:cg p=true) (hpc:(runG p m0 n).pc<p.Code.length):bC (insG p m0 n)=true:=(dW hp).2.2 _ hpc
theorem g9o:(emAt p o e (runG p m0 n).pc 0).length=(sndR o (insG p m0 n)).length+(lstS e o (insG p m0 n) (runG p m0 n).pc 0).length:=by
 unfold emAt;rw[g8B,mD,mr];rfl
theorem h0p (o:List Int) (i:af) (pc off off':Int):(lstS e o i pc off).length=(lstS e o i pc off').length:=by
 unfold lstS lstA lstE
 repeat' split
 all_goals rfl
include h
theorem WAt.nextG (hw:WAt p o s e (runG p m0 n).pc n j pos) (hpc:(runG p m0 n).pc<p.Code.length) (hn:n≤1000000000) (hj:j+1=(emAt p o e (runG p m0 n).pc 0).length) (hh:ae (insG p m0 n).1≠8) :
  WAt p o s e (runG p m0 (n+1)).pc (n+1) 0 (goM s (kx s e pos).1 (goes (runG p m0 n) (insG p m0 n))):=by
 rw[iQ hpc];show WAt p o s e (gPc p (runG p m0 n) (insG p m0 n)) (n+1) 0 _;unfold gPc;cases hg:goes (runG p m0 n) (insG p m0 n) with
 | true =>
  rw[if_pos rfl];refine (WAt.go h hw hpc hn (by omega) ?_).2;unfold goes at hg;unfold brM;refine decide_eq_true ?_;show ae (insG p m0 n).1=6∨ae (insG p m0 n).1=7;rw[nq,mE,decide_eq_true_eq,decide_eq_true_eq]at hg;omega
 | false =>
  rw[if_neg (by simp),if_neg hh];have h1:=WAt.step h hw hpc hn (by omega);rw[hj]at h1;have h7:ae (insG p m0 n).1≠7:=by
   intro h7;unfold goes at hg;rw[decide_eq_true h7]at hg;simp at hg
  exact WAt.on h h1 hpc hn (h0y h7) (h0x hh)
theorem WAt.skipG (hw:WAt p o s e (runG p m0 n).pc n j pos) (hpc:(runG p m0 n).pc<p.Code.length) (hn:n≤1000000000) (hj:j=(emAt p o e (runG p m0 n).pc 0).length) (hf:ae (insG p m0 n).1≤5) :
  WAt p o s e (runG p m0 (n+1)).pc (n+1) 0 pos∧(runG p m0 (n+1)).pc=(runG p m0 n).pc+1:=by
 have e1:(runG p m0 (n+1)).pc=(runG p m0 n).pc+1:=by
  rw[iQ hpc];show gPc p (runG p m0 n) (insG p m0 n)=_;unfold gPc goes;rw[decide_eq_false (show ¬ae (insG p m0 n).1=7 by omega),decide_eq_false (show ¬ae (insG p m0 n).1=6 by omega),if_neg (by simp),if_neg (by omega)]
 refine⟨?_,e1⟩;rw[e1];subst hj;exact WAt.on h hw hpc hn (h0y (show ae (insG p m0 n).1≠7 by omega)) (h0x (show ae (insG p m0 n).1≠8 by omega))
end
theorem kN (l:List Int) (i j:Nat) (v:Int) (h:i<l.length):(l.set i v).getD j 0=if i=j then v else l.getD j 0:=by
 rw[mA,oO,mA];by_cases e:i=j
 ·subst e; simp[h]
 ·simp[e]
theorem g9v (a v:Int) (m:List Int) (ha:0≤a) (b:Nat):∀n:Nat,a+n≤m.length →
  (wrB a v m n).getD b 0=if a≤b∧(b:Int)<a+n then w.u8 (shr .u32 v (8*((b:Int)-a))) else m.getD b 0
 | 0,_=>by rw[if_neg (by omega)]; rfl
 | n+1,hn=>by
  rw[wrB,kN _ _ _ _ (by rw[c3A]; omega),g9v a v m ha b n (by omega)];by_cases h:(a+(n:Int)).toNat=b
  ·rw[if_pos h,if_pos (by omega),show (b:Int)-a=(n:Int) by omega]
  ·
   rw[if_neg h];by_cases h2:a≤b∧(b:Int)<a+n
   ·rw[if_pos h2,if_pos (by omega)]
   ·rw[if_neg h2,if_neg (by omega)]
theorem g9D (a:Int) (m m':List Int):∀n:Nat,(∀t:Nat,t<n→m.getD (a+(t:Int)).toNat 0=m'.getD (a+(t:Int)).toNat 0)→rdB a m n=rdB a m' n
 | 0,_=>rfl
 | n+1,h=>by
  rw[rdB,rdB,g9D a m m' n (λt ht=>h t (by omega)),h n (by omega)]
def fA (a n b m:Int):Prop:=a+n≤b∨b+m≤a
theorem g8t (m:List Int) (q:bv):(wrOf m q).length=m.length:=c3A _ _ _ _
theorem g8V {m:List Int} {q:bv} {op a:Int} (hq:LieW q (len m)) (ha:0≤a) (hd:fA a (aZ op) q.1 q.2.1):bW (wrOf m q) op a=bW m op a:=by
 obtain⟨h1,h2,h3,h4⟩:=hq;have hl:len (wrOf m q)=len m:=by simp only[len,g8t]
 unfold bW;rw[hl];by_cases ho:26≤op∧op≤30
 ·
  rw[if_pos ho,if_pos ho];by_cases hc:eN (aZ op) a (len m)=0
  ·
   rw[if_pos hc,if_pos hc];congr 1;refine g9D a _ _ _ λt ht=>?_
   have hs:0≤aZ op:=by unfold aZ; repeat' split; all_goals omega
   unfold wrOf;rw[g9v q.1 q.2.2.1 m h2 _ _ (by simp only[len]at h3; omega),if_neg];unfold fA at hd;omega
  ·rw[if_neg hc,if_neg hc]
 ·rw[if_neg ho,if_neg ho]
theorem g8O (ws:List bv):∀m:List Int,(ws.foldl wrOf m).length=m.length:=by
 induction ws with
 | nil=>intro m; rfl
 | cons q r ih=>intro m; rw[nh,ih,g8t]
theorem g8I {op a:Int} (ha:0≤a):∀(ws:List bv) (m:List Int),(∀q∈ws,LieW q (len m)∧fA a (aZ op) q.1 q.2.1)→bW (ws.foldl wrOf m) op a=bW m op a:=by
 intro ws;induction ws with
 | nil=>intro m _; rfl
 | cons q r ih =>
  intro m h;have hl:len (wrOf m q)=len m:=by simp only[len,g8t]
  rw[nh,ih (wrOf m q) (λx hx=>by rw[hl]; exact h x (nG _ hx)),g8V (h q (nj ..)).1 ha (h q (nj ..)).2]
theorem h0s {x:Int} (h0:0≤x) (h1:x<4294967296):w.u32 x=x:=by simp only[w.u32,IntKind.wrap_u32]; omega
theorem g8y {x:Int} (h0:0≤x) (h1:x<4294967296):(BitVec.ofInt 32 x).toNat=x.toNat:=by
 rw[BitVec.toNat_ofInt];congr 1;exact qD h0 (by omega)
theorem h0b {r y:Int} (k:Nat) (hr:0≤r) (hr2:r.toNat<2 ^ k) (hy:0≤y) (hs:r+y*((2 ^ k:Nat):Int)<4294967296):fS .u32 r (y*((2 ^ k:Nat):Int))=r+y*((2 ^ k:Nat):Int):=by
 have hk:0≤y*((2 ^ k:Nat):Int):=qT hy (by omega);have e:(y*((2 ^ k:Nat):Int)).toNat=2 ^ k*y.toNat:=by
  obtain⟨z,rfl⟩:∃z:Nat,y=z:=⟨y.toNat,by omega⟩
  rw[show ((z:Int)*((2 ^ k:Nat):Int))=((2 ^ k*z:Nat):Int) by rw[qJ,Int.mul_comm]];rw[mF,mF]
 unfold fS;show IntKind.u32.wrap (((BitVec.ofInt 32 r ||| BitVec.ofInt 32 (y*((2 ^ k:Nat):Int))).toNat:Nat):Int)=_;rw[BitVec.toNat_or,g8y hr (by omega),g8y hk (by omega),e,Nat.or_comm,← Nat.two_pow_add_eq_or_of_lt hr2];have:((2 ^ k*y.toNat+r.toNat:Nat):Int)=r+y*((2 ^ k:Nat):Int):=by
  rw[Int.natCast_add,← e];omega
 rw[this,IntKind.wrap_u32];exact qD (by omega) (by omega)
theorem h0Y {r v:Int} (k:Nat) (hk:k≤3) (hv:0≤v∧v<4294967296) (hr:r=v % ((2 ^ (8*k):Nat):Int)) :
  fS .u32 r (shl .u32 (w.u32 (w.u8 (shr .u32 v (8*(k:Int))))) (8*(k:Int)))=v % ((2 ^ (8*(k+1)):Nat):Int):=by
 have e1:w.u8 (shr .u32 v (8*(k:Int)))=v / ((2 ^ (8*k):Nat):Int) % 256:=by
  unfold shr;simp only[w.u8,IntKind.wrap_u8];rcases (show k=0∨k=1∨k=2∨k=3 by omega) with rfl | rfl | rfl | rfl<;>(congr 1; rw[ov _ (by decide)]; rfl)
 have hb:0≤v / ((2 ^ (8*k):Nat):Int) % 256∧v / ((2 ^ (8*k):Nat):Int) % 256<256:=⟨ol _ (by decide),oW _ (by decide)⟩;rw[e1,h0s hb.1 (by omega)];have e2:shl .u32 (v / ((2 ^ (8*k):Nat):Int) % 256) (8*(k:Int))=(v / ((2 ^ (8*k):Nat):Int) % 256)*((2 ^ (8*k):Nat):Int):=by
  unfold shl;rw[IntKind.wrap_u32];rcases (show k=0∨k=1∨k=2∨k=3 by omega) with rfl | rfl | rfl | rfl
  ·
   show (v / 1 % 256*1) % 4294967296=v / 1 % 256*1;omega
  ·
   show (v / 256 % 256*256) % 4294967296=v / 256 % 256*256;omega
  ·
   show (v / 65536 % 256*65536) % 4294967296=v / 65536 % 256*65536;omega
  ·
   show (v / 16777216 % 256*16777216) % 4294967296=v / 16777216 % 256*16777216;omega
 rw[e2];rcases (show k=0∨k=1∨k=2∨k=3 by omega) with rfl | rfl | rfl | rfl
 ·
  have hr:r=v % 1:=hr;rw[h0b (8*0) (by omega) (by show r.toNat<1; omega) hb.1 (by show r+v / 1 % 256*1<_; omega)];show r+v / 1 % 256*1=v % 256;omega
 ·
  have hr:r=v % 256:=hr;rw[h0b (8*1) (by omega) (by show r.toNat<256; omega) hb.1 (by show r+v / 256 % 256*256<_; omega)];show r+v / 256 % 256*256=v % 65536;omega
 ·
  have hr:r=v % 65536:=hr;rw[h0b (8*2) (by omega) (by show r.toNat<65536; omega) hb.1 (by show r+v / 65536 % 256*65536<_; omega)];show r+v / 65536 % 256*65536=v % 16777216;omega
 ·
  have hr:r=v % 16777216:=hr;rw[h0b (8*3) (by omega) (by show r.toNat<16777216; omega) hb.1 (by show r+v / 16777216 % 256*16777216<_; omega)];show r+v / 16777216 % 256*16777216=v % 4294967296;omega
theorem h1d {a v:Int} {m:List Int} {n:Nat} (ha:0≤a) (hn:a+n≤m.length) (h4:n≤4) (hv:0≤v∧v<4294967296):∀k:Nat,k≤n→rdB a (wrB a v m n) k=v % ((2 ^ (8*k):Nat):Int)
 | 0,_=>by show (0:Int)=v % 1; omega
 | k+1,hk=>by
  rw[rdB,g9v a v m ha _ n hn,if_pos (by omega),show ((a+(k:Int)).toNat:Int)-a=(k:Int) by omega];exact h0Y k (by omega) hv (h1d ha hn h4 hv k (by omega))
theorem h0i {v:Int} (hv:U32 v) {n:Int} (h:n=1∨n=2∨n=4):0≤fB v n∧fB v n<((2 ^ (8*n.toNat):Nat):Int)∧U32 (fB v n):=by
 unfold U32 at *;have hb:∀m:Nat,m<4294967296→0≤cG .u32 v (m:Int)∧cG .u32 v (m:Int)≤m:=by
  intro m hm;unfold cG;show 0≤IntKind.u32.wrap (((BitVec.ofInt 32 v &&& BitVec.ofInt 32 (m:Int)).toNat:Nat):Int)∧IntKind.u32.wrap (((BitVec.ofInt 32 v &&& BitVec.ofInt 32 (m:Int)).toNat:Nat):Int)≤m;rw[qU,g8y hv.1 (by omega),g8y (by omega) (by omega),IntKind.wrap_u32];have:=qV (n:=v.toNat) (m:=m);simp only[mF];omega
 unfold fB;rcases h with rfl | rfl | rfl
 ·
  have:0≤cG .u32 v 255∧cG .u32 v 255≤255:=hb 255 (by omega);simp only[if_true];show 0≤cG .u32 v 255∧cG .u32 v 255<256∧_;exact⟨this.1,by have:=this.2; omega,this.1,by have:=this.2; omega⟩
 ·
  have:0≤cG .u32 v 65535∧cG .u32 v 65535≤65535:=hb 65535 (by omega);rw[if_neg (by omega),if_pos rfl];show 0≤cG .u32 v 65535∧cG .u32 v 65535<65536∧_;exact⟨this.1,by have:=this.2; omega,this.1,by have:=this.2; omega⟩
 ·
  rw[if_neg (by omega),if_neg (by omega),if_pos rfl];show 0≤v∧v<4294967296∧_;exact⟨hv.1,by omega,hv⟩
theorem h0j {m:List Int} {q:bv} {op:Int} (hq:LieW q (len m)) (ho:26≤op∧op≤30) (hs:q.2.1=aZ op) (hv:0≤q.2.2.1∧q.2.2.1<((2 ^ (8*q.2.1.toNat):Nat):Int)):bW (wrOf m q) op q.1=jk op q.2.2.1:=by
 obtain⟨h1,h2,h3,h4⟩:=hq;have hl:len (wrOf m q)=len m:=by simp only[len,g8t]
 have h32:q.2.2.1<4294967296:=by
  rcases h1 with h | h | h<;>rw[h]at hv
  ·
   have:q.2.2.1<256:=hv.2;omega
  ·
   have:q.2.2.1<65536:=hv.2;omega
  ·
   have:q.2.2.1<4294967296:=hv.2;omega
 unfold bW;rw[if_pos ho,hl,← hs];have hc:eN q.2.1 q.1 (len m)=0:=by
  unfold eN;rw[if_neg (by omega),if_neg (by omega)]
 rw[if_pos hc];congr 1;unfold wrOf;rw[h1d h2 (by simp only[len]at h3; omega) (by omega) ⟨hv.1,h32⟩ q.2.1.toNat (by omega)];exact qD hv.1 hv.2
theorem g9M {m:List Int} {q:bv} {op:Int} (l r:List bv) (hl:∀x∈l++q::r,LieW x (len m)) (hr:∀x∈r,fA q.1 (aZ op) x.1 x.2.1) (ho:26≤op∧op≤30) (hs:q.2.1=aZ op) (hv:0≤q.2.2.1∧q.2.2.1<((2 ^ (8*q.2.1.toNat):Nat):Int)) :
  bW ((l++q::r).foldl wrOf m) op q.1=jk op q.2.2.1:=by
 have hq:=hl q (by simp);have e:len (l.foldl wrOf m)=len m:=by simp only[len,g8O]
 have e2:len (wrOf (l.foldl wrOf m) q)=len m:=by simp only[len,g8t,g8O]
 rw[ot,nh,g8I hq.2.1 r _ (λx hx=>⟨by rw[e2]; exact hl x (by simp[hx]),hr x hx⟩)];exact h0j (by rw[e]; exact hq) ho hs hv
theorem g8z {a n b m:Int} (ha:0≤a∧a≤100000) (hn:1≤n∧n≤4) (hb:0≤b∧b≤100000) (hm:1≤m∧m≤4) (h:ji a n b m=false):fA b m a n:=by
 unfold ji at h;rw[c5o ha (by omega) hb,c5o hb (by omega) ha,decide_eq_true (show n≥1 by omega),decide_eq_true (show m≥1 by omega),mO,mO,mw,decide_eq_false_iff_not,decide_eq_false_iff_not]at h;unfold fA;omega
theorem g9h {l:List aF} {a n:Int}:∀k:Nat,(du l a n k).2=false→∀t:Nat,t<k→ji (l.getD t aF.z).1 (l.getD t aF.z).2.1 a n=false
 | 0,_,t,ht=>by omega
 | k+1,h,t,ht=>by
  unfold du at h;split at h
  ·cases h
  ·
   rename_i hb;by_cases e:t=k
   ·subst e; simpa using hb
   ·exact g9h k h t (by omega)
theorem g8Y {l:List aF} {a n:Int}:∀k:Nat,(du l a n k).2=true→∃t:Nat,t<k∧(du l a n k).1=l.getD t aF.z∧∀u:Nat,t<u→u<k→ji (l.getD u aF.z).1 (l.getD u aF.z).2.1 a n=false
 | 0,h=>by cases h
 | k+1,h=>by
  unfold du at h ⊢;split at h
  ·
   rename_i hb;rw[if_pos hb];exact⟨k,by omega,rfl,λu h1 h2=>by omega⟩
  ·
   rename_i hb;rw[if_neg hb];obtain⟨t,h1,h2,h3⟩:=g8Y k h;refine⟨t,by omega,h2,λu h4 h5=>?_⟩
   by_cases e:u=k
   ·subst e; simpa using hb
   ·exact h3 u h4 (by omega)
def h8p (e:aF) (q:Nat × bv):Prop:=e.1=q.2.1∧e.2.1=q.2.2.1∧e.2.2.1=(q.1:Int)∧(e.2.2.2.1=true→e.2.2.2.2.1=q.2.2.2.1)
def d8 (l:List aF):Bool:=(l.getD 0 aF.z).2.2.2.1
def dV (l:List aF):Nat:=if d8 l=true then 1 else 0
def noSt:Nat × bv:=(0,(0,(0,(0,()))))
structure Slots (R:List am) (l:List aO) (mem:List Int) (tags:Int) (vs:List Int):Prop where
 ln:vs.length=l.length
 fl:∀t,t<l.length→(l.getD t aO.z).2.1=true→(l.getD t aO.z).2.2.1=vs.getD t 0
 em:∀t,t<l.length→(l.getD t aO.z).2.1=false→∃q∈R,q.1=false∧q.2.2.2.2.2.2.1<0∧q.2.2.2.2.2.2.2.1=(l.getD t aO.z).1∧bW mem q.2.1 q.2.2.1=vs.getD t 0
 cl:∀q∈R,q.1=false→q.2.2.2.2.2.2.1<0→∃t,t<l.length∧(l.getD t aO.z).1=q.2.2.2.2.2.2.2.1∧(l.getD t aO.z).2.1=false
 ti:∀t u,t<u→u<l.length→(l.getD t aO.z).1<(l.getD u aO.z).1
 tb:∀t,t<l.length→(l.getD t aO.z).1<tags
structure Stos (R:List am) (l:List aF) (rest:List (Nat × bv)):Prop where
 ln:rest.length=l.length
 en:∀t,t<l.length→h8p (l.getD t aF.z) (rest.getD t noSt)
 kn:∀t,0<t→(l.getD t aF.z).2.2.2.1=false
 st:∀q∈R,q.1=true→d8 l=true∧wrQ q=(rest.getD 0 noSt).2
 cn:d8 l=true→∃q∈R,q.1=true
 one:(R.countP λq=>q.1)≤1
def OwnQ (q q':am):Prop:=q.1=false→q'.1=false→q.2.2.2.2.2.2.1=q'.2.2.2.2.2.2.1→q.2.2.2.2.2.2.1=0∨(q.2.2.2.2.2.2.1<0∧q.2.2.2.2.2.2.2.1≠q'.2.2.2.2.2.2.2.1)
section
variable (p:aw) (o:List Int) (s:ao) (m0:List Int)
def cntS (e:Bool):Nat→Nat
 | 0=>0
 | n+1=>cntS e n+(sndR o (insG p m0 n)).length+(lstS e o (insG p m0 n) (runG p m0 n).pc 0).length
structure Pl (e:Bool) (pos:bc) (hal:Bool) (dn:Int) (n j k:Nat):Prop where
 dc:dn=((cntS p o m0 e n+j:Nat):Int)+(if hal=true then 1 else 0)
 wt:WAt p o s e (runG p m0 n).pc n j pos
 jb:j≤(sndR o (insG p m0 n)).length
 hl:hal=true→ae (insG p m0 n).1=8∧(runG p m0 n).pc<p.Code.length∧kx s e pos=(pos,false)
 bd:n≤(runG p m0 n).pc+p.Code.length*k
 ps:∀t,t<n→(runG p m0 t).pc<p.Code.length∧ae (insG p m0 t).1≠8∧trS p o m0 e t=0
structure Loads (R:List am) (regs ready mem:List Int) (n:Nat):Prop where
 rg:∀q∈R,q.1=false→1≤q.2.2.2.2.2.2.1→o.getD q.2.2.2.2.2.2.1.toNat 0=1∧ready.getD q.2.2.2.2.2.2.1.toNat 0<0∧bW mem q.2.1 q.2.2.1=(runG p m0 n).regs q.2.2.2.2.2.2.1
 pn:∀r:Int,1≤r→r≤15→ready.getD r.toNat 0<0→∃q∈R,q.1=false∧q.2.2.2.2.2.2.1=r
 un:R.Pairwise OwnQ
 dj:∀q∈R,q.1=false→∀q'∈R,q'.1=true→fA q.2.2.1 (aZ q.2.1) q'.2.2.1 q'.2.2.2.1
 rq:∀q∈R,reqM (len mem) q=true
 ra:∀r:Int,1≤r→r≤15→o.getD r.toNat 0=1→0≤ready.getD r.toNat 0→regs.getD r.toNat 0=(runG p m0 n).regs r
 l16:regs.length=16∧ready.length=16
structure MemC (R:List am) (x:aa) (n m:Nat):Prop where
 mem:x.Mem=x.A2.foldl wrOf m0
 wr:∃dn rest:List (Nat × bv),evq (qst p m0) n=dn++rest∧dn.map (·.2)=x.A2∧Stos R x.B0 rest
 pt:∃cn:List Int,evq (pts p m0) m=cn++x.C9∧cn.length=x.A2.length+dV x.B0
 ld:∃vs:List Int,evq (fch p o m0) n=evq (fch p o m0) m++vs∧Slots R x.B9 x.Mem x.C0 vs
 lo:Loads p o m0 R x.A.B1 x.A.A8 x.Mem n
def h7U (t:Nat) (k:Int):Prop:=((runG p m0 t).pc<p.Code.length∧(trS p o m0 false t=k∨trS p o m0 true t=k))∨(k=4∧¬(runG p m0 t).pc<p.Code.length)
def TrapOk (t:cQ):Prop:=t.C2≠0→∃n:Nat,t.C5=(n:Int)∧h7U p o m0 n t.C2∧t.Pc=((runG p m0 n).pc:Int)
structure RegE (regs:List Int) (m i:Nat):Prop where
 re:∀r:Int,1≤r→r≤15→o.getD r.toNat 0=2→regs.getD r.toNat 0=(runG p m0 m).regs r
 ve:∀t,t<i→regs.getD ((sndR o (insG p m0 m)).getD t 0).toNat 0=(runG p m0 m).regs ((sndR o (insG p m0 m)).getD t 0)
 l16:regs.length=16
structure Cos (R:List am) (x:aa) (n j ka m i ke:Nat):Prop where
 pa:Pl p o s m0 false x.A.A6 x.A.A4 x.A.A5 n j ka
 pe:Pl p o s m0 true x.E.A6 x.E.A4 x.E.A5 m i ke
 aeq:evq (sv p o m0) n++(sv p o m0 n).take j=evq (sv p o m0) m++(sv p o m0 m).take i++x.C7
 abq:evq (abr p o m0) n=evq (abr p o m0) m++x.C6
 ebq:evq (ebr p o m0) m=evq (ebr p o m0) n++x.C8
 mc:MemC p o m0 R x n m
 re:RegE p o m0 x.E.B1 m i
 tr:TrapOk p o m0 x.A9
end
section
variable {p:aw} {o:List Int} {s:ao} {m0:List Int} {e hal:Bool} {pos:bc} {dn:Int} {n j k m i ka ke:Nat} {R:List am} {x:aa}
def bo (x:aa):List am:=x.A0.map cW
theorem g9f {α:Type} (L M:List α) (d:α) {i:Nat} (h:i<L.length):(L++M).getD i d=L.getD i d:=by
 rw[mA,mW h,← mA]
theorem g9b {α:Type} (L M:List α) (d:α):(L++M).getD L.length d=M.getD 0 d:=by
 rw[mA,mU (mG _),oT,← mA]
theorem h0G {α β:Type} (f:α→β) (l:List α) (d:α) (d':β) {i:Nat} (h:i<l.length):(l.map f).getD i d'=f (l.getD i d):=by
 rw[mA,nW,mC h,mA,mC h]; rfl
theorem Pl.send (h:Spl p o s) (g:Pl p o s m0 e pos hal dn n j k) (hpc:(runG p m0 n).pc<p.Code.length) (hn:n≤1000000000) (hj:j<(sndR o (insG p m0 n)).length) :
  (kx s e pos).2=false∧∃off,aT s e pos=(aM (sndK e) ((sndR o (insG p m0 n)).getD j 0) (runG p m0 n).pc off,(n:Int),true):=by
 have hl:=g9o (p:=p) (o:=o) (n:=n) (e:=e) (m0:=m0);obtain⟨b,_,_,_,h1,h2⟩:=WAt.cell h g.wt hpc hn (by omega);refine⟨by rw[h1],((runG p m0 n).pc:Int)-frB p b,?_⟩
 rw[h2];unfold emAt;rw[show aQ p (runG p m0 n).pc=insG p m0 n from rfl,g8B,g9f _ _ _ (by rw[mr]; exact hj),h0G _ _ 0 _ hj]
theorem Pl.last (h:Spl p o s) (g:Pl p o s m0 e pos hal dn n j k) (hpc:(runG p m0 n).pc<p.Code.length) (hn:n≤1000000000) (hj:j=(sndR o (insG p m0 n)).length) (hl1:lstS e o (insG p m0 n) (runG p m0 n).pc 0≠[]) :
  (kx s e pos).2=false∧∃off c,lstS e o (insG p m0 n) (runG p m0 n).pc off=[c]∧aT s e pos=(c,(n:Int),true):=by
 have hl:=g9o (p:=p) (o:=o) (n:=n) (e:=e) (m0:=m0);have h0:0<(lstS e o (insG p m0 n) (runG p m0 n).pc 0).length:=oH.2 hl1;obtain⟨b,_,_,_,h1,h2⟩:=WAt.cell h g.wt hpc hn (by omega);have h3:=h0z e o (insG p m0 n) (runG p m0 n).pc ((runG p m0 n).pc-frB p b);have h4:=h0p (e:=e) o (insG p m0 n) (runG p m0 n).pc 0 ((runG p m0 n).pc-frB p b);obtain⟨c,hc⟩:∃c,lstS e o (insG p m0 n) (runG p m0 n).pc ((runG p m0 n).pc-frB p b)=[c]:=List.length_eq_one_iff.1 (by omega)
 refine⟨by rw[h1],_,c,hc,?_⟩
 rw[h2];unfold emAt;rw[show aQ p (runG p m0 n).pc=insG p m0 n from rfl,g8B,hj];have hm:=g9b ((sndR o (insG p m0 n)).map (λr=>aM (sndK e) r (runG p m0 n).pc ((runG p m0 n).pc-frB p b))) (lstS e o (insG p m0 n) (runG p m0 n).pc ((runG p m0 n).pc-frB p b)) ak.z;rw[mr]at hm;rw[hm,hc];rfl
theorem Pl.fell (h:Spl p o s) (g:Pl p o s m0 e pos hal dn n j k) (hpc:¬(runG p m0 n).pc<p.Code.length) (hn:n≤1000000000) :
  ∃q:bc,kx s e pos=(q,true)∧aT s e pos=(ak.z,(n:Int),false)∧(bz s q.A7).2.1=p.Code.length∧(runG p m0 n).pc=p.Code.length:=by
 have h1:=WAt.lt h g.wt;have h2:(runG p m0 n).pc=p.Code.length:=by omega
 have hz:insG p m0 n=af.z:=by
  unfold insG aQ;rw[mA,mg (by omega)]; rfl
 have hj:j=0:=by
  have:=g.jb;rw[hz]at this;have h0:sndR o af.z=[]:=rfl;rw[h0]at this;exact pj.1 this
 have hw:=g.wt;rw[h2,hj]at hw;have hne:0<p.Code.length:=by
  have:=dW h.right;exact this.1
 have last:∀t:Nat,t≤n→(∀u,u<t→ae (insG p m0 u).1≠8)→(runG p m0 t).pc=p.Code.length→ae (aQ p (p.Code.length-1)).1≠7∧ae (aQ p (p.Code.length-1)).1≠8:=by
  intro t;induction t with
  | zero=>intro _ _ e0; exact absurd (show (0:Nat)=p.Code.length from e0) (by omega)
  | succ t ih =>
   intro ht hu e0;by_cases hp:(runG p m0 t).pc<p.Code.length
   ·
    rw[iQ hp]at e0;have e0:gPc p (runG p m0 t) (insG p m0 t)=p.Code.length:=e0;unfold gPc at e0;by_cases hg:goes (runG p m0 t) (insG p m0 t)=true
    ·
     rw[if_pos hg]at e0;by_cases hneg:0≤tgtM p ((runG p m0 t).pc:Int)
     ·
      have:=g3t hneg;omega
     ·omega
    ·
     rw[if_neg hg,if_neg (hu t (by omega))]at e0;have e1:p.Code.length-1=(runG p m0 t).pc:=by omega
     rw[e1];refine⟨?_,hu t (by omega)⟩;intro h7;apply hg;unfold goes;rw[show ae (insG p m0 t).1=7 from h7];rfl
   ·
    rw[h0L hp]at e0;exact ih (by omega) (λu hu'=>hu u (by omega)) e0
 obtain⟨l1,l2⟩:=last n (mG _) (λu hu=>(g.ps u hu).2.1) h2;obtain⟨q,q1,q2,q3⟩:=WAt.fell h hw hn (λh=>l1 (by rw[h]; decide)) (λh=>l2 (by rw[h]; decide));exact⟨q,q1,q2,q3,h2⟩
theorem Pl.skip (h:Spl p o s) (g:Pl p o s m0 e pos hal dn n j k) (hd:hal=false) (hpc:(runG p m0 n).pc<p.Code.length) (hn:n≤1000000000) (hj:j=(sndR o (insG p m0 n)).length) (hl1:lstS e o (insG p m0 n) (runG p m0 n).pc 0=[]) :
  Pl p o s m0 e pos hal dn (n+1) 0 k∧(runG p m0 (n+1)).pc=(runG p m0 n).pc+1∧((e=false∧ae (insG p m0 n).1≤3∧cX (insG p m0 n) o≠1)∨(e=true∧ae (insG p m0 n).1≤3∧cX (insG p m0 n) o=1∧j=0)∨(e=true∧ae (insG p m0 n).1=4∧onEM o (insG p m0 n).2.1=false∧j=0)):=by
 have hr:=jR h.right hpc;have hl:=g9o (p:=p) (o:=o) (n:=n) (e:=e) (m0:=m0);rw[hl1]at hl;have cs:(e=false∧ae (insG p m0 n).1≤3∧cX (insG p m0 n) o≠1)∨(e=true∧ae (insG p m0 n).1≤3∧cX (insG p m0 n) o=1∧j=0)∨(e=true∧ae (insG p m0 n).1=4∧onEM o (insG p m0 n).2.1=false∧j=0):=by
  unfold sndR at hj;unfold lstS lstA lstE at hl1;rw[hr]at hl1 hj
  revert hl1 hj
  cases e<;>simp only[mN,pM,if_false,if_true]<;>(repeat' split)<;>intro a b<;>simp_all<;>omega
 have hf:ae (insG p m0 n).1≤5:=by
  rcases cs with⟨_,h,_⟩ | ⟨_,h,_⟩ | ⟨_,h,_⟩<;>omega
 obtain⟨w1,w2⟩:=WAt.skipG h g.wt hpc hn (by rw[hl]; exact hj) hf;refine⟨⟨?_,w1,nU _,λhh=>(by rw[hd]at hh; cases hh),by have:=g.bd; omega,?_⟩,w2,cs⟩
 ·
  rw[g.dc];show _=((cntS p o m0 e n+(sndR o (insG p m0 n)).length+(lstS e o (insG p m0 n) (runG p m0 n).pc 0).length+0:Nat):Int)+_;rw[hl1,hj];rfl
 intro t ht;by_cases e1:t=n
 ·
  subst e1;refine⟨hpc,by omega,?_⟩
  unfold trS;rcases cs with⟨rfl,h3,hs⟩ | ⟨rfl,h3,hs,_⟩ | ⟨rfl,h4,_⟩
  ·rw[if_pos h3,if_neg (by simp[hs])]
  ·rw[if_pos h3,if_neg (by simp[hs])]
  ·rw[if_neg (by omega),if_pos rfl]
 ·exact g.ps t (by omega)
end
end Go.Proofs.Zz
