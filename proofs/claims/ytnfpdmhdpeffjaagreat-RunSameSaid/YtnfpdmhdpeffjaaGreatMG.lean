import Derived.Test.YtnfpdmhdpeffjaaGreatME
import Derived.Test.YtnfpdmhdpeffjaaGreatK5
import Derived.Test.YtnfpdmhdpeffjaaGreatK7
import Derived.KernelRfl
set_option linter.unusedSimpArgs false
set_option linter.unusedVariables false
set_option maxRecDepth 100000
namespace Go.Proofs.Zz
open Go
variable {N:Nat}
theorem c6Z {s:ao} (h:dx s.A3) {b:Int} (hb:hasM s b=true):0≤(bz s b).1∧(bz s b).1<(bz s b).2.1∧(bz s b).2.1≤2000∧jm KA (bz s b).1 (bz s b).2.1 (bz s b).2.2.2.2.1∧jm KE (bz s b).1 (bz s b).2.1 (bz s b).2.2.2.2.2.1:=by
 have h2:=fq.1 hb;have h3:=h.blk b.toNat (by omega);exact⟨h3.1,h3.2.1,h3.2.2.1,h3.2.2.2.2.1,h3.2.2.2.2.2⟩
theorem b8B {s:ao} (h:dx s.A3) {p:bc} (hb:hasM s p.A7=true) (h0:0≤p.D3) (h1:p.D3≤9000000000000):p.D3≤endM s p∧endM s p≤p.D3+2000:=by
 obtain⟨g1,g2,g3,_⟩:=c6Z h hb;unfold endM;rw[if_pos hb,wI (x:=p.D3+(bz s p.A7).2.1) (by omega) (by omega),wI (by omega) (by omega)];omega
theorem b1l {s:ao} (h:dx s.A3) (e:Bool):∀(n:Nat) (p:bc),hasM s p.A7=true→0≤p.D3→p.D3+2000*n≤9000000000000→0≤(bL s e n p).1.D3∧(bL s e n p).1.D3≤p.D3+2000*n
 | 0,p,hb,h0,h1=>⟨h0,by simp only[bL]; omega⟩
 | n+1,p,hb,h0,h1=>by
  unfold bL;rw[if_neg (by rw[hb]; simp)];split
  ·exact⟨h0,by simp only; omega⟩
  ·
   split
   ·exact⟨h0,by simp only; omega⟩
   ·
    rename_i h3;have hr:=b8B h hb h0 (by omega);have h4:=((NextOk.of h) _ hb).resolve_left h3;have:=b1l h e n ⟨(bz s p.A7).2.2.1,0,endM s p⟩ h4.2 (by simp only; omega) (by simp only; omega);simp only at this;exact⟨this.1,by omega⟩
theorem d0V {s:ao} (h:dx s.A3) (e:Bool) {p:bc} (hb:hasM s p.A7=true):0≤(fW s e p).2.2.2.2.1∧(fW s e p).2.2.2.2.1≤2000:=by
 obtain⟨g1,g2,g3,g4,g5⟩:=c6Z h hb;have key:∀(ks:List Int) (l:List ak),jm ks (bz s p.A7).1 (bz s p.A7).2.1 l→0≤(l.getD p.B3.toNat ak.z).2.2.2.2.1∧(l.getD p.B3.toNat ak.z).2.2.2.2.1≤2000:=by
  intro ks l hl;by_cases hi:p.B3.toNat<l.length
  ·
   have:=hl.all _ (ck ak.z hi);omega
  ·
   rw[mA,mg (by omega)];exact⟨by simp,by simp⟩
 unfold fW cu;rw[if_pos hb];cases e with
 | true=>exact key _ _ g5
 | false=>exact key _ _ g4
variable {N:Nat}
theorem d8B {c:ay} {s:ao} {x:aa} (h:bu c s x=true):1≤c.D8∧c.D8≤64:=by
 unfold bu cfgM at h;simp only[mE,allB,mt,nT,decide_eq_true_eq]at h;exact h.1.1.2.2.2.2.2.2.2.1
variable {N:Nat}
variable {N:Nat}
section
variable {op d imm size:Int} {ext:Bool} {data:List Int}
end
section
variable {op d imm size:Int} {ext:Bool} {data:List Int}
end
variable {N:Nat}
theorem c5o {a n b:Int} (ha:0≤a∧a≤100000) (hn:0≤n∧n≤100) (hb:0≤b∧b≤100000):h6E a n b=decide (a≤b∧b-a<n):=by
 unfold h6E;rw[md];simp only[mE,decide_eq_true_eq,w.u64,IntKind.wrap_u64];omega
def Lies (l:List aF):Prop:=∀e∈l,(0≤e.1∧e.1≤100000)∧(1≤e.2.1∧e.2.1≤4)
theorem c9l {m:Int} (hm:m≤65536):∀(l:List aF) (b:Bool),dh m b l=true→Lies l
 | [],b,_=>by intro e he; simp at he
 | e::r,b,h=>by
  unfold dh at h;simp only[mE]at h;have h1:=of_decide_eq_true h.1;intro x hx;rcases mV.1 hx with rfl | hx
  ·omega
  ·exact c9l hm r false h.2.2.2 x hx
theorem d0G (op v:Int):b6N N op v=some (0,gW.dv (jk op v) []):=by
 unfold b6N jk;have e:∀k:Int,U32 (shl .u32 v k):=λk=>dI _
 have e1:decide ((16:Int)<(0:Int))=false:=rfl;have e2:decide ((24:Int)<(0:Int))=false:=rfl;simp only[e1,e2,iy,b0P (e 16),b0P (e 24),au,ag,aj,cP,beq_iff_eq];have w16:∀v:Int,w.i16 v=(v+32768) % 65536-32768:=by
  intro v;simp only[w.i16,IntKind.wrap,IntKind.bits,IntKind.signed];simp;omega
 have w8:∀v:Int,w.i8 v=(v+128) % 256-128:=by
  intro v;simp only[w.i8,IntKind.wrap,IntKind.bits,IntKind.signed];simp;omega
 have s1:shl .u32 v 16=(v*65536) % 4294967296:=by
  unfold shl;rw[show (2:Int) ^ (min (Int.toNat 16) IntKind.u32.bits)=65536 from rfl,IntKind.wrap_u32]
 have s2:shl .u32 v 24=(v*16777216) % 4294967296:=by
  unfold shl;rw[show (2:Int) ^ (min (Int.toNat 24) IntKind.u32.bits)=16777216 from rfl,IntKind.wrap_u32]
 have k1:w.u32 (shr .i64 (sg (shl .u32 v 16)) 16)=w.u32 (w.i32 (w.i16 v)):=by
  rw[d8w (e 16),s1,w16];unfold shr;rw[show (2:Int) ^ (min (Int.toNat 16) IntKind.i64.bits)=65536 from rfl,ov _ (by omega)];simp only[w.u32,w.i32,IntKind.wrap_u32,IntKind.wrap_i32];split<;>omega
 have k2:w.u32 (shr .i64 (sg (shl .u32 v 24)) 24)=w.u32 (w.i32 (w.i8 v)):=by
  rw[d8w (e 24),s2,w8];unfold shr;rw[show (2:Int) ^ (min (Int.toNat 24) IntKind.i64.bits)=16777216 from rfl,ov _ (by omega)];simp only[w.u32,w.i32,IntKind.wrap_u32,IntKind.wrap_i32];split<;>omega
 rw[k1,k2];by_cases h1:op=27
 ·rw[if_pos h1,if_pos h1]
 ·
  rw[if_neg h1,if_neg h1];by_cases h2:op=29
  ·rw[if_pos h2,if_pos h2]
  ·rw[if_neg h2,if_neg h2]
variable {N:Nat}
def wrB (a v:Int) (m:List Int):Nat→List Int
 | 0=>m
 | n+1=>(wrB a v m n).set (a+(n:Int)).toNat (w.u8 (shr .u32 v (8*(n:Int))))
theorem c3A (a v:Int) (m:List Int):∀n,(wrB a v m n).length=m.length
 | 0=>rfl
 | n+1=>by rw[wrB,mp,c3A a v m n]
def LieW (q:bv) (n:Int):Prop:=(q.2.1=1∨q.2.1=2∨q.2.1=4)∧0≤q.1∧q.1+q.2.1≤n∧q.1 % q.2.1=0
def wrOf (m:List Int) (q:bv):List Int:=wrB q.1 q.2.2.1 m q.2.1.toNat
theorem e0y (q:bv) (x:aa) (sz:Nat) (hs:sz≤4) (ha:0≤q.1) (hn:q.1+sz≤len x.Mem) (hm:len x.Mem≤65536):∀n j:Nat,j≤sz→sz-j<n →
  a2Y N n (sz:Int) (j:Int) {x with Mem:=wrB q.1 q.2.2.1 x.Mem j} q=some (1,aA.dv {x with Mem:=wrB q.1 q.2.2.1 x.Mem sz} []):=by
 intro n;induction n with
 | zero=>intro j h1 h2; omega
 | succ n ih =>
  intro j h1 h2;show a8n N (a2Y N n) (sz:Int) (j:Int) {x with Mem:=wrB q.1 q.2.2.1 x.Mem j} q=_;unfold a8n;simp only[len]at hn hm;by_cases hj:j<sz
  ·
   have e1:w.i64 (8*(j:Int))=8*(j:Int):=wI (by omega) (by omega);have e2:w.i64 (q.1+(j:Int))=q.1+(j:Int):=wI (by omega) (by omega);rw[dt (show (j:Int)<(sz:Int) by omega),ai,e1,df (show ¬(8*(j:Int)<0) by omega),iy,e2];simp only[];rw[cd (by omega) (by rw[c3A]; omega),aH,wS (show j≤100000000 by omega)];exact ih (j+1) (by omega) (by omega)
  ·
   have:j=sz:=by omega
   subst this;rw[df (by omega),ah]
theorem e4S (q:bv) (x:aa) (h:LieW q (len x.Mem)) (hm:len x.Mem≤65536) (hN:10<N):b0T N q x=some (0,aA.dv {x with Mem:=wrOf x.Mem q} []):=by
 obtain⟨h1,h2,h3,h4⟩:=h;have hu:w.u32 q.1=q.1:=by simp only[w.u32,IntKind.wrap_u32]; omega
 have hc:iI N q.2.1 (w.u32 q.1) (len x.Mem)=some (0,gI.dv 0 []):=by
  rw[hu,a9V h1 (by unfold U32; omega) (by simp only[len]at hm ⊢; omega)];unfold eN;rw[if_neg (by omega),if_neg (by omega)]
 have hl:a2Y N N q.2.1 0 x q=some (1,aA.dv {x with Mem:=wrOf x.Mem q} []):=by
  have e:q.2.1=((q.2.1.toNat:Nat):Int):=by omega
  have:=e0y (N:=N) q x q.2.1.toNat (by omega) h2 (by omega) hm N 0 (by omega) (by omega);rw[← e]at this;exact this
 unfold b0T;simp only[hc,hl,au,ag,aj,dG];rw[df (show ¬(q.1<0) by omega),df (show ¬(q.1>4294967295) by omega)];rcases h1 with h | h | h<;>rw[h]<;>rfl
def wrQ (q:am):bv:=(q.2.2.1,(q.2.2.2.1,(q.2.2.2.2.1,())))
theorem d6r (q:am) (x:aa) (h:LieW (wrQ q) (len x.Mem)) (hm:len x.Mem≤65536) (hw:x.A2.length≤500000) (hN:10<N) :
  b4z N q x=some (0,aA.dv {x with Mem:=wrOf x.Mem (wrQ q),B0:=x.B0.drop 1,A2:=x.A2++[wrQ q]} []):=by
 unfold b4z;rw[show b0T N (q.2.2.1,(q.2.2.2.1,(q.2.2.2.2.1,()))) x=_ from e4S (wrQ q) x h hm hN,au,ag,aj];simp only[];rw[rmT (by simp; omega),aH];by_cases h0:x.B0.length=0
 ·
  have:x.B0=[]:=mT.1 h0;rw[df (show ¬(len x.B0>0) by simp only[len]; omega),ah,this];rfl
 ·
  rw[dt (show len x.B0>0 by simp only[len]; omega),ai,sb_1 h0,aH];rfl
theorem d8Y (op:Int) {v:Int} (h:U32 v):U32 (jk op v):=by
 unfold jk;split
 ·exact dI _
 ·
  split
  ·exact dI _
  ·exact h
def UL (x:aa):Prop:=∀e∈x.B9,U32 e.2.2.1
theorem d8S {l:List aO} (h:∀e∈l,U32 e.2.2.1) (t:Int) {v:Int} (hv:U32 v):∀e∈gy l t v,U32 e.2.2.1:=by
 unfold gy;split
 ·exact h
 ·
  intro e he;rcases nI he with h1 | h1
  ·exact h e h1
  ·rw[h1]; exact hv
structure EndR (x y:aa) (k:Nat):Prop where
 wr:∃ws:List bv,ws.length=k∧y.A2=x.A2++ws∧y.Mem=ws.foldl wrOf x.Mem∧∀q∈ws,LieW q (len x.Mem)
 fr:y={x with A:=y.A,B9:=y.B9,B0:=y.B0,Mem:=y.Mem,A2:=y.A2}
 afr:y.A={x.A with B1:=y.A.B1,A8:=y.A.A8}
 mem:y.Mem.length=x.Mem.length
 ldq:y.B9.length=x.B9.length
 saq:y.B0=x.B0.drop k
 ul:UL x→UL y
 rdp:∀P:Int→Prop,(∀r∈x.A.A8,P r)→P (w.i64 (x.A1+1))→∀r∈y.A.A8,P r
 rdy:y.A.A8.length=x.A.A8.length
 regs:(∀r∈x.A.B1,U32 r)→∀r∈y.A.B1,U32 r
theorem EndR.refl (x:aa):EndR x x 0:=⟨⟨[],by simp,by simp,rfl,by simp⟩,rfl,rfl,rfl,rfl,rfl,λh=>h,λ_ h _=>h,rfl,λh=>h⟩
theorem EndR.trans {x y z:aa} {k m:Nat} (h:EndR x y k) (g:EndR y z m):EndR x z (k+m):=by
 obtain⟨ws,a1,a2,a3,a4⟩:=h.wr;obtain⟨vs,b1,b2,b3,b4⟩:=g.wr;have c1:=h.saq;have c2:=g.saq;refine⟨⟨ws++vs,by simp; omega,by rw[b2,a2]; simp,by rw[b3,a3,ot],λq hq=>?_⟩,by rw[g.fr,h.fr],by rw[g.afr,h.afr],g.mem.trans h.mem,g.ldq.trans h.ldq,by rw[c2,c1,oN],λhu=>g.ul (h.ul hu),λP hp hq=>g.rdp P (h.rdp P hp hq) (by rw[show y.A1=x.A1 by rw[h.fr]]; exact hq),g.rdy.trans h.rdy,λhr=>g.regs (h.regs hr)⟩
 rcases mM.1 hq with hq | hq
 ·exact a4 q hq
 ·
  have:=b4 q hq;rw[show len y.Mem=len x.Mem by simp only[len,h.mem]]at this;exact this
theorem e3s {l:List Int} (h:∀r∈l,U32 r) (i:Nat) {v:Int} (hv:U32 v):∀r∈l.set i v,U32 r:=by
 intro r hr;rcases nI hr with h1 | h1
 ·exact h r h1
 ·rw[h1]; exact hv
def cH (q:am):am:=(q.1,(q.2.1,(q.2.2.1,(q.2.2.2.1,(q.2.2.2.2.1,((w.i64 (q.2.2.2.2.2.1-1)),q.2.2.2.2.2.2))))))
def bp (q:am):Option am:=if q.2.2.2.2.2.1>0 then (if w.i64 (q.2.2.2.2.2.1-1)=0 then none else some (cH q)) else some q
def dg (q:am):Bool:=q.1&&(decide (q.2.2.2.2.2.1>0)&&decide (w.i64 (q.2.2.2.2.2.1-1)=0))
def Lefts (T:List am) (n:Int):Prop:=∀q∈T,q.1=true→LieW (wrQ q) n
structure MovR (x y:aa) (k:Nat):Prop where
 wr:∃ws:List bv,ws.length=k∧y.A2=x.A2++ws∧y.Mem=ws.foldl wrOf x.Mem∧∀q∈ws,LieW q (len x.Mem)
 fr:y={x with A:=y.A,B9:=y.B9,B0:=y.B0,Mem:=y.Mem,A2:=y.A2,A0:=y.A0,B6:=y.B6,B5:=y.B5}
 afr:y.A={x.A with B1:=y.A.B1,A8:=y.A.A8}
 mem:y.Mem.length=x.Mem.length
 ldq:y.B9.length=x.B9.length
 saq:y.B0=x.B0.drop k
 ul:UL x→UL y
 tab:y.A0.length≤x.A0.length
 rdp:∀P:Int→Prop,(∀r∈x.A.A8,P r)→P (w.i64 (x.A1+1))→∀r∈y.A.A8,P r
 rdy:y.A.A8.length=x.A.A8.length
 regs:(∀r∈x.A.B1,U32 r)→∀r∈y.A.B1,U32 r
variable {N:Nat}
theorem d0F (a:Int):0≤cG .i64 a 1073741823∧cG .i64 a 1073741823≤1073741823:=by
 have h:(BitVec.ofInt 64 a &&& BitVec.ofInt 64 1073741823).toNat≤1073741823:=by
  rw[qU];exact nO qV (by decide)
 unfold cG;have e:(BitVec.ofInt IntKind.i64.bits a &&& BitVec.ofInt IntKind.i64.bits 1073741823).toNat≤1073741823:=h;generalize (BitVec.ofInt IntKind.i64.bits a &&& BitVec.ofInt IntKind.i64.bits 1073741823).toNat=n at e;rw[show IntKind.i64.wrap (n:Int)=(n:Int) from wI (by omega) (by omega)];omega
def dr (a n:Int):Int:=if a<0∨n<1 then 0 else Int.tmod (w.i64 (Int.tdiv a 4)) n
theorem d7S (a n:Int):b8s N a n=some (0,gI.dv (dr a n) []):=by
 unfold b8s dr;by_cases h0:a<0
 ·rw[dt h0,ai,if_pos (.inl h0)]
 rw[df h0,ah];by_cases h1:n<1
 ·rw[dt h1,ai,if_pos (.inr h1)]
 rw[df h1,ah,show decide ((4:Int)=(0:Int))=false from rfl,iy,df (show ¬(n=0) by omega),iy,if_neg (by omega)]
def cN (n b:Int) (q:am):Bool:=decide (dr q.2.2.1 n=b)&&decide (q.2.2.2.2.2.1>0)
def cW (q:am):am:=(q.1,(q.2.1,(q.2.2.1,(q.2.2.2.1,(q.2.2.2.2.1,(0,q.2.2.2.2.2.2))))))
def LfOk (q:am):Prop:=0≤q.2.2.2.2.2.1∧q.2.2.2.2.2.1≤1000
theorem w_w (x y:Int):w.i64 (w.i64 x+y)=w.i64 (x+y):=by simp only[w.i64,IntKind.wrap_i64]; omega
structure BegR (c:ay) (x y:aa) (k:Nat):Prop where
 fr:y={x with A0:=y.A0,B6:=y.B6,B5:=y.B5}
 tab:y.A0.map cW=x.A0.map cW
 lf:(∀q∈x.A0,LfOk q)→∀q∈y.A0,LfOk q
 cnt:I64 x.B6→I64 x.B5→∃a b:Nat,b≤a∧a≤k∧y.B6=w.i64 (x.B6+a)∧y.B5=w.i64 (x.B5+b)
 wk:(∀b,x.A0.countP (cN c.B2 b)≤1)→∀b,y.A0.countP (cN c.B2 b)≤1
theorem BegR.refl (c:ay) (x:aa):BegR c x x 0:=⟨rfl,rfl,λh=>h,λh g=>⟨0,0,by omega,by omega,by simp[wI64 h],by simp[wI64 g]⟩,λh=>h⟩
theorem BegR.mono {c:ay} {x y:aa} {k m:Nat} (h:BegR c x y k) (hm:k≤m):BegR c x y m :=
 ⟨h.fr,h.tab,h.lf,λa b=>by obtain⟨i,j,h1,h2,h3⟩:=h.cnt a b; exact⟨i,j,h1,by omega,h3⟩,h.wk⟩
theorem BegR.trans {c:ay} {x y z:aa} {k m:Nat} (h:BegR c x y k) (g:BegR c y z m):BegR c x z (k+m):=by
 refine⟨by rw[g.fr,h.fr],g.tab.trans h.tab,λhl=>g.lf (h.lf hl),λa b=>?_,λhw=>g.wk (h.wk hw)⟩
 obtain⟨i,j,h1,h2,h3,h4⟩:=h.cnt a b;obtain⟨i',j',g1,g2,g3,g4⟩:=g.cnt (by rw[h3]; exact e5f _) (by rw[h4]; exact e5f _);refine⟨i+i',j+j',by omega,by omega,?_,?_⟩
 ·rw[g3,h3,w_w]; congr 1; omega
 ·rw[g4,h4,w_w]; congr 1; omega
theorem e2X {l:List am} {i:Nat} (hi:i<l.length) {q:am} (h:cW q=cW (l.getD i am.z)):(l.set i q).map cW=l.map cW:=by
 rw[List.map_set,h];have:(l.map cW)[i]'(by simpa using hi)=cW (l.getD i am.z):=by
  rw[List.getElem_map,mA,mC hi]; rfl
 rw[← this,List.set_getElem_self]
theorem d6J (f:am→Bool):∀(l:List am) (i:Nat) (q:am),(l.set i q).countP f≤l.countP f+(if f q=true then 1 else 0)
 | [],i,q=>by simp
 | a::l,0,q=>by
  simp only[pu,nV];omega
 | a::l,i+1,q=>by
  simp only[pr,nV];have:=d6J f l i q;omega
theorem e2Y {c : ay} (hc : 1 ≤ c.C4 ∧ c.C4 ≤ 1000) {x : aa} {b r lt p : Int} (hr : 0 ≤ r ∧ r < len x.A0 ∧ dr (x.A0.getD r.toNat am.z).2.2.1 c.B2 = b) (hw : ∀ q ∈ x.A0, cN c.B2 b q = false) (hl : 0 ≤ lt ∧ lt < c.C4) (hp : p = x.B5 ∨ p = w.i64 (x.B5 + 1)) :
    BegR c x { x with A0 := (List.set x.A0 (Int.toNat r) ((List.getD x.A0 (Int.toNat r) am.z).1, ((List.getD x.A0 (Int.toNat r) am.z).2.1, ((List.getD x.A0 (Int.toNat r) am.z).2.2.1, ((List.getD x.A0 (Int.toNat r) am.z).2.2.2.1, ((List.getD x.A0 (Int.toNat r) am.z).2.2.2.2.1, (w.i64 (1 + lt), (List.getD x.A0 (Int.toNat r) am.z).2.2.2.2.2.2))))))), B6 := w.i64 (x.B6 + 1), B5 := p } 1 := by
  have hw1 : w.i64 (1 + lt) = 1 + lt := wI (by omega) (by omega)
  have hr1 : r.toNat < x.A0.length := by have := hr.2.1; simp only [len] at this; omega
  refine ⟨rfl, e2X hr1 rfl, fun h q hq => ?_, fun a1 a2 => ?_, fun h b' => ?_⟩
  · rcases nI hq with h1 | h1
    · exact h q h1
    · rw [h1]
      show 0 ≤ w.i64 (1 + lt) ∧ w.i64 (1 + lt) ≤ 1000
      rw [hw1]; omega
  · rcases hp with hp | hp
    · exact ⟨1, 0, by omega, by omega, rfl, by show p = _; rw [hp]; simp [wI64 a2]⟩
    · exact ⟨1, 1, by omega, by omega, rfl, hp⟩
  · refine nO (d6J _ _ _ _) ?_
    by_cases hb : b' = b
    · have h0 : x.A0.countP (cN c.B2 b') = 0 := by
        rw [oI]
        intro q hq
        rw [hb, hw q hq]
        simp
      rw [h0]
      split <;> omega
    · rw [if_neg]
      · exact h b'
      · unfold cN
        show ¬ ((decide (dr (x.A0.getD r.toNat am.z).2.2.1 c.B2 = b') && _) = true)
        rw [hr.2.2, decide_eq_false (fun e => hb e.symm)]
        simp
theorem BegR.len {c:ay} {x y:aa} {k:Nat} (h:BegR c x y k):y.A0.length=x.A0.length:=by
 have:=congrArg List.length h.tab
 simpa using this
def UQ (x:aa):Prop:=∀e∈x.B0,U32 e.2.2.2.2.1
def US (x:aa):Prop:=∀v∈x.C9,U32 v
def Sent (c:ay) (x y:aa):Prop:=x.B0.length≠0∧(x.B0.getD 0 aF.z).2.2.2.1=false∧len x.A0<c.B7∧∃v o:Int,
 (o=33∧(x.B0.getD 0 aF.z).2.1=1∨o=32∧(x.B0.getD 0 aF.z).2.1=2∨o=31∧(x.B0.getD 0 aF.z).2.1≠1∧(x.B0.getD 0 aF.z).2.1≠2) ∧
 y.B0=x.B0.set 0 ((x.B0.getD 0 aF.z).1,((x.B0.getD 0 aF.z).2.1,((x.B0.getD 0 aF.z).2.2.1,(true,(v,()))))) ∧
 y.A0=x.A0++[(true,(o,((x.B0.getD 0 aF.z).1,((x.B0.getD 0 aF.z).2.1,(v,(0,(0,(0,()))))))))]
structure SndR (c:ay) (x y:aa):Prop where
 ex:y=x∨Sent c x y
 fr:y={x with C9:=y.C9,B0:=y.B0,A0:=y.A0}
 sdq:y.C9.length≤x.C9.length
 saq:y.B0.length=x.B0.length
 tab:y.A0.length≤x.A0.length+1
 uq:US x→UQ x→UQ y
 us:US x→US y
variable {N:Nat}
theorem e7C {a n:Int} (h:U32 a):U32 (shr .u32 a n):=by
 unfold shr;have hp:(1:Int)≤2 ^ (min n.toNat IntKind.u32.bits):=by
  have:(0:Int)<2 ^ (min n.toNat IntKind.u32.bits):=Int.pow_pos (by omega);omega
 generalize (2:Int) ^ (min n.toNat IntKind.u32.bits)=p at hp;rw[ov _ (by omega)];have h1:0≤a / p:=qK h.1 (by omega);have h2:a / p≤a:=qG _ h.1;have:=h.2;exact⟨h1,by omega⟩
theorem e7p (op:Int) {a b:Int} (ha:U32 a) (hb:U32 b):U32 (opM op a b).1:=by
 have hz:U32 0:=⟨by omega,by omega⟩
 have h01:∀c:Bool,U32 (h8r c):=by intro c; cases c<;>exact⟨by decide,by decide⟩
 unfold opM;by_cases h1:op=1
 ·rw[if_pos h1]; exact dI _
 rw[if_neg h1];by_cases h2:op=2
 ·rw[if_pos h2]; exact dI _
 rw[if_neg h2];by_cases h3:op=3
 ·rw[if_pos h3]; exact dI _
 rw[if_neg h3];by_cases h4:op=4
 ·rw[if_pos h4]; exact dI _
 rw[if_neg h4];by_cases h5:op=5
 ·rw[if_pos h5]; exact dI _
 rw[if_neg h5];by_cases h6:op=6
 ·rw[if_pos h6]; exact dI _
 rw[if_neg h6];by_cases h7:op=7
 ·rw[if_pos h7]; exact e7C ha
 rw[if_neg h7];by_cases h8:op=8
 ·rw[if_pos h8]; exact dI _
 rw[if_neg h8];by_cases h9:op=9
 ·rw[if_pos h9]; exact h01 _
 rw[if_neg h9];by_cases h10:op=10
 ·rw[if_pos h10]; exact h01 _
 rw[if_neg h10];by_cases h11:op=11
 ·rw[if_pos h11]; exact dI _
 rw[if_neg h11];by_cases h12:op=12
 ·rw[if_pos h12]; exact dI _
 rw[if_neg h12];by_cases hb0:b=0
 ·rw[if_pos hb0]; exact hz
 rw[if_neg hb0];by_cases h13:op=13
 ·rw[if_pos h13]; exact dI _
 rw[if_neg h13];by_cases h15:op=15
 ·rw[if_pos h15]; exact dI _
 rw[if_neg h15];have k1:=ha.1; have k2:=hb.1; have k3:=ha.2; have k4:=hb.2;by_cases h14:op=14
 ·
  rw[if_pos h14];show U32 (Int.tdiv a b);rw[ou k1];exact⟨qK k1 k2,by have:=qG b k1; omega⟩
 ·
  rw[if_neg h14];show U32 (Int.tmod a b);rw[oQ k1];exact⟨ol _ hb0,by have:=oW a (show 0<b by omega); omega⟩
theorem e2V (i:af) {a b:Int} (ha:U32 a) (hb:U32 b):U32 (doM i a b).1:=by
 unfold doM;split
 ·exact⟨by simp,by simp⟩
 ·
  split
  ·exact dI _
  ·
   refine e7p _ ha ?_;split
   ·exact dI _
   ·exact hb
def SideW (d:aI):Prop:=d.A8.length=16∧∀r∈d.B1,U32 r
theorem SideW.set {d:aI} (h:SideW d) (r y:Int) {v:Int} (hv:U32 v):SideW (setM d r v y):=by
 unfold setM;split
 ·exact⟨by simp[h.1],e3s h.2 _ hv⟩
 ·exact h
theorem SideW.behind {d:aI} (h:SideW d):SideW (cj d):=h
theorem SideW.go {d:aI} (h:SideW d) (s:ao) (cy:Int) (t:Bool):SideW (goD s cy d t):=h
theorem SideW.halt {d:aI} (h:SideW d):SideW (h7M d):=h
def UA (x:aa):Prop:=∀v∈x.C7,U32 v
structure Wd (x:aa):Prop where
 a:SideW x.A
 e:SideW x.E
 ul:UL x
 uq:UQ x
 us:US x
 ua:UA x
theorem e5C {l:List Int} (h:∀v∈l,U32 v) (i:Nat):U32 (l.getD i 0):=by
 by_cases hi:i<l.length
 ·exact h _ (ck 0 hi)
 ·
  rw[mA,mg (by omega)];exact⟨by simp,by simp⟩
theorem e4u {l:List Int} (h:∀v∈l,U32 v) {v:Int} (hv:U32 v):∀u∈l++[v],U32 u:=by
 intro u hu;rcases mM.1 hu with hu | hu
 ·exact h u hu
 ·
  simp only[mI]at hu;rw[hu]; exact hv
theorem e9n {l:List aO} (h:∀e∈l,U32 e.2.2.1):(∀e∈(popM l).1,U32 e.2.2.1)∧U32 (popM l).2.1:=by
 unfold popM;split
 ·exact⟨h,by simp,by simp⟩
 ·
  rename_i h0;refine⟨λe he=>h e (oZ he),?_⟩
  exact h _ (ck aO.z (by omega))
theorem c7C {x:aa} (h:Wd x) (k st pc:Int):Wd (bG x k st pc):=by
 unfold bG;split
 ·exact⟨h.a,h.e,h.ul,h.uq,h.us,h.ua⟩
 ·exact h
theorem e6Y {x:aa} (h:Wd x) (c:ay) (s:ao) (k:ak) (st:Int):Wd (actE c s k st x):=by
 have hg:=b1T h.e.2;unfold actE;split
 ·
  split
  ·exact⟨h.a,(h.e.set _ _ (e2V _ (hg _) (hg _))).behind,h.ul,h.uq,h.us,h.ua⟩
  ·exact c7C h _ _ _
 split
 ·
  split
  ·exact h
  ·exact⟨h.a,(h.e.set _ _ (e5C h.ua 0)).behind,h.ul,h.uq,h.us,λv hv=>h.ua v (oZ hv)⟩
 split
 ·
  split
  ·exact h
  ·
   have hp:=e9n h.ul;exact⟨h.a,(h.e.set _ _ hp.2).behind,hp.1,h.uq,h.us,h.ua⟩
 split
 ·
  split
  ·exact⟨h.a,h.e.behind,h.ul,h.uq,e4u h.us (hg _),h.ua⟩
  ·exact h
 split
 ·
  split
  ·exact h
  ·exact⟨h.a,h.e.go _ _ _,h.ul,h.uq,h.us,h.ua⟩
 split
 ·
  split
  ·exact h
  ·exact⟨h.a,h.e.go _ _ _,h.ul,h.uq,h.us,h.ua⟩
 split
 ·exact⟨h.a,h.e.go _ _ _,h.ul,h.uq,h.us,h.ua⟩
 split
 ·exact⟨h.a,h.e.halt,h.ul,h.uq,h.us,h.ua⟩
 ·exact h
theorem e5r {x:aa} (h:Wd x) (c:ay) (s:ao):Wd (aG c s x):=by
 have h2:Wd (atE s x).2.2.2:=by
  have hc:=d8x s x;obtain⟨h1,h3⟩:=hc;generalize (atE s x).2.2.2=y at h1 h3;rw[h1];refine⟨h.a,?_,h.ul,h.uq,h.us,h.ua⟩;show SideW y.E;rw[h3];exact h.e
 unfold aG;split
 ·exact h2
 ·exact e6Y h2 _ _ _ _
theorem d0k (l:List aF) (a n:Int):∀i,i≤l.length→(du l a n i).1=aF.z∨(du l a n i).1∈l
 | 0,_=>.inl rfl
 | i+1,h=>by
  unfold du;split
  ·exact .inr (ck aF.z (by omega))
  ·exact d0k l a n i (by omega)
theorem e7i {e:aF} (h:U32 e.2.2.2.2.1) (op a:Int):U32 (bypM e op a).1:=by
 unfold bypM;split
 ·exact⟨by simp,by simp⟩
 ·exact d8Y op h
theorem e6B {x:aa} (h:Wd x) (c:ay):Wd (resM c x):=by
 unfold resM;split
 ·
  refine⟨h.a,h.e,λe he=>?_,h.uq,h.us,h.ua⟩
  rcases mM.1 he with he | he
  ·exact h.ul e he
  ·
   simp only[mI]at he;rw[he]; exact⟨by simp,by simp⟩
 ·exact h
theorem e6S {x:aa} (h:Wd x) (c:ay) (k:ak) {v:Int} (hv:U32 v):Wd (gX c k v x):=by
 unfold gX;split
 ·exact⟨(h.a.set _ _ hv).behind,h.e,h.ul,h.uq,h.us,h.ua⟩
 ·
  split
  ·
   have hr:=e6B h c;exact⟨h.a.behind,hr.e,d8S hr.ul _ hv,hr.uq,hr.us,hr.ua⟩
  ·exact h
theorem e8f {x:aa} (h:Wd x) (c:ay) (k:ak) (a:Int):Wd (askM c k a x):=by
 unfold askM;split
 ·
  split
  ·
   have hr:=e6B h c;exact⟨h.a.behind,hr.e,hr.ul,hr.uq,hr.us,hr.ua⟩
  ·exact h
 ·
  split
  ·exact⟨⟨by simp[cj,h.a.1],h.a.2⟩,h.e,h.ul,h.uq,h.us,h.ua⟩
  ·exact⟨h.a.behind,h.e,h.ul,h.uq,h.us,h.ua⟩
theorem e8b {x:aa} (h:Wd x) (c:ay) (k:ak) (st:Int):Wd (gM c k st x):=by
 unfold gM;split
 ·exact c7C h _ _ _
 ·
  split
  ·
   split
   ·
    refine e6S h c k (e7i ?_ _ _);rcases d0k x.B0 (dC k x) (aZ k.2.1.1) x.B0.length (mG _) with e | e
    ·rw[e]; exact⟨by decide,by decide⟩
    ·exact h.uq _ e
   ·exact h
  ·
   split
   ·exact e8f h c k _
   ·exact h
theorem e5t {x:aa} (h:Wd x) (c:ay) (k:ak) (st:Int):Wd (gj c k st x):=by
 unfold gj;split
 ·exact c7C h _ _ _
 ·
  split
  ·
   refine⟨h.a.behind,h.e,h.ul,λe he=>?_,h.us,h.ua⟩
   rcases mM.1 he with he | he
   ·exact h.uq e he
   ·
    simp only[mI]at he;rw[he]; exact⟨by simp,by simp⟩
  ·exact h
theorem e7n {x:aa} (h:Wd x) (c:ay) (s:ao) (k:ak) (st:Int):Wd (actA c s k st x):=by
 have hg:=b1T h.a.2;unfold actA;split
 ·
  unfold doA;split
  ·exact⟨(h.a.set _ _ (e2V _ (hg _) (hg _))).behind,h.e,h.ul,h.uq,h.us,h.ua⟩
  ·exact c7C h _ _ _
 split
 ·exact e8b h c k st
 split
 ·exact e5t h c k st
 split
 ·
  split
  ·exact⟨h.a.behind,h.e,h.ul,h.uq,h.us,e4u h.ua (hg _)⟩
  ·exact h
 split
 ·
  unfold gN;split
  ·exact h
  ·exact⟨h.a.go _ _ _,h.e,h.ul,h.uq,h.us,h.ua⟩
 split
 ·
  unfold gP;split
  ·exact h
  ·exact⟨h.a.go _ _ _,h.e,h.ul,h.uq,h.us,h.ua⟩
 split
 ·exact⟨h.a.go _ _ _,h.e,h.ul,h.uq,h.us,h.ua⟩
 split
 ·exact⟨h.a.halt,h.e,h.ul,h.uq,h.us,h.ua⟩
 ·exact h
theorem e6v {x:aa} (h:Wd x) (s:ao):Wd (atA s x).2.2.2:=by
 unfold atA;split
 ·exact h
 ·
  simp only[];split
  ·exact c7C (x:={x with A:={x.A with A6:=(kx s false x.A.A6).1}}) ⟨h.a,h.e,h.ul,h.uq,h.us,h.ua⟩ _ _ _
  ·exact⟨h.a,h.e,h.ul,h.uq,h.us,h.ua⟩
theorem e6b {x:aa} (h:Wd x) (c:ay) (s:ao):Wd (aP c s x):=by
 unfold aP;split
 ·exact e6v h s
 ·exact e7n (e6v h s) _ _ _ _
variable {N:Nat}
structure Inv (k:Nat) (x:aa):Prop where
 wd:Wd x
 mem:len x.Mem≤65536
 ldq:x.B9.length≤700
 sdq:x.C9.length≤700
 aeq:x.C7.length≤700
 abq:x.C6.length≤700
 ebq:x.C8.length≤700
 saq:x.B0.length≤700
 tab:x.A0.length≤700
 wri:x.A2.length≤k
theorem Inv.wf {k:Nat} {x:aa} (h:Inv k x) (hk:k≤14000):Wf x :=
 {rA:=h.wd.a.1,rE:=h.wd.e.1,mem:=by have:=h.mem; simp only[len]at this; omega,saq:=by have:=h.saq; omega,tab:=by have:=h.tab; omega,ldq:=by have:=h.ldq; omega,sdq:=by have:=h.sdq; omega,aeq:=by have:=h.aeq; omega,abq:=by have:=h.abq; omega,ebq:=by have:=h.ebq; omega,wri:=by have:=h.wri; omega,gA:=h.wd.a.2,gE:=h.wd.e.2}
theorem Inv.wfa {k:Nat} {x:aa} (h:Inv k x):WfA x :=
 {mem:=by have:=h.mem; simp only[len]at this; omega,ldq:=by have:=h.ldq; omega,tab:=by have:=h.tab; omega,saq:=by have:=h.saq; omega,aeq:=by have:=h.aeq; omega,abq:=by have:=h.abq; omega,gA:=h.wd.a.2}
theorem Inv.mono {k m:Nat} {x:aa} (h:Inv k x) (hm:k≤m):Inv m x:={h with wri:=nO h.wri hm}
structure Bnd (c:ay) (x:aa):Prop where
 ldq:x.B9.length≤64
 sdq:x.C9.length≤64
 aeq:x.C7.length≤64
 abq:x.C6.length≤64
 ebq:x.C8.length≤64
 saq:x.B0.length≤64
 tab:x.A0.length≤64
 bk:1≤c.B2∧c.B2≤16
 la:1≤c.C4∧c.C4≤1000
theorem Bnd.of {c:ay} {s:ao} {x:aa} (h:bu c s x=true):Bnd c x:=by
 unfold bu cfgM h7k at h;simp only[mE,allB,mt,nT,decide_eq_true_eq,len]at h;obtain⟨⟨⟨a1,a2,a3,a4,a5,a6,a7,a8,_⟩,⟨b1,_⟩,⟨b2,_⟩,_⟩,_,_,_,⟨c1,c2,c3,c4,c5,c6,c7,c8⟩,_⟩:=h;exact⟨by omega,by omega,by omega,by omega,by omega,by omega,by omega,b1,b2⟩
theorem Lefts.of {c:ay} {s:ao} {x:aa} (h:bu c s x=true):Lefts x.A0 (len x.Mem):=by
 unfold bu at h;simp only[mE]at h;have h2:=mz.1 h.2.2.2.2.2.1.2.1;intro q hq _;have h3:=h2 q hq;unfold reqM at h3;simp only[mE]at h3;have:=of_decide_eq_true h3.2.2.1;exact this
theorem a6f (x:aa):∀(l:List am) (n m:Int),bQ x n l=some m→m=n+((l.countP λq=>q.1:Nat):Int)
 | [],n,m,h=>by simp only[bQ,mB]at h; simp; omega
 | q::r,n,m,h=>by
  unfold bQ at h;rw[nV];split at h
  ·
   rename_i hq;rw[if_neg (by simp[hq])];have:=a6f x r n m h;omega
  ·
   rename_i hq;split at h
   ·simp at h
   ·
    rw[if_pos (by simpa using hq)];have:=a6f x r (n+1) m h;omega
theorem e2n {c:ay} {s:ao} {x:aa} (h:bu c s x=true):(x.A0.countP λq=>q.1)≤1:=by
 unfold bu at h;simp only[mE]at h;have h2:=h.2.2.2.2.2.1.2.2;unfold eJ at h2;split at h2
 ·simp at h2
 ·
  rename_i n hn;have h3:=a6f x _ _ _ hn;have h4:=of_decide_eq_true h2;split at h4<;>omega
theorem d7o {c:ay} {s:ao} {x:aa} (h:bu c s x=true):x.A0.countP dg≤1:=by
 refine nO (List.countP_mono_left λq _ hq=>?_) (e2n h);unfold dg at hq;simp only[mE]at hq;exact hq.1
def Wrote (x y:aa):Prop:=∃ws:List bv,ws.length≤1∧y.A2=x.A2++ws∧y.Mem=ws.foldl wrOf x.Mem∧∀q∈ws,LieW q (len x.Mem)
theorem Wrote.same {x y:aa} (h:y.A2=x.A2) (g:y.Mem=x.Mem):Wrote x y:=⟨[],by simp,by simp[h],g,by simp⟩
theorem invE {c:ay} {s:ao} {x:aa} {k:Nat} (h:Inv k x) (hr:bu c s x=true):Inv k (aG c s x)∧(aG c s x).A2=x.A2∧(aG c s x).Mem=x.Mem:=by
 have hb:=Bnd.of hr;have hw:=e5r h.wd c s;have ho:=d9F c s x;generalize aG c s x=y at *;have e1:y.A2=x.A2:=by rw[ho.fr]
 have e2:y.Mem=x.Mem:=by rw[ho.fr]
 have e3:y.B0=x.B0:=by rw[ho.fr]
 have e4:y.A0=x.A0:=by rw[ho.fr]
 obtain⟨b1,b2,b3,b4,b5,b6,b7,_,_⟩:=hb;have on:=ho.on;exact⟨{wd:=hw,mem:=by rw[e2]; exact h.mem,ldq:=by omega,sdq:=by omega,aeq:=by omega,abq:=by omega,ebq:=by omega,saq:=by rw[e3]; omega,tab:=by rw[e4]; omega,wri:=by rw[e1]; exact h.wri},e1,e2⟩
theorem invA {c:ay} {s:ao} {x:aa} {k:Nat} (h:Inv k x) (hr:bu c s x=true):Inv k (aP c s x)∧(aP c s x).A2=x.A2∧(aP c s x).Mem=x.Mem:=by
 have hb:=Bnd.of hr;have hw:=e6b h.wd c s;have ho:=d3T c s x;generalize aP c s x=y at *;have e1:y.A2=x.A2:=by rw[ho.fr]
 have e2:y.Mem=x.Mem:=by rw[ho.fr]
 have e3:y.C9=x.C9:=by rw[ho.fr]
 obtain⟨b1,b2,b3,b4,b5,b6,b7,_,_⟩:=hb;have on:=ho.on;have tb:=ho.tb;have tg:=ho.tg;exact⟨{wd:=hw,mem:=by rw[e2]; exact h.mem,ldq:=by omega,sdq:=by rw[e3]; omega,aeq:=by omega,abq:=by omega,ebq:=by omega,saq:=by omega,tab:=by omega,wri:=by rw[e1]; exact h.wri},e1,e2⟩
theorem Inv.cyc {k:Nat} {x:aa} (h:Inv k x) (n:Int):Inv k {x with A1:=n} :=
 {wd:=⟨h.wd.a,h.wd.e,h.wd.ul,h.wd.uq,h.wd.us,h.wd.ua⟩,mem:=h.mem,ldq:=h.ldq,sdq:=h.sdq,aeq:=h.aeq,abq:=h.abq,ebq:=h.ebq,saq:=h.saq,tab:=h.tab,wri:=h.wri}
theorem invM {c:ay} {s:ao} {x x1 x2:aa} {k n:Nat} (h:Inv k x) (hr:bu c s x=true) (m1:MovR x x1 n) (hn:n≤1) (m2:SndR c x1 x2):Inv (k+1) x2∧Wrote x x2:=by
 obtain⟨b1,b2,b3,b4,b5,b6,b7,_,_⟩:=Bnd.of hr;obtain⟨ws,w1,w2,w3,w4⟩:=m1.wr;have hj:=m1.saq;have fr1:=m1.fr;have fr2:=m2.fr;have q1:x2.A2=x1.A2:=by rw[fr2]
 have q2:x2.Mem=x1.Mem:=by rw[fr2]
 have q3:x2.A=x1.A:=by rw[fr2]
 have q4:x2.E=x.E:=by rw[fr2,fr1]
 have q5:x2.B9=x1.B9:=by rw[fr2]
 have q6:x2.C7=x.C7:=by rw[fr2,fr1]
 have q7:x2.C6=x.C6:=by rw[fr2,fr1]
 have q8:x2.C8=x.C8:=by rw[fr2,fr1]
 have q9:x1.C9=x.C9:=by rw[fr1]
 have us1:US x1:=by unfold US; rw[q9]; exact h.wd.us
 have uq1:UQ x1:=by
  intro e he;rw[hj]at he;exact h.wd.uq e (oZ he)
 have l1:=m1.ldq;have l2:=m2.sdq;have l3:=m2.saq;have l4:=m2.tab;have l5:=m1.tab;rw[q9]at l2;have l6:x1.B0.length≤x.B0.length:=by rw[hj]; simp
 refine⟨{wd:=⟨⟨by rw[q3,m1.rdy]; exact h.wd.a.1,by rw[q3]; exact m1.regs h.wd.a.2⟩,by rw[q4]; exact h.wd.e,?_,m2.uq us1 uq1,m2.us us1,?_⟩,mem:=?_,ldq:=by rw[q5]; omega,sdq:=by omega,aeq:=by rw[q6]; omega,abq:=by rw[q7]; omega,ebq:=by rw[q8]; omega,saq:=by omega,tab:=by omega,wri:=?_},⟨ws,by omega,by rw[q1]; exact w2,by rw[q2]; exact w3,w4⟩⟩
 ·unfold UL; rw[q5]; exact m1.ul h.wd.ul
 ·unfold UA; rw[q6]; exact h.wd.ua
 ·
  have:=h.mem;rw[q2];simp only[len,m1.mem]at this ⊢;exact this
 ·
  rw[q1,w2];have:=h.wri;simp;omega
theorem Wrote.then {x y z:aa} (h:Wrote x y) (g:z.A2=y.A2) (g2:z.Mem=y.Mem):Wrote x z:=by
 obtain⟨ws,a1,a2,a3,a4⟩:=h;exact⟨ws,a1,by rw[g]; exact a2,by rw[g2]; exact a3,a4⟩
variable {N:Nat}
abbrev st0 (mem:List Int):aa:=aa.mk 0 aI.z aI.z ([]:List aO) ([]:List Int) ([]:List Int) ([]:List Bool) ([]:List Bool) ([]:List aF) ([]:List am) mem ([]:List bv) cQ.z 0 0 0
theorem e3P {mem:List Int} (h:len mem≤65536):Inv 0 (st0 mem):=by
 have hz:SideW aI.z:=by
  refine⟨rfl,λr hr=>?_⟩
  rw[show r=0 from pC (n:=16) hr];exact⟨by simp,by simp⟩
 exact {wd:=⟨hz,hz,by intro e he; simp at he,by intro e he; simp at he,by intro e he; simp at he,by intro e he; simp at he⟩,mem:=h,ldq:=by simp,sdq:=by simp,aeq:=by simp,abq:=by simp,ebq:=by simp,saq:=by simp,tab:=by simp,wri:=by simp}
section
variable (cy:Int) (c:ay) (t:bH) (s:ao)
end
end Go.Proofs.Zz
