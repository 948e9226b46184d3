import Derived.Test.YtnfpdmhdpeffjaaGreatME
import Derived.Test.YtnfpdmhdpeffjaaGreatK5
import Derived.Test.YtnfpdmhdpeffjaaGreatK7
import Derived.KernelRfl
set_option linter.unusedSimpArgs false
set_option linter.unusedVariables false
/- Steps are small; how far A is ahead; what A's cycle does then. -/
namespace Go.Proofs.Zz
open Go
variable {N:Nat}
theorem c6Z {s:a0g} (h:SplitOk s.Blocks) {b:Int} (hb:hasM s b = true):0≤(blockM s b).1∧(blockM s b).1 < (blockM s b).2.1∧(blockM s b).2.1≤2000∧SpanOk KA (blockM s b).1 (blockM s b).2.1 (blockM s b).2.2.2.2.1∧SpanOk KE (blockM s b).1 (blockM s b).2.1 (blockM s b).2.2.2.2.2.1:=by
 have h2:=a2u.1 hb;have h3:=h.blk b.toNat (by omega);exact ⟨h3.1,h3.2.1,h3.2.2.1,h3.2.2.2.2.1,h3.2.2.2.2.2⟩
theorem b8B {s:a0g} (h:SplitOk s.Blocks) {p:a0C} (hb:hasM s p.Block = true) (h0:0≤p.Base) (h1:p.Base≤9000000000000):p.Base≤endM s p∧endM s p≤p.Base+2000:=by
 obtain ⟨g1,g2,g3,_⟩:=c6Z h hb;unfold endM;rw [if_pos hb,wI (x:=p.Base+(blockM s p.Block).2.1) (by omega) (by omega),wI (by omega) (by omega)];omega
theorem b1l {s:a0g} (h:SplitOk s.Blocks) (e:Bool):∀ (n:Nat) (p:a0C),hasM s p.Block = true→0≤p.Base→p.Base+2000*n≤9000000000000→0≤(settleN s e n p).1.Base∧(settleN s e n p).1.Base≤p.Base+2000*n
 | 0,p,hb,h0,h1=>⟨h0,by simp only [settleN]; omega⟩
 | n+1,p,hb,h0,h1=>by
  unfold settleN;rw [if_neg (by rw [hb]; simp)];split
  · exact ⟨h0,by simp only; omega⟩
  ·
   split
   · exact ⟨h0,by simp only; omega⟩
   ·
    rename_i h3;have hr:=b8B h hb h0 (by omega);have h4:=((NextOk.of h) _ hb).resolve_left h3;have:=b1l h e n ⟨(blockM s p.Block).2.2.1,0,endM s p⟩ h4.2 (by simp only; omega) (by simp only; omega);simp only at this;exact ⟨this.1,by omega⟩
theorem d0V {s:a0g} (h:SplitOk s.Blocks) (e:Bool) {p:a0C} (hb:hasM s p.Block = true):0≤(cellAt s e p).2.2.2.2.1∧(cellAt s e p).2.2.2.2.1≤2000:=by
 obtain ⟨g1,g2,g3,g4,g5⟩:=c6Z h hb;have key:∀ (ks:List Int) (l:List a0h),SpanOk ks (blockM s p.Block).1 (blockM s p.Block).2.1 l→0≤(l.getD p.Index.toNat a0h.z).2.2.2.2.1∧(l.getD p.Index.toNat a0h.z).2.2.2.2.1≤2000:=by
  intro ks l hl;by_cases hi:p.Index.toNat < l.length
  ·
   have:=hl.all _ (a1E a0h.z hi);omega
  ·
   rw [List.getD_eq_getElem?_getD,List.getElem?_eq_none (by omega)];exact ⟨by simp,by simp⟩
 unfold cellAt cellsM;rw [if_pos hb];cases e with
 | true=>exact key _ _ g5
 | false=>exact key _ _ g4
end Go.Proofs.Zz

/- A that is far ahead waits: the reference law's answer. -/
namespace Go.Proofs.Zz
open Go
variable {N:Nat}
end Go.Proofs.Zz

/- What waits in E's cycle, and what does not: the model's law. -/
namespace Go.Proofs.Zz
open Go
variable {N:Nat}
end Go.Proofs.Zz

/- What waits in E's cycle stays: the reference law's answer. -/
namespace Go.Proofs.Zz
open Go
variable {N:Nat}
end Go.Proofs.Zz

/- Programs of a load or a store, and a halt: how they are split. -/
set_option maxRecDepth 100000
namespace Go.Proofs.Zz
open Go
section
variable {op d imm size:Int} {ext:Bool} {data:List Int}
end
end Go.Proofs.Zz

/- A load or store of a wrong address is a trap: the reference law's answer. -/
set_option maxRecDepth 100000
namespace Go.Proofs.Zz
open Go
section
variable {op d imm size:Int} {ext:Bool} {data:List Int}
end
end Go.Proofs.Zz

/- Loads behind stores: the reference's search and its bypass. -/
set_option maxRecDepth 100000
namespace Go.Proofs.Zz
open Go
variable {N:Nat}
theorem c5o {a n b:Int} (ha:0≤a∧a≤100000) (hn:0≤n∧n≤100) (hb:0≤b∧b≤100000):beforeM a n b = decide (a≤b∧b - a < n):=by
 unfold beforeM;rw [Bool.eq_iff_iff];simp only [Bool.and_eq_true,decide_eq_true_eq,w.u64,IntKind.wrap_u64];omega
def Lies (l:List a0a):Prop:=∀ e∈l,(0≤e.1∧e.1≤100000)∧(1≤e.2.1∧e.2.1≤4)
theorem c9l {m:Int} (hm:m≤65536):∀ (l:List a0a) (b:Bool),entsM m b l = true→Lies l
 | [],b,_=>by intro e he; simp at he
 | e::r,b,h=>by
  unfold entsM at h;simp only [Bool.and_eq_true] at h;have h1:=of_decide_eq_true h.1;intro x hx;rcases List.mem_cons.1 hx with rfl | hx
  · omega
  · exact c9l hm r false h.2.2.2 x hx
end Go.Proofs.Zz

/- The memory's cycle: what it leaves. -/
set_option maxRecDepth 100000
namespace Go.Proofs.Zz
open Go
variable {N:Nat}
/-! Bytes written -/
def wrB (a v:Int) (m:List Int):Nat→List Int
 | 0=>m
 | n+1=>(wrB a v m n).set (a+(n:Int)).toNat (w.u8 (shr .u32 v (8*(n:Int))))
theorem c3A (a v:Int) (m:List Int):∀ n,(wrB a v m n).length = m.length
 | 0=>rfl
 | n+1=>by rw [wrB,List.length_set,c3A a v m n]
def LieW (q:a0K) (n:Int):Prop:=(q.2.1 = 1∨q.2.1 = 2∨q.2.1 = 4)∧0≤q.1∧q.1+q.2.1≤n∧q.1 % q.2.1 = 0
def wrOf (m:List Int) (q:a0K):List Int:=wrB q.1 q.2.2.1 m q.2.1.toNat
theorem e0y (q:a0K) (x:a0b) (sz:Nat) (hs:sz≤4) (ha:0≤q.1) (hn:q.1+sz≤len x.Mem) (hm:len x.Mem≤65536):∀ n j:Nat,j≤sz→sz - j < n →
  a2Y N n (sz:Int) (j:Int) { x with Mem:=wrB q.1 q.2.2.1 x.Mem j } q = some (1,a0c.dv { x with Mem:=wrB q.1 q.2.2.1 x.Mem sz } []):=by
 intro n;induction n with
 | zero=>intro j h1 h2; omega
 | succ n ih =>
  intro j h1 h2;show a8n N (a2Y N n) (sz:Int) (j:Int) { x with Mem:=wrB q.1 q.2.2.1 x.Mem j } q = _;unfold a8n;simp only [len] at hn hm;by_cases hj:j < sz
  ·
   have e1:w.i64 (8*(j:Int)) = 8*(j:Int):=wI (by omega) (by omega);have e2:w.i64 (q.1+(j:Int)) = q.1+(j:Int):=wI (by omega) (by omega);rw [dt (show (j:Int) < (sz:Int) by omega),g7k,e1,df (show ¬ (8*(j:Int) < 0) by omega),g7w,e2];simp only [];rw [a1l (by omega) (by rw [c3A]; omega),g7n,wS (show j≤100000000 by omega)];exact ih (j+1) (by omega) (by omega)
  ·
   have:j = sz:=by omega
   subst this;rw [df (by omega),g7i]
theorem e4S (q:a0K) (x:a0b) (h:LieW q (len x.Mem)) (hm:len x.Mem≤65536) (hN:10 < N):b0T N q x = some (0,a0c.dv { x with Mem:=wrOf x.Mem q } []):=by
 obtain ⟨h1,h2,h3,h4⟩:=h;have hu:w.u32 q.1 = q.1:=by simp only [w.u32,IntKind.wrap_u32]; omega
 have hc:a1s N q.2.1 (w.u32 q.1) (len x.Mem) = some (0,gI.dv 0 []):=by
  rw [hu,a9V h1 (by unfold U32; omega) (by simp only [len] at hm ⊢; omega)];unfold checkM;rw [if_neg (by omega),if_neg (by omega)]
 have hl:a2Y N N q.2.1 0 x q = some (1,a0c.dv { x with Mem:=wrOf x.Mem q } []):=by
  have e:q.2.1 = ((q.2.1.toNat:Nat):Int):=by omega
  have:=e0y (N:=N) q x q.2.1.toNat (by omega) h2 (by omega) hm N 0 (by omega) (by omega);rw [← e] at this;exact this
 unfold b0T;simp only [hc,hl,g7j,g7m,g7l,g7u];rw [df (show ¬ (q.1 < 0) by omega),df (show ¬ (q.1 > 4294967295) by omega)];rcases h1 with h | h | h <;> rw [h] <;> rfl
/-! A store that ends -/
def wrQ (q:a0e):a0K:=(q.2.2.1,(q.2.2.2.1,(q.2.2.2.2.1,())))
theorem d6r (q:a0e) (x:a0b) (h:LieW (wrQ q) (len x.Mem)) (hm:len x.Mem≤65536) (hw:x.Writes.length≤500000) (hN:10 < N) :
  b4z N q x = some (0,a0c.dv { x with Mem:=wrOf x.Mem (wrQ q),Saq:=x.Saq.drop 1,Writes:=x.Writes++[wrQ q] } []):=by
 unfold b4z;rw [show b0T N (q.2.2.1,(q.2.2.2.1,(q.2.2.2.2.1,()))) x = _ from e4S (wrQ q) x h hm hN,g7j,g7m,g7l];simp only [];rw [rmT (by simp; omega),g7n];by_cases h0:x.Saq.length = 0
 ·
  have:x.Saq = []:=List.length_eq_zero_iff.1 h0;rw [df (show ¬ (len x.Saq > 0) by simp only [len]; omega),g7i,this];rfl
 ·
  rw [dt (show len x.Saq > 0 by simp only [len]; omega),g7k,sb_1 h0,g7n];rfl
/-! A load that ends -/
theorem d8Y (op:Int) {v:Int} (h:U32 v):U32 (signM op v):=by
 unfold signM;split
 · exact a5x _
 ·
  split
  · exact a5x _
  · exact h
def UL (x:a0b):Prop:=∀ e∈x.Ldq,U32 e.2.2.1
theorem d8S {l:List a0q} (h:∀ e∈l,U32 e.2.2.1) (t:Int) {v:Int} (hv:U32 v):∀ e∈fillM l t v,U32 e.2.2.1:=by
 unfold fillM;split
 · exact h
 ·
  intro e he;rcases List.mem_or_eq_of_mem_set he with h1 | h1
  · exact h e h1
  · rw [h1]; exact hv
structure EndR (x y:a0b) (k:Nat):Prop where
 wr:∃ ws:List a0K,ws.length = k∧y.Writes = x.Writes++ws∧y.Mem = ws.foldl wrOf x.Mem∧∀ q∈ws,LieW q (len x.Mem)
 fr:y = { x with A:=y.A,Ldq:=y.Ldq,Saq:=y.Saq,Mem:=y.Mem,Writes:=y.Writes }
 afr:y.A = { x.A with Regs:=y.A.Regs,Ready:=y.A.Ready }
 mem:y.Mem.length = x.Mem.length
 ldq:y.Ldq.length = x.Ldq.length
 saq:y.Saq = x.Saq.drop k
 ul:UL x→UL y
 rdp:∀ P:Int→Prop,(∀ r∈x.A.Ready,P r)→P (w.i64 (x.Cycle+1))→∀ r∈y.A.Ready,P r
 rdy:y.A.Ready.length = x.A.Ready.length
 regs:(∀ r∈x.A.Regs,U32 r)→∀ r∈y.A.Regs,U32 r
theorem EndR.refl (x:a0b):EndR x x 0:=⟨⟨[],by simp,by simp,rfl,by simp⟩,rfl,rfl,rfl,rfl,rfl,fun h=>h,fun _ h _=>h,rfl,fun h=>h⟩
theorem EndR.trans {x y z:a0b} {k m:Nat} (h:EndR x y k) (g:EndR y z m):EndR x z (k+m):=by
 obtain ⟨ws,a1,a2,a3,a4⟩:=h.wr;obtain ⟨vs,b1,b2,b3,b4⟩:=g.wr;have c1:=h.saq;have c2:=g.saq;refine ⟨⟨ws++vs,by simp; omega,by rw [b2,a2]; simp,by rw [b3,a3,List.foldl_append],fun q hq=>?_⟩,by rw [g.fr,h.fr],by rw [g.afr,h.afr],g.mem.trans h.mem,g.ldq.trans h.ldq,by rw [c2,c1,List.drop_drop],fun hu=>g.ul (h.ul hu),fun P hp hq=>g.rdp P (h.rdp P hp hq) (by rw [show y.Cycle = x.Cycle by rw [h.fr]]; exact hq),g.rdy.trans h.rdy,fun hr=>g.regs (h.regs hr)⟩
 rcases List.mem_append.1 hq with hq | hq
 · exact a4 q hq
 ·
  have:=b4 q hq;rw [show len y.Mem = len x.Mem by simp only [len,h.mem]] at this;exact this
theorem e3s {l:List Int} (h:∀ r∈l,U32 r) (i:Nat) {v:Int} (hv:U32 v):∀ r∈l.set i v,U32 r:=by
 intro r hr;rcases List.mem_or_eq_of_mem_set hr with h1 | h1
 · exact h r h1
 · rw [h1]; exact hv
/-! All requests -/
def downQ (q:a0e):a0e:=(q.1,(q.2.1,(q.2.2.1,(q.2.2.2.1,(q.2.2.2.2.1,((w.i64 (q.2.2.2.2.2.1 - 1)),q.2.2.2.2.2.2))))))
def keepQ (q:a0e):Option a0e:=if q.2.2.2.2.2.1 > 0 then (if w.i64 (q.2.2.2.2.2.1 - 1) = 0 then none else some (downQ q)) else some q
def endsQ (q:a0e):Bool:=q.1 && (decide (q.2.2.2.2.2.1 > 0) && decide (w.i64 (q.2.2.2.2.2.1 - 1) = 0))
def Lefts (T:List a0e) (n:Int):Prop:=∀ q∈T,q.1 = true→LieW (wrQ q) n
structure MovR (x y:a0b) (k:Nat):Prop where
 wr:∃ ws:List a0K,ws.length = k∧y.Writes = x.Writes++ws∧y.Mem = ws.foldl wrOf x.Mem∧∀ q∈ws,LieW q (len x.Mem)
 fr:y = { x with A:=y.A,Ldq:=y.Ldq,Saq:=y.Saq,Mem:=y.Mem,Writes:=y.Writes,Table:=y.Table,Lats:=y.Lats,Picks:=y.Picks }
 afr:y.A = { x.A with Regs:=y.A.Regs,Ready:=y.A.Ready }
 mem:y.Mem.length = x.Mem.length
 ldq:y.Ldq.length = x.Ldq.length
 saq:y.Saq = x.Saq.drop k
 ul:UL x→UL y
 tab:y.Table.length≤x.Table.length
 rdp:∀ P:Int→Prop,(∀ r∈x.A.Ready,P r)→P (w.i64 (x.Cycle+1))→∀ r∈y.A.Ready,P r
 rdy:y.A.Ready.length = x.A.Ready.length
 regs:(∀ r∈x.A.Regs,U32 r)→∀ r∈y.A.Regs,U32 r
end Go.Proofs.Zz

/- The memory's cycle, and the sending of stores: what they leave. -/
set_option maxRecDepth 100000
namespace Go.Proofs.Zz
open Go
variable {N:Nat}
theorem d0F (a:Int):0≤bitAnd .i64 a 1073741823∧bitAnd .i64 a 1073741823≤1073741823:=by
 have h:(BitVec.ofInt 64 a &&& BitVec.ofInt 64 1073741823).toNat≤1073741823:=by
  rw [BitVec.toNat_and];exact Nat.le_trans Nat.and_le_right (by decide)
 unfold bitAnd;have e:(BitVec.ofInt IntKind.i64.bits a &&& BitVec.ofInt IntKind.i64.bits 1073741823).toNat≤1073741823:=h;generalize (BitVec.ofInt IntKind.i64.bits a &&& BitVec.ofInt IntKind.i64.bits 1073741823).toNat = n at e;rw [show IntKind.i64.wrap (n:Int) = (n:Int) from wI (by omega) (by omega)];omega
def bankM (a n:Int):Int:=if a < 0∨n < 1 then 0 else Int.tmod (w.i64 (Int.tdiv a 4)) n
theorem d7S (a n:Int):b8s N a n = some (0,gI.dv (bankM a n) []):=by
 unfold b8s bankM;by_cases h0:a < 0
 · rw [dt h0,g7k,if_pos (.inl h0)]
 rw [df h0,g7i];by_cases h1:n < 1
 · rw [dt h1,g7k,if_pos (.inr h1)]
 rw [df h1,g7i,show decide ((4:Int) = (0:Int)) = false from rfl,g7w,df (show ¬ (n = 0) by omega),g7w,if_neg (by omega)]
def workQ (n b:Int) (q:a0e):Bool:=decide (bankM q.2.2.1 n = b) && decide (q.2.2.2.2.2.1 > 0)
def stripQ (q:a0e):a0e:=(q.1,(q.2.1,(q.2.2.1,(q.2.2.2.1,(q.2.2.2.2.1,(0,q.2.2.2.2.2.2))))))
def LfOk (q:a0e):Prop:=0≤q.2.2.2.2.2.1∧q.2.2.2.2.2.1≤1000
theorem w_w (x y:Int):w.i64 (w.i64 x+y) = w.i64 (x+y):=by simp only [w.i64,IntKind.wrap_i64]; omega
structure BegR (c:a0f) (x y:a0b) (k:Nat):Prop where
 fr:y = { x with Table:=y.Table,Lats:=y.Lats,Picks:=y.Picks }
 tab:y.Table.map stripQ = x.Table.map stripQ
 lf:(∀ q∈x.Table,LfOk q)→∀ q∈y.Table,LfOk q
 cnt:I64 x.Lats→I64 x.Picks→∃ a b:Nat,b≤a∧a≤k∧y.Lats = w.i64 (x.Lats+a)∧y.Picks = w.i64 (x.Picks+b)
 wk:(∀ b,x.Table.countP (workQ c.Banks b)≤1)→∀ b,y.Table.countP (workQ c.Banks b)≤1
theorem BegR.refl (c:a0f) (x:a0b):BegR c x x 0:=⟨rfl,rfl,fun h=>h,fun h g=>⟨0,0,by omega,by omega,by simp [wI64 h],by simp [wI64 g]⟩,fun h=>h⟩
theorem BegR.mono {c:a0f} {x y:a0b} {k m:Nat} (h:BegR c x y k) (hm:k≤m):BegR c x y m :=
 ⟨h.fr,h.tab,h.lf,fun a b=>by obtain ⟨i,j,h1,h2,h3⟩:=h.cnt a b; exact ⟨i,j,h1,by omega,h3⟩,h.wk⟩
theorem BegR.trans {c:a0f} {x y z:a0b} {k m:Nat} (h:BegR c x y k) (g:BegR c y z m):BegR c x z (k+m):=by
 refine ⟨by rw [g.fr,h.fr],g.tab.trans h.tab,fun hl=>g.lf (h.lf hl),fun a b=>?_,fun hw=>g.wk (h.wk hw)⟩
 obtain ⟨i,j,h1,h2,h3,h4⟩:=h.cnt a b;obtain ⟨i',j',g1,g2,g3,g4⟩:=g.cnt (by rw [h3]; exact e5f _) (by rw [h4]; exact e5f _);refine ⟨i+i',j+j',by omega,by omega,?_,?_⟩
 · rw [g3,h3,w_w]; congr 1; omega
 · rw [g4,h4,w_w]; congr 1; omega
theorem e2X {l:List a0e} {i:Nat} (hi:i < l.length) {q:a0e} (h:stripQ q = stripQ (l.getD i a0e.z)):(l.set i q).map stripQ = l.map stripQ:=by
 rw [List.map_set,h];have:(l.map stripQ)[i]'(by simpa using hi) = stripQ (l.getD i a0e.z):=by
  rw [List.getElem_map,List.getD_eq_getElem?_getD,List.getElem?_eq_getElem hi]; rfl
 rw [← this,List.set_getElem_self]
theorem d6J (f:a0e→Bool):∀ (l:List a0e) (i:Nat) (q:a0e),(l.set i q).countP f≤l.countP f+(if f q = true then 1 else 0)
 | [],i,q=>by simp
 | a::l,0,q=>by
  simp only [List.set_cons_zero,List.countP_cons];omega
 | a::l,i+1,q=>by
  simp only [List.set_cons_succ,List.countP_cons];have:=d6J f l i q;omega
theorem e2Y {c : a0f} (hc : 1 ≤ c.Lat ∧ c.Lat ≤ 1000) {x : a0b} {b r lt p : Int} (hr : 0 ≤ r ∧ r < len x.Table ∧ bankM (x.Table.getD r.toNat a0e.z).2.2.1 c.Banks = b) (hw : ∀ q ∈ x.Table, workQ c.Banks b q = false) (hl : 0 ≤ lt ∧ lt < c.Lat) (hp : p = x.Picks ∨ p = w.i64 (x.Picks + 1)) :
    BegR c x { x with Table := (List.set x.Table (Int.toNat r) ((List.getD x.Table (Int.toNat r) a0e.z).1, ((List.getD x.Table (Int.toNat r) a0e.z).2.1, ((List.getD x.Table (Int.toNat r) a0e.z).2.2.1, ((List.getD x.Table (Int.toNat r) a0e.z).2.2.2.1, ((List.getD x.Table (Int.toNat r) a0e.z).2.2.2.2.1, (w.i64 (1 + lt), (List.getD x.Table (Int.toNat r) a0e.z).2.2.2.2.2.2))))))), Lats := w.i64 (x.Lats + 1), Picks := p } 1 := by
  have hw1 : w.i64 (1 + lt) = 1 + lt := wI (by omega) (by omega)
  have hr1 : r.toNat < x.Table.length := by have := hr.2.1; simp only [len] at this; omega
  refine ⟨rfl, e2X hr1 rfl, fun h q hq => ?_, fun a1 a2 => ?_, fun h b' => ?_⟩
  · rcases List.mem_or_eq_of_mem_set hq with h1 | h1
    · exact h q h1
    · rw [h1]
      show 0 ≤ w.i64 (1 + lt) ∧ w.i64 (1 + lt) ≤ 1000
      rw [hw1]; omega
  · rcases hp with hp | hp
    · exact ⟨1, 0, by omega, by omega, rfl, by show p = _; rw [hp]; simp [wI64 a2]⟩
    · exact ⟨1, 1, by omega, by omega, rfl, hp⟩
  · refine Nat.le_trans (d6J _ _ _ _) ?_
    by_cases hb : b' = b
    · have h0 : x.Table.countP (workQ c.Banks b') = 0 := by
        rw [List.countP_eq_zero]
        intro q hq
        rw [hb, hw q hq]
        simp
      rw [h0]
      split <;> omega
    · rw [if_neg]
      · exact h b'
      · unfold workQ
        show ¬ ((decide (bankM (x.Table.getD r.toNat a0e.z).2.2.1 c.Banks = b') && _) = true)
        rw [hr.2.2, decide_eq_false (fun e => hb e.symm)]
        simp
theorem BegR.len {c:a0f} {x y:a0b} {k:Nat} (h:BegR c x y k):y.Table.length = x.Table.length:=by
 have:=congrArg List.length h.tab
 simpa using this
/-! Stores that are sent -/
def UQ (x:a0b):Prop:=∀ e∈x.Saq,U32 e.2.2.2.2.1
def US (x:a0b):Prop:=∀ v∈x.Sdq,U32 v
def Sent (c:a0f) (x y:a0b):Prop:=x.Saq.length≠0∧(x.Saq.getD 0 a0a.z).2.2.2.1 = false∧len x.Table < c.Flight∧∃ v o:Int,
 (o = 33∧(x.Saq.getD 0 a0a.z).2.1 = 1∨o = 32∧(x.Saq.getD 0 a0a.z).2.1 = 2∨o = 31∧(x.Saq.getD 0 a0a.z).2.1≠1∧(x.Saq.getD 0 a0a.z).2.1≠2) ∧
 y.Saq = x.Saq.set 0 ((x.Saq.getD 0 a0a.z).1,((x.Saq.getD 0 a0a.z).2.1,((x.Saq.getD 0 a0a.z).2.2.1,(true,(v,()))))) ∧
 y.Table = x.Table++[(true,(o,((x.Saq.getD 0 a0a.z).1,((x.Saq.getD 0 a0a.z).2.1,(v,(0,(0,(0,()))))))))]
structure SndR (c:a0f) (x y:a0b):Prop where
 ex:y = x∨Sent c x y
 fr:y = { x with Sdq:=y.Sdq,Saq:=y.Saq,Table:=y.Table }
 sdq:y.Sdq.length≤x.Sdq.length
 saq:y.Saq.length = x.Saq.length
 tab:y.Table.length≤x.Table.length+1
 uq:US x→UQ x→UQ y
 us:US x→US y
end Go.Proofs.Zz

/- Words stay words in E's and A's cycles. -/
set_option maxRecDepth 100000
namespace Go.Proofs.Zz
open Go
variable {N:Nat}
theorem e7C {a n:Int} (h:U32 a):U32 (shr .u32 a n):=by
 unfold shr;have hp:(1:Int)≤2 ^ (min n.toNat IntKind.u32.bits):=by
  have:(0:Int) < 2 ^ (min n.toNat IntKind.u32.bits):=Int.pow_pos (by omega);omega
 generalize (2:Int) ^ (min n.toNat IntKind.u32.bits) = p at hp;rw [Int.fdiv_eq_ediv_of_nonneg _ (by omega)];have h1:0≤a / p:=Int.ediv_nonneg h.1 (by omega);have h2:a / p≤a:=Int.ediv_le_self _ h.1;have:=h.2;exact ⟨h1,by omega⟩
theorem e7p (op:Int) {a b:Int} (ha:U32 a) (hb:U32 b):U32 (opM op a b).1:=by
 have hz:U32 0:=⟨by omega,by omega⟩
 have h01:∀ c:Bool,U32 (one01 c):=by intro c; cases c <;> exact ⟨by decide,by decide⟩
 unfold opM;by_cases h1:op = 1
 · rw [if_pos h1]; exact a5x _
 rw [if_neg h1];by_cases h2:op = 2
 · rw [if_pos h2]; exact a5x _
 rw [if_neg h2];by_cases h3:op = 3
 · rw [if_pos h3]; exact a5x _
 rw [if_neg h3];by_cases h4:op = 4
 · rw [if_pos h4]; exact a5x _
 rw [if_neg h4];by_cases h5:op = 5
 · rw [if_pos h5]; exact a5x _
 rw [if_neg h5];by_cases h6:op = 6
 · rw [if_pos h6]; exact a5x _
 rw [if_neg h6];by_cases h7:op = 7
 · rw [if_pos h7]; exact e7C ha
 rw [if_neg h7];by_cases h8:op = 8
 · rw [if_pos h8]; exact a5x _
 rw [if_neg h8];by_cases h9:op = 9
 · rw [if_pos h9]; exact h01 _
 rw [if_neg h9];by_cases h10:op = 10
 · rw [if_pos h10]; exact h01 _
 rw [if_neg h10];by_cases h11:op = 11
 · rw [if_pos h11]; exact a5x _
 rw [if_neg h11];by_cases h12:op = 12
 · rw [if_pos h12]; exact a5x _
 rw [if_neg h12];by_cases hb0:b = 0
 · rw [if_pos hb0]; exact hz
 rw [if_neg hb0];by_cases h13:op = 13
 · rw [if_pos h13]; exact a5x _
 rw [if_neg h13];by_cases h15:op = 15
 · rw [if_pos h15]; exact a5x _
 rw [if_neg h15];have k1:=ha.1; have k2:=hb.1; have k3:=ha.2; have k4:=hb.2;by_cases h14:op = 14
 ·
  rw [if_pos h14];show U32 (Int.tdiv a b);rw [Int.tdiv_eq_ediv_of_nonneg k1];exact ⟨Int.ediv_nonneg k1 k2,by have:=Int.ediv_le_self b k1; omega⟩
 ·
  rw [if_neg h14];show U32 (Int.tmod a b);rw [Int.tmod_eq_emod_of_nonneg k1];exact ⟨Int.emod_nonneg _ hb0,by have:=Int.emod_lt_of_pos a (show 0 < b by omega); omega⟩
theorem e2V (i:a0o) {a b:Int} (ha:U32 a) (hb:U32 b):U32 (doM i a b).1:=by
 unfold doM;split
 · exact ⟨by simp,by simp⟩
 ·
  split
  · exact a5x _
  ·
   refine e7p _ ha ?_;split
   · exact a5x _
   · exact hb
def SideW (d:a0v):Prop:=d.Ready.length = 16∧∀ r∈d.Regs,U32 r
theorem SideW.set {d:a0v} (h:SideW d) (r y:Int) {v:Int} (hv:U32 v):SideW (setM d r v y):=by
 unfold setM;split
 · exact ⟨by simp [h.1],e3s h.2 _ hv⟩
 · exact h
theorem SideW.behind {d:a0v} (h:SideW d):SideW (behindM d):=h
theorem SideW.go {d:a0v} (h:SideW d) (s:a0g) (cy:Int) (t:Bool):SideW (goD s cy d t):=h
theorem SideW.halt {d:a0v} (h:SideW d):SideW (haltM d):=h
def UA (x:a0b):Prop:=∀ v∈x.Aeq,U32 v
structure Wd (x:a0b):Prop where
 a:SideW x.A
 e:SideW x.E
 ul:UL x
 uq:UQ x
 us:US x
 ua:UA x
theorem e5C {l:List Int} (h:∀ v∈l,U32 v) (i:Nat):U32 (l.getD i 0):=by
 by_cases hi:i < l.length
 · exact h _ (a1E 0 hi)
 ·
  rw [List.getD_eq_getElem?_getD,List.getElem?_eq_none (by omega)];exact ⟨by simp,by simp⟩
theorem e4u {l:List Int} (h:∀ v∈l,U32 v) {v:Int} (hv:U32 v):∀ u∈l++[v],U32 u:=by
 intro u hu;rcases List.mem_append.1 hu with hu | hu
 · exact h u hu
 ·
  simp only [List.mem_singleton] at hu;rw [hu]; exact hv
theorem e9n {l:List a0q} (h:∀ e∈l,U32 e.2.2.1):(∀ e∈(popM l).1,U32 e.2.2.1)∧U32 (popM l).2.1:=by
 unfold popM;split
 · exact ⟨h,by simp,by simp⟩
 ·
  rename_i h0;refine ⟨fun e he=>h e (List.mem_of_mem_drop he),?_⟩
  exact h _ (a1E a0q.z (by omega))
theorem c7C {x:a0b} (h:Wd x) (k st pc:Int):Wd (noteM x k st pc):=by
 unfold noteM;split
 · exact ⟨h.a,h.e,h.ul,h.uq,h.us,h.ua⟩
 · exact h
theorem e6Y {x:a0b} (h:Wd x) (c:a0f) (s:a0g) (k:a0h) (st:Int):Wd (actE c s k st x):=by
 have hg:=b1T h.e.2;unfold actE;split
 ·
  split
  · exact ⟨h.a,(h.e.set _ _ (e2V _ (hg _) (hg _))).behind,h.ul,h.uq,h.us,h.ua⟩
  · exact c7C h _ _ _
 split
 ·
  split
  · exact h
  · exact ⟨h.a,(h.e.set _ _ (e5C h.ua 0)).behind,h.ul,h.uq,h.us,fun v hv=>h.ua v (List.mem_of_mem_drop hv)⟩
 split
 ·
  split
  · exact h
  ·
   have hp:=e9n h.ul;exact ⟨h.a,(h.e.set _ _ hp.2).behind,hp.1,h.uq,h.us,h.ua⟩
 split
 ·
  split
  · exact ⟨h.a,h.e.behind,h.ul,h.uq,e4u h.us (hg _),h.ua⟩
  · exact h
 split
 ·
  split
  · exact h
  · exact ⟨h.a,h.e.go _ _ _,h.ul,h.uq,h.us,h.ua⟩
 split
 ·
  split
  · exact h
  · exact ⟨h.a,h.e.go _ _ _,h.ul,h.uq,h.us,h.ua⟩
 split
 · exact ⟨h.a,h.e.go _ _ _,h.ul,h.uq,h.us,h.ua⟩
 split
 · exact ⟨h.a,h.e.halt,h.ul,h.uq,h.us,h.ua⟩
 · exact h
theorem e5r {x:a0b} (h:Wd x) (c:a0f) (s:a0g):Wd (turnE c s x):=by
 have h2:Wd (atE s x).2.2.2:=by
  have hc:=d8x s x;obtain ⟨h1,h3⟩:=hc;generalize (atE s x).2.2.2 = y at h1 h3;rw [h1];refine ⟨h.a,?_,h.ul,h.uq,h.us,h.ua⟩;show SideW y.E;rw [h3];exact h.e
 unfold turnE;split
 · exact h2
 · exact e6Y h2 _ _ _ _
theorem d0k (l:List a0a) (a n:Int):∀ i,i≤l.length→(searchM l a n i).1 = a0a.z∨(searchM l a n i).1∈l
 | 0,_=>.inl rfl
 | i+1,h=>by
  unfold searchM;split
  · exact .inr (a1E a0a.z (by omega))
  · exact d0k l a n i (by omega)
theorem e7i {e:a0a} (h:U32 e.2.2.2.2.1) (op a:Int):U32 (bypM e op a).1:=by
 unfold bypM;split
 · exact ⟨by simp,by simp⟩
 · exact d8Y op h
theorem e6B {x:a0b} (h:Wd x) (c:a0f):Wd (resM c x):=by
 unfold resM;split
 ·
  refine ⟨h.a,h.e,fun e he=>?_,h.uq,h.us,h.ua⟩
  rcases List.mem_append.1 he with he | he
  · exact h.ul e he
  ·
   simp only [List.mem_singleton] at he;rw [he]; exact ⟨by simp,by simp⟩
 · exact h
theorem e6S {x:a0b} (h:Wd x) (c:a0f) (k:a0h) {v:Int} (hv:U32 v):Wd (takeM c k v x):=by
 unfold takeM;split
 · exact ⟨(h.a.set _ _ hv).behind,h.e,h.ul,h.uq,h.us,h.ua⟩
 ·
  split
  ·
   have hr:=e6B h c;exact ⟨h.a.behind,hr.e,d8S hr.ul _ hv,hr.uq,hr.us,hr.ua⟩
  · exact h
theorem e8f {x:a0b} (h:Wd x) (c:a0f) (k:a0h) (a:Int):Wd (askM c k a x):=by
 unfold askM;split
 ·
  split
  ·
   have hr:=e6B h c;exact ⟨h.a.behind,hr.e,hr.ul,hr.uq,hr.us,hr.ua⟩
  · exact h
 ·
  split
  · exact ⟨⟨by simp [behindM,h.a.1],h.a.2⟩,h.e,h.ul,h.uq,h.us,h.ua⟩
  · exact ⟨h.a.behind,h.e,h.ul,h.uq,h.us,h.ua⟩
theorem e8b {x:a0b} (h:Wd x) (c:a0f) (k:a0h) (st:Int):Wd (loadM c k st x):=by
 unfold loadM;split
 · exact c7C h _ _ _
 ·
  split
  ·
   split
   ·
    refine e6S h c k (e7i ?_ _ _);rcases d0k x.Saq (addrM k x) (sizeM k.2.1.1) x.Saq.length (Nat.le_refl _) with e | e
    · rw [e]; exact ⟨by decide,by decide⟩
    · exact h.uq _ e
   · exact h
  ·
   split
   · exact e8f h c k _
   · exact h
theorem e5t {x:a0b} (h:Wd x) (c:a0f) (k:a0h) (st:Int):Wd (storeM c k st x):=by
 unfold storeM;split
 · exact c7C h _ _ _
 ·
  split
  ·
   refine ⟨h.a.behind,h.e,h.ul,fun e he=>?_,h.us,h.ua⟩
   rcases List.mem_append.1 he with he | he
   · exact h.uq e he
   ·
    simp only [List.mem_singleton] at he;rw [he]; exact ⟨by simp,by simp⟩
  · exact h
theorem e7n {x:a0b} (h:Wd x) (c:a0f) (s:a0g) (k:a0h) (st:Int):Wd (actA c s k st x):=by
 have hg:=b1T h.a.2;unfold actA;split
 ·
  unfold doA;split
  · exact ⟨(h.a.set _ _ (e2V _ (hg _) (hg _))).behind,h.e,h.ul,h.uq,h.us,h.ua⟩
  · exact c7C h _ _ _
 split
 · exact e8b h c k st
 split
 · exact e5t h c k st
 split
 ·
  split
  · exact ⟨h.a.behind,h.e,h.ul,h.uq,h.us,e4u h.ua (hg _)⟩
  · exact h
 split
 ·
  unfold branchA;split
  · exact h
  · exact ⟨h.a.go _ _ _,h.e,h.ul,h.uq,h.us,h.ua⟩
 split
 ·
  unfold followA;split
  · exact h
  · exact ⟨h.a.go _ _ _,h.e,h.ul,h.uq,h.us,h.ua⟩
 split
 · exact ⟨h.a.go _ _ _,h.e,h.ul,h.uq,h.us,h.ua⟩
 split
 · exact ⟨h.a.halt,h.e,h.ul,h.uq,h.us,h.ua⟩
 · exact h
theorem e6v {x:a0b} (h:Wd x) (s:a0g):Wd (atA s x).2.2.2:=by
 unfold atA;split
 · exact h
 ·
  simp only [];split
  · exact c7C (x:={ x with A:={ x.A with Pos:=(settleM s false x.A.Pos).1 } }) ⟨h.a,h.e,h.ul,h.uq,h.us,h.ua⟩ _ _ _
  · exact ⟨h.a,h.e,h.ul,h.uq,h.us,h.ua⟩
theorem e6b {x:a0b} (h:Wd x) (c:a0f) (s:a0g):Wd (turnA c s x):=by
 unfold turnA;split
 · exact e6v h s
 · exact e7n (e6v h s) _ _ _ _
end Go.Proofs.Zz

/- A cycle of the core: what it leaves. -/
set_option maxRecDepth 100000
namespace Go.Proofs.Zz
open Go
variable {N:Nat}
structure Inv (k:Nat) (x:a0b):Prop where
 wd:Wd x
 mem:len x.Mem≤65536
 ldq:x.Ldq.length≤700
 sdq:x.Sdq.length≤700
 aeq:x.Aeq.length≤700
 abq:x.Abq.length≤700
 ebq:x.Ebq.length≤700
 saq:x.Saq.length≤700
 tab:x.Table.length≤700
 wri:x.Writes.length≤k
theorem Inv.wf {k:Nat} {x:a0b} (h:Inv k x) (hk:k≤14000):Wf x :=
 { rA:=h.wd.a.1,rE:=h.wd.e.1,mem:=by have:=h.mem; simp only [len] at this; omega,saq:=by have:=h.saq; omega,tab:=by have:=h.tab; omega,ldq:=by have:=h.ldq; omega,sdq:=by have:=h.sdq; omega,aeq:=by have:=h.aeq; omega,abq:=by have:=h.abq; omega,ebq:=by have:=h.ebq; omega,wri:=by have:=h.wri; omega,gA:=h.wd.a.2,gE:=h.wd.e.2 }
theorem Inv.wfa {k:Nat} {x:a0b} (h:Inv k x):WfA x :=
 { mem:=by have:=h.mem; simp only [len] at this; omega,ldq:=by have:=h.ldq; omega,tab:=by have:=h.tab; omega,saq:=by have:=h.saq; omega,aeq:=by have:=h.aeq; omega,abq:=by have:=h.abq; omega,gA:=h.wd.a.2 }
theorem Inv.mono {k m:Nat} {x:a0b} (h:Inv k x) (hm:k≤m):Inv m x:={ h with wri:=Nat.le_trans h.wri hm }
structure Bnd (c:a0f) (x:a0b):Prop where
 ldq:x.Ldq.length≤64
 sdq:x.Sdq.length≤64
 aeq:x.Aeq.length≤64
 abq:x.Abq.length≤64
 ebq:x.Ebq.length≤64
 saq:x.Saq.length≤64
 tab:x.Table.length≤64
 bk:1≤c.Banks∧c.Banks≤16
 la:1≤c.Lat∧c.Lat≤1000
theorem Bnd.of {c:a0f} {s:a0g} {x:a0b} (h:rightM c s x = true):Bnd c x:=by
 unfold rightM cfgM queuesM at h;simp only [Bool.and_eq_true,allB,List.all_cons,List.all_nil,decide_eq_true_eq,len] at h;obtain ⟨⟨⟨a1,a2,a3,a4,a5,a6,a7,a8,_⟩,⟨b1,_⟩,⟨b2,_⟩,_⟩,_,_,_,⟨c1,c2,c3,c4,c5,c6,c7,c8⟩,_⟩:=h;exact ⟨by omega,by omega,by omega,by omega,by omega,by omega,by omega,b1,b2⟩
theorem Lefts.of {c:a0f} {s:a0g} {x:a0b} (h:rightM c s x = true):Lefts x.Table (len x.Mem):=by
 unfold rightM at h;simp only [Bool.and_eq_true] at h;have h2:=List.all_eq_true.1 h.2.2.2.2.2.1.2.1;intro q hq _;have h3:=h2 q hq;unfold reqM at h3;simp only [Bool.and_eq_true] at h3;have:=of_decide_eq_true h3.2.2.1;exact this
theorem a6f (x:a0b):∀ (l:List a0e) (n m:Int),sentF x n l = some m→m = n+((l.countP fun q=>q.1:Nat):Int)
 | [],n,m,h=>by simp only [sentF,Option.some.injEq] at h; simp; omega
 | q::r,n,m,h=>by
  unfold sentF at h;rw [List.countP_cons];split at h
  ·
   rename_i hq;rw [if_neg (by simp [hq])];have:=a6f x r n m h;omega
  ·
   rename_i hq;split at h
   · simp at h
   ·
    rw [if_pos (by simpa using hq)];have:=a6f x r (n+1) m h;omega
theorem e2n {c:a0f} {s:a0g} {x:a0b} (h:rightM c s x = true):(x.Table.countP fun q=>q.1)≤1:=by
 unfold rightM at h;simp only [Bool.and_eq_true] at h;have h2:=h.2.2.2.2.2.1.2.2;unfold sentM at h2;split at h2
 · simp at h2
 ·
  rename_i n hn;have h3:=a6f x _ _ _ hn;have h4:=of_decide_eq_true h2;split at h4 <;> omega
theorem d7o {c:a0f} {s:a0g} {x:a0b} (h:rightM c s x = true):x.Table.countP endsQ≤1:=by
 refine Nat.le_trans (List.countP_mono_left fun q _ hq=>?_) (e2n h);unfold endsQ at hq;simp only [Bool.and_eq_true] at hq;exact hq.1
def Wrote (x y:a0b):Prop:=∃ ws:List a0K,ws.length≤1∧y.Writes = x.Writes++ws∧y.Mem = ws.foldl wrOf x.Mem∧∀ q∈ws,LieW q (len x.Mem)
theorem Wrote.same {x y:a0b} (h:y.Writes = x.Writes) (g:y.Mem = x.Mem):Wrote x y:=⟨[],by simp,by simp [h],g,by simp⟩
theorem invE {c:a0f} {s:a0g} {x:a0b} {k:Nat} (h:Inv k x) (hr:rightM c s x = true):Inv k (turnE c s x)∧(turnE c s x).Writes = x.Writes∧(turnE c s x).Mem = x.Mem:=by
 have hb:=Bnd.of hr;have hw:=e5r h.wd c s;have ho:=d9F c s x;generalize turnE c s x = y at *;have e1:y.Writes = x.Writes:=by rw [ho.fr]
 have e2:y.Mem = x.Mem:=by rw [ho.fr]
 have e3:y.Saq = x.Saq:=by rw [ho.fr]
 have e4:y.Table = x.Table:=by rw [ho.fr]
 obtain ⟨b1,b2,b3,b4,b5,b6,b7,_,_⟩:=hb;have on:=ho.on;exact ⟨{ wd:=hw,mem:=by rw [e2]; exact h.mem,ldq:=by omega,sdq:=by omega,aeq:=by omega,abq:=by omega,ebq:=by omega,saq:=by rw [e3]; omega,tab:=by rw [e4]; omega,wri:=by rw [e1]; exact h.wri },e1,e2⟩
theorem invA {c:a0f} {s:a0g} {x:a0b} {k:Nat} (h:Inv k x) (hr:rightM c s x = true):Inv k (turnA c s x)∧(turnA c s x).Writes = x.Writes∧(turnA c s x).Mem = x.Mem:=by
 have hb:=Bnd.of hr;have hw:=e6b h.wd c s;have ho:=d3T c s x;generalize turnA c s x = y at *;have e1:y.Writes = x.Writes:=by rw [ho.fr]
 have e2:y.Mem = x.Mem:=by rw [ho.fr]
 have e3:y.Sdq = x.Sdq:=by rw [ho.fr]
 obtain ⟨b1,b2,b3,b4,b5,b6,b7,_,_⟩:=hb;have on:=ho.on;have tb:=ho.tb;have tg:=ho.tg;exact ⟨{ wd:=hw,mem:=by rw [e2]; exact h.mem,ldq:=by omega,sdq:=by rw [e3]; omega,aeq:=by omega,abq:=by omega,ebq:=by omega,saq:=by omega,tab:=by omega,wri:=by rw [e1]; exact h.wri },e1,e2⟩
theorem Inv.cyc {k:Nat} {x:a0b} (h:Inv k x) (n:Int):Inv k { x with Cycle:=n } :=
 { wd:=⟨h.wd.a,h.wd.e,h.wd.ul,h.wd.uq,h.wd.us,h.wd.ua⟩,mem:=h.mem,ldq:=h.ldq,sdq:=h.sdq,aeq:=h.aeq,abq:=h.abq,ebq:=h.ebq,saq:=h.saq,tab:=h.tab,wri:=h.wri }
theorem invM {c:a0f} {s:a0g} {x x1 x2:a0b} {k n:Nat} (h:Inv k x) (hr:rightM c s x = true) (m1:MovR x x1 n) (hn:n≤1) (m2:SndR c x1 x2):Inv (k+1) x2∧Wrote x x2:=by
 obtain ⟨b1,b2,b3,b4,b5,b6,b7,_,_⟩:=Bnd.of hr;obtain ⟨ws,w1,w2,w3,w4⟩:=m1.wr;have hj:=m1.saq;have fr1:=m1.fr;have fr2:=m2.fr;have q1:x2.Writes = x1.Writes:=by rw [fr2]
 have q2:x2.Mem = x1.Mem:=by rw [fr2]
 have q3:x2.A = x1.A:=by rw [fr2]
 have q4:x2.E = x.E:=by rw [fr2,fr1]
 have q5:x2.Ldq = x1.Ldq:=by rw [fr2]
 have q6:x2.Aeq = x.Aeq:=by rw [fr2,fr1]
 have q7:x2.Abq = x.Abq:=by rw [fr2,fr1]
 have q8:x2.Ebq = x.Ebq:=by rw [fr2,fr1]
 have q9:x1.Sdq = x.Sdq:=by rw [fr1]
 have us1:US x1:=by unfold US; rw [q9]; exact h.wd.us
 have uq1:UQ x1:=by
  intro e he;rw [hj] at he;exact h.wd.uq e (List.mem_of_mem_drop he)
 have l1:=m1.ldq;have l2:=m2.sdq;have l3:=m2.saq;have l4:=m2.tab;have l5:=m1.tab;rw [q9] at l2;have l6:x1.Saq.length≤x.Saq.length:=by rw [hj]; simp
 refine ⟨{ wd:=⟨⟨by rw [q3,m1.rdy]; exact h.wd.a.1,by rw [q3]; exact m1.regs h.wd.a.2⟩,by rw [q4]; exact h.wd.e,?_,m2.uq us1 uq1,m2.us us1,?_⟩,mem:=?_,ldq:=by rw [q5]; omega,sdq:=by omega,aeq:=by rw [q6]; omega,abq:=by rw [q7]; omega,ebq:=by rw [q8]; omega,saq:=by omega,tab:=by omega,wri:=?_ },⟨ws,by omega,by rw [q1]; exact w2,by rw [q2]; exact w3,w4⟩⟩
 · unfold UL; rw [q5]; exact m1.ul h.wd.ul
 · unfold UA; rw [q6]; exact h.wd.ua
 ·
  have:=h.mem;rw [q2];simp only [len,m1.mem] at this ⊢;exact this
 ·
  rw [q1,w2];have:=h.wri;simp;omega
theorem Wrote.then {x y z:a0b} (h:Wrote x y) (g:z.Writes = y.Writes) (g2:z.Mem = y.Mem):Wrote x z:=by
 obtain ⟨ws,a1,a2,a3,a4⟩:=h;exact ⟨ws,a1,by rw [g]; exact a2,by rw [g2]; exact a3,a4⟩
end Go.Proofs.Zz

/- Memory is what it was at first, with all that was written: the reference law's answer. -/
set_option maxRecDepth 100000
namespace Go.Proofs.Zz
open Go
variable {N:Nat}
abbrev st0 (mem:List Int):a0b:=a0b.mk 0 a0v.z a0v.z ([]:List a0q) ([]:List Int) ([]:List Int) ([]:List Bool) ([]:List Bool) ([]:List a0a) ([]:List a0e) mem ([]:List a0K) a1X.z 0 0 0
theorem e3P {mem:List Int} (h:len mem≤65536):Inv 0 (st0 mem):=by
 have hz:SideW a0v.z:=by
  refine ⟨rfl,fun r hr=>?_⟩
  rw [show r = 0 from List.eq_of_mem_replicate (n:=16) hr];exact ⟨by simp,by simp⟩
 exact { wd:=⟨hz,hz,by intro e he; simp at he,by intro e he; simp at he,by intro e he; simp at he,by intro e he; simp at he⟩,mem:=h,ldq:=by simp,sdq:=by simp,aeq:=by simp,abq:=by simp,ebq:=by simp,saq:=by simp,tab:=by simp,wri:=by simp }
section
variable (cy:Int) (c:a0f) (t:a0w) (s:a0g)
end
end Go.Proofs.Zz
