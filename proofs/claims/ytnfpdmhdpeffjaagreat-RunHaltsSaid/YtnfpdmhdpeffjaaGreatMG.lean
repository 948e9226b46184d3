import Derived.Test.YtnfpdmhdpeffjaaGreatME
import Derived.Test.YtnfpdmhdpeffjaaGreatK5
import Derived.Test.YtnfpdmhdpeffjaaGreatK7
import Derived.KernelRfl
set_option linter.unusedSimpArgs false
set_option linter.unusedVariables false
/- Steps are small; how far A is ahead; what A's cycle does then. -/
namespace Go.Proofs.Zz
open Go
variable {N:Nat}
theorem c6Z {s:a0g} (h:SplitOk s.Blocks) {b:Int} (hb:hasM s b = true):0≤(blockM s b).1∧(blockM s b).1 < (blockM s b).2.1∧(blockM s b).2.1≤2000∧SpanOk KA (blockM s b).1 (blockM s b).2.1 (blockM s b).2.2.2.2.1∧SpanOk KE (blockM s b).1 (blockM s b).2.1 (blockM s b).2.2.2.2.2.1:=by
 have h2:=a2u.1 hb
 have h3:=h.blk b.toNat (by omega)
 exact ⟨h3.1,h3.2.1,h3.2.2.1,h3.2.2.2.2.1,h3.2.2.2.2.2⟩
theorem b8B {s:a0g} (h:SplitOk s.Blocks) {p:a0C} (hb:hasM s p.Block = true) (h0:0≤p.Base) (h1:p.Base≤9000000000000):p.Base≤endM s p∧endM s p≤p.Base+2000:=by
 obtain ⟨g1,g2,g3,_⟩:=c6Z h hb
 unfold endM
 rw [if_pos hb,wI (x:=p.Base+(blockM s p.Block).2.1) (by omega) (by omega),wI (by omega) (by omega)]
 omega
theorem b1l {s:a0g} (h:SplitOk s.Blocks) (e:Bool):∀ (n:Nat) (p:a0C),hasM s p.Block = true→0≤p.Base→p.Base+2000*n≤9000000000000→0≤(settleN s e n p).1.Base∧(settleN s e n p).1.Base≤p.Base+2000*n
 | 0,p,hb,h0,h1=>⟨h0,by simp only [settleN]; omega⟩
 | n+1,p,hb,h0,h1=>by
  unfold settleN
  rw [if_neg (by rw [hb]; simp)]
  split
  · exact ⟨h0,by simp only; omega⟩
  ·
   split
   · exact ⟨h0,by simp only; omega⟩
   ·
    rename_i h3
    have hr:=b8B h hb h0 (by omega)
    have h4:=((NextOk.of h) _ hb).resolve_left h3
    have:=b1l h e n ⟨(blockM s p.Block).2.2.1,0,endM s p⟩ h4.2 (by simp only; omega) (by simp only; omega)
    simp only at this
    exact ⟨this.1,by omega⟩
theorem d0V {s:a0g} (h:SplitOk s.Blocks) (e:Bool) {p:a0C} (hb:hasM s p.Block = true):0≤(cellAt s e p).2.2.2.2.1∧(cellAt s e p).2.2.2.2.1≤2000:=by
 obtain ⟨g1,g2,g3,g4,g5⟩:=c6Z h hb
 have key:∀ (ks:List Int) (l:List a0h),SpanOk ks (blockM s p.Block).1 (blockM s p.Block).2.1 l→0≤(l.getD p.Index.toNat a0h.z).2.2.2.2.1∧(l.getD p.Index.toNat a0h.z).2.2.2.2.1≤2000:=by
  intro ks l hl
  by_cases hi:p.Index.toNat < l.length
  ·
   have:=hl.all _ (a1E a0h.z hi)
   omega
  ·
   rw [List.getD_eq_getElem?_getD,List.getElem?_eq_none (by omega)]
   exact ⟨by simp,by simp⟩
 unfold cellAt cellsM
 rw [if_pos hb]
 cases e with
 | true=>exact key _ _ g5
 | false=>exact key _ _ g4
end Go.Proofs.Zz

/- A that is far ahead waits: the reference law's answer. -/
namespace Go.Proofs.Zz
open Go
variable {N:Nat}
end Go.Proofs.Zz

/- What waits in E's cycle, and what does not: the model's law. -/
namespace Go.Proofs.Zz
open Go
variable {N:Nat}
end Go.Proofs.Zz

/- What waits in E's cycle stays: the reference law's answer. -/
namespace Go.Proofs.Zz
open Go
variable {N:Nat}
end Go.Proofs.Zz

/- Programs of a load or a store, and a halt: how they are split. -/
set_option maxRecDepth 100000
namespace Go.Proofs.Zz
open Go
section
variable {op d imm size:Int} {ext:Bool} {data:List Int}
end
end Go.Proofs.Zz

/- A load or store of a wrong address is a trap: the reference law's answer. -/
set_option maxRecDepth 100000
namespace Go.Proofs.Zz
open Go
section
variable {op d imm size:Int} {ext:Bool} {data:List Int}
end
end Go.Proofs.Zz

/- Loads behind stores: the reference's search and its bypass. -/
set_option maxRecDepth 100000
namespace Go.Proofs.Zz
open Go
variable {N:Nat}
end Go.Proofs.Zz

/- The memory's cycle: what it leaves. -/
set_option maxRecDepth 100000
namespace Go.Proofs.Zz
open Go
variable {N:Nat}
/-! Bytes written -/
def wrB (a v:Int) (m:List Int):Nat→List Int
 | 0=>m
 | n+1=>(wrB a v m n).set (a+(n:Int)).toNat (w.u8 (shr .u32 v (8*(n:Int))))
theorem c3A (a v:Int) (m:List Int):∀ n,(wrB a v m n).length = m.length
 | 0=>rfl
 | n+1=>by rw [wrB,List.length_set,c3A a v m n]
def LieW (q:a0K) (n:Int):Prop:=(q.2.1 = 1∨q.2.1 = 2∨q.2.1 = 4)∧0≤q.1∧q.1+q.2.1≤n∧q.1 % q.2.1 = 0
def wrOf (m:List Int) (q:a0K):List Int:=wrB q.1 q.2.2.1 m q.2.1.toNat
theorem e0y (q:a0K) (x:a0b) (sz:Nat) (hs:sz≤4) (ha:0≤q.1) (hn:q.1+sz≤len x.Mem) (hm:len x.Mem≤65536):∀ n j:Nat,j≤sz→sz - j < n →
  a2Y N n (sz:Int) (j:Int) { x with Mem:=wrB q.1 q.2.2.1 x.Mem j } q = some (1,a0c.dv { x with Mem:=wrB q.1 q.2.2.1 x.Mem sz } []):=by
 intro n
 induction n with
 | zero=>intro j h1 h2; omega
 | succ n ih =>
  intro j h1 h2
  show a8n N (a2Y N n) (sz:Int) (j:Int) { x with Mem:=wrB q.1 q.2.2.1 x.Mem j } q = _
  unfold a8n
  simp only [len] at hn hm
  by_cases hj:j < sz
  ·
   have e1:w.i64 (8*(j:Int)) = 8*(j:Int):=wI (by omega) (by omega)
   have e2:w.i64 (q.1+(j:Int)) = q.1+(j:Int):=wI (by omega) (by omega)
   rw [dt (show (j:Int) < (sz:Int) by omega),bi_true,e1,df (show ¬ (8*(j:Int) < 0) by omega),gf_false,e2]
   simp only []
   rw [a1l (by omega) (by rw [c3A]; omega),gd_true,wS (show j≤100000000 by omega)]
   exact ih (j+1) (by omega) (by omega)
  ·
   have:j = sz:=by omega
   subst this
   rw [df (by omega),bi_false]
theorem e4S (q:a0K) (x:a0b) (h:LieW q (len x.Mem)) (hm:len x.Mem≤65536) (hN:10 < N):b0T N q x = some (0,a0c.dv { x with Mem:=wrOf x.Mem q } []):=by
 obtain ⟨h1,h2,h3,h4⟩:=h
 have hu:w.u32 q.1 = q.1:=by simp only [w.u32,IntKind.wrap_u32]; omega
 have hc:a1s N q.2.1 (w.u32 q.1) (len x.Mem) = some (0,gI.dv 0 []):=by
  rw [hu,a9V h1 (by unfold U32; omega) (by simp only [len] at hm ⊢; omega)]
  unfold checkM
  rw [if_neg (by omega),if_neg (by omega)]
 have hl:a2Y N N q.2.1 0 x q = some (1,a0c.dv { x with Mem:=wrOf x.Mem q } []):=by
  have e:q.2.1 = ((q.2.1.toNat:Nat):Int):=by omega
  have:=e0y (N:=N) q x q.2.1.toNat (by omega) h2 (by omega) hm N 0 (by omega) (by omega)
  rw [← e] at this
  exact this
 unfold b0T
 simp only [hc,hl,on1_some,gg_dv,gg_nil,onA_some]
 rw [df (show ¬ (q.1 < 0) by omega),df (show ¬ (q.1 > 4294967295) by omega)]
 rcases h1 with h | h | h <;> rw [h] <;> rfl
/-! A store that ends -/
def wrQ (q:a0e):a0K:=(q.2.2.1,(q.2.2.2.1,(q.2.2.2.2.1,())))
theorem d6r (q:a0e) (x:a0b) (h:LieW (wrQ q) (len x.Mem)) (hm:len x.Mem≤65536) (hw:x.Writes.length≤5000) (hN:10 < N) :
  b4z N q x = some (0,a0c.dv { x with Mem:=wrOf x.Mem (wrQ q),Saq:=x.Saq.drop 1,Writes:=x.Writes++[wrQ q] } []):=by
 unfold b4z
 rw [show b0T N (q.2.2.1,(q.2.2.2.1,(q.2.2.2.2.1,()))) x = _ from e4S (wrQ q) x h hm hN,on1_some,gg_dv,gg_nil]
 simp only []
 rw [rmT (by simp; omega),gd_true]
 by_cases h0:x.Saq.length = 0
 ·
  have:x.Saq = []:=List.length_eq_zero_iff.1 h0
  rw [df (show ¬ (len x.Saq > 0) by simp only [len]; omega),bi_false,this]
  rfl
 ·
  rw [dt (show len x.Saq > 0 by simp only [len]; omega),bi_true,sb_1 h0,gd_true]
  rfl
/-! A load that ends -/
theorem e3u (m:List Int) (op a:Int) (sz:Nat) (hs:sz≤4) (ha:U32 a) (hn:a+sz≤m.length) (hm:m.length≤100000):∀ (n j:Nat) (v:Int),U32 v→j≤sz→sz - j < n →
  ∃ v',a2H N n m op a v (sz:Int) (j:Int) = some (1,gI.dv op (gW.dv v' []))∧U32 v':=by
 intro n
 induction n with
 | zero=>intro j v hv h1 h2; omega
 | succ n ih =>
  intro j v hv h1 h2
  show ∃ v',a4V N (a2H N n) m op a v (sz:Int) (j:Int) = _∧_
  unfold a4V
  simp only [U32] at ha
  by_cases hj:j < sz
  ·
   have e0:w.i64 a = a:=wI (by omega) (by omega)
   have e1:w.i64 (8*(j:Int)) = 8*(j:Int):=wI (by omega) (by omega)
   have e2:w.i64 (a+(j:Int)) = a+(j:Int):=wI (by omega) (by omega)
   rw [dt (show (j:Int) < (sz:Int) by omega),bi_true,e0,e2,a1l (by omega) (by omega),gd_true,e1,df (show ¬ (8*(j:Int) < 0) by omega),gf_false,wS (show j≤100000000 by omega)]
   exact ih (j+1) _ (a5x _) (by omega) (by omega)
  ·
   have:j = sz:=by omega
   subst this
   rw [df (by omega),bi_false]
   exact ⟨v,rfl,hv⟩
theorem d8Y (op:Int) {v:Int} (h:U32 v):U32 (signM op v):=by
 unfold signM
 split
 · exact a5x _
 ·
  split
  · exact a5x _
  · exact h
theorem e7o (m:List Int) (op:Int) {a:Int} (ha:U32 a) (hm:m.length≤100000) (hN:10 < N):∃ v,a9Z N m op a = some (0,gW.dv v [])∧U32 v:=by
 have hz:U32 0:=⟨by omega,by omega⟩
 unfold a9Z b4O
 rw [b5j,on1_some,gg_dv,gg_nil]
 by_cases h1:op≥26
 ·
  rw [dt h1,bi_true,on1_some,gg_dv,gg_nil]
  by_cases h2:op≤30
  ·
   rw [dt h2,Bool.not_true,bi_false]
   have hs:sizeM op = 1∨sizeM op = 2∨sizeM op = 4:=by
    have:op = 26∨op = 27∨op = 28∨op = 29∨op = 30:=by omega
    rcases this with rfl | rfl | rfl | rfl | rfl <;> decide
   rw [a9V hs ha (by simp only [len]; omega),on1_some,gg_dv,gg_nil]
   by_cases hc:checkM (sizeM op) a (len m) = 0
   ·
    rw [hc,show ((0:Int) != 0) = false from rfl,bi_false]
    have hle:a+sizeM op≤len m:=by
     unfold checkM at hc
     split at hc
     · omega
     ·
      split at hc
      · omega
      · rename_i h; omega
    have e:sizeM op = (((sizeM op).toNat:Nat):Int):=by omega
    obtain ⟨v,hv,hu⟩:=e3u (N:=N) m op a (sizeM op).toNat (by omega) ha (by simp only [len] at hle; omega) hm N 0 0 hz (by omega) (by omega)
    rw [← e] at hv
    rw [show a2H N N m op a 0 (sizeM op) 0 = _ from hv,onA_some,gg_dv,gg_dv,gg_nil,d8a,on1_some,gg_dv,gg_nil]
    exact ⟨_,rfl,d8Y op hu⟩
   ·
    rw [show (checkM (sizeM op) a (len m) != 0) = true by simp [hc],bi_true]
    exact ⟨0,rfl,hz⟩
  ·
   rw [df h2,Bool.not_false,bi_true]
   exact ⟨0,rfl,hz⟩
 ·
  rw [df h1,bi_false,on1_some,gg_dv,gg_nil,Bool.not_false,bi_true]
  exact ⟨0,rfl,hz⟩
def UL (x:a0b):Prop:=∀ e∈x.Ldq,U32 e.2.2.1
theorem d8S {l:List a0q} (h:∀ e∈l,U32 e.2.2.1) (t:Int) {v:Int} (hv:U32 v):∀ e∈fillM l t v,U32 e.2.2.1:=by
 unfold fillM
 split
 · exact h
 ·
  intro e he
  rcases List.mem_or_eq_of_mem_set he with h1 | h1
  · exact h e h1
  · rw [h1]; exact hv
structure EndR (x y:a0b) (k:Nat):Prop where
 wr:∃ ws:List a0K,ws.length = k∧y.Writes = x.Writes++ws∧y.Mem = ws.foldl wrOf x.Mem∧∀ q∈ws,LieW q (len x.Mem)
 fr:y = { x with A:=y.A,Ldq:=y.Ldq,Saq:=y.Saq,Mem:=y.Mem,Writes:=y.Writes }
 afr:y.A = { x.A with Regs:=y.A.Regs,Ready:=y.A.Ready }
 mem:y.Mem.length = x.Mem.length
 ldq:y.Ldq.length = x.Ldq.length
 saq:y.Saq = x.Saq.drop k
 ul:UL x→UL y
 rdp:∀ P:Int→Prop,(∀ r∈x.A.Ready,P r)→P (w.i64 (x.Cycle+1))→∀ r∈y.A.Ready,P r
 rdy:y.A.Ready.length = x.A.Ready.length
 regs:(∀ r∈x.A.Regs,U32 r)→∀ r∈y.A.Regs,U32 r
theorem EndR.refl (x:a0b):EndR x x 0:=⟨⟨[],by simp,by simp,rfl,by simp⟩,rfl,rfl,rfl,rfl,rfl,fun h=>h,fun _ h _=>h,rfl,fun h=>h⟩
theorem EndR.trans {x y z:a0b} {k m:Nat} (h:EndR x y k) (g:EndR y z m):EndR x z (k+m):=by
 obtain ⟨ws,a1,a2,a3,a4⟩:=h.wr
 obtain ⟨vs,b1,b2,b3,b4⟩:=g.wr
 have c1:=h.saq
 have c2:=g.saq
 refine ⟨⟨ws++vs,by simp; omega,by rw [b2,a2]; simp,by rw [b3,a3,List.foldl_append],fun q hq=>?_⟩,by rw [g.fr,h.fr],by rw [g.afr,h.afr],g.mem.trans h.mem,g.ldq.trans h.ldq,by rw [c2,c1,List.drop_drop],fun hu=>g.ul (h.ul hu),fun P hp hq=>g.rdp P (h.rdp P hp hq) (by rw [show y.Cycle = x.Cycle by rw [h.fr]]; exact hq),g.rdy.trans h.rdy,fun hr=>g.regs (h.regs hr)⟩
 rcases List.mem_append.1 hq with hq | hq
 · exact a4 q hq
 ·
  have:=b4 q hq
  rw [show len y.Mem = len x.Mem by simp only [len,h.mem]] at this
  exact this
theorem e3s {l:List Int} (h:∀ r∈l,U32 r) (i:Nat) {v:Int} (hv:U32 v):∀ r∈l.set i v,U32 r:=by
 intro r hr
 rcases List.mem_or_eq_of_mem_set hr with h1 | h1
 · exact h r h1
 · rw [h1]; exact hv
theorem e4I (q:a0e) (x:a0b) (hm:x.Mem.length≤100000) (hl:x.Ldq.length≤1000) (hN:1001 < N):∃ y,b0b N q x = some (0,a0c.dv y [])∧EndR x y 0:=by
  have key:∀ v:Int,U32 v→∃ y,
      (bi (decide (q.2.2.2.2.2.2.1 < 0)) (
        on1 (a4T N x.Ldq q.2.2.2.2.2.2.2.1 v)<|gg [pD (.sl a0k),pB]<|fun (x3:List a0q) (x4:Bool) =>
        some (0,a0c.dv ({ x with Ldq:=x3 }:a0b) [])) <|
       bi (decide (q.2.2.2.2.2.2.1≥1)) (
        bi (decide (q.2.2.2.2.2.2.1≤15)) (
         gd (idx q.2.2.2.2.2.2.1 16) <|
         gd (idx q.2.2.2.2.2.2.1 16) <|
         some (0,a0c.dv ({ x with A:={ x.A with Regs:=(List.set x.A.Regs q.2.2.2.2.2.2.1.toNat v),Ready:=(List.set x.A.Ready q.2.2.2.2.2.2.1.toNat (w.i64 (x.Cycle+1))) } }:a0b) [])) <|
        some (0,a0c.dv x [])) <|
       some (0,a0c.dv x [])) = some (0,a0c.dv y [])∧EndR x y 0:=by
    intro v hv
    by_cases h1:q.2.2.2.2.2.2.1 < 0
    · rw [dt h1,bi_true,d7f _ _ _ hl hN,on1_some,gg_dv,gg_dv,gg_nil]
      exact ⟨_,rfl,⟨[],by simp,by simp,rfl,by simp⟩,rfl,rfl,rfl,c2A _ _ _,rfl,fun h=>d8S h _ hv,fun _ h _=>h,rfl,fun h=>h⟩
    · rw [df h1,bi_false]
      by_cases h2:q.2.2.2.2.2.2.1≥1
      · rw [dt h2,bi_true]
        by_cases h3:q.2.2.2.2.2.2.1≤15
        · rw [dt h3,bi_true,a1l (by omega) (by omega),gd_true,gd_true]
          exact ⟨_,rfl,⟨[],by simp,by simp,rfl,by simp⟩,rfl,rfl,rfl,rfl,rfl,fun h=>h,fun P hp hq r hr=>(List.mem_or_eq_of_mem_set hr).elim (hp r) (fun e=>by rw [e]; exact hq),by simp,fun h=>e3s h _ hv⟩
        · rw [df h3,bi_false]; exact ⟨x,rfl,EndR.refl x⟩
      · rw [df h2,bi_false]; exact ⟨x,rfl,EndR.refl x⟩
  unfold b0b
  by_cases h1:q.2.2.1≥0
  · rw [dt h1,bi_true]
    by_cases h2:q.2.2.1≤4294967295
    · obtain ⟨v,hv,hu⟩:=e7o (N:=N) x.Mem q.2.1 (a5x q.2.2.1) hm (by omega)
      rw [dt h2,bi_true,hv,on1_some,gg_dv,gg_nil]
      exact key v hu
    · rw [df h2,bi_false]
      exact key 0 ⟨by omega,by omega⟩
  · rw [df h1,bi_false]
    exact key 0 ⟨by omega,by omega⟩
/-! All requests -/
def downQ (q:a0e):a0e:=(q.1,(q.2.1,(q.2.2.1,(q.2.2.2.1,(q.2.2.2.2.1,((w.i64 (q.2.2.2.2.2.1 - 1)),q.2.2.2.2.2.2))))))
def keepQ (q:a0e):Option a0e:=if q.2.2.2.2.2.1 > 0 then (if w.i64 (q.2.2.2.2.2.1 - 1) = 0 then none else some (downQ q)) else some q
def endsQ (q:a0e):Bool:=q.1 && (decide (q.2.2.2.2.2.1 > 0) && decide (w.i64 (q.2.2.2.2.2.1 - 1) = 0))
def Lefts (T:List a0e) (n:Int):Prop:=∀ q∈T,q.1 = true→LieW (wrQ q) n
theorem e5Z (T:List a0e) (hT:T.length≤1000) (n0:Int) (hL:Lefts T n0) (hn0:n0≤65536) (hN:1001 < N):∀ (n i:Nat) (acc:List a0e) (x:a0b),i≤T.length→T.length - i < n→len x.Mem = n0→x.Ldq.length≤1000→x.Writes.length+(T.length - i)≤5000→acc.length≤i →
  ∃ acc' y,a2j N n acc T (len T) (i:Int) x = some (1,(gD (.sl a0j)).dv acc' (a0c.dv y []))∧EndR x y ((T.drop i).countP endsQ)∧acc' = acc++(T.drop i).filterMap keepQ:=by
 intro n
 induction n with
 | zero=>intro i acc x h1 h2; omega
 | succ n ih =>
  intro i acc x h1 h2 hm hl hw ha
  show ∃ acc' y,a6p N (a2j N n) acc T (len T) (i:Int) x = _∧_
  unfold a6p
  by_cases hi:i < T.length
  ·
   have hq:=a1E a0e.z hi
   have hdrop:T.drop i = T.getD i a0e.z::T.drop (i+1):=by
    rw [List.drop_eq_getElem_cons hi,List.getD_eq_getElem?_getD,List.getElem?_eq_getElem hi]; rfl
   rw [a1f hi,bi_true,a1Q hi,gd_true,Int.toNat_natCast]
   generalize T.getD i a0e.z = q at *
   rw [hdrop,List.countP_cons]
   have keep:∀ q':a0e,endsQ q = false→keepQ q = some q'→∃ acc' y,(gd (rm acc [q'] 64)<|a2j N n (acc++[q']) T (len T) (w.i64 ((i:Int)+1)) x) = some (1,(gD (.sl a0j)).dv acc' (a0c.dv y []))∧EndR x y (List.countP endsQ (T.drop (i+1))+if endsQ q = true then 1 else 0)∧acc' = acc++(q::T.drop (i+1)).filterMap keepQ:=by
    intro q' he hk
    rw [rmT (by simp; omega),gd_true,wS (show i≤100000000 by omega)]
    obtain ⟨acc',y,g1,g2,g3⟩:=ih (i+1) (acc++[q']) x (by omega) (by omega) hm hl (by omega) (by simp; omega)
    refine ⟨acc',y,g1,by rw [he]; exact g2,by rw [g3,List.filterMap_cons_some hk,List.append_assoc]; rfl⟩
   by_cases h0:q.2.2.2.2.2.1 > 0
   ·
    rw [dt h0,bi_true]
    by_cases h3:w.i64 (q.2.2.2.2.2.1 - 1) = 0
    ·
     rw [bt h3,bi_true]
     have hkq:keepQ q = none:=by unfold keepQ; rw [if_pos h0,if_pos h3]
     rw [List.filterMap_cons_none hkq]
     cases hst:q.1 with
     | true =>
      have heq:endsQ q = true:=by unfold endsQ; rw [hst,decide_eq_true h0,decide_eq_true h3]; rfl
      rw [bi_true,heq]
      have hlie:=hL q hq hst
      have hs:=d6r (N:=N) (true,(q.2.1,(q.2.2.1,(q.2.2.2.1,(q.2.2.2.2.1,((w.i64 (q.2.2.2.2.2.1 - 1)),q.2.2.2.2.2.2)))))) x (by rw [hm]; exact hlie) (by omega) (by omega) (by omega)
      rw [hs,on1_some,gg_dv,gg_nil,wS (show i≤100000000 by omega)]
      have hy:EndR x { x with Mem:=wrOf x.Mem (wrQ q),Saq:=x.Saq.drop 1,Writes:=x.Writes++[wrQ q] } 1 :=
       ⟨⟨[wrQ q],by simp,rfl,rfl,by intro p hp; simp only [List.mem_singleton] at hp; rw [hp,hm]; exact hlie⟩,rfl,rfl,c3A _ _ _ _,rfl,rfl,fun h=>h,fun _ h _=>h,rfl,fun h=>h⟩
      obtain ⟨acc',y,g1,g2,g3⟩:=ih (i+1) acc { x with Mem:=wrOf x.Mem (wrQ q),Saq:=x.Saq.drop 1,Writes:=x.Writes++[wrQ q] } (by omega) (by omega) (by simp only [len,wrOf,c3A] at hm ⊢; exact hm) hl (by simp; omega) (by omega)
      refine ⟨acc',y,g1,?_,g3⟩
      have:=hy.trans g2
      rw [if_pos rfl,Nat.add_comm]
      exact this
     | false =>
      have heq:endsQ q = false:=by unfold endsQ; rw [hst]; rfl
      rw [bi_false,heq]
      obtain ⟨y0,hy0,hr⟩:=e4I (N:=N) (false,(q.2.1,(q.2.2.1,(q.2.2.2.1,(q.2.2.2.2.1,((w.i64 (q.2.2.2.2.2.1 - 1)),q.2.2.2.2.2.2)))))) x (by simp only [len] at hm; omega) hl hN
      rw [hy0,on1_some,gg_dv,gg_nil,wS (show i≤100000000 by omega)]
      obtain ⟨ws,c1,c2,_⟩:=hr.wr
      have hws:ws = []:=List.length_eq_zero_iff.1 (by omega)
      obtain ⟨acc',y,g1,g2,g3⟩:=ih (i+1) acc y0 (by omega) (by omega) (by simp only [len,hr.mem] at hm ⊢; exact hm) (by rw [hr.ldq]; exact hl) (by rw [c2,hws]; simp; omega) (by omega)
      refine ⟨acc',y,g1,?_,g3⟩
      have:=hr.trans g2
      rw [if_neg (by simp),Nat.add_zero]
      rwa [Nat.zero_add] at this
    ·
     rw [bf h3,bi_false]
     exact keep (downQ q) (by unfold endsQ; rw [decide_eq_false h3]; simp) (by unfold keepQ; rw [if_pos h0,if_neg h3])
   ·
    rw [df h0,bi_false]
    exact keep q (by unfold endsQ; rw [decide_eq_false h0]; simp) (by unfold keepQ; rw [if_neg h0])
  ·
   have:i = T.length:=by omega
   subst this
   rw [a1e (by omega),bi_false]
   exact ⟨acc,x,rfl,by rw [List.drop_length]; exact EndR.refl x,by rw [List.drop_length]; simp⟩
structure MovR (x y:a0b) (k:Nat):Prop where
 wr:∃ ws:List a0K,ws.length = k∧y.Writes = x.Writes++ws∧y.Mem = ws.foldl wrOf x.Mem∧∀ q∈ws,LieW q (len x.Mem)
 fr:y = { x with A:=y.A,Ldq:=y.Ldq,Saq:=y.Saq,Mem:=y.Mem,Writes:=y.Writes,Table:=y.Table,Lats:=y.Lats,Picks:=y.Picks }
 afr:y.A = { x.A with Regs:=y.A.Regs,Ready:=y.A.Ready }
 mem:y.Mem.length = x.Mem.length
 ldq:y.Ldq.length = x.Ldq.length
 saq:y.Saq = x.Saq.drop k
 ul:UL x→UL y
 tab:y.Table.length≤x.Table.length
 rdp:∀ P:Int→Prop,(∀ r∈x.A.Ready,P r)→P (w.i64 (x.Cycle+1))→∀ r∈y.A.Ready,P r
 rdy:y.A.Ready.length = x.A.Ready.length
 regs:(∀ r∈x.A.Regs,U32 r)→∀ r∈y.A.Regs,U32 r
theorem e8x (x:a0b) (hT:x.Table.length≤1000) (hL:Lefts x.Table (len x.Mem)) (hm:len x.Mem≤65536) (hl:x.Ldq.length≤1000) (hw:x.Writes.length≤2000) (hN:1001 < N) :
  ∃ y,b7x N x = some (0,a0c.dv y [])∧MovR x y (x.Table.countP endsQ)∧y.Table = x.Table.filterMap keepQ∧y.Lats = x.Lats∧y.Picks = x.Picks:=by
 unfold b7x
 obtain ⟨acc,y,h1,h2,h3⟩:=e5Z (N:=N) x.Table hT (len x.Mem) hL hm hN N 0 [] x (by omega) (by omega) rfl hl (by omega) (by simp)
 rw [show a2j N N ([]:List a0e) x.Table (len x.Table) 0 x = _ from h1,onA_some,gg_dv,gg_dv,gg_nil]
 rw [List.drop_zero] at h2 h3
 rw [List.nil_append] at h3
 have hfr:=h2.fr
 refine ⟨_,rfl,⟨h2.wr,?_,h2.afr,h2.mem,h2.ldq,h2.saq,h2.ul,by rw [h3]; exact List.length_filterMap_le _ _,h2.rdp,h2.rdy,h2.regs⟩,h3,?_,?_⟩
 ·
  show { y with Table:=acc } = _
  rw [hfr]
 ·
  show y.Lats = _
  rw [hfr]
 ·
  show y.Picks = _
  rw [hfr]
end Go.Proofs.Zz

/- The memory's cycle, and the sending of stores: what they leave. -/
set_option maxRecDepth 100000
namespace Go.Proofs.Zz
open Go
variable {N:Nat}
theorem d0F (a:Int):0≤bitAnd .i64 a 1073741823∧bitAnd .i64 a 1073741823≤1073741823:=by
 have h:(BitVec.ofInt 64 a &&& BitVec.ofInt 64 1073741823).toNat≤1073741823:=by
  rw [BitVec.toNat_and]
  exact Nat.le_trans Nat.and_le_right (by decide)
 unfold bitAnd
 have e:(BitVec.ofInt IntKind.i64.bits a &&& BitVec.ofInt IntKind.i64.bits 1073741823).toNat≤1073741823:=h
 generalize (BitVec.ofInt IntKind.i64.bits a &&& BitVec.ofInt IntKind.i64.bits 1073741823).toNat = n at e
 rw [show IntKind.i64.wrap (n:Int) = (n:Int) from wI (by omega) (by omega)]
 omega
theorem e6H (l:List Int) (i m:Int):∃ r,b0h N l i m = some (0,gI.dv r [])∧0≤r∧(1≤m→r < m):=by
 unfold b0h
 by_cases h0:l.length = 0
 · rw [len0,dt h0,bi_true]; exact ⟨0,rfl,by omega,fun h=>by omega⟩
 rw [len0,df h0,bi_false]
 by_cases h1:i < 0
 · rw [dt h1,bi_true]; exact ⟨0,rfl,by omega,fun h=>by omega⟩
 rw [df h1,bi_false]
 by_cases h2:m < 1
 · rw [dt h2,bi_true]; exact ⟨0,rfl,by omega,fun h=>by omega⟩
 have hl:0 < len l:=by simp only [len]; omega
 have ht:Int.tmod i (len l) = i % len l:=c0B (by omega)
 have hr:=Int.emod_nonneg i (show len l≠0 by omega)
 have hr2:=Int.emod_lt_of_pos i hl
 rw [df h2,bi_false,df (show ¬ (len l = 0) by omega),gf_false,ht,a1l hr (by simp only [len] at hr2; omega),gd_true,df (show ¬ (m = 0) by omega),gf_false]
 have hb:=d0F (l.getD (i % len l).toNat 0)
 generalize bitAnd .i64 (l.getD (i % len l).toNat 0) 1073741823 = b at hb
 have hm:Int.tmod b m = b % m:=c0B hb.1
 exact ⟨_,rfl,by rw [hm]; exact Int.emod_nonneg _ (by omega),fun _=>by rw [hm]; exact Int.emod_lt_of_pos _ (by omega)⟩
def bankM (a n:Int):Int:=if a < 0∨n < 1 then 0 else Int.tmod (w.i64 (Int.tdiv a 4)) n
theorem d7S (a n:Int):b8s N a n = some (0,gI.dv (bankM a n) []):=by
 unfold b8s bankM
 by_cases h0:a < 0
 · rw [dt h0,bi_true,if_pos (.inl h0)]
 rw [df h0,bi_false]
 by_cases h1:n < 1
 · rw [dt h1,bi_true,if_pos (.inr h1)]
 rw [df h1,bi_false,show decide ((4:Int) = (0:Int)) = false from rfl,gf_false,df (show ¬ (n = 0) by omega),gf_false,if_neg (by omega)]
def workQ (n b:Int) (q:a0e):Bool:=decide (bankM q.2.2.1 n = b) && decide (q.2.2.2.2.2.1 > 0)
def stripQ (q:a0e):a0e:=(q.1,(q.2.1,(q.2.2.1,(q.2.2.2.1,(q.2.2.2.2.1,(0,q.2.2.2.2.2.2))))))
def LfOk (q:a0e):Prop:=0≤q.2.2.2.2.2.1∧q.2.2.2.2.2.1≤1000
theorem e0M (x:a0b) (c:a0f) (t:a0w) (b:Int) (hT:x.Table.length≤1000):∀ (n i:Nat) (wt:List Int),i≤x.Table.length→x.Table.length - i < n→wt.length≤i→(∀ r∈wt,0≤r∧r < len x.Table∧bankM (x.Table.getD r.toNat a0e.z).2.2.1 c.Banks = b)→(∀ q∈x.Table.take i,workQ c.Banks b q = false) →
  a1q N n b wt (len x.Table) (i:Int) x c t = some (0,a0c.dv x []) ∨
  ∃ wt',a1q N n b wt (len x.Table) (i:Int) x c t = some (1,(gD (.sl tI)).dv wt' (a0c.dv x (a0D.dv c (a1P.dv t []))))∧wt'.length≤1000∧(∀ r∈wt',0≤r∧r < len x.Table∧bankM (x.Table.getD r.toNat a0e.z).2.2.1 c.Banks = b)∧(∀ q∈x.Table,workQ c.Banks b q = false):=by
 intro n
 induction n with
 | zero=>intro i wt h1 h2; omega
 | succ n ih =>
  intro i wt h1 h2 h3 h4 h5
  show a2V N (a1q N n) b wt (len x.Table) (i:Int) x c t = _∨∃ wt',a2V N (a1q N n) b wt (len x.Table) (i:Int) x c t = _∧_
  unfold a2V
  by_cases hi:i < x.Table.length
  ·
   rw [a1f hi,bi_true,a1Q hi,gd_true,Int.toNat_natCast]
   have htake:x.Table.take (i+1) = x.Table.take i++[x.Table.getD i a0e.z]:=by
    rw [List.take_add_one,List.getD_eq_getElem?_getD,List.getElem?_eq_getElem hi]; rfl
   have hnext:workQ c.Banks b (x.Table.getD i a0e.z) = false→∀ q∈x.Table.take (i+1),workQ c.Banks b q = false:=by
    intro hq q hm
    rw [htake] at hm
    rcases List.mem_append.1 hm with hm | hm
    · exact h5 q hm
    ·
     simp only [List.mem_singleton] at hm
     rw [hm]; exact hq
   have hwi:bankM (x.Table.getD i a0e.z).2.2.1 c.Banks = b→∀ r∈wt++[(i:Int)],0≤r∧r < len x.Table∧bankM (x.Table.getD r.toNat a0e.z).2.2.1 c.Banks = b:=by
    intro hb r hr
    rcases List.mem_append.1 hr with hr | hr
    · exact h4 r hr
    ·
     simp only [List.mem_singleton] at hr
     rw [hr]
     exact ⟨by omega,by simp only [len]; omega,by rw [Int.toNat_natCast]; exact hb⟩
   generalize x.Table.getD i a0e.z = q at *
   rw [d7S,on1_some,gg_dv,gg_nil,wS (show i≤100000000 by omega)]
   by_cases hb:bankM q.2.2.1 c.Banks = b
   ·
    rw [show (bankM q.2.2.1 c.Banks != b) = false by simp [hb],bi_false]
    by_cases hl:q.2.2.2.2.2.1 > 0
    · rw [dt hl,bi_true]; exact .inl rfl
    ·
     have again:=ih (i+1) wt (by omega) (by omega) (by omega) h4 (hnext (by unfold workQ; rw [decide_eq_false hl,Bool.and_false]))
     rw [df hl,bi_false]
     by_cases h0:q.2.2.2.2.2.1 = 0
     ·
      rw [bt h0,bi_true,rmT (by simp; omega),gd_true]
      exact ih (i+1) _ (by omega) (by omega) (by simp; omega) (hwi hb) (hnext (by unfold workQ; rw [decide_eq_false hl,Bool.and_false]))
     · rw [bf h0,bi_false]; exact again
   ·
    rw [show (bankM q.2.2.1 c.Banks != b) = true by simp [hb],bi_true]
    exact ih (i+1) wt (by omega) (by omega) (by omega) h4 (hnext (by unfold workQ; rw [decide_eq_false hb,Bool.false_and]))
  ·
   have:i = x.Table.length:=by omega
   subst this
   rw [a1e (by omega),bi_false]
   rw [List.take_length] at h5
   exact .inr ⟨wt,rfl,by omega,h4,h5⟩
theorem w_w (x y:Int):w.i64 (w.i64 x+y) = w.i64 (x+y):=by simp only [w.i64,IntKind.wrap_i64]; omega
structure BegR (c:a0f) (x y:a0b) (k:Nat):Prop where
 fr:y = { x with Table:=y.Table,Lats:=y.Lats,Picks:=y.Picks }
 tab:y.Table.map stripQ = x.Table.map stripQ
 lf:(∀ q∈x.Table,LfOk q)→∀ q∈y.Table,LfOk q
 cnt:I64 x.Lats→I64 x.Picks→∃ a b:Nat,b≤a∧a≤k∧y.Lats = w.i64 (x.Lats+a)∧y.Picks = w.i64 (x.Picks+b)
 wk:(∀ b,x.Table.countP (workQ c.Banks b)≤1)→∀ b,y.Table.countP (workQ c.Banks b)≤1
theorem BegR.refl (c:a0f) (x:a0b):BegR c x x 0:=⟨rfl,rfl,fun h=>h,fun h g=>⟨0,0,by omega,by omega,by simp [wI64 h],by simp [wI64 g]⟩,fun h=>h⟩
theorem BegR.mono {c:a0f} {x y:a0b} {k m:Nat} (h:BegR c x y k) (hm:k≤m):BegR c x y m :=
 ⟨h.fr,h.tab,h.lf,fun a b=>by obtain ⟨i,j,h1,h2,h3⟩:=h.cnt a b; exact ⟨i,j,h1,by omega,h3⟩,h.wk⟩
theorem BegR.trans {c:a0f} {x y z:a0b} {k m:Nat} (h:BegR c x y k) (g:BegR c y z m):BegR c x z (k+m):=by
 refine ⟨by rw [g.fr,h.fr],g.tab.trans h.tab,fun hl=>g.lf (h.lf hl),fun a b=>?_,fun hw=>g.wk (h.wk hw)⟩
 obtain ⟨i,j,h1,h2,h3,h4⟩:=h.cnt a b
 obtain ⟨i',j',g1,g2,g3,g4⟩:=g.cnt (by rw [h3]; exact e5f _) (by rw [h4]; exact e5f _)
 refine ⟨i+i',j+j',by omega,by omega,?_,?_⟩
 · rw [g3,h3,w_w]; congr 1; omega
 · rw [g4,h4,w_w]; congr 1; omega
theorem e2X {l:List a0e} {i:Nat} (hi:i < l.length) {q:a0e} (h:stripQ q = stripQ (l.getD i a0e.z)):(l.set i q).map stripQ = l.map stripQ:=by
 rw [List.map_set,h]
 have:(l.map stripQ)[i]'(by simpa using hi) = stripQ (l.getD i a0e.z):=by
  rw [List.getElem_map,List.getD_eq_getElem?_getD,List.getElem?_eq_getElem hi]; rfl
 rw [← this,List.set_getElem_self]
theorem d6J (f:a0e→Bool):∀ (l:List a0e) (i:Nat) (q:a0e),(l.set i q).countP f≤l.countP f+(if f q = true then 1 else 0)
 | [],i,q=>by simp
 | a::l,0,q=>by
  simp only [List.set_cons_zero,List.countP_cons]
  omega
 | a::l,i+1,q=>by
  simp only [List.set_cons_succ,List.countP_cons]
  have:=d6J f l i q
  omega
theorem e2Y {c : a0f} (hc : 1 ≤ c.Lat ∧ c.Lat ≤ 1000) {x : a0b} {b r lt p : Int} (hr : 0 ≤ r ∧ r < len x.Table ∧ bankM (x.Table.getD r.toNat a0e.z).2.2.1 c.Banks = b) (hw : ∀ q ∈ x.Table, workQ c.Banks b q = false) (hl : 0 ≤ lt ∧ lt < c.Lat) (hp : p = x.Picks ∨ p = w.i64 (x.Picks + 1)) :
    BegR c x { x with Table := (List.set x.Table (Int.toNat r) ((List.getD x.Table (Int.toNat r) a0e.z).1, ((List.getD x.Table (Int.toNat r) a0e.z).2.1, ((List.getD x.Table (Int.toNat r) a0e.z).2.2.1, ((List.getD x.Table (Int.toNat r) a0e.z).2.2.2.1, ((List.getD x.Table (Int.toNat r) a0e.z).2.2.2.2.1, (w.i64 (1 + lt), (List.getD x.Table (Int.toNat r) a0e.z).2.2.2.2.2.2))))))), Lats := w.i64 (x.Lats + 1), Picks := p } 1 := by
  have hw1 : w.i64 (1 + lt) = 1 + lt := wI (by omega) (by omega)
  have hr1 : r.toNat < x.Table.length := by have := hr.2.1; simp only [len] at this; omega
  refine ⟨rfl, e2X hr1 rfl, fun h q hq => ?_, fun a1 a2 => ?_, fun h b' => ?_⟩
  · rcases List.mem_or_eq_of_mem_set hq with h1 | h1
    · exact h q h1
    · rw [h1]
      show 0 ≤ w.i64 (1 + lt) ∧ w.i64 (1 + lt) ≤ 1000
      rw [hw1]; omega
  · rcases hp with hp | hp
    · exact ⟨1, 0, by omega, by omega, rfl, by show p = _; rw [hp]; simp [wI64 a2]⟩
    · exact ⟨1, 1, by omega, by omega, rfl, hp⟩
  · refine Nat.le_trans (d6J _ _ _ _) ?_
    by_cases hb : b' = b
    · have h0 : x.Table.countP (workQ c.Banks b') = 0 := by
        rw [List.countP_eq_zero]
        intro q hq
        rw [hb, hw q hq]
        simp
      rw [h0]
      split <;> omega
    · rw [if_neg]
      · exact h b'
      · unfold workQ
        show ¬ ((decide (bankM (x.Table.getD r.toNat a0e.z).2.2.1 c.Banks = b') && _) = true)
        rw [hr.2.2, decide_eq_false (fun e => hb e.symm)]
        simp
theorem e4X (x:a0b) (c:a0f) (t:a0w) (b:Int) (hc:1≤c.Lat∧c.Lat≤1000) (hT:x.Table.length≤1000) (hN:1001 < N):∃ y,a7K N c t b x = some (0,a0c.dv y [])∧BegR c x y 1:=by
 unfold a7K
 have r0:=(BegR.refl c x).mono (show 0≤1 by omega)
 rcases e0M (N:=N) x c t b hT N 0 [] (by omega) (by omega) (by simp) (by simp) (by simp) with h | ⟨wt,h,hl,hw,hk⟩
 ·
  rw [show a1q N N b ([]:List Int) (len x.Table) 0 x c t = _ from h,onB_fst,gg_dv,gg_nil]
  exact ⟨x,rfl,r0⟩
 ·
  rw [show a1q N N b ([]:List Int) (len x.Table) 0 x c t = _ from h,onB_snd _ _ (by decide)]
  simp only [gg_dv,gg_nil]
  by_cases h0:wt.length = 0
  ·
   rw [len0,dt h0,bi_true]
   exact ⟨x,rfl,r0⟩
  rw [len0,df h0,bi_false]
  have hidx:∀ i:Nat,i < wt.length→_:=fun i hi=>hw _ (a1E 0 hi)
  unfold b7n b8G
  obtain ⟨lt,hlt,hl0,hl1⟩:=e6H (N:=N) t.Lats x.Lats c.Lat
  have hl2:=hl1 hc.1
  simp only [hlt,on1_some,gg_dv,gg_nil]
  by_cases h1:len wt > 1
  ·
   obtain ⟨r,hr,hr0,hr1⟩:=e6H (N:=N) t.Picks x.Picks (len wt)
   have hr2:=hr1 (by omega)
   have hb:=hidx r.toNat (by simp only [len] at hr2; omega)
   rw [dt h1,bi_true]
   simp only [hr,on1_some,gg_dv,gg_nil]
   rw [a1l hr0 (by simp only [len] at hr2; omega),gd_true,a1l hb.1 (by have:=hb.2.1; simp only [len] at this; omega),gd_true]
   exact ⟨_,rfl,e2Y hc hb hk ⟨hl0,hl2⟩ (.inr rfl)⟩
  ·
   have hb:=hidx 0 (by omega)
   rw [df h1,bi_false,a1l (by omega) (by omega),gd_true,a1l hb.1 (by have:=hb.2.1; simp only [len] at this; omega),gd_true]
   exact ⟨_,rfl,e2Y hc hb hk ⟨hl0,hl2⟩ (.inl rfl)⟩
theorem BegR.len {c:a0f} {x y:a0b} {k:Nat} (h:BegR c x y k):y.Table.length = x.Table.length:=by
 have:=congrArg List.length h.tab
 simpa using this
theorem e2r (c:a0f) (t:a0w) (m:Nat) (hc:1≤c.Lat∧c.Lat≤1000) (hN:1001 < N) (hm:m≤16):∀ (n i:Nat) (x:a0b),i≤m→m - i < n→x.Table.length≤1000 →
  ∃ y,a2N N n (m:Int) (i:Int) x c t = some (1,a0c.dv y [])∧BegR c x y (m - i):=by
 intro n
 induction n with
 | zero=>intro i x h1 h2; omega
 | succ n ih =>
  intro i x h1 h2 hT
  show ∃ y,a5a N (a2N N n) (m:Int) (i:Int) x c t = _∧_
  unfold a5a
  by_cases hi:i < m
  ·
   obtain ⟨y,hy,hb⟩:=e4X (N:=N) x c t (i:Int) hc hT hN
   rw [dt (show (i:Int) < (m:Int) by omega),bi_true,hy,on1_some,gg_dv,gg_nil,wS (show i≤100000000 by omega)]
   obtain ⟨z,hz,hb2⟩:=ih (i+1) y (by omega) (by omega) (by rw [hb.len]; exact hT)
   exact ⟨z,hz,(hb.trans hb2).mono (by omega)⟩
  ·
   have:i = m:=by omega
   subst this
   rw [df (by omega),bi_false]
   exact ⟨x,rfl,(BegR.refl c x).mono (by omega)⟩
theorem e3I (c:a0f) (t:a0w) (x:a0b) (hc:1≤c.Banks∧c.Banks≤16) (hla:1≤c.Lat∧c.Lat≤1000) (hT:x.Table.length≤1000) (hL:Lefts x.Table (len x.Mem)) (hm:len x.Mem≤65536) (hl:x.Ldq.length≤1000) (hw:x.Writes.length≤2000) (hN:1001 < N) :
  ∃ y z,a9Y N c t x = some (0,a0c.dv z [])∧MovR x z (x.Table.countP endsQ)∧y.Table = x.Table.filterMap keepQ∧y.Lats = x.Lats∧y.Picks = x.Picks∧BegR c y z c.Banks.toNat:=by
 unfold a9Y
 obtain ⟨y,hy,h,t1,t2,t3⟩:=e8x (N:=N) x hT hL hm hl hw hN
 obtain ⟨m,hcm⟩:∃ m:Nat,c.Banks = (m:Int):=⟨c.Banks.toNat,by omega⟩
 rw [df (show ¬ (c.Banks < 1) by omega),bi_false,df (show ¬ (c.Banks > 16) by omega),bi_false,df (show ¬ (c.Lat < 1) by omega),bi_false,df (show ¬ (c.Lat > 1000) by omega),bi_false,hy,on1_some,gg_dv,gg_nil]
 obtain ⟨z,hz,hb⟩:=e2r (N:=N) c t m hla hN (by omega) N 0 y (by omega) (by omega) (by have:=h.tab; omega)
 rw [hcm,show a2N N N (m:Int) 0 y c t = _ from hz,onA_some,gg_dv,gg_nil]
 have e:=hb.fr
 have e1:z.Writes = y.Writes:=by rw [e]
 have e2:z.Mem = y.Mem:=by rw [e]
 have e3:z.A = y.A:=by rw [e]
 have e4:z.Ldq = y.Ldq:=by rw [e]
 have e5:z.Saq = y.Saq:=by rw [e]
 refine ⟨y,z,rfl,⟨?_,?_,by rw [e3]; exact h.afr,by rw [e2]; exact h.mem,by rw [e4]; exact h.ldq,by rw [e5]; exact h.saq,fun hu=>by unfold UL; rw [e4]; exact h.ul hu,by rw [hb.len]; exact h.tab,by rw [e3]; exact h.rdp,by rw [e3]; exact h.rdy,by rw [e3]; exact h.regs⟩,t1,t2,t3,hb⟩
 ·
  obtain ⟨ws,a1,a2,a3,a4⟩:=h.wr
  exact ⟨ws,a1,by rw [e1]; exact a2,by rw [e2]; exact a3,a4⟩
 · rw [hb.fr,h.fr]
/-! Stores that are sent -/
theorem d9W (T:List a0e) (e:a0a) (hT:T.length≤1000):∀ (n i:Nat),i≤T.length→T.length - i < n →
  (∃ r:Int,a0A N n T (len T) (i:Int) e = some (0,gI.dv r (a0M.dv e [])))∨a0A N n T (len T) (i:Int) e = some (1,a0M.dv e []):=by
 intro n
 induction n with
 | zero=>intro i h1 h2; omega
 | succ n ih =>
  intro i h1 h2
  show (∃ r:Int,a0N N (a0A N n) T (len T) (i:Int) e = _)∨a0N N (a0A N n) T (len T) (i:Int) e = _
  unfold a0N
  by_cases hi:i < T.length
  ·
   have again:=ih (i+1) (by omega) (by omega)
   rw [a1f hi,bi_true,a1Q hi,gd_true,Int.toNat_natCast]
   obtain ⟨b,hb⟩:∃ b,a6s N (T.getD i a0e.z) e = some (0,gB.dv b (a0M.dv e [])):=by
    unfold a6s
    rw [c3b,on1_some,gg_dv,gg_nil]
    cases (T.getD i a0e.z).1 with
    | true=>exact ⟨_,rfl⟩
    | false=>exact ⟨_,rfl⟩
   rw [hb,on1_some,gg_dv,gg_dv,gg_nil,wS (show i≤100000000 by omega)]
   cases b with
   | true=>exact .inl ⟨_,rfl⟩
   | false=>rw [bi_false]; exact again
  ·
   rw [a1e (by omega),bi_false]
   exact .inr rfl
theorem d6K (T:List a0e) (e:a0a) (hT:T.length≤1000) (hN:1001 < N):∃ b,a0U N T e = some (0,gB.dv b (a0M.dv e [])):=by
 unfold a0U a1F
 rcases d9W (N:=N) T e hT N 0 (by omega) (by omega) with ⟨r,h⟩ | h
 ·
  rw [show a0A N N T (len T) 0 e = _ from h,onB_fst]
  exact ⟨_,rfl⟩
 ·
  rw [show a0A N N T (len T) 0 e = _ from h,onB_snd _ _ (by decide)]
  exact ⟨_,rfl⟩
theorem e9k (c:a0f) (x:a0b) (hT:x.Table.length≤1000) (hN:1001 < N):∃ b,b0a N c x = some (0,gB.dv b [])∧(b = true→x.Saq.length≠0∧x.Sdq.length≠0∧(x.Saq.getD 0 a0a.z).2.2.2.1 = false∧len x.Table < c.Flight):=by
 unfold b0a
 by_cases h0:x.Saq.length = 0
 · rw [len0,dt h0,bi_true]; exact ⟨false,rfl,fun h=>Bool.noConfusion h⟩
 rw [len0,df h0,bi_false,a1l (i:=0) (n:=x.Saq.length) (by omega) (by omega),gd_true]
 cases hkn:(x.Saq.getD 0 a0a.z).2.2.2.1 with
 | true=>exact ⟨false,rfl,fun h=>Bool.noConfusion h⟩
 | false =>
  rw [bi_false]
  by_cases h1:x.Sdq.length = 0
  · rw [len0,dt h1,bi_true]; exact ⟨false,rfl,fun h=>Bool.noConfusion h⟩
  rw [len0,df h1,bi_false]
  cases hfl:decide (len x.Table≥c.Flight) with
  | true=>exact ⟨false,rfl,fun h=>Bool.noConfusion h⟩
  | false =>
   obtain ⟨b,hb⟩:=d6K (N:=N) x.Table (x.Saq.getD 0 a0a.z) hT hN
   rw [bi_false,gd_true,hb,on1_some,gg_dv,gg_dv,gg_nil]
   cases (x.Trap.Kind != 0) with
   | true =>
    rw [bi_true]
    cases decide ((x.Saq.getD 0 a0a.z).2.2.1≥x.Trap.Step) with
    | true=>exact ⟨false,rfl,fun h=>Bool.noConfusion h⟩
    | false=>exact ⟨_,rfl,fun _=>⟨h0,h1,rfl,by have:=of_decide_eq_false hfl; omega⟩⟩
   | false=>exact ⟨_,rfl,fun _=>⟨h0,h1,rfl,by have:=of_decide_eq_false hfl; omega⟩⟩
def UQ (x:a0b):Prop:=∀ e∈x.Saq,U32 e.2.2.2.2.1
def US (x:a0b):Prop:=∀ v∈x.Sdq,U32 v
def Sent (c:a0f) (x y:a0b):Prop:=x.Saq.length≠0∧(x.Saq.getD 0 a0a.z).2.2.2.1 = false∧len x.Table < c.Flight∧∃ v o:Int,
 (o = 33∧(x.Saq.getD 0 a0a.z).2.1 = 1∨o = 32∧(x.Saq.getD 0 a0a.z).2.1 = 2∨o = 31∧(x.Saq.getD 0 a0a.z).2.1≠1∧(x.Saq.getD 0 a0a.z).2.1≠2) ∧
 y.Saq = x.Saq.set 0 ((x.Saq.getD 0 a0a.z).1,((x.Saq.getD 0 a0a.z).2.1,((x.Saq.getD 0 a0a.z).2.2.1,(true,(v,()))))) ∧
 y.Table = x.Table++[(true,(o,((x.Saq.getD 0 a0a.z).1,((x.Saq.getD 0 a0a.z).2.1,(v,(0,(0,(0,()))))))))]
structure SndR (c:a0f) (x y:a0b):Prop where
 ex:y = x∨Sent c x y
 fr:y = { x with Sdq:=y.Sdq,Saq:=y.Saq,Table:=y.Table }
 sdq:y.Sdq.length≤x.Sdq.length
 saq:y.Saq.length = x.Saq.length
 tab:y.Table.length≤x.Table.length+1
 uq:US x→UQ x→UQ y
 us:US x→US y
theorem e9v (v n:Int) (h:U32 v):∃ r,b1j N v n = some (0,gW.dv r [])∧U32 r:=by
 unfold b1j
 simp only [a1u,beq_iff_eq]
 split
 · exact ⟨_,rfl,a5x _⟩
 ·
  split
  · exact ⟨_,rfl,a5x _⟩
  ·
   split
   · exact ⟨_,rfl,h⟩
   · exact ⟨0,rfl,by omega,by omega⟩
theorem e6W (v n:Int):∃ r,b1j N v n = some (0,gW.dv r [])∧(U32 v→U32 r):=by
 unfold b1j
 simp only [a1u,beq_iff_eq]
 split
 · exact ⟨_,rfl,fun _=>a5x _⟩
 ·
  split
  · exact ⟨_,rfl,fun _=>a5x _⟩
  ·
   split
   · exact ⟨_,rfl,fun h=>h⟩
   · exact ⟨0,rfl,fun _=>⟨by omega,by omega⟩⟩
theorem e1S (c:a0f) (x:a0b) (hT:x.Table.length≤1000) (hN:1001 < N):∃ y,a7V N c x = some (0,a0c.dv y [])∧SndR c x y:=by
 unfold a7V
 obtain ⟨b,hb,hne⟩:=e9k (N:=N) c x hT hN
 rw [hb,on1_some,gg_dv,gg_nil]
 cases b with
 | false=>exact ⟨x,rfl,.inl rfl,rfl,Nat.le_refl _,rfl,by omega,fun _ h=>h,fun h=>h⟩
 | true =>
  obtain ⟨h0,h1,h8,h9⟩:=hne rfl
  obtain ⟨r,hr,hu⟩:=e6W (N:=N) (x.Sdq.getD 0 0) (x.Saq.getD 0 a0a.z).2.1
  rw [Bool.not_true,bi_false,a1l (by omega) (by omega),gd_true,a1l (by omega) (by omega),gd_true,hr,on1_some,gg_dv,gg_nil,sb_1 h1,gd_true]
  have hop:∀ n:Int,∃ o:Int,b3i N n = some (0,gI.dv o [])∧(o = 33∧n = 1∨o = 32∧n = 2∨o = 31∧n≠1∧n≠2):=by
   intro n
   unfold b3i
   by_cases n1:n = 1
   · exact ⟨33,by rw [bt n1]; rfl,by omega⟩
   ·
    by_cases n2:n = 2
    · exact ⟨32,by rw [bf n1,bt n2]; rfl,by omega⟩
    · exact ⟨31,by rw [bf n1,bf n2]; rfl,by omega⟩
  have head:∀ (e:a0a) (h:0 < x.Saq.length),(x.Saq.set 0 e).getD 0 a0a.z = e:=by
   intro e h
   rw [List.getD_eq_getElem?_getD,List.getElem?_set_self (by omega)]; rfl
  simp only [head _ (show 0 < x.Saq.length by omega),List.set_set]
  obtain ⟨o,ho,ho2⟩:=hop (x.Saq.getD 0 a0a.z).2.1
  rw [ho,on1_some,gg_dv,gg_nil,rmT (by simp; omega),gd_true]
  refine ⟨_,rfl,.inr ⟨h0,h8,h9,r,o,ho2,rfl,rfl⟩,rfl,by simp,by simp,by simp,fun hs hq e he=>?_,fun hs v hv=>hs v (List.mem_of_mem_drop hv)⟩
  rcases List.mem_or_eq_of_mem_set he with h2 | h2
  · exact hq e h2
  ·
   rw [h2]
   exact hu (hs _ (a1E 0 (by omega)))
end Go.Proofs.Zz

/- Words stay words in E's and A's cycles. -/
set_option maxRecDepth 100000
namespace Go.Proofs.Zz
open Go
variable {N:Nat}
theorem e7C {a n:Int} (h:U32 a):U32 (shr .u32 a n):=by
 unfold shr
 have hp:(1:Int)≤2 ^ (min n.toNat IntKind.u32.bits):=by
  have:(0:Int) < 2 ^ (min n.toNat IntKind.u32.bits):=Int.pow_pos (by omega)
  omega
 generalize (2:Int) ^ (min n.toNat IntKind.u32.bits) = p at hp
 rw [Int.fdiv_eq_ediv_of_nonneg _ (by omega)]
 have h1:0≤a / p:=Int.ediv_nonneg h.1 (by omega)
 have h2:a / p≤a:=Int.ediv_le_self _ h.1
 have:=h.2
 exact ⟨h1,by omega⟩
theorem e7p (op:Int) {a b:Int} (ha:U32 a) (hb:U32 b):U32 (opM op a b).1:=by
 have hz:U32 0:=⟨by omega,by omega⟩
 have h01:∀ c:Bool,U32 (one01 c):=by intro c; cases c <;> exact ⟨by decide,by decide⟩
 unfold opM
 by_cases h1:op = 1
 · rw [if_pos h1]; exact a5x _
 rw [if_neg h1]
 by_cases h2:op = 2
 · rw [if_pos h2]; exact a5x _
 rw [if_neg h2]
 by_cases h3:op = 3
 · rw [if_pos h3]; exact a5x _
 rw [if_neg h3]
 by_cases h4:op = 4
 · rw [if_pos h4]; exact a5x _
 rw [if_neg h4]
 by_cases h5:op = 5
 · rw [if_pos h5]; exact a5x _
 rw [if_neg h5]
 by_cases h6:op = 6
 · rw [if_pos h6]; exact a5x _
 rw [if_neg h6]
 by_cases h7:op = 7
 · rw [if_pos h7]; exact e7C ha
 rw [if_neg h7]
 by_cases h8:op = 8
 · rw [if_pos h8]; exact a5x _
 rw [if_neg h8]
 by_cases h9:op = 9
 · rw [if_pos h9]; exact h01 _
 rw [if_neg h9]
 by_cases h10:op = 10
 · rw [if_pos h10]; exact h01 _
 rw [if_neg h10]
 by_cases h11:op = 11
 · rw [if_pos h11]; exact a5x _
 rw [if_neg h11]
 by_cases h12:op = 12
 · rw [if_pos h12]; exact a5x _
 rw [if_neg h12]
 by_cases hb0:b = 0
 · rw [if_pos hb0]; exact hz
 rw [if_neg hb0]
 by_cases h13:op = 13
 · rw [if_pos h13]; exact a5x _
 rw [if_neg h13]
 by_cases h15:op = 15
 · rw [if_pos h15]; exact a5x _
 rw [if_neg h15]
 have k1:=ha.1; have k2:=hb.1; have k3:=ha.2; have k4:=hb.2
 by_cases h14:op = 14
 ·
  rw [if_pos h14]
  show U32 (Int.tdiv a b)
  rw [Int.tdiv_eq_ediv_of_nonneg k1]
  exact ⟨Int.ediv_nonneg k1 k2,by have:=Int.ediv_le_self b k1; omega⟩
 ·
  rw [if_neg h14]
  show U32 (Int.tmod a b)
  rw [Int.tmod_eq_emod_of_nonneg k1]
  exact ⟨Int.emod_nonneg _ hb0,by have:=Int.emod_lt_of_pos a (show 0 < b by omega); omega⟩
theorem e2V (i:a0o) {a b:Int} (ha:U32 a) (hb:U32 b):U32 (doM i a b).1:=by
 unfold doM
 split
 · exact ⟨by simp,by simp⟩
 ·
  split
  · exact a5x _
  ·
   refine e7p _ ha ?_
   split
   · exact a5x _
   · exact hb
def SideW (d:a0v):Prop:=d.Ready.length = 16∧∀ r∈d.Regs,U32 r
theorem SideW.set {d:a0v} (h:SideW d) (r y:Int) {v:Int} (hv:U32 v):SideW (setM d r v y):=by
 unfold setM
 split
 · exact ⟨by simp [h.1],e3s h.2 _ hv⟩
 · exact h
theorem SideW.behind {d:a0v} (h:SideW d):SideW (behindM d):=h
theorem SideW.go {d:a0v} (h:SideW d) (s:a0g) (cy:Int) (t:Bool):SideW (goD s cy d t):=h
theorem SideW.halt {d:a0v} (h:SideW d):SideW (haltM d):=h
def UA (x:a0b):Prop:=∀ v∈x.Aeq,U32 v
structure Wd (x:a0b):Prop where
 a:SideW x.A
 e:SideW x.E
 ul:UL x
 uq:UQ x
 us:US x
 ua:UA x
theorem e5C {l:List Int} (h:∀ v∈l,U32 v) (i:Nat):U32 (l.getD i 0):=by
 by_cases hi:i < l.length
 · exact h _ (a1E 0 hi)
 ·
  rw [List.getD_eq_getElem?_getD,List.getElem?_eq_none (by omega)]
  exact ⟨by simp,by simp⟩
theorem e4u {l:List Int} (h:∀ v∈l,U32 v) {v:Int} (hv:U32 v):∀ u∈l++[v],U32 u:=by
 intro u hu
 rcases List.mem_append.1 hu with hu | hu
 · exact h u hu
 ·
  simp only [List.mem_singleton] at hu
  rw [hu]; exact hv
theorem e9n {l:List a0q} (h:∀ e∈l,U32 e.2.2.1):(∀ e∈(popM l).1,U32 e.2.2.1)∧U32 (popM l).2.1:=by
 unfold popM
 split
 · exact ⟨h,by simp,by simp⟩
 ·
  rename_i h0
  refine ⟨fun e he=>h e (List.mem_of_mem_drop he),?_⟩
  exact h _ (a1E a0q.z (by omega))
theorem c7C {x:a0b} (h:Wd x) (k st pc:Int):Wd (noteM x k st pc):=by
 unfold noteM
 split
 · exact ⟨h.a,h.e,h.ul,h.uq,h.us,h.ua⟩
 · exact h
theorem e6Y {x:a0b} (h:Wd x) (c:a0f) (s:a0g) (k:a0h) (st:Int):Wd (actE c s k st x):=by
 have hg:=b1T h.e.2
 unfold actE
 split
 ·
  split
  · exact ⟨h.a,(h.e.set _ _ (e2V _ (hg _) (hg _))).behind,h.ul,h.uq,h.us,h.ua⟩
  · exact c7C h _ _ _
 split
 ·
  split
  · exact h
  · exact ⟨h.a,(h.e.set _ _ (e5C h.ua 0)).behind,h.ul,h.uq,h.us,fun v hv=>h.ua v (List.mem_of_mem_drop hv)⟩
 split
 ·
  split
  · exact h
  ·
   have hp:=e9n h.ul
   exact ⟨h.a,(h.e.set _ _ hp.2).behind,hp.1,h.uq,h.us,h.ua⟩
 split
 ·
  split
  · exact ⟨h.a,h.e.behind,h.ul,h.uq,e4u h.us (hg _),h.ua⟩
  · exact h
 split
 ·
  split
  · exact h
  · exact ⟨h.a,h.e.go _ _ _,h.ul,h.uq,h.us,h.ua⟩
 split
 ·
  split
  · exact h
  · exact ⟨h.a,h.e.go _ _ _,h.ul,h.uq,h.us,h.ua⟩
 split
 · exact ⟨h.a,h.e.go _ _ _,h.ul,h.uq,h.us,h.ua⟩
 split
 · exact ⟨h.a,h.e.halt,h.ul,h.uq,h.us,h.ua⟩
 · exact h
theorem e5r {x:a0b} (h:Wd x) (c:a0f) (s:a0g):Wd (turnE c s x):=by
 have h2:Wd (atE s x).2.2.2:=by
  have hc:=d8x s x
  obtain ⟨h1,h3⟩:=hc
  generalize (atE s x).2.2.2 = y at h1 h3
  rw [h1]
  refine ⟨h.a,?_,h.ul,h.uq,h.us,h.ua⟩
  show SideW y.E
  rw [h3]
  exact h.e
 unfold turnE
 split
 · exact h2
 · exact e6Y h2 _ _ _ _
theorem d0k (l:List a0a) (a n:Int):∀ i,i≤l.length→(searchM l a n i).1 = a0a.z∨(searchM l a n i).1∈l
 | 0,_=>.inl rfl
 | i+1,h=>by
  unfold searchM
  split
  · exact .inr (a1E a0a.z (by omega))
  · exact d0k l a n i (by omega)
theorem e7i {e:a0a} (h:U32 e.2.2.2.2.1) (op a:Int):U32 (bypM e op a).1:=by
 unfold bypM
 split
 · exact ⟨by simp,by simp⟩
 · exact d8Y op h
theorem e6B {x:a0b} (h:Wd x) (c:a0f):Wd (resM c x):=by
 unfold resM
 split
 ·
  refine ⟨h.a,h.e,fun e he=>?_,h.uq,h.us,h.ua⟩
  rcases List.mem_append.1 he with he | he
  · exact h.ul e he
  ·
   simp only [List.mem_singleton] at he
   rw [he]; exact ⟨by simp,by simp⟩
 · exact h
theorem e6S {x:a0b} (h:Wd x) (c:a0f) (k:a0h) {v:Int} (hv:U32 v):Wd (takeM c k v x):=by
 unfold takeM
 split
 · exact ⟨(h.a.set _ _ hv).behind,h.e,h.ul,h.uq,h.us,h.ua⟩
 ·
  split
  ·
   have hr:=e6B h c
   exact ⟨h.a.behind,hr.e,d8S hr.ul _ hv,hr.uq,hr.us,hr.ua⟩
  · exact h
theorem e8f {x:a0b} (h:Wd x) (c:a0f) (k:a0h) (a:Int):Wd (askM c k a x):=by
 unfold askM
 split
 ·
  split
  ·
   have hr:=e6B h c
   exact ⟨h.a.behind,hr.e,hr.ul,hr.uq,hr.us,hr.ua⟩
  · exact h
 ·
  split
  · exact ⟨⟨by simp [behindM,h.a.1],h.a.2⟩,h.e,h.ul,h.uq,h.us,h.ua⟩
  · exact ⟨h.a.behind,h.e,h.ul,h.uq,h.us,h.ua⟩
theorem e8b {x:a0b} (h:Wd x) (c:a0f) (k:a0h) (st:Int):Wd (loadM c k st x):=by
 unfold loadM
 split
 · exact c7C h _ _ _
 ·
  split
  ·
   split
   ·
    refine e6S h c k (e7i ?_ _ _)
    rcases d0k x.Saq (addrM k x) (sizeM k.2.1.1) x.Saq.length (Nat.le_refl _) with e | e
    · rw [e]; exact ⟨by decide,by decide⟩
    · exact h.uq _ e
   · exact h
  ·
   split
   · exact e8f h c k _
   · exact h
theorem e5t {x:a0b} (h:Wd x) (c:a0f) (k:a0h) (st:Int):Wd (storeM c k st x):=by
 unfold storeM
 split
 · exact c7C h _ _ _
 ·
  split
  ·
   refine ⟨h.a.behind,h.e,h.ul,fun e he=>?_,h.us,h.ua⟩
   rcases List.mem_append.1 he with he | he
   · exact h.uq e he
   ·
    simp only [List.mem_singleton] at he
    rw [he]; exact ⟨by simp,by simp⟩
  · exact h
theorem e7n {x:a0b} (h:Wd x) (c:a0f) (s:a0g) (k:a0h) (st:Int):Wd (actA c s k st x):=by
 have hg:=b1T h.a.2
 unfold actA
 split
 ·
  unfold doA
  split
  · exact ⟨(h.a.set _ _ (e2V _ (hg _) (hg _))).behind,h.e,h.ul,h.uq,h.us,h.ua⟩
  · exact c7C h _ _ _
 split
 · exact e8b h c k st
 split
 · exact e5t h c k st
 split
 ·
  split
  · exact ⟨h.a.behind,h.e,h.ul,h.uq,h.us,e4u h.ua (hg _)⟩
  · exact h
 split
 ·
  unfold branchA
  split
  · exact h
  · exact ⟨h.a.go _ _ _,h.e,h.ul,h.uq,h.us,h.ua⟩
 split
 ·
  unfold followA
  split
  · exact h
  · exact ⟨h.a.go _ _ _,h.e,h.ul,h.uq,h.us,h.ua⟩
 split
 · exact ⟨h.a.go _ _ _,h.e,h.ul,h.uq,h.us,h.ua⟩
 split
 · exact ⟨h.a.halt,h.e,h.ul,h.uq,h.us,h.ua⟩
 · exact h
theorem e6v {x:a0b} (h:Wd x) (s:a0g):Wd (atA s x).2.2.2:=by
 unfold atA
 split
 · exact h
 ·
  simp only []
  split
  · exact c7C (x:={ x with A:={ x.A with Pos:=(settleM s false x.A.Pos).1 } }) ⟨h.a,h.e,h.ul,h.uq,h.us,h.ua⟩ _ _ _
  · exact ⟨h.a,h.e,h.ul,h.uq,h.us,h.ua⟩
theorem e6b {x:a0b} (h:Wd x) (c:a0f) (s:a0g):Wd (turnA c s x):=by
 unfold turnA
 split
 · exact e6v h s
 · exact e7n (e6v h s) _ _ _ _
end Go.Proofs.Zz

/- A cycle of the core: what it leaves. -/
set_option maxRecDepth 100000
namespace Go.Proofs.Zz
open Go
variable {N:Nat}
structure Inv (k:Nat) (x:a0b):Prop where
 wd:Wd x
 mem:len x.Mem≤65536
 ldq:x.Ldq.length≤700
 sdq:x.Sdq.length≤700
 aeq:x.Aeq.length≤700
 abq:x.Abq.length≤700
 ebq:x.Ebq.length≤700
 saq:x.Saq.length≤700
 tab:x.Table.length≤700
 wri:x.Writes.length≤k
theorem Inv.wf {k:Nat} {x:a0b} (h:Inv k x) (hk:k≤900):Wf x :=
 { rA:=h.wd.a.1,rE:=h.wd.e.1,mem:=by have:=h.mem; simp only [len] at this; omega,saq:=by have:=h.saq; omega,tab:=by have:=h.tab; omega,ldq:=by have:=h.ldq; omega,sdq:=by have:=h.sdq; omega,aeq:=by have:=h.aeq; omega,abq:=by have:=h.abq; omega,ebq:=by have:=h.ebq; omega,wri:=by have:=h.wri; omega,gA:=h.wd.a.2,gE:=h.wd.e.2 }
theorem Inv.wfa {k:Nat} {x:a0b} (h:Inv k x):WfA x :=
 { mem:=by have:=h.mem; simp only [len] at this; omega,ldq:=by have:=h.ldq; omega,tab:=by have:=h.tab; omega,saq:=by have:=h.saq; omega,aeq:=by have:=h.aeq; omega,abq:=by have:=h.abq; omega,gA:=h.wd.a.2 }
theorem Inv.mono {k m:Nat} {x:a0b} (h:Inv k x) (hm:k≤m):Inv m x:={ h with wri:=Nat.le_trans h.wri hm }
structure Bnd (c:a0f) (x:a0b):Prop where
 ldq:x.Ldq.length≤64
 sdq:x.Sdq.length≤64
 aeq:x.Aeq.length≤64
 abq:x.Abq.length≤64
 ebq:x.Ebq.length≤64
 saq:x.Saq.length≤64
 tab:x.Table.length≤64
 bk:1≤c.Banks∧c.Banks≤16
 la:1≤c.Lat∧c.Lat≤1000
theorem Bnd.of {c:a0f} {s:a0g} {x:a0b} (h:rightM c s x = true):Bnd c x:=by
 unfold rightM cfgM queuesM at h
 simp only [Bool.and_eq_true,allB,List.all_cons,List.all_nil,decide_eq_true_eq,len] at h
 obtain ⟨⟨⟨a1,a2,a3,a4,a5,a6,a7,a8,_⟩,⟨b1,_⟩,⟨b2,_⟩,_⟩,_,_,_,⟨c1,c2,c3,c4,c5,c6,c7,c8⟩,_⟩:=h
 exact ⟨by omega,by omega,by omega,by omega,by omega,by omega,by omega,b1,b2⟩
theorem Lefts.of {c:a0f} {s:a0g} {x:a0b} (h:rightM c s x = true):Lefts x.Table (len x.Mem):=by
 unfold rightM at h
 simp only [Bool.and_eq_true] at h
 have h2:=List.all_eq_true.1 h.2.2.2.2.2.1.2.1
 intro q hq _
 have h3:=h2 q hq
 unfold reqM at h3
 simp only [Bool.and_eq_true] at h3
 have:=of_decide_eq_true h3.2.2.1
 exact this
theorem a6f (x:a0b):∀ (l:List a0e) (n m:Int),sentF x n l = some m→m = n+((l.countP fun q=>q.1:Nat):Int)
 | [],n,m,h=>by simp only [sentF,Option.some.injEq] at h; simp; omega
 | q::r,n,m,h=>by
  unfold sentF at h
  rw [List.countP_cons]
  split at h
  ·
   rename_i hq
   rw [if_neg (by simp [hq])]
   have:=a6f x r n m h
   omega
  ·
   rename_i hq
   split at h
   · simp at h
   ·
    rw [if_pos (by simpa using hq)]
    have:=a6f x r (n+1) m h
    omega
theorem e2n {c:a0f} {s:a0g} {x:a0b} (h:rightM c s x = true):(x.Table.countP fun q=>q.1)≤1:=by
 unfold rightM at h
 simp only [Bool.and_eq_true] at h
 have h2:=h.2.2.2.2.2.1.2.2
 unfold sentM at h2
 split at h2
 · simp at h2
 ·
  rename_i n hn
  have h3:=a6f x _ _ _ hn
  have h4:=of_decide_eq_true h2
  split at h4 <;> omega
theorem d7o {c:a0f} {s:a0g} {x:a0b} (h:rightM c s x = true):x.Table.countP endsQ≤1:=by
 refine Nat.le_trans (List.countP_mono_left fun q _ hq=>?_) (e2n h)
 unfold endsQ at hq
 simp only [Bool.and_eq_true] at hq
 exact hq.1
def Wrote (x y:a0b):Prop:=∃ ws:List a0K,ws.length≤1∧y.Writes = x.Writes++ws∧y.Mem = ws.foldl wrOf x.Mem∧∀ q∈ws,LieW q (len x.Mem)
theorem Wrote.same {x y:a0b} (h:y.Writes = x.Writes) (g:y.Mem = x.Mem):Wrote x y:=⟨[],by simp,by simp [h],g,by simp⟩
theorem invE {c:a0f} {s:a0g} {x:a0b} {k:Nat} (h:Inv k x) (hr:rightM c s x = true):Inv k (turnE c s x)∧(turnE c s x).Writes = x.Writes∧(turnE c s x).Mem = x.Mem:=by
 have hb:=Bnd.of hr
 have hw:=e5r h.wd c s
 have ho:=d9F c s x
 generalize turnE c s x = y at *
 have e1:y.Writes = x.Writes:=by rw [ho.fr]
 have e2:y.Mem = x.Mem:=by rw [ho.fr]
 have e3:y.Saq = x.Saq:=by rw [ho.fr]
 have e4:y.Table = x.Table:=by rw [ho.fr]
 obtain ⟨b1,b2,b3,b4,b5,b6,b7,_,_⟩:=hb
 have on:=ho.on
 exact ⟨{ wd:=hw,mem:=by rw [e2]; exact h.mem,ldq:=by omega,sdq:=by omega,aeq:=by omega,abq:=by omega,ebq:=by omega,saq:=by rw [e3]; omega,tab:=by rw [e4]; omega,wri:=by rw [e1]; exact h.wri },e1,e2⟩
theorem invA {c:a0f} {s:a0g} {x:a0b} {k:Nat} (h:Inv k x) (hr:rightM c s x = true):Inv k (turnA c s x)∧(turnA c s x).Writes = x.Writes∧(turnA c s x).Mem = x.Mem:=by
 have hb:=Bnd.of hr
 have hw:=e6b h.wd c s
 have ho:=d3T c s x
 generalize turnA c s x = y at *
 have e1:y.Writes = x.Writes:=by rw [ho.fr]
 have e2:y.Mem = x.Mem:=by rw [ho.fr]
 have e3:y.Sdq = x.Sdq:=by rw [ho.fr]
 obtain ⟨b1,b2,b3,b4,b5,b6,b7,_,_⟩:=hb
 have on:=ho.on
 have tb:=ho.tb
 have tg:=ho.tg
 exact ⟨{ wd:=hw,mem:=by rw [e2]; exact h.mem,ldq:=by omega,sdq:=by rw [e3]; omega,aeq:=by omega,abq:=by omega,ebq:=by omega,saq:=by omega,tab:=by omega,wri:=by rw [e1]; exact h.wri },e1,e2⟩
theorem Inv.cyc {k:Nat} {x:a0b} (h:Inv k x) (n:Int):Inv k { x with Cycle:=n } :=
 { wd:=⟨h.wd.a,h.wd.e,h.wd.ul,h.wd.uq,h.wd.us,h.wd.ua⟩,mem:=h.mem,ldq:=h.ldq,sdq:=h.sdq,aeq:=h.aeq,abq:=h.abq,ebq:=h.ebq,saq:=h.saq,tab:=h.tab,wri:=h.wri }
theorem invM {c:a0f} {s:a0g} {x x1 x2:a0b} {k n:Nat} (h:Inv k x) (hr:rightM c s x = true) (m1:MovR x x1 n) (hn:n≤1) (m2:SndR c x1 x2):Inv (k+1) x2∧Wrote x x2:=by
 obtain ⟨b1,b2,b3,b4,b5,b6,b7,_,_⟩:=Bnd.of hr
 obtain ⟨ws,w1,w2,w3,w4⟩:=m1.wr
 have hj:=m1.saq
 have fr1:=m1.fr
 have fr2:=m2.fr
 have q1:x2.Writes = x1.Writes:=by rw [fr2]
 have q2:x2.Mem = x1.Mem:=by rw [fr2]
 have q3:x2.A = x1.A:=by rw [fr2]
 have q4:x2.E = x.E:=by rw [fr2,fr1]
 have q5:x2.Ldq = x1.Ldq:=by rw [fr2]
 have q6:x2.Aeq = x.Aeq:=by rw [fr2,fr1]
 have q7:x2.Abq = x.Abq:=by rw [fr2,fr1]
 have q8:x2.Ebq = x.Ebq:=by rw [fr2,fr1]
 have q9:x1.Sdq = x.Sdq:=by rw [fr1]
 have us1:US x1:=by unfold US; rw [q9]; exact h.wd.us
 have uq1:UQ x1:=by
  intro e he
  rw [hj] at he
  exact h.wd.uq e (List.mem_of_mem_drop he)
 have l1:=m1.ldq
 have l2:=m2.sdq
 have l3:=m2.saq
 have l4:=m2.tab
 have l5:=m1.tab
 rw [q9] at l2
 have l6:x1.Saq.length≤x.Saq.length:=by rw [hj]; simp
 refine ⟨{ wd:=⟨⟨by rw [q3,m1.rdy]; exact h.wd.a.1,by rw [q3]; exact m1.regs h.wd.a.2⟩,by rw [q4]; exact h.wd.e,?_,m2.uq us1 uq1,m2.us us1,?_⟩,mem:=?_,ldq:=by rw [q5]; omega,sdq:=by omega,aeq:=by rw [q6]; omega,abq:=by rw [q7]; omega,ebq:=by rw [q8]; omega,saq:=by omega,tab:=by omega,wri:=?_ },⟨ws,by omega,by rw [q1]; exact w2,by rw [q2]; exact w3,w4⟩⟩
 · unfold UL; rw [q5]; exact m1.ul h.wd.ul
 · unfold UA; rw [q6]; exact h.wd.ua
 ·
  have:=h.mem
  rw [q2]
  simp only [len,m1.mem] at this ⊢
  exact this
 ·
  rw [q1,w2]
  have:=h.wri
  simp
  omega
theorem Wrote.then {x y z:a0b} (h:Wrote x y) (g:z.Writes = y.Writes) (g2:z.Mem = y.Mem):Wrote x z:=by
 obtain ⟨ws,a1,a2,a3,a4⟩:=h
 exact ⟨ws,a1,by rw [g]; exact a2,by rw [g2]; exact a3,a4⟩
end Go.Proofs.Zz

/- Memory is what it was at first, with all that was written: the reference law's answer. -/
set_option maxRecDepth 100000
namespace Go.Proofs.Zz
open Go
variable {N:Nat}
abbrev st0 (mem:List Int):a0b:=a0b.mk 0 a0v.z a0v.z ([]:List a0q) ([]:List Int) ([]:List Int) ([]:List Bool) ([]:List Bool) ([]:List a0a) ([]:List a0e) mem ([]:List a0K) a1X.z 0 0 0
theorem e3P {mem:List Int} (h:len mem≤65536):Inv 0 (st0 mem):=by
 have hz:SideW a0v.z:=by
  refine ⟨rfl,fun r hr=>?_⟩
  rw [show r = 0 from List.eq_of_mem_replicate (n:=16) hr]
  exact ⟨by simp,by simp⟩
 exact { wd:=⟨hz,hz,by intro e he; simp at he,by intro e he; simp at he,by intro e he; simp at he,by intro e he; simp at he⟩,mem:=h,ldq:=by simp,sdq:=by simp,aeq:=by simp,abq:=by simp,ebq:=by simp,saq:=by simp,tab:=by simp,wri:=by simp }
section
variable (cy:Int) (c:a0f) (t:a0w) (s:a0g)
end
end Go.Proofs.Zz
