import Derived.Test.YtnfpdmhdpeffjaaGreatK9
import Derived.Test.YtnfpdmhdpeffjaaGreatLayTryz
import Derived.Lib.SortBridge
import Derived.Lib.RowBridge
set_option linter.unusedSimpArgs false
set_option linter.unusedVariables false
set_option maxRecDepth 100000
namespace Go.Proofs.Zz
noncomputable section
open Go Go.Proofs Go.Proofs.Tryz Go.Sort Go.Shelf
theorem f8c {F:Nat→Prop} {w:World}:∀{xs:List Int} {ds:List Value},All (λ(x:Den tI) c=>RepD F w tI x c) xs ds→ds=xs.map (Value.int .i64)
 | [],_,h=>h
 | x::xs,ds,h=>by
  obtain⟨c,d,rfl,h1,h2⟩:=h;rw[RepD]at h1;rw[h1,f8c h2];rfl
theorem f9M {F:Nat→Prop} {w:World}:∀xs:List Int,All (λ(x:Den tI) c=>RepD F w tI x c) xs (xs.map (Value.int .i64))
 | []=>rfl
 | x::xs=>⟨[Value.int .i64 x],xs.map (Value.int .i64),rfl,by show RepD F w (.int .i64) x [Value.int .i64 x]; rw[RepD],f9M xs⟩
theorem g3U {F:Nat→Prop} {w:World} {e:EI} {xs:List Int} {v:Value} (hO:RepArrO F w e tI xs) (hW:Win e 0 e.len [v]) (h0:xs.length≠0) :
  e.nil=false∧v=.slice (some ⟨e.blk,e.base,none⟩) xs.length e.cap∧Holds (Value.int .i64) w e.blk e.base xs.toArray∧e.blk<w.heap.size:=by
 obtain⟨q1,q2,q3,q4,q5,q6⟩:=hO;obtain⟨_,ad,hv,ha⟩:=hW;simp only[mK,and_true,oD]at hv;obtain⟨hn,had⟩:=ha (by omega);obtain⟨cs,u,fr,ds,k1,k2,k3,k4,k5⟩:=q6 hn;have hds:=f8c k3;subst hds;have hsz:e.esz=1:=q3;rw[hsz]at k2;refine⟨hn,by rw[hv,had,q1]; simp,λj hj=>?_,(nM.1 k1).1⟩
 have hj:j<xs.length:=by simpa using hj
 refine⟨?_,k5 _ (by omega)⟩;have:=k4 j (Value.int .i64 xs[j]) (by rw[nW,mC hj]; rfl);rw[this];simp[hj]
theorem g1U {F:Nat→Prop} {w:World} {e:EI} {xs:List Int} (hO:RepArrO F w e tI xs) (hn:e.nil=false) (q:Nat) (os:Array Go.Obj) (ys:List Int) (hl:ys.length=xs.length) {w':World} (hw:w'=grow ((w.drewN q).setCells e.blk e.base (ys.map (Value.int .i64))) os) :
  RepArrO F w' e tI ys∧w.heap.size≤w'.heap.size∧(∀b,b<w.heap.size→b≠e.blk→w'.heap[b]?=w.heap[b]?)∧w'.os=w.os∧w'.tape=w.tape∧w'.output=w.output:=by
 obtain⟨q1,q2,q3,q4,q5,q6⟩:=hO;obtain⟨cs,u,fr,ds,k1,k2,k3,k4,k5⟩:=q6 hn;have hds:=f8c k3;subst hds;have hsz:e.esz=1:=q3;have k1':(w.drewN q).heap[e.blk]?=some (.cells cs u fr):=k1;have hblk:=(nM.1 k1).1;rw[hsz]at k2;obtain⟨cs',m1,m2,m3⟩:=a4K (ys.map (Value.int .i64)) e.base (w.drewN q) cs k1' (by simp; omega);have hsw:=a4X e.blk (ys.map (Value.int .i64)) e.base (w.drewN q);generalize hW:(w.drewN q).setCells e.blk e.base (ys.map (Value.int .i64))=W at *;have hsz2:W.heap.size=w.heap.size:=hsw.size;have hgr:∀b,b<W.heap.size→w'.heap[b]?=W.heap[b]?:=λb hb=>by
  rw[hw];show (W.heap++os)[b]?=_;rw[Array.getElem?_append_left hb]
 have hat:At W e.blk e.base (ys.map (Value.int .i64)):=by
  have k4':At (w.drewN q) e.blk e.base (xs.map (Value.int .i64)):=k4;have:=k4'.set (o:=0) (vs:=ys.map (Value.int .i64)) (by simp; omega);rw[nS,hW]at this;have e2:bZ (xs.map (Value.int .i64)) 0 (ys.map (Value.int .i64))=ys.map (Value.int .i64):=by
   simp[bZ,hl]
  rwa [e2]at this
 refine⟨⟨by rw[hl]; exact q1,q2,q3,q4,q5,λ_=>⟨cs',u,fr,ys.map (Value.int .i64),(hgr _ (by omega)).trans m1,by rw[hsz,m3]; exact k2,f9M ys,λj u hj=>?_,λo ho=>?_⟩⟩,?_,λb hb hne=>?_,?_,?_,?_⟩
 ·rw[cell?_heap (w:=W) (hgr e.blk (by omega))]; exact hat j u hj
 ·
  rw[frozen?_heap (w:=W) (hgr e.blk (by omega)),← hW,World.frozen?_setCells];exact k5 o (by omega)
 ·rw[hw]; show w.heap.size≤(W.heap++os).size; simp; omega
 ·exact (hgr b (by omega)).trans (hsw.old b hne)
 ·rw[hw]; exact hsw.os
 ·rw[hw]; exact hsw.tape
 ·rw[hw]; exact hsw.output
def fT (xs:List Int):List Int:=xs.mergeSort λx y=>decide (x≤y)
theorem g5t (xs:List Int) (hb:xs.length≤1000000):WrOK Q 299 tI [⟨.sl tI,xs⟩] [⟨.sl tI,fT xs⟩]:=by
 refine⟨xs,fT xs,rfl,rfl,λF w e v hO hW=>?_⟩
 have hlen:(fT xs).length=xs.length:=by unfold fT; simp
 by_cases h0:xs.length=0
 ·
  have hx:xs=[]:=mT.1 h0;have hs:fT xs=[]:=mT.1 (by rw[hlen]; exact h0);obtain⟨_,ad,hv,ha⟩:=hW;simp only[mK,and_true,oD]at hv;have hl0:e.len=0:=by have:=hO.1; omega
  rw[hl0]at hv;subst hv;refine (Tryz.slices_Sort_int_none ad e.cap w).mono λout w' ⟨h1,h2⟩=>?_
  subst h2;refine⟨h1,?_⟩;cases hn:e.nil with
  | true=>exact .inl ⟨rfl,rfl,hs⟩
  | false =>
   refine .inr ⟨rfl,?_,mG _,λ_ _ _=>rfl,rfl,rfl,rfl⟩
   rw[hs];rw[hx]at hO;exact hO
 ·
  obtain⟨hn,hv,hH,hblk⟩:=g3U hO hW h0;subst hv;refine (Tryz.slices_Sort_int e.blk e.base e.cap xs w hH hblk (by omega)).mono λout w' ⟨h1,q,os,h2⟩=>?_
  refine⟨h1,.inr ⟨hn,?_⟩⟩;refine g1U hO hn q os (fT xs) hlen ?_;rw[h2];exact Lib.sorted_world (Value.int .i64) w e.blk e.base q xs.toArray (fT xs) os hH (by simp[hlen])
def f8X:CS:=⟨272,299,⟨[.one (.w tI)],[]⟩,[],false,[]⟩
def f5G (N:Nat) (x0:List Int):Option Rs:=if x0.length≤1000000 then some (0,(gD (.sl tI)).dv (fT x0) []) else none
def f9l (N:Nat):CE:=(f8X,mkF [pD (.sl tI)] [pD (.sl tI)] (f5G N))
theorem g2s (N : Nat) : CEok Q (f9l N) := c4B fun ys n q h => by
  have h1 : f5G N ys.1 = some (n, q) := h
  unfold f5G at h1
  split at h1
  · rename_i hb
    simp only [mB, mb] at h1
    obtain ⟨_, rfl⟩ := h1
    refine ⟨c7x (fn := f299) (by kernel_rfl) (by kernel_rfl) (by kernel_rfl), fun β F w es vs hfb hvl hs => ?_, fun t ht => ?_⟩
    · exfalso
      obtain ⟨p1, p2, e1, e2, _, _, hA, _⟩ := hs.ex
      have hA : RepAs β F w [.one (.w tI)] p1 e1 vs := hA
      cases hA with
      | cons a _ =>
        cases a with
        | one _ _ h3 => cases h3
    · have : t = tI := by
        have ht : ([.one (.w tI)] : List AK) = [.one (.w t)] := ht
        simp only [mK, AK.one.injEq, LK.w.injEq, and_true] at ht
        exact ht.symm
      subst this
      exact g5t ys.1 hb
  · simp at h1
def f3m:CS:=⟨273,300,⟨[.one (.o tI)],[]⟩,[.one (.o tI)],true,[]⟩
def f3E (N:Nat) (x0:List Int):Option Rs:=if x0.length≤1000000∧x0.length≠0 then some (0,(gD (.sl tI)).dv (Lib.compact x0) []) else none
def f7h (N:Nat):CE:=(f3m,mkF [pD (.sl tI)] [pD (.sl tI)] (f3E N))
theorem g0u (N:Nat):CEok Q (f7h N):=c4B λys n q h=>by
 have h1:f3E N ys.1=some (n,q):=h;unfold f3E at h1;split at h1
 ·
  rename_i hb;simp only[mB,mb]at h1;obtain⟨_,rfl⟩:=h1;show eM Q f3m [⟨.sl tI,ys.1⟩] [⟨.sl tI,Lib.compact ys.1⟩];generalize ys.1=xs at *;refine⟨c7x (fn:=f300) (by kernel_rfl) (by kernel_rfl) (by kernel_rfl),λβ F w es vs hfb hvl hs=>?_,λt ht=>?_⟩
  ·
   obtain⟨p1,p2,e1,e2,hp,he,hA,hB⟩:=hs.ex;have hA:RepAs β F w [.one (.o tI)] p1 e1 vs:=hA;have hB:RepBs β F w [] 0 p2 e2:=hB;obtain⟨rfl,rfl⟩:=hB.inv;have hv1:vs.length=1:=hvl;cases hA with
   | @cons _ _ p3 p4 e3 e4 v vs' a b =>
   have hvs:vs'=[]:=mT.1 (by simpa using hv1);subst hvs;cases b with
   | nil =>
   cases a with
   | one _ hok hk =>
   cases hk with
   | @o _ ys e cs hW hO =>
   simp only[mJ,mK,DV.mk.injEq,heq_eq_eq,true_and,and_true]at hp he;have hx:xs=ys:=hp;subst hx;subst he;have hl:=Lib.compact_length_le xs;obtain⟨hn,hv,hH,hblk⟩:=g3U hO hW hb.2;subst hv;have hcap:=hO.2.1;have hlen:=hO.1;refine (Tryz.slices_Compact_int e.blk e.base e.cap xs w hH (by omega) (by omega)).mono λout w' ⟨h1,q,h2⟩=>?_
   have hw:w'=grow ((w.drewN q).setCells e.blk e.base ((Lib.compact xs++List.replicate (xs.length-(Lib.compact xs).length) 0).map (Value.int .i64))) #[]:=by
    rw[h2,Lib.putRow_eq_setCells (Value.int .i64) w e.blk e.base xs.toArray _ q hH (by simp; omega)];simp[grow]
   obtain⟨r1,r2,r3,r4,r5,r6⟩:=g1U hO hn q #[] _ (by simp; omega) hw;obtain⟨q1,q2,q3,q4,q5,q6⟩:=r1;obtain⟨cs',u,fr,ds,k1,k2,k3,k4,k5⟩:=q6 hn;have hds:=f8c k3;subst hds;rw[mv]at k4;have hO':RepArrO F w' {e with len:=(Lib.compact xs).length} tI (Lib.compact xs) :=
    ⟨rfl,by simp only; omega,q3,q4,q5,λ_=>⟨cs',u,fr,(Lib.compact xs).map (Value.int .i64),k1,k2,f9M _,k4.append.1,k5⟩⟩
   have hW':Win {e with len:=(Lib.compact xs).length} 0 (Lib.compact xs).length [.slice (some ⟨e.blk,e.base,none⟩) (Lib.compact xs).length e.cap] :=
    ⟨by simp,some ⟨e.blk,e.base,none⟩,by simp,λ_=>⟨hn,by simp⟩⟩
   refine⟨_,F,[{e with len:=(Lib.compact xs).length}],h1,⟨⟨β,[⟨.sl tI,Lib.compact xs⟩],[],[_],[],[.slice (some ⟨e.blk,e.base,none⟩) (Lib.compact xs).length e.cap],λ_ _=>rfl,rfl,rfl,.cons (p:=[⟨.sl tI,Lib.compact xs⟩]) (q:=[]) (es:=[_]) (fs:=[]) (.one (λn=>by simp) (by simp[cw]) (.o hW' hO')) (.nil []),rfl,rfl,.nil 0⟩,r2,r4,r5,r6,λ_ h=>h,λb hb=>oJ (hfb b hb) r2,λb hb=>.inl hb,λb hb ho=>r3 b hb (λh=>ho (.inr ⟨e,by simp,hn,h.symm⟩)),λj hj=>by simp[f3m]at hj,by simp,λj hj=>by simp[f3m]at hj,λe' he' hn'=>?_,λe' he' hn'=>?_⟩⟩
   ·
    simp only[mI]at he'; subst he';exact hs.ef e (by simp) hn
   ·
    simp only[mI]at he'; subst he';exact .inl (.inr ⟨e,by simp,hn,rfl⟩)
  ·
   have ht:([.one (.o tI)]:List AK)=[.one (.w t)]:=ht;simp at ht
 ·simp at h1
end
end Go.Proofs.Zz
