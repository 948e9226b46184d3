import Derived.Test.YtnfpdmhdpeffjaaGreatEngY
set_option linter.unusedSimpArgs false
set_option linter.unusedVariables false
/- The state of a signature stands for memory. -/
namespace Go.Proofs.Zz
open Go

def ownB (nb:Nat) (β:Nat→EI) (es:List EI) (b:Nat):Prop:=(∃ j,j < nb∧(β j).blk = b)∨∃ e∈es,e.nil = false∧e.blk = b

structure Enter (C:Frm) (F:Nat→Prop) (w:World) (nb:Nat) (β:Nat→EI) (es:List EI):Prop where
 fb:∀ b,F b→b < w.heap.size
 f0:∀ b,C.F0 b→F b
 kp:∀ b,b < C.w0.heap.size→¬ C.O b→w.heap[b]? = C.w0.heap[b]?
 uf:∀ b,F b→C.F0 b∨C.O b∨C.w0.heap.size≤b
 uo:∀ b,ownB nb β es b→C.O b∨C.w0.heap.size≤b
 sz:C.w0.heap.size≤w.heap.size
 os:w.os = C.w0.os
 tape:w.tape = C.w0.tape
 output:w.output = C.w0.output
 nb:C.nb≤nb
 e0:∀ k,k < C.nb→β k = C.e0 k

def entE (nb:Nat) (β:Nat→EI) (es:List EI):Env:={ e:=fun k=>if k < nb then β k else es.getD (k - nb) (nilEI .unit),al:=fun k=>k < nb+es.length }
theorem e5a (n t:Nat) (xs:List V) (h:xs.length≤t):nthD bad (xs++bads n) t = bad:=by
 rw [a4c,List.getD_eq_getElem?_getD,List.getElem?_append_right h,← List.getD_eq_getElem?_getD,← a4c,d8N]
theorem All2.get {α β:Type} {R:α→β→Prop}:∀ {xs:List α} {ys:List β},All2 R xs ys→∀ {i:Nat} {x:α},xs[i]? = some x→∃ y,ys[i]? = some y∧R x y
 | [],[],_,i,x,h=>by simp at h
 | [],_::_,h,_,_,_=>h.elim
 | _::_,[],h,_,_,_=>h.elim
 | a::r,b::q,h,0,x,hx=>by simp at hx; subst hx; exact ⟨b,rfl,h.1⟩
 | a::r,b::q,h,i+1,x,hx=>by simp at hx; simpa using h.2.get hx
theorem c8p:∀ {bx:List (Nat × List L)} {k:Nat} {o:Obj},(k,o)∈boxes bx→∃ ls,o = .box ls∧(k,ls)∈bx
 | [],k,o,h=>by simp [boxes] at h
 | p::r,k,o,h=>by
  simp only [boxes,List.mem_cons,Prod.mk.injEq] at h
  rcases h with ⟨rfl,rfl⟩ | h
  · exact ⟨p.2,rfl,by simp⟩
  ·
   obtain ⟨ls,h1,h2⟩:=c8p h
   exact ⟨ls,h1,by simp [h2]⟩
theorem e8C {es:List EI} (h:es.Pairwise fun a b=>a.nil = false→b.nil = false→a.blk≠b.blk) {i j:Nat} {a b:EI} (hi:es[i]? = some a) (hj:es[j]? = some b) (ha:a.nil = false) (hb:b.nil = false) (he:a.blk = b.blk):i = j:=by
 obtain ⟨hi',ei⟩:=List.getElem?_eq_some_iff.1 hi
 obtain ⟨hj',ej⟩:=List.getElem?_eq_some_iff.1 hj
 rcases Nat.lt_trichotomy i j with hlt | rfl | hlt
 · exact (List.pairwise_iff_getElem.1 h i j hi' hj' hlt (by rw [ei]; exact ha) (by rw [ej]; exact hb) (by rw [ei,ej]; exact he)).elim
 · rfl
 · exact (List.pairwise_iff_getElem.1 h j i hj' hi' hlt (by rw [ej]; exact hb) (by rw [ei]; exact ha) (by rw [ei,ej]; exact he.symm)).elim
theorem c7u (ob:List (Nat × Obj)):∀ (as:List AK) (xs:List V),(patch ob as xs).length = xs.length
 | [],xs=>by cases xs <;> rfl
 | a::as,[]=>by cases a with
  | one k=>cases k <;> rfl
  | _=>rfl
 | a::as,x::xs=>by
  cases a with
  | one k=>cases k <;> simp [patch,c7u ob as xs]
  | _=>simp [patch,c7u ob as xs]
theorem e5l {β:Nat→EI} {E:Env} {F:Nat→Prop} {w:World} {ob:List (Nat × Obj)}
  (H:∀ j ls l k,lookO ob j = .box ls→nthO ls l = some (.own k)→∀ v e u,Win e 0 e.len [v]→Win e 0 e.len [u]→At w (β j).blk ((β j).loff l) [u]→RepL E F w (.own k) [v]) :
  ∀ {as:List AK} {p:List DV} {es:List EI} {v1 v2:List Value} {xs:List V},RepAs β F w as p es (v1++v2)→v1.length = as.length→All2 (RepV E F w) xs v1→All2 (RepV E F w) (patch ob as xs) v1:=by
 intro as
 induction as with
 | nil =>
  intro p es v1 v2 xs h hl hx
  cases xs <;> exact hx
 | cons a as ih =>
  intro p es v1 v2 xs h hl hx
  cases v1 with
  | nil=>simp at hl
  | cons v v1 =>
   cases xs with
   | nil=>exact hx.elim
   | cons x xs =>
    obtain ⟨p1,p2,e1,e2,v',q,rfl,rfl,hv,h1,h2⟩:=h.inv
    simp only [List.cons_append,List.cons.injEq] at hv
    obtain ⟨rfl,rfl⟩:=hv
    have hr:=ih h2 (by simpa using hl) hx.2
    have keep:patch ob (a::as) (x::xs) = x::patch ob as xs→All2 (RepV E F w) (patch ob (a::as) (x::xs)) (v::v1):=fun e=>by rw [e]; exact ⟨hx.1,hr⟩
    cases a with
    | no=>exact keep rfl
    | agg ks=>exact keep rfl
    | one kk =>
     cases kk with
     | hd j l =>
      simp only [patch]
      refine ⟨?_,hr⟩
      split
      ·
       rename_i ls hls
       split
       ·
        rename_i k hk
        cases h1 with
        | one hne hc hk' =>
         cases hk' with
         | hd w1 w2 w3=>exact d9m hc (H j ls l k hls hk v _ _ w1 w2 w3)
       · exact hx.1
      · exact hx.1
     | _=>exact keep rfl
theorem b6s {C:Frm} {sg:Sg} {β:Nat→EI} {F:Nat→Prop} {w:World} {p:List DV} {es:List EI} {vs rest:List Value} {n:Nat} {s0:St} (hs:SigIn sg β F w p es vs) (he:Enter C F w sg.bx.length β es)
  (h:mkSt sg n p = some s0) {a:Act} (ha:a.tmps.toList = vs++rest) (hn:a.tmps.size = n) (hd:a.defers = []):s0.nx = sg.bx.length+es.length∧Rel C (fun k=>k < s0.nx) s0 a w:=by
 obtain ⟨p1,p2,e1,e2,rfl,rfl,hA,hB⟩:=hs.ex
 unfold mkSt at h
 split at h
 ·
  rename_i xs b1 hb1
  split at h
  ·
   rename_i bx b2 hb2
   split at h
   ·
    simp only [Option.some.injEq] at h
    subst h
    obtain ⟨n1,v1,v2,k1,k2,k3,k4,k5⟩:=e4m hA rfl hb1
    obtain ⟨n2,g1,g2⟩:=e2t hB (q:=[]) (by rw [k1.pay]; simp) hb2
    have hk:=k1.trans g1
    have hE:EnvOk (entE sg.bx.length β (e1++e2)) β (fun j=>j) sg.bx.length sg.bx.length (e1++e2):=by
     refine ⟨fun j hj=>⟨by simp [entE]; omega,by simp [entE,hj]⟩,fun i e hi=>?_⟩
     have hlt:=(List.getElem?_eq_some_iff.1 hi).1
     refine ⟨by simp only [entE]; omega,?_⟩
     simp only [entE]
     rw [if_neg (by omega),Nat.add_sub_cancel_left,List.getD_eq_getElem?_getD,hi]; rfl
    have hbx:=g2 _ (by have:=hE.right; rw [k1.nx,k1.nb]; exact this)
    have hxs:=k5 _ hE.left
    -- what lies under a key
    have look:∀ k,lookO (boxes bx++b2.ob) k = .dead∨(∃ ls,k < sg.bx.length∧lookO (boxes bx++b2.ob) k = .box ls∧RepO (entE sg.bx.length β (e1++e2)) F w (β k) (.box ls)) ∨
      ∃ e t xs,sg.bx.length≤k∧(e1++e2)[k - sg.bx.length]? = some e∧lookO (boxes bx++b2.ob) k = .arr t xs false∧RepArrO F w e t xs:=by
     intro k
     rcases d5E (boxes bx++b2.ob) k with h | h
     · exact .inl h
     ·
      rw [hk.ob,List.append_nil,List.mem_append] at h
      rcases h with h | h
      ·
       obtain ⟨ls,h1,h2⟩:=c8p h
       obtain ⟨i,i1,i2,i3⟩:=hbx k ls h2
       rw [Nat.zero_add] at i2 i3
       subst i2
       exact .inr (.inl ⟨ls,i1,by rw [hk.ob,List.append_nil]; exact h1,i3⟩)
      ·
       rw [List.mem_reverse] at h
       obtain ⟨e,t,xs,i1,i2,i3,i4⟩:=hk.arr.mem h
       exact .inr (.inr ⟨e,t,xs,i1,i2,by rw [hk.ob,List.append_nil]; exact i3,i4⟩)
    have ee:∀ k e,sg.bx.length≤k→(e1++e2)[k - sg.bx.length]? = some e→(entE sg.bx.length β (e1++e2)).e k = e:=by
     intro k e h1 h2
     simp only [entE]
     rw [if_neg (by omega),List.getD_eq_getElem?_getD,h2]; rfl
    have eb:∀ k,k < sg.bx.length→(entE sg.bx.length β (e1++e2)).e k = β k:=fun k h=>by simp [entE,h]
    have hnx:b2.nx = sg.bx.length+(e1++e2).length:=hk.nx
    -- what is excl lies among the owned
    have exc:∀ k,excl ((entE sg.bx.length β (e1++e2)).e k) (lookO (boxes bx++b2.ob) k)→(k < sg.bx.length∧(entE sg.bx.length β (e1++e2)).e k = β k) ∨
      ∃ e,sg.bx.length≤k∧(e1++e2)[k - sg.bx.length]? = some e∧(entE sg.bx.length β (e1++e2)).e k = e∧e.nil = false:=by
     intro k hx
     rcases look k with h | ⟨ls,h1,h2,h3⟩ | ⟨e,t,xs,h1,h2,h3,h4⟩
     · rw [h] at hx; exact hx.elim
     · exact .inl ⟨h1,eb k h1⟩
     ·
      rw [h3,ee k e h1 h2] at hx
      exact .inr ⟨e,h1,h2,ee k e h1 h2,hx⟩
    have hM:Mem C (fun k=>k < b2.nx) (entE sg.bx.length β (e1++e2)) F (boxes bx++b2.ob) w:=by
     refine ⟨?_,?_,?_,?_,he.fb,he.f0,he.kp,he.uf,?_,he.sz,he.os,he.tape,he.output,?_⟩
     ·
      intro k hl
      rcases look k with h | ⟨ls,h1,h2,h3⟩ | ⟨e,t,xs,h1,h2,h3,h4⟩
      · rw [h] at hl; exact hl.elim
      · show k < _; omega
      ·
       have:=(List.getElem?_eq_some_iff.1 h2).1
       show k < _; omega
     ·
      intro k
      rcases look k with h | ⟨ls,h1,h2,h3⟩ | ⟨e,t,xs,h1,h2,h3,h4⟩
      · rw [h]; trivial
      · rw [h2,eb k h1]; exact h3
      ·
       rw [h3,ee k e h1 h2]
       obtain ⟨q1,q2,q3,q4,q5,q6⟩:=h4
       refine ⟨q1,q2,q3,q4,q5,fun hnil=>?_⟩
       obtain ⟨cs,u,fr,ds,r1,r2,r3,r4,r5⟩:=q6 hnil
       exact ⟨cs,u,fr,ds,r1,r2,r3,r4,fun _=>⟨hs.ef e (List.mem_of_getElem? h2) hnil,r5⟩,fun h=>by simp at h⟩
     ·
      intro k k' hx hx' hb
      rcases exc k hx with ⟨a1,a2⟩ | ⟨e,a1,a2,a3,a4⟩ <;> rcases exc k' hx' with ⟨c1,c2⟩ | ⟨e',c1,c2,c3,c4⟩
      · rw [a2,c2] at hb; exact hs.bd k k' a1 c1 hb
      · rw [a2,c3] at hb; exact (hs.be k a1 e' (List.mem_of_getElem? c2) c4 hb).elim
      · rw [a3,c2] at hb; exact (hs.be k' c1 e (List.mem_of_getElem? a2) a4 hb.symm).elim
      ·
       rw [a3,c3] at hb
       have:=e8C hs.ed a2 c2 a4 c4 hb
       omega
     ·
      intro k hal
      have hal:k < sg.bx.length+(e1++e2).length:=hal
      show k < b2.nx
      rw [hnx]; exact hal
     ·
      intro k hx
      rcases exc k hx with ⟨a1,a2⟩ | ⟨e,a1,a2,a3,a4⟩
      · rw [a2]; exact he.uo _ (.inl ⟨k,a1,rfl⟩)
      · rw [a3]; exact he.uo _ (.inr ⟨e,List.mem_of_getElem? a2,a4,rfl⟩)
     ·
      intro k hk'
      have:=he.nb
      exact ⟨by show k < _; omega,by rw [eb k (by omega)]; exact he.e0 k hk'⟩
    have hys:All2 (RepV (entE sg.bx.length β (e1++e2)) F w) (tmsOf (boxes bx++b2.ob) sg.av xs) v1:=by
     unfold tmsOf
     split
     ·
      subst k2
      refine e5l (fun j ls l k hj hl v e u q1 q2 q3=>?_) hA k3 hxs
      rcases look j with h | ⟨ls',h1,h2,h3⟩ | ⟨e',t',xs',h1,h2,h3,h4⟩
      · rw [h] at hj; cases hj
      ·
       rw [h2] at hj
       simp only [Obj.box.injEq] at hj
       subst hj
       obtain ⟨c,g1,g2⟩:=d2i (s:={ tm:=[],ob:=boxes bx++b2.ob,nx:=0 }) hM h2 (by rw [← c0y]; exact hl)
       rw [eb j h1] at g2
       obtain ⟨ga,gw⟩:=g1
       obtain ⟨u',rfl⟩:∃ u',c = [u']:=by
        obtain ⟨_,a,e,_⟩:=gw
        exact ⟨_,e⟩
       have e1:=g2 0 u' rfl
       have e2:=q3 0 u rfl
       rw [e1] at e2
       simp only [Option.some.injEq] at e2
       subst e2
       exact ⟨ga,e5G q1 q2 gw⟩
      · rw [h3] at hj; cases hj
     · exact hxs
    have hyl:(tmsOf (boxes bx++b2.ob) sg.av xs).length = xs.length:=by
     unfold tmsOf
     split
     · exact c7u _ _ _
     · rfl
    generalize tmsOf (boxes bx++b2.ob) sg.av xs = ys at hys hyl ⊢
    refine ⟨hnx,entE sg.bx.length β (e1++e2),F,hM,?_,?_,hd⟩
    ·
     intro t
     by_cases ht:t < ys.length
     ·
      obtain ⟨v,hv,hr⟩:=hys.get (List.getElem?_eq_getElem ht)
      have h1:nthD bad (ys++bads (n - xs.length)) t = ys[t]:=by
       rw [a4c,List.getD_eq_getElem?_getD,List.getElem?_append_left ht,List.getElem?_eq_getElem ht]; rfl
      have h2:a.tmps.getD t undef = v:=by
       have:a.tmps.toList[t]? = some v:=by rw [ha,k2,List.append_assoc,List.getElem?_append_left (List.getElem?_eq_some_iff.1 hv).1]; exact hv
       rw [Array.getElem?_toList] at this
       rw [Array.getD_eq_getD_getElem?,this]; rfl
      rw [h1,h2]; exact hr
     · rw [e5a _ _ _ (by omega)]; exact c6y
    ·
     have h1:xs.length = v1.length:=by rw [k3,k4]
     have h2:v1.length≤n:=by
      have:=congrArg List.length ha
      rw [k2,Array.length_toList,hn] at this
      simp only [List.length_append] at this
      omega
     simp only [List.length_append,d9i,hn]
     omega
   · simp at h
  · simp at h
 · simp at h
end Go.Proofs.Zz
