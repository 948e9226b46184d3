import Derived.Test.YtnfpdmhdpeffjaaGreatEngU
set_option linter.unusedSimpArgs false
set_option linter.unusedVariables false
/- copy, clear. -/
namespace Go.Proofs.Zz
open Go

section
variable {P:Program} {ok:Nat→List DV→List DV→Prop} {cx:Cx} {hi:Hi} {o:Oper} {C:Frm} {A:Nat→Prop} {E:Env} {F:Nat→Prop} {s:St} {a:Act} {w w':World} {α:Type} {r:α} {wr:Wr} {K:Act→World→Prop} {Q:Exit→Act→World→Prop} {key:Nat}
theorem e5I {α:Type} (xs:List α) (n:Nat):laid xs n [] = xs:=by simp [laid]
theorem e6y {n off len:Nat} {T:Ty} {xs ys:List (Den T)} {news:List Value} {v:Value} (hm:Mem C A E F s.ob w) (hobj:lookO s.ob n = .arr T xs false) (hw:Win (E.e n) off len [v])
  (hall:All (fun x c=>RepD F w T x c) ys news) (hle:ys.length≤len) :
  ∃ w' ad cap,v = .slice ad len cap∧(∀ ad',ad = some ad'→(storeCells ad' news).run P w = .ok () w')∧(ad = none→w' = w∧news = []∧len = 0) ∧
   Mem C A E F (putO s.ob n (.arr T (laid xs off ys) false)) w'∧Ext E F w E F w':=by
 have hlen:news.length = ys.length*T.sz:=hall.len (fun x c=>a0X)
 have hrp:=hm.rp n
 rw [hobj] at hrp
 obtain ⟨r1,r2,r3,r4,r5,r6⟩:=hrp
 by_cases h0:ys.length = 0
 ·
  obtain rfl:=List.length_eq_zero_iff.1 h0
  have hn:news = []:=List.length_eq_zero_iff.1 (by rw [hlen]; simp)
  subst hn
  obtain ⟨h1,ad,h2,h3⟩:=hw
  simp only [List.cons.injEq,and_true] at h2
  refine ⟨w,ad,_,h2,fun ad' _=>rfl,fun e=>⟨rfl,rfl,?_⟩,?_,Ext.refl E F w⟩
  ·
   have hc:¬ (E.e n).cap - off≠0:=fun hc=>by rw [(h3 hc).2] at e; simp at e
   omega
  ·
   rw [e5I]
   refine hm.same fun k=>?_
   rw [a0J]
   split
   · rename_i e; subst e; exact hobj.symm
   · rfl
 ·
  obtain ⟨c,hv⟩:=d9g hw (by omega) r2
  obtain ⟨h1,ad,h2,h3⟩:=hw
  obtain ⟨hnil,_⟩:=h3 (by omega)
  obtain ⟨cs,ty,fr,ds,c1,c2,c3,c4,c5,c6⟩:=r6 hnil
  obtain ⟨cF,cU⟩:=c5 rfl
  have hsplit:xs = xs.take off++((xs.drop off).take ys.length++xs.drop (off+ys.length)):=by rw [← List.drop_drop,List.take_append_drop,List.take_append_drop]
  have c3':=c3
  rw [hsplit] at c3'
  obtain ⟨d1,dd,e1,k1,k2⟩:=c3'.split
  obtain ⟨d2,d3,e2,k3,k4⟩:=k2.split
  have l1:d1.length = off*T.sz:=by rw [k1.len (fun x c=>a0X)]; congr 1; simp; omega
  have l2:d2.length = ys.length*T.sz:=by rw [k3.len (fun x c=>a0X)]; congr 1; simp; omega
  have hdl:ds.length = xs.length*T.sz:=c3.len (fun x c=>a0X)
  have hbnd:off*T.sz+news.length≤ds.length:=by rw [e1,e2]; simp only [List.length_append]; omega
  have hcap:xs.length*T.sz≤(E.e n).cap*T.sz:=Nat.mul_le_mul_right _ (by omega)
  rw [r3] at c2 hv
  have hb2:(E.e n).base+off*T.sz+news.length≤cs.size:=by omega
  have hst:=run_storeCells_cells (P:=P) (E.e n).blk ((E.e n).base+off*T.sz) news 0 w (fun j hj=>by
   simp only [World.cell?,c1]
   simp; omega) (fun j hj=>cU _ (by omega)) (fun u hu=>b8t.1 (hall.mem (fun x c hc=>b9V hc) u hu))
  rw [Nat.add_zero] at hst
  obtain ⟨cs',m1,m2,m3⟩:=a4K news ((E.e n).base+off*T.sz) w cs c1 hb2
  have hk:excl (E.e n) (lookO s.ob n):=by rw [hobj]; exact hnil
  have hsw:=a4X (E.e n).blk news ((E.e n).base+off*T.sz) w
  obtain ⟨m,hx⟩:=hm.write (o:=.arr T (laid xs off ys) false) hk hsw.os hsw.tape hsw.output hsw.size hsw.old trivial (fun _=>hk) (fun hx=>by
   have hll:List.length (laid xs off ys) = List.length xs:=by simp [laid]; omega
   refine ⟨by rw [hll]; exact r1,r2,r3,r4,r5,fun _=>⟨cs',ty,fr,splice ds (off*T.sz) news,m1,by rw [m3,r3]; exact c2,?_,?_,fun _=>⟨cF,?_⟩,fun h=>by simp at h⟩⟩
   ·
    rw [e1,e2,show splice (d1++(d2++d3)) (off*T.sz) news = d1++(news++d3) by rw [← l1]; exact b8z (by omega)]
    exact (k1.append (hall.append k4)).imp fun x c hc=>RepD.ext hx.fz hx.wd hc
   · exact c4.set hbnd
   ·
    intro oo hoo
    rw [World.frozen?_setCells]
    exact cU oo (by omega))
  refine ⟨_,_,_,hv,fun ad' e=>?_,fun e=>by simp at e,m,hx⟩
  simp only [Option.some.injEq] at e
  subst e
  exact hst
theorem e2q {x:V} {v:Value} {k:Nat→(t:Ty)→List (Den t)→Nat→Nat→Rd Wr} (h:Ev ok (winS x k) s wr) (hm:Mem C A E F s.ob w) (hr:RepV E F w x v) :
  ∃ n T xs off len,lookO s.ob n = .arr T xs false∧Win (E.e n) off len [v]∧Ev ok (k n T xs off len) s wr:=by
 unfold winS at h
 split at h
 ·
  rename_i n
  have h:=h.get
  simp only [look] at h
  split at h
  ·
   rename_i a' xs hobj
   simp only [Cn.o.injEq] at hobj
   refine ⟨n,_,xs,0,_,hobj,?_,h⟩
   have:=hr.2.2
   rw [← (a6X hm hobj).1] at this
   exact this
  · exact h.fail.elim
 ·
  rename_i n off
  have h:=h.get
  simp only [look] at h
  split at h
  ·
   rename_i a' xs hobj
   simp only [Cn.o.injEq] at hobj
   refine ⟨n,_,xs,off,_,hobj,?_,h⟩
   have:=hr.2.2.2
   rw [← (a6X hm hobj).1] at this
   exact this
  · exact h.fail.elim
 ·
  rename_i n off len
  have h:=h.get
  simp only [look] at h
  split at h
  ·
   rename_i a' xs hobj
   simp only [Cn.o.injEq] at hobj
   exact ⟨n,_,xs,off,len,hobj,hr.2.2,h⟩
  · exact h.fail.elim
 · exact h.fail.elim
theorem e5m (hti:TIok P cx) {c:Call} (ho:o.op = .call c) (hc:c.callee = .builtin .clear):OpP P ok cx hi o:=by
 intro C rg ix key A s a w wr K Q h hr hA hK
 simp only [opSem,ho,hc] at h
 obtain ⟨E,F,hm,ht⟩:=hr
 obtain ⟨xs,h1,h2⟩:=b8W h ht
 split at h2
 ·
  rename_i x
  split at h2
  ·
   rename_i t hat
   obtain ⟨p,hp,h3⟩:=e1K h1
   obtain ⟨i,hi',h5⟩:=Cx.t_ev h2
   have hT:=hti t i hi'
   have hat:c.argTypes = #[t]:=by rw [← Array.toList_inj,hat]
   unfold clearS at h5
   split at h5
   ·
    rename_i htd
    obtain ⟨e,hu,⟨f,z,f1,f2,f3,f4,f5⟩⟩:=hT.slice htd
    obtain ⟨n,T,xs,off,len,hobj,hwin,h6⟩:=e2q h5 hm h3
    have e:=a1A h6; subst e; have h6:=a0Z h6
    obtain ⟨zc,hz1,hz2⟩:=d4j (F:=F) (w:=w) _ _ _ f5
    rw [List.append_nil] at hz1
    rw [← hz1] at hz2
    have hzs:z.cells.size = i.ety.sz:=by rw [← a0X hz2]; simp
    have hall:=d2S (F:=F) (w:=w) hz2 len
    obtain ⟨w',ad,cap,hv,g1,g2,g3,g4⟩:=e6y (P:=P) hm hobj hwin hall (by simp)
    obtain ⟨cs,hrun⟩:=a7G (P:=P) ho hc a w
    have hex:(execOp a.eval o).run P w = .ok (.value (.tuple #[])) w':=by
     rw [hrun,hp,hat,show (Array.map a.eval #[p]) = #[a.eval p] by simp,hv]
     have hzv:(zeroValue e).run P w = .ok z w:=by
      simp [zeroValue,typeInfo,f1,f4]
     cases ad with
     | none =>
      obtain ⟨rfl,_,_⟩:=g2 rfl
      simp only [builtin,Builtin.clear_,Sem.run_bind]
      simp [run_underlying hu]
     | some ad =>
      have:=g1 ad rfl
      cases len with
      | zero =>
       have e0:(madeCells z.cells (0*i.ety.sz)).toList = []:=by simp [madeCells]
       rw [e0] at this
       have:w' = w:=by simpa [storeCells] using this.symm
       subst this
       simp only [builtin,Builtin.clear_,Sem.run_bind]
       simp [run_underlying hu]
      | succ len =>
       have e1:Builtin.zeroCells z.cells (len+1) = madeCells z.cells ((len+1)*i.ety.sz):=by rw [← hzs]; rfl
       rw [← e1] at this
       simp only [builtin,Builtin.clear_,Sem.run_bind]
       simp [run_underlying hu,hzv,this]
    unfold Oper.wp
    rw [hex]
    refine hK _ _ (b2s h6 (E':=E) (F':=F) ?_ ?_ ⟨#[],rfl,trivial⟩)
    · exact g3.mono fun k hk=>.inl hk
    · exact ht.ext g4
   · exact h5.fail.elim
  · exact h2.fail.elim
 · exact h2.fail.elim
theorem e7h (hti:TIok P cx) {c:Call} (ho:o.op = .call c) (hc:c.callee = .builtin .copy):OpP P ok cx hi o:=by
 intro C rg ix key A s a w wr K Q h hr hA hK
 simp only [opSem,ho,hc] at h
 obtain ⟨E,F,hm,ht⟩:=hr
 obtain ⟨xs,h1,h2⟩:=b8W h ht
 split at h2
 ·
  rename_i x y
  split at h2
  ·
   rename_i t tx hat
   obtain ⟨p,q,hp,h3,h4⟩:=c6t h1
   obtain ⟨i,hi',h5⟩:=Cx.t_ev h2
   have hT:=hti t i hi'
   have hat:c.argTypes = #[t,tx]:=by rw [← Array.toList_inj,hat]
   unfold copyS at h5
   split at h5
   ·
    rename_i l htd
    obtain ⟨e,hu,⟨f,z,f1,f2,f3,f4,f5⟩⟩:=hT.slice htd
    obtain ⟨n,T,xs,off,len,hobj,hwin,h6⟩:=e2q h5 hm h3
    have e':=a1A h6; subst e'; have h6:=a0Z h6
    obtain ⟨ys,nb,h7,h8⟩:=d9A h6 hm (cs:=[a.eval q]) (by cases l <;> first | exact Ev.fail h6 |>.elim | exact h4.2)
    obtain ⟨sad,scap,k1,k2,k3⟩:=h7
    simp only [List.cons.injEq,and_true] at k1
    have hmin:(ys.take len).length = Nat.min ys.length len:=by rw [List.length_take,Nat.min_comm]
    have hsz:(sizeOf e).run P w = .ok i.ety.sz w:=by simp [sizeOf,typeInfo,f1,f2]
    obtain ⟨news,hall,hfc⟩:∃ news,All (fun x c=>RepD F w i.ety x c) (ys.take len) news∧(Builtin.firstCells i.ety.sz (Nat.min ys.length len) (.slice sad ys.length scap)).run P w = .ok news.toArray w:=by
     rcases k3 with rfl | ⟨b,oo,ds,rfl,k4,k5,k6⟩
     ·
      refine ⟨[],by simp [All],?_⟩
      cases sad with
      | none=>exact run_firstCells_none w _ _ _ _
      | some ad=>exact run_firstCells_some w _ _ ad _ _ [] (by simp) (by simp)
     ·
      have k5':=k5
      rw [← List.take_append_drop len ys] at k5'
      obtain ⟨d1,d2,e1,q1,q2⟩:=k5'.split
      refine ⟨d1,q1,run_firstCells_some w _ _ _ _ _ d1 ?_ ?_⟩
      · rw [q1.len (fun x c=>a0X),hmin]
      ·
       intro j u hj
       rw [a8f]
       refine k6 j u ?_
       rw [e1,List.getElem?_append_left (List.getElem?_eq_some_iff.1 hj).1]
       exact hj
    obtain ⟨w',ad,cap,hv,g1,g2,g3,g4⟩:=e6y (P:=P) hm hobj hwin hall (by rw [List.length_take]; omega)
    obtain ⟨cs,hrun⟩:=a7G (P:=P) ho hc a w
    have hex:(execOp a.eval o).run P w = .ok (.value (.int .i64 ((ys.take len).length:Int))) w':=by
     rw [hrun,hp,hat,show (Array.map a.eval #[p,q]) = #[a.eval p,a.eval q] by simp,hv,k1]
     rw [hmin]
     simp only [builtin,Builtin.copy_,Sem.run_bind]
     cases ad with
     | none =>
      obtain ⟨rfl,rfl,rfl⟩:=g2 rfl
      rw [show Nat.min ys.length 0 = 0 from Nat.min_zero _] at hfc
      simp [run_underlying hu,Builtin.lenOf,hsz,hfc,goInt]
     | some ad =>
      simp [run_underlying hu,Builtin.lenOf,hsz,hfc,g1 ad rfl,goInt]
    unfold Oper.wp
    rw [hex]
    refine hK _ _ (b2s h8 (E':=E) (F':=F) ?_ ?_ ?_)
    · exact g3.mono fun k hk=>.inl hk
    · exact ht.ext g4
    · exact ⟨by simp [cellOk],by rw [RepL,RepD]⟩
   · exact h5.fail.elim
  · exact h2.fail.elim
 · exact h2.fail.elim
end
end Go.Proofs.Zz
