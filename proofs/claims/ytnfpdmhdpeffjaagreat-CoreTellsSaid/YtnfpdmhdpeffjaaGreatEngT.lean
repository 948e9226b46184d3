import Derived.Test.YtnfpdmhdpeffjaaGreatEngR
set_option linter.unusedSimpArgs false
set_option linter.unusedVariables false
/- Stores, whole. -/
namespace Go.Proofs.Zz
open Go

theorem b8z {α:Type} {p d q d':List α} (h:d.length = d'.length):splice (p++(d++q)) p.length d' = p++(d'++q):=by
 rw [splice,List.take_left',← h,← List.length_append,← List.append_assoc p d q,List.drop_left']
 · rfl
 · rfl
theorem All.leaf {α:Type} {R:α→List Value→Prop}:∀ {xs:List α} {cs:List Value} {l:Nat} {x:α},All R xs cs→xs[l]? = some x →
  ∃ c1 c c3,cs = c1++(c++c3)∧All R (xs.take l) c1∧R x c∧∀ x' c',R x' c'→All R (xs.set l x') (c1++(c'++c3))
 | [],_,_,_,_,h=>by simp at h
 | y::r,_,0,x,⟨c,d,e,hr,ht⟩,h=>by
  simp at h; subst h
  exact ⟨[],c,d,by simpa using e,rfl,hr,fun x' c' h'=>by simpa using ⟨c',d,rfl,h',ht⟩⟩
 | y::r,_,l+1,x,⟨c,d,e,hr,ht⟩,h=>by
  simp at h
  obtain ⟨c1,c',c3,e1,h1,h2,h3⟩:=ht.leaf h
  exact ⟨c++c1,c',c3,by rw [e,e1,List.append_assoc],⟨c,c1,rfl,hr,h1⟩,h2,fun x' c'' h'=>⟨c,c1++(c''++c3),by rw [List.append_assoc],hr,h3 x' c'' h'⟩⟩
theorem e2z {α:Type} {p c q d:List α} {o:Nat} (h:o+d.length≤c.length):splice (p++(c++q)) (p.length+o) d = p++(splice c o d++q):=by
 simp only [splice]
 rw [List.take_append,List.take_of_length_le (by omega),Nat.add_sub_cancel_left,List.take_append_of_le_length (by omega)]
 rw [List.drop_append,List.drop_of_length_le (show p.length≤p.length+o+d.length by omega),List.nil_append,show p.length+o+d.length - p.length = o+d.length by omega,List.drop_append_of_le_length (by omega)]
 simp
theorem d0X {w w':World} {b n:Nat} {cs cs':Array Value} {t:TypeId} {fr:Nat × Nat} (h:w.heap[b]? = some (.cells cs t fr)) (h':w'.heap[b]? = some (.cells cs' t fr)) (hu:unfr w b n):unfr w' b n:=by
 intro o ho
 have:=hu o ho
 unfold World.frozen? at this ⊢
 simp only [h] at this
 simp only [h']
 exact this
theorem d9K {α:Type} (ls:List α) (l:Nat) (x:α) (h:l < ls.length):splice ls l [x] = ls.set l x:=by
 simp only [splice,List.length_singleton,List.singleton_append]
 rw [List.set_eq_take_append_cons_drop,if_pos h]
theorem e4q {ls:List L} {l:Nat} {x y:L} (h:ls[l]? = some x) (e:y.size = x.size):sizes (ls.set l y) = sizes ls:=by
 rw [b8c,b8c,List.map_set,e]
 apply List.ext_getElem?
 intro i
 by_cases hi:l = i
 ·
  subst hi
  have:=(List.getElem?_eq_some_iff.1 h)
  obtain ⟨hl,he⟩:=this
  rw [List.getElem?_set_self (by simpa using hl),List.getElem?_map,List.getElem?_eq_getElem hl,he]; rfl
 · rw [List.getElem?_set_ne hi]
theorem At.set {w:World} {b base o:Nat} {ds vs:List Value} (h:At w b base ds) (hb:o+vs.length≤ds.length):At (w.setCells b (base+o) vs) b base (splice ds o vs):=by
 intro j u hj
 have hc:∀ j,j < vs.length→(w.cell? ⟨b,base+o+j,none⟩).isSome = true:=fun j hj'=>by
  have:=h (o+j) _ (List.getElem?_eq_getElem (by omega))
  rw [Nat.add_assoc,this]; rfl
 simp only [splice] at hj
 by_cases h1:j < o
 ·
  rw [World.cell?_setCells_out b vs (base+o) w ⟨b,base+j,none⟩ (fun _ _=>.inl (by simp; omega))]
  rw [List.getElem?_append_left (by simp; omega),List.getElem?_take,if_pos h1] at hj
  exact h j u hj
 ·
  have hl:(ds.take o).length = o:=by simp; omega
  rw [List.getElem?_append_right (by omega),hl] at hj
  by_cases h2:j - o < vs.length
  ·
   rw [List.getElem?_append_left h2] at hj
   obtain ⟨hj',e⟩:=List.getElem?_eq_some_iff.1 hj
   have:=World.cell?_setCells_in b vs (base+o) w hc (j - o) hj'
   rw [show base+o+(j - o) = base+j by omega,e] at this
   exact this
  ·
   rw [World.cell?_setCells_out b vs (base+o) w ⟨b,base+j,none⟩ (fun _ _=>.inr (by simp; omega))]
   rw [List.getElem?_append_right (by omega),List.getElem?_drop,show o+vs.length+(j - o - vs.length) = j by omega] at hj
   exact h j u hj

section
variable {P:Program} {ok:Nat→List DV→List DV→Prop} {cx:Cx} {hi:Hi} {o:Oper} {C:Frm} {A:Nat→Prop} {E:Env} {F:Nat→Prop} {s:St} {a:Act} {w:World} {α:Type} {r:α} {wr:Wr} {K:Act→World→Prop} {Q:Exit→Act→World→Prop} {key:Nat}
theorem c6C {d:Option Nat} {w0:Wr} (h:Ev ok (match (motive:=Option Nat→Rd Wr) d with | none=>.ret w0 | some d=>.ret (w0++[(.tmp d,.v bad)])) s wr) :
  wr = match (motive:=Option Nat→Wr) d with | none=>w0 | some d=>w0++[(.tmp d,.v bad)]:=by
 cases d <;> exact h.ret
theorem e6r {x y:Operand} {t:TypeId} {i:TI} (ho:o.op = .store t x y) (hT:TOk P t i) {n l m j:Nat} {T:Ty} (hsc:scalar T = true) {v:List (Den T)} {z:Den T}
  (h1:RepV E F w (.one (.pta n l m j)) (a.eval x)) (hobj:look s (.lf n l) = .l (.dat (.ar m T) v)) (h3:RepL E F w (.dat T z) [a.eval y]) (hsz:(a.eval y).cells = #[a.eval y]) (hlay:i.lay.sum = 1)
  (hwr:wr = match (motive:=Option Nat→Wr) o.dst with | none=>[(.lf n l,.l (.dat (.ar m T) (v.set j z)))] | some d=>[(.lf n l,.l (.dat (.ar m T) (v.set j z)))]++[(.tmp d,.v bad)])
  (hm:Mem C A E F s.ob w) (ht:Tms E F s.tm a w)
  (hK:∀ a' w',Rel C (fun k=>A k∨(key≤k∧k < key+stride)) (apply wr s) a' w'→K a' w'):o.wp P a w K Q:=by
 obtain ⟨bl,hb,hx⟩:=e5p hobj
 have hlt:=(List.getElem?_eq_some_iff.1 hx).1
 have hrp:=hm.rp n
 rw [hb] at hrp
 obtain ⟨cl,ty,⟨cs,fr,g1,gp,gu⟩,g2,g3,g4⟩:=hrp
 obtain ⟨_,p1,p2,p3⟩:=h1
 simp only [List.cons.injEq,and_true] at p3
 obtain ⟨c1,c,c3,e1,k1,k2,k3⟩:=All.leaf g2 hx
 have k2':=k2
 rw [RepL,RepD] at k2'
 have hv:List.length v = m:=k2'.1
 obtain ⟨d1,d,d3,e2,q1,q2,q3⟩:=k2'.2.set (fun x c=>a0X) (show j < List.length v by omega) (show RepD F w T z [a.eval y] from h3)
 have q1:d1.length = j:=by rw [q1,b7t hsc,Nat.mul_one]
 have q2:d.length = 1:=by rw [q2,b7t hsc]
 have hc1:(E.e n).pre.length+c1.length = (E.e n).loff l:=by rw [a4m k1,b8y,g4 l (by omega)]
 have hp:cs.toList = ((E.e n).pre++(c1++d1))++(d++(d3++(c3++(E.e n).post))):=by rw [gp,e1,e2]; simp
 have hbnd:(E.e n).loff l+j+1≤cs.size:=by
  have:=congrArg List.length hp
  simp only [List.length_append,Array.length_toList] at this
  omega
 have hst:=c3d (P:=P) (w:=w) hT (b:=(E.e n).blk) (o:=(E.e n).loff l+j) (v:=a.eval y) (by rw [hsz,hlay]; rfl) (by rw [hsz]; intro u hu; simp at hu; subst hu; exact c7B h3 _ (by simp)) g1 (by rw [hsz]; exact hbnd) gu
 rw [hsz] at hst
 obtain ⟨cs',m1,m2,m3⟩:=a4K [a.eval y] ((E.e n).loff l+j) w cs g1 hbnd
 have hsp:cs'.toList = (E.e n).pre++((c1++((d1++([a.eval y]++d3))++c3))++(E.e n).post):=by
  rw [m2,hp,show (E.e n).loff l+j = ((E.e n).pre++(c1++d1)).length by simp only [List.length_append]; omega,b8z (by rw [q2]; rfl)]
  simp
 obtain ⟨t1,t2⟩:=c3B (k:=n) [.dat (.ar m T) (v.set j z)] l s bl hb (by simp; omega)
 have hss:splice bl l [.dat (.ar m T) (v.set j z)] = bl.set l (.dat (.ar m T) (v.set j z)):=d9K _ _ _ hlt
 rw [hss] at t2
 have hk:excl (E.e n) (lookO s.ob n):=by rw [hb]; trivial
 refine d8q (obj:=.box (bl.set l (.dat (.ar m T) (v.set j z)))) (n:=n) (a4X (E.e n).blk [a.eval y] ((E.e n).loff l+j) w) ?_ hwr t1 t2 hm ht hk trivial (fun _=>hk) (fun hx'=>?_) hK (x:=bad) (s':=s)
 · simp only [execOp,ho,p3,Sem.run_bind,hst]; rfl
 ·
  refine ⟨_,ty,⟨cs',fr,m1,hsp,by rw [m3]; exact d0X g1 m1 gu⟩,?_,g3,fun k hk=>?_⟩
  · exact RepLs.ext hx' (k3 (.dat (.ar m T) (v.set j z)) _ (by rw [RepL,RepD]; exact ⟨by simpa using hv,by simpa using q3⟩))
  · rw [e4q (y:=.dat (.ar m T) (v.set j z)) hx rfl]; exact g4 k (by simpa using hk)
theorem e5X (hti:TIok P cx) {t:TypeId} {x y:Operand} (ho:o.op = .store t x y):OpP P ok cx hi o:=by
 intro C rg ix key A s a w wr K Q h hr hA hK
 simp only [opSem,ho] at h
 obtain ⟨E,F,hm,ht⟩:=hr
 obtain ⟨i,hi',h⟩:=Cx.t_ev h
 have hT:=hti t i hi'
 obtain ⟨X,h1,h2⟩:=a6A h ht
 obtain ⟨Y,h3,h4⟩:=a6A h2 ht
 unfold storeS at h4
 split at h4
 · exact h4.fail.elim
 rename_i vl hvl
 have hvr:=d8R h3 hvl
 split at h4
 · exact h4.fail.elim
 rename_i hz
 simp only [Bool.and_eq_true,Bool.not_eq_true',List.isEmpty_eq_false_iff] at hz
 obtain ⟨hz,hne⟩:=hz
 have hz:=a1c hz
 have hvs:(a.eval y).cells.size = i.lay.sum:=by
  have:=a4m hvr
  rw [hz] at this; simpa using this
 have hlen:vl.length = i.lay.length:=by rw [← hz,a6T]
 have run:∀ b n w',a.eval x = .pointer (some ⟨b,n,none⟩)→(Instr.storeAt t (.pointer (some ⟨b,n,none⟩)) (a.eval y)).run P w = .ok () w'→(execOp a.eval o).run P w = .ok .skip w':=by
  intro b n w' hx hs
  simp only [execOp,ho,hx,Sem.run_bind,hs]; rfl
 split at h4
 ·
  -- a box's leaves
  rename_i n l yy
  obtain ⟨old,k1,k2,k3⟩:=c6S _ _ h4
  split at k2
  ·
   rename_i hold
   have hold:=a1c hold
   rcases k3 with k3 | ⟨bl,hb,rfl,k4⟩
   · exact absurd (List.length_eq_zero_iff.1 k3) hne
   ·
    rw [a2G,a6C,← hlen] at hold
    rw [← hlen] at k4
    have hzz:sizes vl = sizes ((bl.drop l).take vl.length):=by rw [hz,hold]
    have hrp:=hm.rp n
    rw [hb] at hrp
    obtain ⟨cl,ty,⟨cs,fr,g1,gp,gu⟩,g2,g3,g4⟩:=hrp
    have hp:=h1.2
    rw [RepL] at hp
    obtain ⟨p1,p2,p3⟩:=hp
    simp only [List.cons.injEq,and_true] at p2
    obtain ⟨q1,q2⟩:=b6h g2 hvr k4 hzz
    have hl:=g4 l (by omega)
    have q3:(E.e n).loff l+(a.eval y).cells.toList.length≤cs.size:=by
     have:=congrArg List.length gp
     simp only [List.length_append,Array.length_toList] at this
     rw [hl]; omega
    have hst:=c3d (P:=P) (w:=w) hT hvs (d8P hvr) g1 (by simpa using q3) gu
    obtain ⟨cs',m1,m2,m3⟩:=a4K (a.eval y).cells.toList ((E.e n).loff l) w cs g1 q3
    rw [gp,hl,e2z q2] at m2
    obtain ⟨t1,t2⟩:=c3B (k:=n) vl l s bl hb k4
    have hk:excl (E.e n) (lookO s.ob n):=by rw [hb]; trivial
    refine d8q (obj:=.box (splice bl l vl)) (n:=n) (a4X (E.e n).blk (a.eval y).cells.toList ((E.e n).loff l) w) (run _ _ _ p2 hst) (c6C k2) t1 t2 hm ht hk trivial (fun _=>hk) (fun hx'=>?_) hK (x:=bad) (s':=s)
    refine ⟨_,ty,⟨cs',fr,m1,m2,by rw [m3]; exact d0X g1 m1 gu⟩,?_,g3,fun k hk=>?_⟩
    · exact RepLs.ext hx' q1
    ·
     rw [b7m k4 hzz]
     refine g4 k ?_
     rw [← a6T,b7m k4 hzz,a6T] at hk
     exact hk
  · exact k2.fail.elim
 ·
  -- a scalar of an array
  rename_i n l m j
  have h4:=h4.get
  split at h4
  ·
   rename_i m' T v hobj
   split at h4
   ·
    rename_i k hmm _
    have hmm:=Nat.eq_of_beq_eq_true hmm
    subst hmm
    have h3':=of_one (by simp) h3
    split at h4
    ·
     rename_i hjj
     subst hjj
     have hcs:(a.eval y).cells = #[a.eval y]:=by have:=a7x h3; rw [this]; rfl
     refine e6r ho hT rfl h1 hobj h3'.2 hcs (by rw [← hvs,hcs]; rfl) (c6C h4) hm ht hK
    · exact h4.fail.elim
   ·
    rename_i hmm _
    have hmm:=Nat.eq_of_beq_eq_true hmm
    subst hmm
    have h3':=of_one (by simp) h3
    have hcs:(a.eval y).cells = #[a.eval y]:=by have:=c8U h3; rw [this]; rfl
    exact e6r ho hT rfl h1 hobj h3'.2 hcs (by rw [← hvs,hcs]; rfl) (c6C h4) hm ht hK
   · exact h4.fail.elim
  · exact h4.fail.elim
 ·
  -- an element's leaves
  rename_i n j l yy
  have h4:=h4.get
  simp only [look] at h4
  split at h4
  ·
   rename_i T xs hobj
   simp only [Cn.o.injEq] at hobj
   split at h4
   ·
    rename_i hold
    have hold:=a1c hold
    rw [a2G,a6C,← hlen] at hold
    have hp:=h1.2
    rw [RepL] at hp
    obtain ⟨p1,p2,p3,p4⟩:=hp
    simp only [List.cons.injEq,and_true] at p3
    have hrp:=hm.rp n
    rw [hobj] at hrp
    obtain ⟨r1,r2,r3,r4,r5,r6⟩:=hrp
    have hnil:(E.e n).nil = false:=by
     cases hn:(E.e n).nil with
     | false=>rfl
     | true=>have:=r5 hn; omega
    obtain ⟨cs,ty,fr,ds,c1,c2,c3,c4,c5,c6⟩:=r6 hnil
    obtain ⟨cF,cU⟩:=c5 rfl
    have hjx:j < xs.length:=by omega
    obtain ⟨d1,d,d3,e1,e2,e3⟩:=c3.get (fun x c=>a0X) (List.getElem?_eq_getElem hjx)
    have hgd:xs.getD j (zeroD T) = xs[j]:=by rw [List.getD_eq_getElem?_getD,List.getElem?_eq_getElem hjx]; rfl
    rw [hgd] at h4 hold
    have hu:=a7m (E:=E) e3
    have hzz:sizes vl = sizes (((unpk T xs[j]).drop l).take vl.length):=by rw [hz,hold]
    have hb:l+vl.length≤(unpk T xs[j]).length:=by
     have:=congrArg List.length hzz
     rw [a6T,a6T] at this
     simp only [List.length_take,List.length_drop] at this
     have hpos:0 < vl.length:=by
      rw [hlen]; exact List.length_pos_iff.2 hne
     omega
    obtain ⟨q1,q2⟩:=b6h hu hvr hb hzz
    rw [d1U _ _ _ hb] at h4
    obtain ⟨v',q',nb,cc,dd,ee,k1,k2,k3,hsz0⟩:=e5s hm h4 q1
    split at k3
    ·
     rename_i hnb
     have hnb:nb = []:=by simpa using hnb
     subst hnb
     have hdd:dd = []:=k2
     subst hdd
     rw [List.append_nil] at ee
     have k1:=k1.plus_nil
     rw [← ee] at k1
     rw [← c3f,← r4] at k1 q2
     -- the elements' cells with this one's set
     have hdl:d.length = T.sz:=a0X e3
     obtain ⟨d1',d',d3',f1,f2,f3,f4⟩:=c3.set (fun x c=>a0X) hjx k1
     have hds:d1 = d1'∧d++d3 = d'++d3':=List.append_inj (by rw [← e1,f1]) (by rw [e2,f2])
     have hds':d = d'∧d3 = d3':=List.append_inj hds.2 (by rw [hdl,f3])
     obtain ⟨⟨rfl,_⟩,rfl,rfl⟩:=And.intro hds hds'
     have hspl:d1++(splice d ((E.e n).eoff l) (a.eval y).cells.toList++d3) = splice ds (j*(E.e n).esz+(E.e n).eoff l) (a.eval y).cells.toList:=by
      rw [e1,r3,← e2]
      obtain ⟨dp,dm,dq,rfl,hdp,hdm⟩:∃ dp dm dq,d = dp++(dm++dq)∧dp.length = (E.e n).eoff l∧dm.length = (a.eval y).cells.toList.length :=
       ⟨d.take ((E.e n).eoff l),(d.drop ((E.e n).eoff l)).take (a.eval y).cells.toList.length,(d.drop ((E.e n).eoff l)).drop (a.eval y).cells.toList.length,by rw [List.take_append_drop,List.take_append_drop],by simp; omega,by simp; simp at q2; omega⟩
      rw [← hdp,b8z hdm]
      rw [show d1++((dp++(dm++dq))++d3) = (d1++dp)++(dm++(dq++d3)) by simp,← List.length_append,b8z hdm]
      simp
     rw [hspl] at f4
     have hdsl:ds.length = xs.length*T.sz:=c3.len (fun x c=>a0X)
     have hjs:j*T.sz+T.sz≤xs.length*T.sz:=by
      have:(j+1)*T.sz≤xs.length*T.sz:=Nat.mul_le_mul_right _ hjx
      rwa [Nat.succ_mul] at this
     have hcap:xs.length*T.sz≤(E.e n).cap*T.sz:=Nat.mul_le_mul_right _ (by omega)
     simp only [Array.length_toList] at q2
     rw [hdl] at q2
     rw [r3] at c2 p3
     have hbnd:(E.e n).base+j*T.sz+(E.e n).eoff l+(a.eval y).cells.size≤cs.size:=by omega
     have hst:=c3d (P:=P) (w:=w) hT hvs (d8P hvr) c1 hbnd cU
     obtain ⟨cs',m1,m2,m3⟩:=a4K (a.eval y).cells.toList ((E.e n).base+j*T.sz+(E.e n).eoff l) w cs c1 (by simpa using hbnd)
     have hk:excl (E.e n) (lookO s.ob n):=by rw [hobj]; exact hnil
     refine d8q (obj:=.arr T (xs.set j v') false) (n:=n) (s':=s) (a4X (E.e n).blk (a.eval y).cells.toList ((E.e n).base+j*T.sz+(E.e n).eoff l) w) (run _ _ _ p3 hst) (c6C k3) rfl
      (fun m=>by rw [d2J]; exact a0J _ _ _ _) hm ht hk trivial (fun _=>hk) (fun hx'=>?_) hK (x:=bad)
     refine ⟨by simpa using r1,r2,r3,r4,r5,fun _=>⟨cs',ty,fr,_,m1,by rw [m3,r3]; exact c2,f4.imp fun x c hc=>RepD.ext hx'.fz hx'.wd hc,?_,fun _=>⟨cF,?_⟩,fun h=>by simp at h⟩⟩
     ·
      have:=c4.set (o:=j*(E.e n).esz+(E.e n).eoff l) (vs:=(a.eval y).cells.toList) (by rw [hdsl,r3]; simp; omega)
      rw [r3,← Nat.add_assoc] at this
      rw [r3]; exact this
     ·
      intro oo hoo
      rw [World.frozen?_setCells]
      exact cU oo (by omega)
    · exact k3.fail.elim
   · exact h4.fail.elim
  · exact h4.fail.elim
 · exact h4.fail.elim
end
end Go.Proofs.Zz
