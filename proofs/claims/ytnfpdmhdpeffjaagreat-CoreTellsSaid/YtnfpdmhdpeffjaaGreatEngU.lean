import Derived.Test.YtnfpdmhdpeffjaaGreatEngT
import Derived.Deep.Upon
set_option linter.unusedSimpArgs false
set_option linter.unusedVariables false
/- append. -/
namespace Go.Proofs.Zz
open Go

section
variable {P:Program} {ok:Nat→List DV→List DV→Prop} {cx:Cx} {hi:Hi} {o:Oper} {C:Frm} {A:Nat→Prop} {E:Env} {F:Nat→Prop} {s:St} {a:Act} {w w':World} {α:Type} {r:α} {wr:Wr} {K:Act→World→Prop} {Q:Exit→Act→World→Prop} {key:Nat}
theorem Mem.add {ob:List (Nat × Obj)} (h:Mem C A E F ob w) {k:Nat} (hk:¬ E.al k) {e:EI} {o:Obj} (hne:¬ excl e o) (hrp:∀ hx:Ext E F w (E.set k e) F w,RepO (E.set k e) F w e o) :
  Mem C (fun n=>A n∨n = k) (E.set k e) F (putO ob k o) w∧Ext E F w (E.set k e) F w:=by
 have hx:Ext E F w (E.set k e) F w:=Env.ext_set hk e (fun _ h=>h) (fun _ _ _ _ h=>h)
 refine ⟨⟨?_,?_,?_,?_,h.fb,h.f0,h.kp,h.uf,?_,h.sz,h.os,h.tape,h.output,fun k hk=>⟨hx.al k (h.eo k hk).1,(hx.e k (h.eo k hk).1).trans (h.eo k hk).2⟩⟩,hx⟩
 ·
  intro n hn
  rw [a0J] at hn
  by_cases e':k = n
  · exact .inr e'.symm
  · rw [if_neg e'] at hn; exact .inl (h.lv n hn)
 ·
  intro n
  rw [a0J]
  by_cases e':k = n
  · subst e'; rw [if_pos rfl,Env.set_self]; exact hrp hx
  ·
   rw [if_neg e',Env.set_ne E e (Ne.symm e')]
   exact (h.rp n).ext hx (fun hl hn=>rfl) (fun hn=>a2L h hn)
 ·
  intro n m hn hm hb
  rw [a0J] at hn hm
  by_cases e1:k = n
  · subst e1; rw [if_pos rfl,Env.set_self] at hn; exact (hne hn).elim
  ·
   by_cases e2:k = m
   · subst e2; rw [if_pos rfl,Env.set_self] at hm; exact (hne hm).elim
   ·
    rw [if_neg e1,Env.set_ne E e (Ne.symm e1)] at hn
    rw [if_neg e2,Env.set_ne E e (Ne.symm e2)] at hm
    rw [Env.set_ne E e (Ne.symm e1),Env.set_ne E e (Ne.symm e2)] at hb
    exact h.inj n m hn hm hb
 ·
  intro n hn
  rcases hn with hn | rfl
  · exact .inl (h.al n hn)
  · exact .inr rfl
 ·
  intro n hn
  rw [a0J] at hn
  by_cases e':k = n
  · subst e'; rw [if_pos rfl,Env.set_self] at hn; exact (hne hn).elim
  ·
   rw [if_neg e',Env.set_ne E e (Ne.symm e')] at hn
   rw [Env.set_ne E e (Ne.symm e')]; exact h.uo n hn

inductive OldOk (E:Env) (F:Nat→Prop) (w:World) (s:St) (t:Ty):List (Den t)→Wr→Value→Prop
 | none (ad:Option Addr) (gone:Wr) (hg:gone = []∨∃ n,gone = [(.ob n,.o .dead)]):OldOk E F w s t [] gone (.slice ad 0 0)
 | some (n o cap:Nat) (xs:List (Den t)) (cs:Array Value) (u:TypeId) (fr:Nat × Nat) (ds:List Value) (he:excl (E.e n) (lookO s.ob n)) (hl:List.length xs≤cap)
   (hb:w.heap[(E.e n).blk]? = some (.cells cs u fr)) (hc:o+cap*t.sz≤cs.size) (hd:All (fun x c=>RepD F w t x c) xs ds) (ha:At w (E.e n).blk o ds) (hu:unfr w (E.e n).blk cs.size) :
   OldOk E F w s t xs [(.ob n,.o .dead)] (.slice (some ⟨(E.e n).blk,o,none⟩) xs.length cap)
theorem d7G {n off len:Nat} {t:Ty} {xs:List (Den t)} {v:Value} (hm:Mem C A E F s.ob w) (hobj:lookO s.ob n = .arr t xs false) (hw:Win (E.e n) off len [v]):OldOk E F w s t ((xs.drop off).take len) [(.ob n,.o .dead)] v:=by
 obtain ⟨h1,ad,h2,h3⟩:=hw
 simp only [List.cons.injEq,and_true] at h2
 subst h2
 have hrp:=hm.rp n
 rw [hobj] at hrp
 obtain ⟨q1,q2,q3,q4,q5,q6⟩:=hrp
 by_cases hz:(E.e n).cap - off = 0
 ·
  have:len = 0:=by omega
  subst this
  rw [hz,List.take_zero]
  exact .none ad _ (.inr ⟨n,rfl⟩)
 ·
  obtain ⟨hnil,rfl⟩:=h3 hz
  obtain ⟨cs,u,fr,ds,k1,k2,k3,k4,k5,k6⟩:=q6 hnil
  obtain ⟨cF,cU⟩:=k5 rfl
  have hlen:List.length ((xs.drop off).take len) = len:=by simp; omega
  obtain ⟨c,d,e',rfl,g1,g2⟩:=c7r (m:=len) (fun x c=>a0X) k3 (show off≤xs.length by omega)
  have:=OldOk.some (E:=E) (F:=F) (w:=w) (s:=s) (t:=t) n ((E.e n).base+off*(E.e n).esz) ((E.e n).cap - off) ((xs.drop off).take len) cs u fr d (by rw [hobj]; exact hnil) (by rw [hlen]; omega) k1 (by
   rw [Nat.add_assoc,q3,← Nat.add_mul,Nat.add_sub_cancel' (by omega),← q3]; exact k2) g2 (by
   have:=(k4.append.2).append.1
   rw [g1,← q3] at this
   exact this) cU
  rw [hlen] at this
  exact this
theorem e7F {t:Ty} {x:V} {v:Value} {k:List (Den t)→Wr→Rd Wr} (h:Ev ok (oldS t x k) s wr) (hm:Mem C A E F s.ob w) (hr:RepV E F w x v):∃ xs gone,OldOk E F w s t xs gone v∧Ev ok (k xs gone) s wr:=by
 unfold oldS at h
 split at h
 ·
  have hv:=hr.2
  rw [RepL] at hv
  simp only [List.cons.injEq,and_true] at hv
  subst hv
  exact ⟨[],[],.none _ _ (.inl rfl),h⟩
 ·
  rename_i n
  have h:=h.get
  simp only [look] at h
  split at h
  ·
   rename_i a' xs hobj
   simp only [Cn.o.injEq] at hobj
   have e:=a1A h; subst e; have h:=a0Z h
   refine ⟨_,_,?_,h⟩
   have:=d7G hm hobj hr.2.2
   rw [← (a6X hm hobj).1] at this
   simpa using this
  · exact h.fail.elim
 ·
  rename_i n off
  have h:=h.get
  simp only [look] at h
  split at h
  ·
   rename_i a' xs hobj
   simp only [Cn.o.injEq] at hobj
   have e:=a1A h; subst e; have h:=a0Z h
   refine ⟨_,_,?_,h⟩
   have:=d7G hm hobj hr.2.2.2
   rw [← (a6X hm hobj).1,List.take_of_length_le (by simp)] at this
   exact this
  · exact h.fail.elim
 ·
  rename_i n off len
  have h:=h.get
  simp only [look] at h
  split at h
  ·
   rename_i a' xs hobj
   simp only [Cn.o.injEq] at hobj
   have e:=a1A h; subst e; have h:=a0Z h
   exact ⟨_,_,d7G hm hobj hr.2.2,h⟩
  · exact h.fail.elim
 · exact h.fail.elim
theorem d5B (s:ByteArray):byteCells s = (bytesOf s).map (Value.int .u8):=by simp [byteCells,bytesOf]
theorem e6L {t:Ty} {x:V} {v:Value} {tx:TypeId} {k:List (Den t)→Rd Wr} (h:Ev ok (newS t x k) s wr) (hm:Mem C A E F s.ob w) (hr:RepV E F w x v) (hk:(∃ e',P.underlying tx = some (.slice e'))∨P.underlying tx = some .string) :
  ∃ xs news,Src P t.sz tx v (List.length xs) news w∧All (fun x c=>RepD F w t x c) xs news∧Ev ok (k xs) s wr:=by
 unfold newS at h
 split at h
 ·
  rename_i sv
  have hv:=c5s hr
  subst hv
  have e:=a1A h; subst e; have h:=a0Z h
  refine ⟨bytesOf sv,(bytesOf sv).map (Value.int .u8),?_,c8y sv,h⟩
  have hlen:(bytesOf sv).length = sv.size:=by simp [bytesOf]
  rw [← d5B,hlen]
  exact ⟨hk,fun _=>rfl,firstCells_string sv w,firstCells_string sv w.drew,by rw [byteCells_length]; simp [Ty.sz],fun u hu=>by
   obtain ⟨_,_,rfl⟩:=List.mem_map.1 hu
   rfl⟩
 ·
  rename_i l _
  obtain ⟨xs,nb,h3,h4⟩:=d9A h hm (cs:=[v]) (by cases l <;> first | exact Ev.fail h |>.elim | exact hr.2)
  obtain ⟨ad,cap,k1,k2,k3⟩:=h3
  simp only [List.cons.injEq,and_true] at k1
  subst k1
  rcases k3 with rfl | ⟨b,oo,ds,rfl,k4,k5,k6⟩
  ·
   refine ⟨[],[],?_,rfl,h4⟩
   cases ad with
   | none=>exact ⟨hk,fun _=>rfl,run_firstCells_none w t.sz 0 0 cap,run_firstCells_none w.drew t.sz 0 0 cap,by simp,fun _ h=>by simp at h⟩
   | some ad=>exact ⟨hk,fun _=>rfl,run_firstCells_some w t.sz 0 ad 0 cap [] (by simp) (by simp),run_firstCells_some w.drew t.sz 0 ad 0 cap [] (by simp) (by simp),by simp,fun _ h=>by simp at h⟩
  ·
   have hl:ds.length = xs.length*t.sz:=k5.len (fun x c=>a0X)
   have hat:∀ j u,ds[j]? = some u→w.cell? ((⟨b,oo,none⟩:Addr).add j) = some u:=fun j u hj=>by rw [a8f]; exact k6 j u hj
   exact ⟨xs,ds,⟨hk,fun _=>rfl,run_firstCells_some w t.sz _ _ _ cap ds hl hat,run_firstCells_some w.drew t.sz _ _ _ cap ds hl (by simpa using hat),hl,fun u hu=>b8t.1 (k5.mem (fun x c hc=>b9V hc) u hu)⟩,k5,h4⟩
 · exact h.fail.elim
theorem d0f {gone:Wr} {obj:Obj} (hg:gone = []∨∃ n,gone = [(.ob n,.o .dead)]):(apply (gone++[(.ob key,.o obj)]) s).tm = s.tm∧∃ ob',(∀ {A:Nat→Prop},Mem C A E F s.ob w→Mem C A E F ob' w)∧(apply (gone++[(.ob key,.o obj)]) s).ob = putO ob' key obj:=by
 rcases hg with rfl | ⟨n,rfl⟩
 · exact ⟨rfl,s.ob,fun h=>h,rfl⟩
 · exact ⟨rfl,putO s.ob n .dead,fun h=>h.kill n,rfl⟩
theorem e5c {obj:Obj} {gone:Wr} {e:EI} {x:V} {v:Value} {ho:Go.Obj} (hg:gone = []∨∃ n,gone = [(.ob n,.o .dead)]) (hrun:(execOp a.eval o).run P w = .ok (.value v) w') (hw:NewW w w' ho)
  (h:Ev ok (fin hi o.dst (gone++[(.ob key,.o obj)]) x) s wr) (hm:Mem C A E F s.ob w) (ht:Tms E F s.tm a w) (hA:∀ k,key≤k→k < key+stride→¬ A k)
  (hblk:e.blk = w.heap.size) (hrp:∀ hx:Ext E F w (E.set key e) F w',RepO (E.set key e) F w' e obj) (hv:∀ hx:Ext E F w (E.set key e) F w',RepV (E.set key e) F w' x v)
  (hK:∀ a' w',Rel C (fun k=>A k∨(key≤k∧k < key+stride)) (apply wr s) a' w'→K a' w'):o.wp P a w K Q:=by
 unfold Oper.wp
 rw [hrun]
 have hk:¬ E.al key:=fun h=>hA key (Nat.le_refl _) (by simp [stride]) (hm.al _ h)
 obtain ⟨t1,ob',t2,t3⟩:=d0f (C:=C) (E:=E) (F:=F) (s:=s) (w:=w) (key:=key) (obj:=obj) hg
 obtain ⟨m,hx⟩:=(t2 hm).new (w':=w') hk (e:=e) (o:=obj) hw.os hw.tape hw.output hw.size (fun b hb=>hw.old hb) (fun _=>hblk) hrp
 refine hK _ _ (b2s h (E':=E.set key e) (F':=F) ?_ ?_ (hv hx))
 ·
  rw [t3]
  exact m.mono fun k hk=>hk.imp id fun e=>by subst e; exact ⟨Nat.le_refl _,by simp [stride]⟩
 · rw [t1]; exact ht.ext hx
theorem e4t {t:Ty} {xs:List (Den t)} {gone:Wr} {v:Value} (h:OldOk E F w s t xs gone v):∃ base cap olds,v = .slice base xs.length cap∧xs.length≤cap ∧
  (Builtin.firstCells t.sz xs.length v).run P w.drew = .ok olds.toArray w.drew∧All (fun x c=>RepD F w t x c) xs olds∧(gone = []∨∃ n,gone = [(.ob n,.o .dead)]):=by
 cases h with
 | none ad _ hg =>
  refine ⟨ad,0,[],rfl,Nat.le_refl _,?_,rfl,hg⟩
  cases ad with
  | none=>exact run_firstCells_none w.drew t.sz 0 0 0
  | some ad=>exact run_firstCells_some w.drew t.sz 0 ad 0 0 [] (by simp) (by simp)
 | some n o cap _ cs u fr ds he hl hb hc hd ha hu =>
  exact ⟨_,cap,ds,rfl,hl,run_firstCells_some w.drew t.sz _ _ _ cap ds (hd.len (fun x c=>a0X)) (fun j u hj=>by rw [a8f]; simpa using ha j u hj),hd,.inr ⟨n,rfl⟩⟩
def nilEI (t:Ty):EI:={ blk:=0,base:=0,len:=0,cap:=0,esz:=t.sz,nil:=true,loff:=fun _=>0,eoff:=lOff t }
def onEI (b o n c:Nat) (t:Ty):EI:={ blk:=b,base:=o,len:=n,cap:=c,esz:=t.sz,nil:=false,loff:=fun _=>0,eoff:=lOff t }
theorem e3r (hti:TIok P cx) {c:Call} (ho:o.op = .call c) (hc:c.callee = .builtin .append):OpP P ok cx hi o:=by
 intro C rg ix key A s a w wr K Q h hr hA hK
 simp only [opSem,ho,hc] at h
 obtain ⟨E,F,hm,ht⟩:=hr
 obtain ⟨xs,h1,h2⟩:=b8W h ht
 split at h2
 ·
  rename_i x y
  split at h2
  ·
   rename_i t tx hat
   obtain ⟨p,q,hp,h3,h4⟩:=c6t h1
   obtain ⟨i,hi',h5⟩:=Cx.t_ev h2
   obtain ⟨j,hj',h6⟩:=Cx.t_ev h5
   clear h2 h1 h5
   have hT:=hti t i hi'
   have hU:=hti tx j hj'
   have hat:c.argTypes = #[t,tx]:=by rw [← Array.toList_inj,hat]
   have h7:Ev ok (appendS key i x y fun x wr=>fin hi o.dst wr x) s wr∧((∃ e',P.underlying tx = some (.slice e'))∨P.underlying tx = some .string):=by
    split at h6
    ·
     rename_i htd
     obtain ⟨e',hu',_⟩:=hU.slice htd
     exact ⟨h6,.inl ⟨e',hu'⟩⟩
    ·
     rename_i htd
     exact ⟨h6,.inr (hU.str htd)⟩
    · exact h6.fail.elim
   obtain ⟨h7,hkd⟩:=h7
   clear h6
   obtain ⟨cs,hrun⟩:=a7G (P:=P) ho hc a w
   have run:∀ v w',(Builtin.append_ #[t,tx] o.type #[a.eval p,a.eval q]).run P w = .ok v w'→(execOp a.eval o).run P w = .ok (.value v) w':=by
    intro v w' hv
    rw [hrun,hp,hat,show (Array.map a.eval #[p,q]) = #[a.eval p,a.eval q] by simp]
    simp only [builtin,Sem.run_bind,hv]
    rfl
   unfold appendS at h7
   split at h7
   ·
    rename_i htd hby
    obtain ⟨e,hu,⟨f,z,f1,f2,f3,f4,f5⟩⟩:=hT.slice htd
    obtain ⟨old,gone,g1,g2⟩:=e7F h7 hm h3
    obtain ⟨new,news,g3,g4,g5⟩:=e6L (P:=P) g2 hm h4 hkd
    rcases g5.ite with ⟨hb,g5⟩ | ⟨_,g5⟩
    ·
     have hb:=of_decide_eq_true hb
     unfold reach at hb
     have hby:i.eby≠0:=by intro e0; rw [e0] at hby; simp at hby
     have h63:((old.length+new.length:Nat):Int)≤9223372036854775807:=by
      have:old.length+new.length≤(old.length+new.length)*i.eby:=Nat.le_mul_of_pos_right _ (Nat.pos_of_ne_zero hby)
      omega
     have hk:¬ E.al key:=fun h=>hA key (Nat.le_refl _) (by simp [stride]) (hm.al _ h)
     -- no room
     have grow:∀ cap base,a.eval p = .slice base old.length cap→cap < old.length+new.length→o.wp P a w K Q:=by
      intro cap base hv hlt
      obtain ⟨base',cap',olds,k1,k2,k3,k4,k5⟩:=e4t (P:=P) g1
      rw [hv] at k1 k3
      simp only [Value.slice.injEq,true_and] at k1
      obtain ⟨rfl,rfl⟩:=k1
      have hfit:=growslice_fits hlt (bytes:=f.bytes) (by rw [f3]; omega)
      have hap:=run_append_grow_src (P:=P) w t tx o.type e f z hu f1 f4 base old.length cap olds (by rw [f2]; exact k3) (a.eval q) new.length news (by rw [f2]; exact g3) hlt h63 hfit
      have hgc:=grownCap_ge w (old.length+new.length) cap e
      have hol:olds.length = old.length*i.ety.sz:=k4.len (fun x c=>a0X)
      have hnl:news.length = new.length*i.ety.sz:=g4.len (fun x c=>a0X)
      have hzl:z.cells.size = i.ety.sz:=by
       obtain ⟨zc,hz1,hz2⟩:=d4j (F:=F) (w:=w) _ _ _ f5
       rw [List.append_nil] at hz1
       rw [← hz1] at hz2
       rw [← a0X hz2]; simp
      have hw:=NewW.drew w (.cells ((olds++news).toArray++Builtin.zeroCells z.cells (grownCap w (old.length+new.length) cap e - (old.length+new.length))) e)
      refine e5c (e:=arrEI w.heap.size (old.length+new.length) (grownCap w (old.length+new.length) cap e) i.ety) k5 (run _ _ (by rw [hv]; exact hap)) hw g5 hm ht hA rfl (fun hx=>?_) (fun hx=>?_) hK
      ·
       refine ⟨by simp [arrEI],hgc,rfl,fun _=>rfl,fun h=>by simp [arrEI] at h,fun _=>⟨_,_,_,olds++news,hw.last,?_,(k4.append g4).imp fun x c hc=>RepD.ext hx.fz hx.wd hc,hw.at_ (d:=(Builtin.zeroCells z.cells (grownCap w (old.length+new.length) cap e - (old.length+new.length))).toList) (by simp),fun _=>⟨fun hf=>?_,?_⟩,fun h=>by simp at h⟩⟩
       ·
        obtain ⟨d,hd⟩:∃ d,grownCap w (old.length+new.length) cap e = old.length+new.length+d:=Nat.exists_eq_add_of_le hgc
        rw [hd]
        simp [arrEI,Builtin.zeroCells,hol,hnl,hzl,Nat.add_mul]
       · have:=hm.fb _ hf; simp [arrEI] at this
       ·
        intro oo ho
        simp only [World.frozen?,arrEI,hw.last]
        simp
      ·
       refine a3n ⟨.inr rfl,?_⟩
       rw [Env.set_self]
       exact ⟨by simp [arrEI],_,rfl,fun _=>⟨rfl,by simp [arrEI]⟩⟩
     generalize hv:a.eval p = v at g1
     cases g1 with
     | none ad _ hg =>
      by_cases hn:new.length = 0
      ·
       have hnew:new = []:=List.length_eq_zero_iff.1 hn
       subst hnew
       have:news = []:=g4
       subst this
       have hap:=run_append_nothing (P:=P) w t tx o.type e f hu f1 ad 0 0 (Nat.le_refl _) (a.eval q) (by rw [f2]; exact g3)
       have hrun':=run _ _ (by rw [hv]; exact hap)
       unfold Oper.wp
       rw [hrun']
       obtain ⟨t1,ob',t2,t3⟩:=d0f (C:=C) (E:=E) (F:=F) (s:=s) (w:=w) (key:=key) (obj:=.arr i.ety (([]:List (Den i.ety))++[]) false) hg
       obtain ⟨m,hx⟩:=(t2 hm).add hk (e:=nilEI i.ety) (o:=.arr i.ety (([]:List (Den i.ety))++[]) false) (by simp [excl,nilEI]) (fun hx=>⟨rfl,Nat.le_refl _,rfl,fun _=>rfl,fun _=>rfl,fun h=>by simp [nilEI] at h⟩)
       refine hK _ _ (b2s g5 (E':=E.set key (nilEI i.ety)) (F':=F) ?_ ?_ (a3n ⟨.inr rfl,?_⟩))
       ·
        rw [t3]
        exact m.mono fun k hk=>hk.imp id fun e=>by subst e; exact ⟨Nat.le_refl _,by simp [stride]⟩
       · rw [t1]; exact ht.ext hx
       · rw [Env.set_self]; exact ⟨by simp [nilEI],_,rfl,fun h=>by simp [nilEI] at h⟩
      · exact grow 0 ad hv (by simp; omega)
     | some n oo cap _ cs u fr ds he hl hbk hcs hd ha hun =>
      by_cases hroom:old.length+new.length≤cap
      ·
       have hnl:news.length = new.length*i.ety.sz:=g4.len (fun x c=>a0X)
       have hdl:ds.length = old.length*i.ety.sz:=hd.len (fun x c=>a0X)
       have hle:(old.length+new.length)*i.ety.sz≤cap*i.ety.sz:=Nat.mul_le_mul_right _ hroom
       rw [Nat.add_mul] at hle
       have hcell:∀ j,j < news.length→(w.cell? ⟨(E.e n).blk,oo+old.length*f.size+j,none⟩).isSome = true:=by
        intro j hj
        rw [f2]
        simp only [World.cell?,hbk]
        simp; omega
       have hap:=run_append_room_src (P:=P) w t tx o.type e f hu f1 (E.e n).blk oo old.length cap (a.eval q) new.length news (by rw [f2]; exact g3) hroom hcell (fun j hj=>hun _ (by rw [f2]; omega))
       rw [f2] at hap hcell
       have hrun':=run _ _ (by rw [hv]; exact hap)
       unfold Oper.wp
       rw [hrun']
       have hsw:=a4X (E.e n).blk news (oo+old.length*i.ety.sz) w
       obtain ⟨cs',m1,m2,m3⟩:=a4K news (oo+old.length*i.ety.sz) w cs hbk (by omega)
       obtain ⟨m,hx⟩:=hm.pass he hk (e:=onEI (E.e n).blk oo (old.length+new.length) cap i.ety) (o:=.arr i.ety (old++new) false) rfl hsw.os hsw.tape hsw.output hsw.size hsw.old (fun hx=>by
        refine ⟨by simp [onEI],hroom,rfl,fun _=>rfl,fun h=>by simp [onEI] at h,fun _=>⟨cs',u,fr,ds++news,m1,by rw [m3]; exact hcs,(hd.append g4).imp fun x c hc=>RepD.ext hx.fz hx.wd hc,?_,fun _=>⟨a2L hm he,?_⟩,fun h=>by simp at h⟩⟩
        ·
         refine At.join (fun j u' hj=>?_) (fun j u' hj=>?_)
         ·
          have hlt:=(List.getElem?_eq_some_iff.1 hj).1
          rw [World.cell?_setCells_out]
          · exact ha j u' hj
          · intro _ _; left; simp only [onEI]; omega
         ·
          obtain ⟨hlt,e'⟩:=List.getElem?_eq_some_iff.1 hj
          have:=World.cell?_setCells_in (E.e n).blk news (oo+old.length*i.ety.sz) w hcell j hlt
          rw [e'] at this
          rw [hdl]; exact this
        ·
         intro k hk'
         rw [World.frozen?_setCells]
         exact hun k (by rw [← m3]; exact hk'))
       refine hK _ _ (b2s g5 (E':=E.set key (onEI (E.e n).blk oo (old.length+new.length) cap i.ety)) (F':=F) ?_ ?_ (a3n ⟨.inr rfl,?_⟩))
       · exact m.mono fun k hk=>hk.imp id fun e=>by subst e; exact ⟨Nat.le_refl _,by simp [stride]⟩
       · exact ht.ext hx
       · rw [Env.set_self]; exact ⟨by simp [onEI],some ⟨(E.e n).blk,oo,none⟩,by simp [onEI],fun h=>⟨rfl,by simp [onEI]⟩⟩
      · exact grow cap _ hv (by omega)
    · exact g5.fail.elim
   · exact h7.fail.elim
  · exact h2.fail.elim
 · exact h2.fail.elim
end
end Go.Proofs.Zz
