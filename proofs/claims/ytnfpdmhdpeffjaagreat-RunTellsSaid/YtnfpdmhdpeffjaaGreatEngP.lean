import Derived.Test.YtnfpdmhdpeffjaaGreatEngN
import Derived.Laws.CopyRow
import Derived.Laws.MakeOwn
set_option linter.unusedSimpArgs false
set_option linter.unusedVariables false
/- New blocks: variables, boxed values, values built. -/
namespace Go.Proofs.Zz
open Go

/-! Cells put over cells -/
def splice {α:Type} (cs:List α) (o:Nat) (d:List α):List α:=cs.take o++(d++cs.drop (o+d.length))
theorem d1E {α:Type} (cs:List α) (o:Nat):splice cs o [] = cs:=by simp [splice]
theorem c4g:∀ (vs:List Value) (k off:Nat) (cs:Array Value),off+k+vs.length≤cs.size →
  ((vs.zipIdx k).foldl (fun (c:Array Value) (p:Value × Nat)=>c.setIfInBounds (off+p.2) p.1) cs).toList = splice cs.toList (off+k) vs
 | [],k,off,cs,_=>by simp [splice]
 | v::r,k,off,cs,h=>by
  simp only [List.zipIdx_cons,List.foldl_cons];simp only [List.length_cons] at h;rw [c4g r (k+1) off _ (by simp; omega)];have:=list_seg_step cs.toList (off+k) v r (by simp; omega);simp only [splice,Array.toList_setIfInBounds,List.length_cons];rw [show off+(k+1) = off+k+1 by omega]
  simpa [List.append_assoc] using this
theorem d5M {place:Nat→Option (Nat × Nat)} {cells:Array Value} {i off size:Nat} {v:Value} {rest:List (Nat × Value)} (hp:place i = some (off,size)) (hs:v.cells.size = size) (hb:off+size≤cells.size) :
  Instr.fill place cells ((i,v)::rest) = Instr.fill place (splice cells.toList off v.cells.toList).toArray rest:=by
 subst hs;rw [Instr.fill];simp only [hp];have e:¬ (off+v.cells.size > cells.size):=by omega
 simp only [e,decide_false,ne_eq,not_true_eq_false,Bool.or_self,Bool.false_eq_true,if_false];congr 1;have:=c4g v.cells.toList 0 off cells (by simp; omega);rw [Nat.add_zero] at this;rw [← this,← Array.toList_zipIdx,Array.foldl_toList]
theorem d1U:∀ (ls:List L) (l:Nat) (q:List L),l+q.length≤ls.length→over ls l q = splice ls l q
 | ls,0,[],_=>by cases ls <;> simp [over,splice]
 | [],0,_::_,h=>by simp at h
 | x::r,0,y::q,h=>by
  simp only [over,List.length_cons] at h ⊢;rw [d1U r 0 q (by omega)];simp [splice]
 | [],l+1,q,h=>by simp at h
 | x::r,l+1,q,h=>by
  simp only [over,List.length_cons] at h ⊢;rw [d1U r l q (by omega)];simp [splice,Nat.add_right_comm]

section
variable {E:Env} {F:Nat→Prop} {w:World}
theorem b7m {ls q:List L} {l:Nat} (h:l+q.length≤ls.length) (hz:sizes q = sizes ((ls.drop l).take q.length)):sizes (splice ls l q) = sizes ls:=by
 have e:ls = ls.take l++((ls.drop l).take q.length++ls.drop (l+q.length)):=by
  rw [← List.drop_drop,List.take_append_drop,List.take_append_drop]
 conv=>rhs; rw [e]
 simp [splice,b7s,hz]
theorem b6h {ls q:List L} {cs d:List Value} {l:Nat} (h:RepLs E F w ls cs) (hq:RepLs E F w q d) (hl:l+q.length≤ls.length) (hz:sizes q = sizes ((ls.drop l).take q.length)) :
  RepLs E F w (splice ls l q) (splice cs (((sizes ls).take l).sum) d)∧(((sizes ls).take l).sum)+d.length≤cs.length:=by
 have e:ls = ls.take l++((ls.drop l).take q.length++ls.drop (l+q.length)):=by
  rw [← List.drop_drop,List.take_append_drop,List.take_append_drop]
 have hh:=h;rw [e] at hh;obtain ⟨c1,c',rfl,h1,h2⟩:=hh.split;obtain ⟨c2,c3,rfl,h3,h4⟩:=h2.split;have l1:c1.length = ((sizes ls).take l).sum:=by rw [a4m h1,b8y]
 have l2:c2.length = d.length:=by rw [a4m h3,a4m hq,hz]
 refine ⟨?_,by simp; omega⟩
 unfold splice;rw [← l1,List.take_left',← l2,← List.length_append,← List.append_assoc c1 c2 c3,List.drop_left']
 · exact h1.append (hq.append h4)
 · rfl
 · rfl
theorem d8R {x:V} {v:Value} {ls:List L} (h:RepV E F w x v) (hc:x.cls = some ls):RepLs E F w ls v.cells.toList:=by
 cases x with
 | one l =>
  have:ls = [l]∧RepW E F w (.one l) v∧∀ n,l≠.any n:=by
   cases l <;> simp only [V.cls,Option.some.injEq,reduceCtorEq] at hc <;> exact ⟨hc.symm,h,by simp⟩
  obtain ⟨rfl,h,hn⟩:=this;have h:=of_one hn h;have hv:v.cells = #[v]:=by
   have:=h.1;cases v <;> simp [cellOk] at this <;> rfl
  rw [hv];exact All.one.2 h.2
 | agg q =>
  simp only [V.cls,Option.some.injEq] at hc; subst hc;obtain ⟨cs,rfl,h⟩:=h;exact h
 | tup vs=>simp [V.cls] at hc
end

/-! A new block -/
def boxEI (b:Nat) (ls:List L):EI:={ blk:=b,base:=0,len:=0,cap:=0,esz:=0,nil:=false,loff:=fun i=>((sizes ls).take i).sum,eoff:=fun _=>0 }
def arrEI (b n c:Nat) (t:Ty):EI:={ blk:=b,base:=0,len:=n,cap:=c,esz:=t.sz,nil:=false,loff:=fun _=>0,eoff:=lOff t }
structure NewW (w w':World) (o:Go.Obj):Prop where
 os:w'.os = w.os
 tape:w'.tape = w.tape
 output:w'.output = w.output
 heap:w'.heap = w.heap.push o
theorem NewW.alloc (w:World) (o:Go.Obj):NewW w (w.alloc o) o:=⟨rfl,rfl,rfl,rfl⟩
theorem NewW.drew (w:World) (o:Go.Obj):NewW w (w.drew.alloc o) o:=⟨rfl,rfl,rfl,rfl⟩
theorem NewW.last {w w':World} {o:Go.Obj} (h:NewW w w' o):w'.heap[w.heap.size]? = some o:=by rw [h.heap]; simp
theorem NewW.old {w w':World} {o:Go.Obj} (h:NewW w w' o) {b:Nat} (hb:b < w.heap.size):w'.heap[b]? = w.heap[b]?:=by
 rw [h.heap,Array.getElem?_push_lt hb,Array.getElem?_eq_getElem hb]
theorem NewW.size {w w':World} {o:Go.Obj} (h:NewW w w' o):w'.heap.size = w.heap.size+1:=by rw [h.heap]; simp
theorem NewW.at_ {w w':World} {cs:Array Value} {t:TypeId} {fr:Nat × Nat} (h:NewW w w' (.cells cs t fr)) {c d:List Value} (e:cs.toList = c++d):At w' w.heap.size 0 c:=by
 intro j u hj;have hlt:=(List.getElem?_eq_some_iff.1 hj).1;rw [Nat.zero_add];simp only [World.cell?,h.last];simp only [Option.isSome_none,Bool.false_eq_true,if_false];rw [← Array.getElem?_toList,e,List.getElem?_append_left hlt];exact hj

section
variable {P:Program} {ok:Nat→List DV→List DV→Prop} {cx:Cx} {hi:Hi} {o:Oper} {C:Frm} {A:Nat→Prop} {E:Env} {F:Nat→Prop} {s:St} {a:Act} {w w':World} {wr:Wr} {K:Act→World→Prop} {Q:Exit→Act→World→Prop}
theorem d2J (k:Nat) (o:Obj) (s:St):apply [(.ob k,.o o)] s = { s with ob:=putO s.ob k o }:=rfl
theorem d8u {key:Nat} {obj:Obj} {e:EI} {x:V} {v:Value} {ho:Go.Obj} (hrun:(execOp a.eval o).run P w = .ok (.value v) w') (hw:NewW w w' ho)
  (h:Ev ok (fin hi o.dst [(.ob key,.o obj)] x) s wr) (hm:Mem C A E F s.ob w) (ht:Tms E F s.tm a w) (hA:∀ k,key≤k→k < key+stride→¬ A k)
  (hblk:e.blk = w.heap.size) (hrp:∀ hx:Ext E F w (E.set key e) F w',RepO (E.set key e) F w' e obj) (hv:∀ hx:Ext E F w (E.set key e) F w',RepV (E.set key e) F w' x v)
  (hK:∀ a' w',Rel C (fun k=>A k∨(key≤k∧k < key+stride)) (apply wr s) a' w'→K a' w'):o.wp P a w K Q:=by
 unfold Oper.wp;rw [hrun];have hk:¬ E.al key:=fun h=>hA key (Nat.le_refl _) (by simp [stride]) (hm.al _ h)
 obtain ⟨m,hx⟩:=hm.new (w':=w') hk (e:=e) (o:=obj) hw.os hw.tape hw.output hw.size (fun b hb=>hw.old hb) (fun _=>hblk) hrp;refine hK _ _ (b2s h (E':=E.set key e) (F':=F) ?_ ?_ (hv hx))
 ·
  rw [d2J];exact m.mono fun k hk=>hk.imp id fun e=>by subst e; exact ⟨Nat.le_refl _,by simp [stride]⟩
 · rw [d2J]; exact ht.ext hx
theorem e2a (b:Nat) (ls:List L):Steps (boxEI b ls).loff 0 (sizes ls):=by
 intro d hd;simp [boxEI]
theorem e3p {key:Nat} {ls:List L} {cs:Array Value} {ty:TypeId} {lay:List Nat} (hl:lay = sizes ls) (hrun:(execOp a.eval o).run P w = .ok (.value (.pointer (some ⟨w.heap.size,0,none⟩))) (w.alloc (.cells cs ty)))
  (h:Ev ok (fin hi o.dst [(.ob key,.o (.box ls))] (.one (.ptr key 0 lay))) s wr) (hm:Mem C A E F s.ob w) (ht:Tms E F s.tm a w) (hA:∀ k,key≤k→k < key+stride→¬ A k)
  (hr:RepLs E F w ls cs.toList)
  (hK:∀ a' w',Rel C (fun k=>A k∨(key≤k∧k < key+stride)) (apply wr s) a' w'→K a' w'):o.wp P a w K Q:=by
 subst hl;have hw:=NewW.alloc w (.cells cs ty);refine d8u (e:=boxEI w.heap.size ls) hrun hw h hm ht hA rfl (fun hx=>?_) (fun hx=>?_) hK
 ·
  refine ⟨cs.toList,ty,⟨cs,(0,0),hw.last,by simp [boxEI],fun o ho=>by unfold World.frozen?; have:=hw.last; simp only [boxEI]; rw [this]; simp⟩,hr.ext hx,fun hf=>?_,fun i _=>by simp [boxEI]⟩
  have:=hm.fb _ hf;simp [boxEI] at this
 ·
  refine ⟨trivial,.inr rfl,?_,?_⟩
  · rw [Env.set_self]; simp [boxEI]
  · rw [Env.set_self]; exact e2a _ _
theorem e5u (hti:TIok P cx) {t:TypeId} (ho:o.op = .alloc t):OpP P ok cx hi o:=by
 intro C rg ix key A s a w wr K Q h hr hA hK;simp only [opSem,ho] at h;obtain ⟨E,F,hm,ht⟩:=hr;obtain ⟨i,hi',h⟩:=Cx.t_ev h;have hT:=hti t i hi';obtain ⟨f,z,f1,f2,f3,f4,f5⟩:=hT.inf;refine e3p hT.lay ?_ h hm ht hA (b7y _ _ f4) hK (cs:=z.cells) (ty:=t);simp [execOp,ho,Instr.alloc,zeroValue,typeInfo,f1,f3,newVar,newRow]
theorem e8V (hti:TIok P cx) {t:TypeId} {x:Operand} (ho:o.op = .box t x):OpP P ok cx hi o:=by
 intro C rg ix key A s a w wr K Q h hr hA hK;simp only [opSem,ho] at h;obtain ⟨E,F,hm,ht⟩:=hr;obtain ⟨i,hi',h⟩:=Cx.t_ev h;obtain ⟨X,h1,h2⟩:=a6A h ht;split at h2
 ·
  rename_i vl hvl;split at h2
  ·
   rename_i hz;have hz:=a1c hz;refine e3p hz.symm ?_ h2 hm ht hA (d8R h1 hvl) hK (cs:=(a.eval x).cells) (ty:=t);simp [execOp,ho,Instr.box,newVar,newRow]
  · exact h2.fail.elim
 · exact h2.fail.elim

/-! Data out of leaves -/
section
variable {α:Type} {r:α}
def hasBlk (e:EI):Obj→Prop
 | .dead=>False
 | .box _=>True
 | .arr _ _ _=>e.nil = false
def plus (ob:List (Nat × Obj)) (E:Env) (F:Nat→Prop) (ks:List Nat) (b:Nat):Prop:=F b∨∃ k∈ks,hasBlk (E.e k) (lookO ob k)∧(E.e k).blk = b
theorem b2Z {ob:List (Nat × Obj)} {ks ks':List Nat} (h:∀ k∈ks,k∈ks'):∀ b,plus ob E F ks b→plus ob E F ks' b:=fun b hb=>hb.imp id fun ⟨k,h1,h2⟩=>⟨k,h k h1,h2⟩
theorem RepD.mono {F':Nat→Prop} (h:∀ b,F b→F' b) {t:Ty} {v:Den t} {cs:List Value} (hr:RepD F w t v cs):RepD F' w t v cs:=RepD.ext h (fun _ _ _ _ h=>h) hr
def RepS (F G:Nat→Prop) (w:World) (t:Ty) (xs:List (Den t)) (cs:List Value):Prop:=∃ ad cap,cs = [.slice ad xs.length cap]∧xs.length≤cap ∧
 (xs = []∨∃ b o ds,ad = some ⟨b,o,none⟩∧G b∧All (fun x c=>RepD F w t x c) xs ds∧At w b o ds)
theorem RepS.data {G:Nat→Prop} {t:Ty} {xs:List (Den t)} {cs:List Value} (h:RepS F G w t xs cs) (hF:∀ b,F b→G b):RepD G w (.sl t) xs cs:=by
 obtain ⟨ad,cap,h1,h2,h3⟩:=h;rw [RepD];exact ⟨ad,cap,h1,h2,h3.imp id fun ⟨b,o,ds,k1,k2,k3,k4⟩=>⟨b,o,ds,k1,k2,k3.imp fun x c hc=>hc.mono hF,k4⟩⟩
theorem RepS.of {G:Nat→Prop} {t:Ty} {xs:List (Den t)} {cs:List Value} (h:RepD F w (.sl t) xs cs) (hF:∀ b,F b→G b):RepS F G w t xs cs:=by
 rw [RepD] at h;obtain ⟨ad,cap,h1,h2,h3⟩:=h;exact ⟨ad,cap,h1,h2,h3.imp id fun ⟨b,o,ds,k1,k2,k3,k4⟩=>⟨b,o,ds,k1,hF b k2,k3,k4⟩⟩
theorem e5V {e:EI} {off n:Nat} {t:Ty} {xs:List (Den t)} {ds:List Value} {cs:List Value} {F':Nat→Prop} (hb:e.nil = false→F' e.blk) (hw:Win e off n cs) (hlen:xs.length = e.len) (hcap:e.len≤e.cap) (hsz:e.esz = t.sz)
  (h:All (fun x c=>RepD F w t x c) xs ds) (ha:At w e.blk e.base ds):RepS F F' w t ((xs.drop off).take n) cs:=by
 obtain ⟨h1,a,rfl,h3⟩:=hw;have hl:List.length ((xs.drop off).take n) = n:=by simp; omega
 refine ⟨a,e.cap - off,by rw [hl],by rw [hl]; omega,?_⟩
 by_cases hz:n = 0
 · left; subst hz; simp
 ·
  right
  obtain ⟨g1,g2⟩:=h3 (by omega);obtain ⟨c,d,e',rfl,k1,k2⟩:=c7r (m:=n) (fun x c=>a0X) h (show off≤xs.length by omega);refine ⟨_,_,d,g2,hb g1,k2,?_⟩;have:=(ha.append.2).append.1;rw [k1,← hsz] at this;exact this
theorem d2x {k:Nat} {t:Ty} {xs:List (Den t)} {ro:Bool} {off n:Nat} {cs:List Value} {ks:List Nat} (hm:Mem C A E F s.ob w) (hobj:lookO s.ob k = .arr t xs ro) (hk:k∈ks) (hw:Win (E.e k) off n cs) :
  RepS F (plus s.ob E F ks) w t ((xs.drop off).take n) cs:=by
 obtain ⟨q1,q2,q3,q4,ds,q5,q6⟩:=a6X hm hobj;exact e5V (fun hn=>.inr ⟨k,hk,by rw [hobj]; exact hn,rfl⟩) hw q1 q2 q3 q5 q6
theorem d9A {t:Ty} {l:L} {bw:List Nat} {k:List (Den t)→List Nat→Rd α} (h:Ev ok (slD t l bw k) s r) {cs:List Value} (hm:Mem C A E F s.ob w) (hr:RepL E F w l cs) :
  ∃ xs nb,RepS F (plus s.ob E F nb) w t xs cs∧Ev ok (k xs (nb++bw)) s r:=by
 unfold slD at h;split at h
 ·
  have e:=a1A h; subst e; have h:=a0Z h;exact ⟨_,[],RepS.of hr (fun _ h=>.inl h),h⟩
 ·
  have e:=a1A h; subst e; have h:=a0Z h;exact ⟨_,[],RepS.of hr.1 (fun _ h=>.inl h),h⟩
 ·
  refine ⟨_,[],?_,h⟩;rw [RepL] at hr; subst hr;exact ⟨none,0,rfl,by simp,.inl rfl⟩
 ·
  rename_i n;have h:=h.get;simp only [look] at h;split at h
  ·
   rename_i a' xs ro hobj;simp only [Cn.o.injEq] at hobj;have e:=a1A h; subst e; have h:=a0Z h;refine ⟨_,[n],?_,h⟩;have:=d2x (ks:=[n]) hm hobj (by simp) hr.2;rw [← (a6X hm hobj).1] at this
   simpa using this
  · exact h.fail.elim
 ·
  rename_i n off;have h:=h.get;simp only [look] at h;split at h
  ·
   rename_i a' xs ro hobj;simp only [Cn.o.injEq] at hobj;have e:=a1A h; subst e; have h:=a0Z h;refine ⟨_,[n],?_,h⟩;have:=d2x (ks:=[n]) hm hobj (by simp) hr.2.2;rw [← (a6X hm hobj).1,List.take_of_length_le (by simp)] at this;exact this
  · exact h.fail.elim
 ·
  rename_i n off len;have h:=h.get;simp only [look] at h;split at h
  ·
   rename_i a' xs ro hobj;simp only [Cn.o.injEq] at hobj;have e:=a1A h; subst e; have h:=a0Z h;exact ⟨_,[n],d2x (ks:=[n]) hm hobj (by simp) hr.2,h⟩
  · exact h.fail.elim
 ·
  rename_i n l m off len;have h:=h.get;split at h
  ·
   rename_i m' a' v hobj;obtain ⟨bl,hb,hx⟩:=e5p hobj;split at h
   ·
    rename_i hmb;simp only [Bool.and_eq_true,Nat.beq_eq] at hmb;obtain ⟨rfl,hsc⟩:=hmb;have e:=a1A h; subst e; have h:=a0Z h;refine ⟨_,[n],?_,h⟩;obtain ⟨c,k1,k2⟩:=d2i hm hb hx;rw [RepL,RepD] at k1;obtain ⟨g1,g2⟩:=k1;obtain ⟨p1,p2,ad,cap,rfl,p4,p5⟩:=hr;have hl:List.length ((List.drop off v).take len) = len:=by simp; omega
    refine ⟨ad,cap,by rw [hl],by rw [hl]; exact p4,?_⟩
    by_cases hz:len = 0
    · left; subst hz; simp
    ·
     right
     obtain ⟨c',d,e',rfl,q1,q2⟩:=c7r (m:=len) (fun x c=>a0X) g2 (show off≤List.length v by omega);refine ⟨_,_,d,p5 (by omega),.inr ⟨n,by simp,by rw [hb]; trivial,rfl⟩,q2,?_⟩
     have:=(k2.append.2).append.1;rw [q1,b7t hsc,Nat.mul_one] at this;exact this
   · exact h.fail.elim
  · exact h.fail.elim
 · exact h.fail.elim
end
end
end Go.Proofs.Zz

/- Data out of leaves; conversions; values built; slices made. -/
namespace Go.Proofs.Zz
open Go

section
variable {P:Program} {ok:Nat→List DV→List DV→Prop} {cx:Cx} {hi:Hi} {o:Oper} {C:Frm} {A:Nat→Prop} {E:Env} {F:Nat→Prop} {s:St} {w:World} {α:Type} {r:α}
theorem e5s (hm:Mem C A E F s.ob w):∀ {t:Ty} {ls:List L} {bw:List Nat} {k:Den t→List L→List Nat→Rd α},Ev ok (pk t ls bw k) s r→∀ {cs:List Value},RepLs E F w ls cs →
  ∃ v q nb c d,cs = c++d∧RepD (plus s.ob E F nb) w t v c∧RepLs E F w q d∧Ev ok (k v q (nb++bw)) s r∧sizes ls = sizes (unpk t (zeroD t))++sizes q:=by
 intro t;induction t with
 | unit=>intro ls bw k h cs hr; rw [pk] at h; exact ⟨(),ls,[],[],cs,rfl,by rw [RepD],hr,h,rfl⟩
 | pair a b iha ihb =>
  intro ls bw k h cs hr;rw [pk] at h;obtain ⟨x,q,nb,c,d,rfl,h1,h2,h3,hz1⟩:=iha h hr;obtain ⟨y,q',nb',c',d',rfl,h4,h5,h6,hz2⟩:=ihb h3 h2;refine ⟨(x,y),q',nb'++nb,c++c',d',by simp,?_,h5,by rw [List.append_assoc]; exact h6,by simp only [unpk,zeroD,b7s,hz1,hz2,List.append_assoc]⟩
  rw [RepD];exact ⟨c,c',rfl,h1.mono (b2Z (by simp +contextual)),h4.mono (b2Z (by simp +contextual))⟩
 | sl a =>
  intro ls bw k h cs hr;cases ls with
  | nil=>exact Ev.fail h |>.elim
  | cons l q =>
  have h:Ev ok (slD a l bw fun xs bw=>k xs q bw) s r:=h;obtain ⟨c,d,rfl,h1,h2⟩:=hr;obtain ⟨xs,nb,h3,h4⟩:=d9A h hm h1;refine ⟨xs,q,nb,c,d,rfl,h3.data (fun _ h=>.inl h),h2,h4,?_⟩;obtain ⟨ad,cap,rfl,_⟩:=h3;have:=b5g h1;simp only [List.length_singleton] at this;show l.size::sizes q = 1::sizes q;rw [← this]
 | int i =>
  intro ls bw k h cs hr;unfold pk at h;split at h <;> try (first | contradiction | exact h.fail.elim)
  rename_i e; cases e;have e:=c1e h; subst e; have h:=b7B h;obtain ⟨c,d,rfl,h1,h2⟩:=hr;exact ⟨_,_,[],c,d,rfl,RepD.mono (fun _ h=>.inl h) h1,h2,h,rfl⟩
 | nl =>
  intro ls bw k h cs hr;unfold pk at h;split at h <;> try (first | contradiction | exact h.fail.elim)
  ·
   have e:=c1e h; subst e; have h:=b7B h;obtain ⟨c,d,rfl,h1,h2⟩:=hr;exact ⟨_,_,[],c,d,rfl,RepD.mono (fun _ h=>.inl h) h1,h2,h,rfl⟩
  ·
   obtain ⟨c,d,rfl,h1,h2⟩:=hr;exact ⟨_,_,[],c,d,rfl,by rw [RepL] at h1; rw [RepD]; exact h1,h2,h,rfl⟩
 | bool =>
  intro ls bw k h cs hr;unfold pk at h;split at h <;> try (first | contradiction | exact h.fail.elim)
  have e:=c1e h; subst e; have h:=b7B h;obtain ⟨c,d,rfl,h1,h2⟩:=hr;exact ⟨_,_,[],c,d,rfl,RepD.mono (fun _ h=>.inl h) h1,h2,h,rfl⟩
 | str =>
  intro ls bw k h cs hr;unfold pk at h;split at h <;> try (first | contradiction | exact h.fail.elim)
  have e:=c1e h; subst e; have h:=b7B h;obtain ⟨c,d,rfl,h1,h2⟩:=hr;exact ⟨_,_,[],c,d,rfl,RepD.mono (fun _ h=>.inl h) h1,h2,h,rfl⟩
 | ar n a ih =>
  intro ls bw k h cs hr;cases ls with
  | nil=>exact Ev.fail h |>.elim
  | cons l q =>
  cases l with
  | dat t v =>
  have h:Ev ok (cast? t (.ar n a) v fun x=>k x q bw) s r:=h;have e:=c1e h; subst e; have h:=b7B h;obtain ⟨c,d,rfl,h1,h2⟩:=hr;exact ⟨_,_,[],c,d,rfl,RepD.mono (fun _ h=>.inl h) h1,h2,h,rfl⟩
  | _=>exact Ev.fail h |>.elim
theorem RepD.plus_nil {t:Ty} {v:Den t} {c:List Value} (h:RepD (plus s.ob E F []) w t v c):RepD F w t v c:=h.mono fun b hb=>hb.elim id fun ⟨k,hk,_⟩=>by simp at hk

/-! Conversions -/
theorem d1z:∀ {xs:List Int} {ds:List Value},All (fun x c=>RepD F w (.int .u8) x c) xs ds→ds = xs.map (Value.int .u8)
 | [],_,h=>h
 | x::r,_,⟨c,d,rfl,h1,h2⟩=>by
  have h1:c = [Value.int .u8 x]:=by unfold RepD at h1; exact h1
  subst h1;rw [d1z h2]; rfl
theorem d1O:∀ (l:List Int) (r:ByteArray),l.foldl (fun r n=>r.push (UInt8.ofNat n.toNat)) r = ⟨r.data++(l.map fun n=>UInt8.ofNat n.toNat).toArray⟩
 | [],r=>by simp
 | b::l,r=>by
  simp only [List.foldl_cons,List.map_cons];rw [d1O l];simp [ByteArray.push]
theorem d2e {xs:List Int} {v:Value} {src dst e:TypeId} (hs:P.underlying src = some (.slice e)) (he:P.underlying e = some (.int .u8)) (hd:P.underlying dst = some .string) {F':Nat→Prop}
  (h:RepD F' w (.sl (.int .u8)) xs [v]):(convert src dst v).run P w = .ok (.string (strOf xs)) w:=by
 rw [RepD] at h;obtain ⟨ad,cap,h1,h2,h3⟩:=h;simp only [List.cons.injEq,and_true] at h1;subst h1;rw [run_convert_bytes_string w src dst e ad _ cap hs he hd];have nil:(xs:List Int) = []→(Conv.bytesToString (.slice none 0 cap)).run P w = .ok (.string (strOf xs)) w:=by
  rintro rfl
  simp [Conv.bytesToString,strOf];rfl
 rcases h3 with rfl | ⟨b,oo,ds,rfl,h4,h5,h6⟩
 ·
  cases ad with
  | none=>exact nil rfl
  | some ad =>
   have hl:=run_loadCells_list (P:=P) w ad [] (by simp);rw [List.length_nil] at hl;have:=run_bytesToString (P:=P) w ad 0 cap [] (by simpa using hl);exact this
 ·
  have h5:=d1z h5;subst h5;have hl:=run_loadCells_list (P:=P) w ⟨b,oo,none⟩ (List.map (Value.int .u8) xs) (fun j u hj=>by rw [a8f]; exact h6 j u hj);rw [List.length_map] at hl;rw [run_bytesToString w ⟨b,oo,none⟩ _ cap xs (by simpa using hl),d1O];simp [strOf]
theorem c8y (s:ByteArray):All (fun x c=>RepD F w (.int .u8) x c) (bytesOf s) ((bytesOf s).map (Value.int .u8)):=by
 induction bytesOf s with
 | nil=>rfl
 | cons x r ih=>exact ⟨[_],_,rfl,by unfold RepD; rfl,ih⟩
theorem e1c (hti:TIok P cx) {t u:TypeId} {x:Operand} (ho:o.op = .convert t u x):OpP P ok cx hi o:=by
 intro C rg ix key A s a w wr K Q h hr hA hK;simp only [opSem,ho] at h;obtain ⟨E,F,hm,ht⟩:=hr;obtain ⟨i,hi',h⟩:=Cx.t_ev h;have hT:=hti t i hi';obtain ⟨j,hj',h⟩:=Cx.t_ev h;have hU:=hti u j hj';obtain ⟨X,h1,h2⟩:=a6A h ht;obtain ⟨dt,hdt,_⟩:=hT.und;have run:∀ v,(convert t u (a.eval x)).run P w = .ok v w→(execOp a.eval o).run P w = .ok (.value v) w:=by
  intro v hv;simp only [execOp,ho,Sem.run_bind,hv];rfl
 have run':∀ {v w'},(convert t u (a.eval x)).run P w = .ok v w'→(execOp a.eval o).run P w = .ok (.value v) w':=by
  intro v w' hv;simp only [execOp,ho,Sem.run_bind,hv];rfl
 unfold convS at h2;split at h2
 ·
  rename_i k k' n htd;have hx:=a7x h1;refine a0I (run _ ?_) h2 hm ht (a1K _ _) hK;rw [hx];simp [convert,run_underlying hdt,run_underlying (hU.int htd),Conv.intToInt]
 ·
  rename_i sv htd;have hx:=c5s h1;refine a0I (run _ ?_) h2 hm ht (c8E _) hK;rw [hx];simp [convert,run_underlying hdt,run_underlying (hU.str htd)]
 ·
  rename_i k' n htd;have hx:=a7x h1;refine a0I (run _ ?_) h2 hm ht (c8E _) hK;rw [hx];simp [convert,run_underlying hdt,run_underlying (hU.str htd),Conv.intToString]
 ·
  rename_i l _ _ htd;split at h2
  ·
   rename_i hts hety;obtain ⟨e,hu,_⟩:=hT.slice hts;have he:=hT.by8 e hu hety;obtain ⟨xs,nb,h3,h4⟩:=d9A h2 hm (cs:=[a.eval x]) (by cases l <;> first | exact Ev.fail h2 |>.elim | exact h1.2);exact a0I (run _ (d2e hu he (hU.str htd) (h3.data (fun _ h=>.inl h)))) h4 hm ht (c8E _) hK
  · exact h2.fail.elim
 ·
  rename_i sv htd;have hx:=c5s h1;split at h2
  ·
   rename_i hts hety;obtain ⟨e,hu,f,z,f1,f2,f3,f4,f5⟩:=hU.slice htd;have he:=hU.by8 e hu hety;rcases h2.ite with ⟨hb,h2⟩ | ⟨_,h2⟩
   ·
    have hc:sv.size≤grownCap w sv.size 0 e:=grownCap_ge w sv.size 0 e;have hlen:(bytesOf sv).length = sv.size:=by simp [bytesOf]
    have hw:=NewW.drew w (.cells (bytesRow sv (grownCap w sv.size 0 e)) e ((bytesRow sv (grownCap w sv.size 0 e)).size,(bytesRow sv (grownCap w sv.size 0 e)).size+1));refine d8u (e:=arrEI w.heap.size sv.size (grownCap w sv.size 0 e) (.int .u8)) (v:=.slice (some ⟨w.heap.size,0,none⟩) sv.size (grownCap w sv.size 0 e)) (run' ?_) hw h2 hm ht hA rfl (fun hx'=>?_) (fun hx'=>?_) hK
    · rw [hx]; exact run_bytes_of_string w t u e sv (hT.str hts) hu he
    ·
     refine ⟨hlen,hc,rfl,fun _=>rfl,fun h=>by simp [arrEI] at h,fun _=>⟨_,_,_,(bytesOf sv).map (Value.int .u8),hw.last,?_,c8y sv,?_,fun _=>⟨fun hf=>?_,?_⟩,fun h=>by simp at h⟩⟩
     ·
      have e1:sv.data.size = sv.size:=rfl;simp only [arrEI,bytesRow,Ty.sz,Array.size_append,Array.size_map,Array.size_replicate,e1];omega
     · exact hw.at_ (d:=List.replicate (grownCap w sv.size 0 e - sv.size) (.int .u8 0)) (by simp [bytesRow,bytesOf])
     · have:=hm.fb _ hf; simp [arrEI] at this
     ·
      intro oo ho;simp only [World.frozen?,arrEI,hw.last];simp only [Bool.and_eq_false_iff,decide_eq_false_iff_not];left; omega
    ·
     refine a3n ⟨.inr rfl,?_⟩;rw [Env.set_self];exact ⟨by simp [arrEI],_,rfl,fun _=>⟨rfl,by simp [arrEI]⟩⟩
   · exact h2.fail.elim
  · exact h2.fail.elim
 · exact h2.fail.elim
end
end Go.Proofs.Zz
