import Derived.Test.YtnfpdmhdpeffjaaGreatEngP
set_option linter.unusedSimpArgs false
set_option linter.unusedVariables false
/- Values built of parts; slices built and made. -/
namespace Go.Proofs.Zz
open Go

section
variable {P:Program} {ok:Nat→List DV→List DV→Prop} {cx:Cx} {hi:Hi} {o:Oper} {C:Frm} {A:Nat→Prop} {E:Env} {F:Nat→Prop} {s:St} {a:Act} {w:World} {α:Type} {r:α} {wr:Wr}
abbrev PartsOk (E:Env) (F:Nat→Prop) (w:World):List (Nat × V)→List (Nat × Value)→Prop:=All2 fun (p:Nat × V) (q:Nat × Value)=>p.1 = q.1∧RepV E F w p.2 q.2
theorem d4D:∀ {fs:List Field} {fl:List (Nat × List Nat)} {lay:List Nat},fsOk P fs fl lay = true →
  ∃ places,fs.mapM (fun f=>(P.info? f.type).map fun i=>(f.offset,i.size)) = some places∧∀ (j d:Nat) (z:List Nat),fl[j]? = some (d,z)→places[j]? = some ((lay.take d).sum,z.sum)∧d+z.length≤lay.length
 | [],[],_,_=>⟨[],rfl,fun j d z h=>by simp at h⟩
 | [],_::_,_,h=>by simp [fsOk] at h
 | _::_,[],_,h=>by simp [fsOk] at h
 | x::r,p::q,lay,h=>by
  simp only [fsOk,Bool.and_eq_true,Nat.beq_eq,Nat.ble_eq] at h;obtain ⟨⟨⟨⟨h1,h2⟩,h3⟩,h4⟩,h5⟩:=h;obtain ⟨places,g1,g2⟩:=d4D h5;cases hi:P.info? x.type with
  | none=>rw [hi] at h2; simp at h2
  | some y =>
   rw [hi] at h2;simp only [Bool.and_eq_true,Nat.beq_eq] at h2;refine ⟨(x.offset,y.size)::places,by simp [List.mapM_cons,hi,g1],fun j d z hj=>?_⟩
   cases j with
   | zero=>simp at hj; subst hj; exact ⟨by simp [h1,h2.1],h4⟩
   | succ j=>simp at hj; simpa using g2 j d z hj
theorem d9v {i:TI} {place:Nat→Option (Nat × Nat)} (hpl:∀ (j d:Nat) (z:List Nat),i.fl[j]? = some (d,z)→place j = some ((i.lay.take d).sum,z.sum)∧d+z.length≤i.lay.length) :
  ∀ {ps:List (Nat × V)} {qs:List (Nat × Value)} {ls ls':List L} {cells:Array Value},parts i ps ls = some ls'→PartsOk E F w ps qs→RepLs E F w ls cells.toList→sizes ls = i.lay →
  ∃ cells',Instr.fill place cells qs = some cells'∧RepLs E F w ls' cells'.toList
 | [],[],ls,ls',cells,h,_,hr,_=>by simp only [parts,Option.some.injEq] at h; subst h; exact ⟨cells,rfl,hr⟩
 | [],_::_,_,_,_,_,h,_,_=>h.elim
 | _::_,[],_,_,_,_,h,_,_=>h.elim
 | p::r,(j,v)::q,ls,ls',cells,h,⟨⟨hj,hv⟩,hq⟩,hr,hz=>by
  simp only [parts] at h;split at h
  ·
   rename_i l lay vl hl hc;split at h
   ·
    rename_i h1 h2;have h1:=a1c h1;have h2:=a1c h2;rw [c0y] at hl;obtain ⟨g1,g2⟩:=hpl _ _ _ hl;have hvr:=d8R hv hc;have hlen:vl.length = lay.length:=by rw [← h1,a6T]
    have hll:ls.length = i.lay.length:=by rw [← hz,a6T]
    have hb:l+vl.length≤ls.length:=by omega
    rw [a2G,a6C] at h2;have hsz:sizes vl = sizes ((ls.drop l).take vl.length):=by rw [h1,h2]
    obtain ⟨k1,k2⟩:=b6h hr hvr hb hsz;rw [d1U _ _ _ hb] at h;simp only at hj;rw [hj] at g1;have hvs:v.cells.size = lay.sum:=by
     have:=a4m hvr;rw [h1] at this; simpa using this
    rw [hz] at k1 k2;rw [d5M g1 hvs (by simp at k2; omega)];exact d9v hpl h hq (by simpa using k1) (by rw [b7m hb hsz,hz])
   · simp at h
  · simp at h
theorem d3r {t : Ty} (hm : Mem C A E F s.ob w) : ∀ {ps : List (Nat × V)} {qs : List (Nat × Value)} {xs : List (Den t)} {k : List (Den t) → Rd Wr} {cells : Array Value} {wr : Wr}, Ev ok (elems t ps xs k) s wr → PartsOk E F w ps qs → All (fun x c => RepD F w t x c) xs cells.toList →
    ∃ xs' cells', Instr.fill (fun i => some (i * t.sz, t.sz)) cells qs = some cells' ∧ cells'.size = cells.size ∧ xs'.length = xs.length ∧ All (fun x c => RepD F w t x c) xs' cells'.toList ∧ Ev ok (k xs') s wr
  | [], [], xs, k, cells, wr, h, _, hr => ⟨xs, cells, rfl, rfl, rfl, hr, h⟩
  | [], _ :: _, _, _, _, _, _, h, _ => h.elim
  | _ :: _, [], _, _, _, _, _, h, _ => h.elim
  | p :: r, (j, v) :: q, xs, k, cells, wr, h, ⟨⟨hj, hv⟩, hq⟩, hr => by
    simp only [elems] at h
    split at h
    · rename_i vl hc
      obtain ⟨y, q', nb, c, d, e, h1, h2, h3, hsz0⟩ := e5s hm h (d8R hv hc)
      split at h3
      · rename_i hnb hlt
        have hnb : nb = [] := by simpa using hnb
        subst hnb
        have hd : d = [] := h2
        subst hd
        rw [List.append_nil] at e
        have h1 := h1.plus_nil
        simp only at hj
        subst hj
        have hlt : p.1 < xs.length := by have : p.1 + 1 ≤ xs.length := by simpa [Nat.blt] using hlt
                                         omega
        obtain ⟨c1, d1, e1, k1, k2, k3, k4⟩ := hr.set (fun x c => a0X) hlt h1
        have hcl : c.length = t.sz := a0X h1
        have hvs : v.cells.size = t.sz := by rw [← hcl, ← e]; simp
        have hsp : splice cells.toList (p.1 * t.sz) v.cells.toList = c1 ++ (c ++ e1) := by
          rw [k1, e, splice, ← k2, List.take_left', List.append_cancel_left_eq, List.append_cancel_left_eq, hcl, ← k3, ← List.append_assoc, ← List.length_append, List.drop_left']
          · rfl
          · rfl
        have hsize : p.1 * t.sz + t.sz ≤ cells.size := by
          have := congrArg List.length k1
          simp only [List.length_append, Array.length_toList] at this
          omega
        rw [d5M rfl hvs hsize, hsp]
        rw [a6c] at h3
        obtain ⟨xs', cells', g1, g2, g3, g4, g5⟩ := d3r hm h3 hq (cells := (c1 ++ (c ++ e1)).toArray) (by simpa using k4)
        refine ⟨xs', cells', g1, ?_, by simpa using g3, g4, g5⟩
        have := congrArg List.length k1
        simp only [List.length_append, Array.length_toList] at this
        rw [g2]; simp; omega
      · exact h3.fail.elim
    · exact h.fail.elim
theorem d2S {t:Ty} {v:Den t} {z:Array Value} (h:RepD F w t v z.toList):∀ n,All (fun x c=>RepD F w t x c) (List.replicate n v) (madeCells z (n*t.sz)).toList:=by
 have hz:z.size = t.sz:=by rw [← a0X h]; simp
 have hone:(List.range z.size).map (fun i=>z[i % z.size]!) = z.toList:=by
  apply List.ext_getElem
  · simp
  ·
   intro i h1 h2;simp at h1 h2;simp [Nat.mod_eq_of_lt h1,h1]
 intro n;induction n with
 | zero=>simp [madeCells,All]
 | succ n ih =>
  refine ⟨z.toList,(madeCells z (n*t.sz)).toList,?_,h,ih⟩;rw [← hz];simp only [madeCells,Array.toList_map,Array.toList_range,Nat.succ_mul,Nat.add_comm (n*z.size),List.range_add,List.map_append,List.map_map,hone];congr 2;funext i;simp
theorem e5U (hti:TIok P cx) {t:TypeId} {ps:Array (Nat × Operand)} (ho:o.op = .build t ps):OpP P ok cx hi o:=by
 intro C rg ix key A s a w wr K Q h hr hA hK;simp only [opSem,ho] at h;obtain ⟨E,F,hm,ht⟩:=hr;obtain ⟨i,hi',h⟩:=Cx.t_ev h;have hT:=hti t i hi';obtain ⟨xs,h1,h2⟩:=c3P h ht;obtain ⟨f,z,f1,f2,f3,f4,f5⟩:=hT.inf;have run:∀ cells,P.built t (ps.toList.map fun p=>(p.1,a.eval p.2)) = some cells→(execOp a.eval o).run P w = .ok (.value (.agg cells)) w:=by
  intro cells hc;simp only [execOp,ho,Sem.run_bind];rw [run_build w t _ cells (by simpa using hc)];rfl
 split at h2
 ·
  rename_i htd;obtain ⟨fs,hu,hfs⟩:=hT.struct htd;split at h2
  ·
   rename_i ls hls;obtain ⟨places,g1,g2⟩:=d4D hfs;obtain ⟨cells,k1,k2⟩:=d9v (place:=fun j=>places.toArray[j]?) (fun j d z hj=>by simpa using g2 j d z hj) hls h1 (b7y _ _ f4) hT.lay.symm;refine a0I (run cells ?_) h2 hm ht ⟨cells,rfl,k2⟩ hK;simp only [Program.built,f1,hu,f3,g1];exact k1
  · exact h2.fail.elim
 ·
  rename_i htd;obtain ⟨e,hu,⟨fe,ze,e1,e2,e3,e4,e5⟩,hsc,hzk⟩:=hT.array htd;have hz:=b7y (E:=E) (F:=F) (w:=w) _ _ f4;rw [hzk] at hz;have hz:=All.one.1 (show RepLs E F w [L.dat (.ar i.n i.ety) (zeroD (.ar i.n i.ety))] _ from hz);rw [RepL,RepD] at hz;rw [d7s] at h2;obtain ⟨xs',cells,k1,k2,k3,k4,k5⟩:=d3r hm h2 h1 hz.2;refine a0I (run cells ?_) k5 hm ht ⟨cells,rfl,All.one.2 ?_⟩ hK
  · simp only [Program.built,f1,hu,f3,e1,e2,k1]
  · rw [RepL,RepD]; exact ⟨by rw [k3]; simp,k4⟩
 · exact h2.fail.elim
theorem e1L {key:Nat} {t:Ty} {xs:List (Den t)} {n c:Nat} {cs:Array Value} {ds:List Value} {d:List Value} {ty:TypeId} {w':World} {K:Act→World→Prop} {Q:Exit→Act→World→Prop} (hw:NewW w w' (.cells cs ty))
  (hrun:(execOp a.eval o).run P w = .ok (.value (.slice (some ⟨w.heap.size,0,none⟩) n c)) w')
  (h:Ev ok (fin hi o.dst [(.ob key,.o (.arr t xs false))] (.one (.own key))) s wr) (hm:Mem C A E F s.ob w) (ht:Tms E F s.tm a w) (hA:∀ k,key≤k→k < key+stride→¬ A k)
  (hn:xs.length = n) (hc:n≤c) (hcs:c*t.sz≤cs.size) (hr:All (fun x c=>RepD F w t x c) xs ds) (he:cs.toList = ds++d)
  (hK:∀ a' w',Rel C (fun k=>A k∨(key≤k∧k < key+stride)) (apply wr s) a' w'→K a' w'):o.wp P a w K Q:=by
 refine d8u (e:=arrEI w.heap.size n c t) hrun hw h hm ht hA rfl (fun hx=>?_) (fun hx=>?_) hK
 ·
  refine ⟨hn,hc,rfl,fun _=>rfl,fun h=>by simp [arrEI] at h,fun _=>⟨_,_,_,ds,hw.last,by simp [arrEI]; exact hcs,hr.imp fun x c hc=>RepD.ext hx.fz hx.wd hc,hw.at_ he,fun _=>⟨fun hf=>?_,?_⟩,fun h=>by simp at h⟩⟩
  · have:=hm.fb _ hf; simp [arrEI] at this
  ·
   intro oo ho;simp only [World.frozen?,arrEI,hw.last];simp
 ·
  refine a3n ⟨.inr rfl,?_⟩;rw [Env.set_self];exact ⟨by simp [arrEI],_,rfl,fun _=>⟨rfl,by simp [arrEI]⟩⟩
theorem d2t (hti:TIok P cx) {t:TypeId} {n:Nat} {ps:Array (Nat × Operand)} (ho:o.op = .buildSlice t n ps):OpP P ok cx hi o:=by
 intro C rg ix key A s a w wr K Q h hr hA hK;simp only [opSem,ho] at h;obtain ⟨E,F,hm,ht⟩:=hr;obtain ⟨i,hi',h⟩:=Cx.t_ev h;have hT:=hti t i hi';obtain ⟨xs,h1,h2⟩:=c3P h ht;split at h2
 ·
  rename_i htd;obtain ⟨e,hu,⟨f,z,f1,f2,f3,f4,f5⟩⟩:=hT.slice htd;split at h2
  ·
   rename_i hsm;simp only [Nat.ble_eq] at hsm;rw [d7s] at h2;obtain ⟨zc,hz1,hz2⟩:=d4j (F:=F) (w:=w) _ _ _ f5;rw [List.append_nil] at hz1;rw [← hz1] at hz2;obtain ⟨xs',cells,k1,k2,k3,k4,k5⟩:=d3r hm h2 h1 (d2S hz2 n);rw [List.length_replicate] at k3;rw [size_madeCells] at k2;refine e1L (NewW.alloc w (.cells cells e)) (d:=[]) (ds:=cells.toList) ?_ k5 hm ht hA k3 (Nat.le_refl _) (by omega) k4 (by simp) hK;have hzs:n*i.ety.sz = 0→madeCells #[] (n*i.ety.sz) = madeCells z.cells (n*i.ety.sz):=fun h0=>by rw [h0]; simp [madeCells]
   have hb:¬ (16777216 < n*i.ety.sz):=by omega
   simp only [execOp,ho,Sem.run_bind];by_cases h0:n*i.ety.sz = 0
   ·
    have hk:=k1;rw [← hzs h0] at hk;simp only [madeCells] at hk;simp [Instr.buildSlice,run_underlying hu,sizeOf,typeInfo,f1,f2,hb,h0,newRow] at hk ⊢;simp [hk]
   ·
    simp only [madeCells] at k1;simp [Instr.buildSlice,run_underlying hu,sizeOf,typeInfo,zeroValue,f1,f2,f4,hb,h0,newRow,k1]
  · exact h2.fail.elim
 · exact h2.fail.elim
theorem e7y {t e:TypeId} {f:TypeInfo} {z:Value} {T:Ty} {eby:Nat} (hu:P.underlying t = some (.slice e)) (f1:P.info? e = some f) (f4:f.zero = some z) (f2:f.size = T.sz) (f3:f.bytes = eby) (hz:RepD F w T (zeroD T) z.cells.toList)
  {n c:Int} (hb:decide (0≤n∧n≤c∧c*(eby:Int)≤(reach:Int)∧c≤(reach:Int)) = true) :
  ∃ cs:Array Value,n.toNat≤c.toNat∧c.toNat*T.sz≤cs.size∧All (fun x c=>RepD F w T x c) (List.replicate n.toNat (zeroD T)) (madeCells z.cells (n.toNat*T.sz)).toList ∧
   cs.toList = (madeCells z.cells (n.toNat*T.sz)).toList++cs.toList.drop (n.toNat*T.sz)∧(Instr.makeSlice t (.int .i64 n) (.int .i64 c)).run P w = .ok (.slice (some ⟨w.heap.size,0,none⟩) n.toNat c.toNat) (w.alloc (.cells cs e)):=by
 obtain ⟨h0,h1,h2,h3⟩:=of_decide_eq_true hb;unfold reach at h2 h3;refine ⟨madeCells z.cells (c.toNat*f.size),by omega,by rw [size_madeCells,f2]; exact Nat.le_refl _,d2S hz _,?_,run_make w t e f z hu f1 f4 .i64 .i64 n c h0 h1 (by rw [f3,Int.mul_comm]; omega) (by omega)⟩
 rw [f2];obtain ⟨d,hd⟩:∃ d,c.toNat*T.sz = n.toNat*T.sz+d:=Nat.exists_eq_add_of_le (Nat.mul_le_mul_right _ (by omega))
 rw [hd];have hl:(madeCells z.cells (n.toNat*T.sz)).toList.length = n.toNat*T.sz:=by simp [size_madeCells]
 have hp:(madeCells z.cells (n.toNat*T.sz+d)).toList = (madeCells z.cells (n.toNat*T.sz)).toList++((List.range d).map (n.toNat*T.sz+·)).map (fun i=>z.cells[i % z.cells.size]!):=by
  simp only [madeCells,Array.toList_map,Array.toList_range,List.range_add,List.map_append]
 rw [hp,List.drop_left' hl]
theorem d6d (hti:TIok P cx) {t:TypeId} {x y:Operand} (ho:o.op = .makeSlice t x y):OpP P ok cx hi o:=by
 intro C rg ix key A s a w wr K Q h hr hA hK;simp only [opSem,ho] at h;obtain ⟨E,F,hm,ht⟩:=hr;obtain ⟨i,hi',h⟩:=Cx.t_ev h;have hT:=hti t i hi';obtain ⟨X,h1,h2⟩:=a6A h ht;split at h2
 ·
  rename_i n;have hn:=a7x h1;obtain ⟨Y,h3,h4⟩:=a6A h2 ht;split at h4
  ·
   rename_i c;have hc:=a7x h3;split at h4
   ·
    rename_i htd;obtain ⟨e,hu,⟨f,z,f1,f2,f3,f4,f5⟩⟩:=hT.slice htd;obtain ⟨zc,hz1,hz2⟩:=d4j (F:=F) (w:=w) _ _ _ f5;rw [List.append_nil] at hz1;rw [← hz1] at hz2;rcases h4.ite with ⟨hb,h4⟩ | ⟨_,h4⟩
    ·
     obtain ⟨cs,b1,b2,b3,b4,b5⟩:=e7y (P:=P) (w:=w) hu f1 f4 f2 f3 hz2 hb;refine e1L (NewW.alloc w (.cells cs e)) ?_ h4 hm ht hA (List.length_replicate ..) b1 b2 b3 b4 hK;simp only [execOp,ho,Sem.run_bind,hn,hc,b5];rfl
    · exact h4.fail.elim
   · exact h4.fail.elim
  · exact h4.fail.elim
 · exact h2.fail.elim
end
end Go.Proofs.Zz

/- Stores. -/
namespace Go.Proofs.Zz
open Go

theorem c8J {α:Type} (x:α) (l:List α) (k:Nat) (d:List α):splice (x::l) (k+1) d = x::splice l k d:=by
 simp [splice,Nat.add_right_comm]
theorem d0i {α:Type}:∀ (l:List α) (k:Nat) (v:α) (rest:List α),k+(rest.length+1)≤l.length→splice (l.set k v) (k+1) rest = splice l k (v::rest)
 | [],_,_,_,h=>by simp at h
 | x::l,0,v,rest,h=>by
  simp only [List.set_cons_zero,c8J];simp [splice]
 | x::l,k+1,v,rest,h=>by
  simp only [List.length_cons] at h;simp only [List.set_cons_succ,c8J];rw [d0i l k v rest (by omega)]

structure SetW (w w':World) (b:Nat):Prop where
 os:w'.os = w.os
 tape:w'.tape = w.tape
 output:w'.output = w.output
 size:w'.heap.size = w.heap.size
 old:∀ k,k≠b→w'.heap[k]? = w.heap[k]?
theorem SetW.refl (w:World) (b:Nat):SetW w w b:=⟨rfl,rfl,rfl,rfl,fun _ _=>rfl⟩
theorem SetW.trans {w w' w'':World} {b:Nat} (h:SetW w w' b) (h':SetW w' w'' b):SetW w w'' b :=
 ⟨h'.os.trans h.os,h'.tape.trans h.tape,h'.output.trans h.output,h'.size.trans h.size,fun k hk=>(h'.old k hk).trans (h.old k hk)⟩
theorem d6c {w:World} {b o:Nat} {v:Value} {cs:Array Value} {t:TypeId} {fr:Nat × Nat} (h:w.heap[b]? = some (.cells cs t fr)):(w.setCell ⟨b,o,none⟩ v).heap[b]? = some (.cells (cs.setIfInBounds o v) t fr):=by
 simp [World.setCell,Array.getElem?_modify,h]
theorem d5W (w:World) (b o:Nat) (v:Value):SetW w (w.setCell ⟨b,o,none⟩ v) b:=by
 refine ⟨rfl,rfl,rfl,by simp [World.setCell],fun k hk=>?_⟩
 simp [World.setCell,Array.getElem?_modify,Ne.symm hk]
theorem a4X (b:Nat):∀ (vs:List Value) (o:Nat) (w:World),SetW w (w.setCells b o vs) b
 | [],_,w=>SetW.refl w b
 | v::r,o,w=>(d5W w b o v).trans (a4X b r (o+1) _)
theorem a4K {b:Nat} {t:TypeId} {fr:Nat × Nat}:∀ (vs:List Value) (o:Nat) (w:World) (cs:Array Value),w.heap[b]? = some (.cells cs t fr)→o+vs.length≤cs.size →
  ∃ cs':Array Value,(w.setCells b o vs).heap[b]? = some (.cells cs' t fr)∧cs'.toList = splice cs.toList o vs∧cs'.size = cs.size
 | [],o,w,cs,h,_=>⟨cs,h,by rw [d1E],rfl⟩
 | v::r,o,w,cs,h,hb=>by
  simp only [List.length_cons] at hb;obtain ⟨cs',h1,h2,h3⟩:=a4K r (o+1) _ _ (d6c (o:=o) (v:=v) h) (by simp; omega);refine ⟨cs',h1,?_,by rw [h3]; simp⟩
  rw [h2];have:=list_seg_step cs.toList o v r (by simp; omega);simp only [splice,Array.toList_setIfInBounds,List.length_cons]
  simpa [List.append_assoc] using this

section
variable {P:Program} {ok:Nat→List DV→List DV→Prop} {cx:Cx} {hi:Hi} {o:Oper} {C:Frm} {A:Nat→Prop} {E:Env} {F:Nat→Prop} {s:St} {a:Act} {w:World} {α:Type} {r:α} {wr:Wr}
theorem c3d {t : TypeId} {i : TI} (hT : TOk P t i) {b o : Nat} {v : Value} (hsz : v.cells.size = i.lay.sum) (h1 : ∀ u ∈ v.cells.toList, cellOk u)
    {cs : Array Value} {ty : TypeId} {fr : Nat × Nat} (hb : w.heap[b]? = some (.cells cs ty fr)) (ho : o + v.cells.size ≤ cs.size) (hf : ∀ j, j < cs.size → w.frozen? ⟨b, j, none⟩ = false) :
    (Instr.storeAt t (.pointer (some ⟨b, o, none⟩)) v).run P w = .ok () (w.setCells b o v.cells.toList) := by
  have hst := run_storeCells_cells (P := P) b o v.cells.toList 0 w (fun j hj => by
      simp only [World.cell?, hb]
      simp at hj
      simp; omega) (fun j hj => hf _ (by simp at hj; omega)) (fun u hu => b8t.1 (h1 u hu))
  rw [Nat.add_zero] at hst
  obtain ⟨f, z, f1, f2, _⟩ := hT.inf
  simp only [Instr.storeAt, Instr.sureAddr, storeVar, Sem.run_bind, Sem.run_pure, Result.andThen_ok, hT.sizeOf, hsz]
  simp [hst]
theorem c3B {k:Nat}:∀ (vl:List L) (l:Nat) (s:St) (bl:List L),lookO s.ob k = .box bl→l+vl.length≤bl.length →
  (apply (wrLs k l vl) s).tm = s.tm∧∀ n,lookO (apply (wrLs k l vl) s).ob n = if k = n then .box (splice bl l vl) else lookO s.ob n
 | [],l,s,bl,h,_=>⟨rfl,fun n=>by
   split
   · rename_i e; subst e; rw [d1E]; exact h
   · rfl⟩
 | x::r,l,s,bl,h,hb=>by
  simp only [List.length_cons] at hb;have e1:asg s (.lf k l) (.l x) = { s with ob:=putO s.ob k (.box (bl.set l x)) }:=by simp only [asg,h,a6c]
  simp only [wrLs,apply,e1];obtain ⟨h1,h2⟩:=c3B r (l+1) { s with ob:=putO s.ob k (.box (bl.set l x)) } (bl.set l x) (by simp only; rw [a0J,if_pos rfl]) (by simp; omega);refine ⟨h1,fun n=>?_⟩
  rw [h2 n,a0J];split
  ·
   congr 1;exact d0i bl l x r hb
  · rfl
theorem d8q {x:V} {obj:Obj} {n:Nat} {s':St} {wr':Wr} {w':World} {K:Act→World→Prop} {Q:Exit→Act→World→Prop} {key:Nat} (hw:SetW w w' (E.e n).blk)
  (hrun:(execOp a.eval o).run P w = .ok .skip w') (hwr:wr = match (motive:=Option Nat→Wr) o.dst with | none=>wr' | some d=>wr'++[(.tmp d,.v bad)])
  (htm:(apply wr' s).tm = s.tm) (hob:∀ m,lookO (apply wr' s).ob m = if n = m then obj else lookO s.ob m) (hm:Mem C A E F s.ob w) (ht:Tms E F s.tm a w)
  (hk:excl (E.e n) (lookO s.ob n)) (hlv:obj.live) (hex:excl (E.e n) obj→excl (E.e n) (lookO s.ob n)) (hrp:∀ hx:Ext E F w E F w',RepO E F w' (E.e n) obj)
  (hK:∀ a' w',Rel C (fun k=>A k∨(key≤k∧k < key+stride)) (apply wr s) a' w'→K a' w'):o.wp P a w K Q:=by
 unfold Oper.wp;rw [hrun];show K (a.put o.dst undef) w';obtain ⟨m,hx⟩:=hm.write hk hw.os hw.tape hw.output hw.size hw.old hlv hex hrp;have m:=(m.same (ob':=(apply wr' s).ob) (fun k=>by rw [hob,a0J])).mono (A':=fun k=>A k∨(key≤k∧k < key+stride)) fun _ h=>.inl h
 have ht':Tms E F (apply wr' s).tm a w':=by rw [htm]; exact ht.ext hx
 apply hK;cases hd:o.dst with
 | none =>
  rw [hd] at hwr;simp only at hwr;subst hwr;exact ⟨E,F,m,ht'.put_none undef⟩
 | some d =>
  rw [hd] at hwr;simp only at hwr;subst hwr;rw [a6y];exact ⟨E,F,m,ht'.put d c6y⟩
end
end Go.Proofs.Zz
