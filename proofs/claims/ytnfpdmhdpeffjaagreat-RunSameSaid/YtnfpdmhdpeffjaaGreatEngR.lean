import Derived.Test.YtnfpdmhdpeffjaaGreatEngN
import Derived.Deep.Upon
set_option linter.unusedSimpArgs false
set_option linter.unusedVariables false
namespace Go.Proofs.Zz
open Go
section
variable {P:Program} {ok:Nat→List DV→List DV→Prop} {cx:Cx} {hi:Hi} {o:Oper} {C:Frm} {A:Nat→Prop} {E:Env} {F:Nat→Prop} {s:St} {a:Act} {w:World} {α:Type} {r:α} {wr:Wr}
abbrev h8j (E:Env) (F:Nat→Prop) (w:World):List (Nat × V)→List (Nat × Value)→Prop:=All2 λ(p:Nat × V) (q:Nat × Value)=>p.1=q.1∧RepV E F w p.2 q.2
theorem d4D:∀{fs:List Field} {fl:List (Nat × List Nat)} {lay:List Nat},fsOk P fs fl lay=true →
  ∃places,fs.mapM (λf=>(P.info? f.type).map λi=>(f.offset,i.size))=some places∧∀(j d:Nat) (z:List Nat),fl[j]?=some (d,z)→places[j]?=some ((lay.take d).sum,z.sum)∧d+z.length≤lay.length
 | [],[],_,_=>⟨[],rfl,λj d z h=>by simp at h⟩
 | [],_::_,_,h=>by simp[fsOk]at h
 | _::_,[],_,h=>by simp[fsOk]at h
 | x::r,p::q,lay,h=>by
  simp only[fsOk,mE,nk,qB]at h;obtain⟨⟨⟨⟨h1,h2⟩,h3⟩,h4⟩,h5⟩:=h;obtain⟨places,g1,g2⟩:=d4D h5;cases hi:P.info? x.type with
  | none=>rw[hi]at h2; simp at h2
  | some y =>
   rw[hi]at h2;simp only[mE,nk]at h2;refine⟨(x.offset,y.size)::places,by simp[qN,hi,g1],λj d z hj=>?_⟩
   cases j with
   | zero=>simp at hj; subst hj; exact⟨by simp[h1,h2.1],h4⟩
   | succ j=>simp at hj; simpa using g2 j d z hj
theorem d9v {i:TI} {place:Nat→Option (Nat × Nat)} (hpl:∀(j d:Nat) (z:List Nat),i.fl[j]?=some (d,z)→place j=some ((i.lay.take d).sum,z.sum)∧d+z.length≤i.lay.length) :
  ∀{ps:List (Nat × V)} {qs:List (Nat × Value)} {ls ls':List L} {cells:Array Value},parts i ps ls=some ls'→h8j E F w ps qs→RepLs E F w ls cells.toList→ba ls=i.lay →
  ∃cells',Instr.fill place cells qs=some cells'∧RepLs E F w ls' cells'.toList
 | [],[],ls,ls',cells,h,_,hr,_=>by simp only[parts,mB]at h; subst h; exact⟨cells,rfl,hr⟩
 | [],_::_,_,_,_,_,h,_,_=>h.elim
 | _::_,[],_,_,_,_,h,_,_=>h.elim
 | p::r,(j,v)::q,ls,ls',cells,h,⟨⟨hj,hv⟩,hq⟩,hr,hz=>by
  simp only[parts]at h;split at h
  ·
   rename_i l lay vl hl hc;split at h
   ·
    rename_i h1 h2;have h1:=eU h1;have h2:=eU h2;rw[c0y]at hl;obtain⟨g1,g2⟩:=hpl _ _ _ hl;have hvr:=d8R hv hc;have hlen:vl.length=lay.length:=by rw[← h1,jD]
    have hll:ls.length=i.lay.length:=by rw[← hz,jD]
    have hb:l+vl.length≤ls.length:=by omega
    rw[ft,iE]at h2;have hsz:ba vl=ba ((ls.drop l).take vl.length):=by rw[h1,h2]
    obtain⟨k1,k2⟩:=b6h hr hvr hb hsz;rw[d1U _ _ _ hb]at h;simp only at hj;rw[hj]at g1;have hvs:v.cells.size=lay.sum:=by
     have:=iG hvr;rw[h1]at this; simpa using this
    rw[hz]at k1 k2;rw[d5M g1 hvs (by simp at k2; omega)];exact d9v hpl h hq (by simpa using k1) (by rw[b7m hb hsz,hz])
   ·simp at h
  ·simp at h
theorem d3r {t : Ty} (hm : Mem C A E F s.ob w) : ∀ {ps : List (Nat × V)} {qs : List (Nat × Value)} {xs : List (Den t)} {k : List (Den t) → Rd Wr} {cells : Array Value} {wr : Wr}, Ev ok (h7Y t ps xs k) s wr → h8j E F w ps qs → All (fun x c => RepD F w t x c) xs cells.toList →
    ∃ xs' cells', Instr.fill (fun i => some (i * t.sz, t.sz)) cells qs = some cells' ∧ cells'.size = cells.size ∧ xs'.length = xs.length ∧ All (fun x c => RepD F w t x c) xs' cells'.toList ∧ Ev ok (k xs') s wr
  | [], [], xs, k, cells, wr, h, _, hr => ⟨xs, cells, rfl, rfl, rfl, hr, h⟩
  | [], _ :: _, _, _, _, _, _, h, _ => h.elim
  | _ :: _, [], _, _, _, _, _, h, _ => h.elim
  | p :: r, (j, v) :: q, xs, k, cells, wr, h, ⟨⟨hj, hv⟩, hq⟩, hr => by
    simp only [h7Y] at h
    split at h
    · rename_i vl hc
      obtain ⟨y, q', nb, c, d, e, h1, h2, h3, hsz0⟩ := e5s hm h (d8R hv hc)
      split at h3
      · rename_i hnb hlt
        have hnb : nb = [] := by simpa using hnb
        subst hnb
        have hd : d = [] := h2
        subst hd
        rw [mJ] at e
        have h1 := h1.plus_nil
        simp only at hj
        subst hj
        have hlt : p.1 < xs.length := by have : p.1 + 1 ≤ xs.length := by simpa [Nat.blt] using hlt
                                         omega
        obtain ⟨c1, d1, e1, k1, k2, k3, k4⟩ := hr.set (fun x c => cJ) hlt h1
        have hcl : c.length = t.sz := cJ h1
        have hvs : v.cells.size = t.sz := by rw [← hcl, ← e]; simp
        have hsp : bZ cells.toList (p.1 * t.sz) v.cells.toList = c1 ++ (c ++ e1) := by
          rw [k1, e, bZ, ← k2, pF, pq, pq, hcl, ← k3, ← mQ, ← mD, pJ]
          · rfl
          · rfl
        have hsize : p.1 * t.sz + t.sz ≤ cells.size := by
          have := congrArg List.length k1
          simp only [mD, oG] at this
          omega
        rw [d5M rfl hvs hsize, hsp]
        rw [fZ] at h3
        obtain ⟨xs', cells', g1, g2, g3, g4, g5⟩ := d3r hm h3 hq (cells := (c1 ++ (c ++ e1)).toArray) (by simpa using k4)
        refine ⟨xs', cells', g1, ?_, by simpa using g3, g4, g5⟩
        have := congrArg List.length k1
        simp only [mD, oG] at this
        rw [g2]; simp; omega
      · exact h3.fail.elim
    · exact h.fail.elim
theorem d2S {t:Ty} {v:Den t} {z:Array Value} (h:RepD F w t v z.toList):∀n,All (λx c=>RepD F w t x c) (List.replicate n v) (madeCells z (n*t.sz)).toList:=by
 have hz:z.size=t.sz:=by rw[← cJ h]; simp
 have hone:(List.range z.size).map (λi=>z[i % z.size]!)=z.toList:=by
  apply List.ext_getElem
  ·simp
  ·
   intro i h1 h2;simp at h1 h2;simp[Nat.mod_eq_of_lt h1,h1]
 intro n;induction n with
 | zero=>simp[madeCells,All]
 | succ n ih =>
  refine⟨z.toList,(madeCells z (n*t.sz)).toList,?_,h,ih⟩;rw[← hz];simp only[madeCells,Array.toList_map,Array.toList_range,og,oM (n*z.size),List.range_add,mv,List.map_map,hone];congr 2;funext i;simp
theorem e5U (hti:TIok P cx) {t:TypeId} {ps:Array (Nat × Operand)} (ho:o.op=.build t ps):OpP P ok cx hi o:=by
 intro C rg ix key A s a w wr K Q h hr hA hK;simp only[cv,ho]at h;obtain⟨E,F,hm,ht⟩:=hr;obtain⟨i,hi',h⟩:=Cx.t_ev h;have hT:=hti t i hi';obtain⟨xs,h1,h2⟩:=c3P h ht;obtain⟨f,z,f1,f2,f3,f4,f5⟩:=hT.inf;have run:∀cells,P.built t (ps.toList.map λp=>(p.1,a.eval p.2))=some cells→(execOp a.eval o).run P w=.ok (.value (.agg cells)) w:=by
  intro cells hc;simp only[execOp,ho,Sem.run_bind];rw[run_build w t _ cells (by simpa using hc)];rfl
 split at h2
 ·
  rename_i htd;obtain⟨fs,hu,hfs⟩:=hT.struct htd;split at h2
  ·
   rename_i ls hls;obtain⟨places,g1,g2⟩:=d4D hfs;obtain⟨cells,k1,k2⟩:=d9v (place:=λj=>places.toArray[j]?) (λj d z hj=>by simpa using g2 j d z hj) hls h1 (j4 _ _ f4) hT.lay.symm;refine bF (run cells ?_) h2 hm ht ⟨cells,rfl,k2⟩ hK;simp only[Program.built,f1,hu,f3,g1];exact k1
  ·exact h2.fail.elim
 ·
  rename_i htd;obtain⟨e,hu,⟨fe,ze,e1,e2,e3,e4,e5⟩,hsc,hzk⟩:=hT.array htd;have hz:=j4 (E:=E) (F:=F) (w:=w) _ _ f4;rw[hzk]at hz;have hz:=All.one.1 (show RepLs E F w [L.dat (.ar i.n i.ety) (cq (.ar i.n i.ety))] _ from hz);rw[RepL,RepD]at hz;rw[d7s]at h2;obtain⟨xs',cells,k1,k2,k3,k4,k5⟩:=d3r hm h2 h1 hz.2;refine bF (run cells ?_) k5 hm ht ⟨cells,rfl,All.one.2 ?_⟩ hK
  ·simp only[Program.built,f1,hu,f3,e1,e2,k1]
  ·rw[RepL,RepD]; exact⟨by rw[k3]; simp,k4⟩
 ·exact h2.fail.elim
theorem e1L {key:Nat} {t:Ty} {xs:List (Den t)} {n c:Nat} {cs:Array Value} {ds:List Value} {d:List Value} {ty:TypeId} {w':World} {K:Act→World→Prop} {Q:Exit→Act→World→Prop} (hw:NewW w w' (.cells cs ty))
  (hrun:(execOp a.eval o).run P w=.ok (.value (.slice (some ⟨w.heap.size,0,none⟩) n c)) w')
  (h:Ev ok (fin hi o.dst [(.ob key,.o (.arr t xs false))] (.one (.own key))) s wr) (hm:Mem C A E F s.ob w) (ht:Tms E F s.tm a w) (hA:∀k,key≤k→k<key+bK→¬A k)
  (hn:xs.length=n) (hc:n≤c) (hcs:c*t.sz≤cs.size) (hr:All (λx c=>RepD F w t x c) xs ds) (he:cs.toList=ds++d)
  (hK:∀a' w',Rel C (λk=>A k∨(key≤k∧k<key+bK)) (apply wr s) a' w'→K a' w'):o.wp P a w K Q:=by
 refine d8u (e:=dR w.heap.size n c t) hrun hw h hm ht hA rfl (λhx=>?_) (λhx=>?_) hK
 ·
  refine⟨hn,hc,rfl,λ_=>rfl,λh=>by simp[dR]at h,λ_=>⟨_,_,_,ds,hw.last,by simp[dR]; exact hcs,hr.imp λx c hc=>RepD.ext hx.fz hx.wd hc,hw.at_ he,λ_=>⟨λhf=>?_,?_⟩,λh=>by simp at h⟩⟩
  ·have:=hm.fb _ hf; simp[dR]at this
  ·
   intro oo ho;simp only[World.frozen?,dR,hw.last];simp
 ·
  refine gV ⟨.inr rfl,?_⟩;rw[Env.set_self];exact⟨by simp[dR],_,rfl,λ_=>⟨rfl,by simp[dR]⟩⟩
theorem d2t (hti:TIok P cx) {t:TypeId} {n:Nat} {ps:Array (Nat × Operand)} (ho:o.op=.buildSlice t n ps):OpP P ok cx hi o:=by
 intro C rg ix key A s a w wr K Q h hr hA hK;simp only[cv,ho]at h;obtain⟨E,F,hm,ht⟩:=hr;obtain⟨i,hi',h⟩:=Cx.t_ev h;have hT:=hti t i hi';obtain⟨xs,h1,h2⟩:=c3P h ht;split at h2
 ·
  rename_i htd;obtain⟨e,hu,⟨f,z,f1,f2,f3,f4,f5⟩⟩:=hT.slice htd;split at h2
  ·
   rename_i hsm;simp only[qB]at hsm;rw[d7s]at h2;obtain⟨zc,hz1,hz2⟩:=d4j (F:=F) (w:=w) _ _ _ f5;rw[mJ]at hz1;rw[← hz1]at hz2;obtain⟨xs',cells,k1,k2,k3,k4,k5⟩:=d3r hm h2 h1 (d2S hz2 n);rw[oi]at k3;rw[size_madeCells]at k2;refine e1L (NewW.alloc w (.cells cells e)) (d:=[]) (ds:=cells.toList) ?_ k5 hm ht hA k3 (mG _) (by omega) k4 (by simp) hK;have hzs:n*i.ety.sz=0→madeCells #[] (n*i.ety.sz)=madeCells z.cells (n*i.ety.sz):=λh0=>by rw[h0]; simp[madeCells]
   have hb:¬(16777216<n*i.ety.sz):=by omega
   simp only[execOp,ho,Sem.run_bind];by_cases h0:n*i.ety.sz=0
   ·
    have hk:=k1;rw[← hzs h0]at hk;simp only[madeCells]at hk;simp[Instr.buildSlice,run_underlying hu,sizeOf,typeInfo,f1,f2,hb,h0,newRow]at hk ⊢;simp[hk]
   ·
    simp only[madeCells]at k1;simp[Instr.buildSlice,run_underlying hu,sizeOf,typeInfo,zeroValue,f1,f2,f4,hb,h0,newRow,k1]
  ·exact h2.fail.elim
 ·exact h2.fail.elim
theorem e7y {t e:TypeId} {f:TypeInfo} {z:Value} {T:Ty} {eby:Nat} (hu:P.underlying t=some (.slice e)) (f1:P.info? e=some f) (f4:f.zero=some z) (f2:f.size=T.sz) (f3:f.bytes=eby) (hz:RepD F w T (cq T) z.cells.toList)
  {n c:Int} (hb:decide (0≤n∧n≤c∧c*(eby:Int)≤(dQ:Int)∧c≤(dQ:Int))=true) :
  ∃cs:Array Value,n.toNat≤c.toNat∧c.toNat*T.sz≤cs.size∧All (λx c=>RepD F w T x c) (List.replicate n.toNat (cq T)) (madeCells z.cells (n.toNat*T.sz)).toList ∧
   cs.toList=(madeCells z.cells (n.toNat*T.sz)).toList++cs.toList.drop (n.toNat*T.sz)∧(Instr.makeSlice t (.int .i64 n) (.int .i64 c)).run P w=.ok (.slice (some ⟨w.heap.size,0,none⟩) n.toNat c.toNat) (w.alloc (.cells cs e)):=by
 obtain⟨h0,h1,h2,h3⟩:=of_decide_eq_true hb;unfold dQ at h2 h3;refine⟨madeCells z.cells (c.toNat*f.size),by omega,by rw[size_madeCells,f2]; exact mG _,d2S hz _,?_,run_make w t e f z hu f1 f4 .i64 .i64 n c h0 h1 (by rw[f3,Int.mul_comm]; omega) (by omega)⟩
 rw[f2];obtain⟨d,hd⟩:∃d,c.toNat*T.sz=n.toNat*T.sz+d:=Nat.exists_eq_add_of_le (oL _ (by omega))
 rw[hd];have hl:(madeCells z.cells (n.toNat*T.sz)).toList.length=n.toNat*T.sz:=by simp[size_madeCells]
 have hp:(madeCells z.cells (n.toNat*T.sz+d)).toList=(madeCells z.cells (n.toNat*T.sz)).toList++((List.range d).map (n.toNat*T.sz+·)).map (λi=>z.cells[i % z.cells.size]!):=by
  simp only[madeCells,Array.toList_map,Array.toList_range,List.range_add,mv]
 rw[hp,pJ hl]
theorem d6d (hti:TIok P cx) {t:TypeId} {x y:Operand} (ho:o.op=.makeSlice t x y):OpP P ok cx hi o:=by
 intro C rg ix key A s a w wr K Q h hr hA hK;simp only[cv,ho]at h;obtain⟨E,F,hm,ht⟩:=hr;obtain⟨i,hi',h⟩:=Cx.t_ev h;have hT:=hti t i hi';obtain⟨X,h1,h2⟩:=db h ht;split at h2
 ·
  rename_i n;have hn:=eX h1;obtain⟨Y,h3,h4⟩:=db h2 ht;split at h4
  ·
   rename_i c;have hc:=eX h3;split at h4
   ·
    rename_i htd;obtain⟨e,hu,⟨f,z,f1,f2,f3,f4,f5⟩⟩:=hT.slice htd;obtain⟨zc,hz1,hz2⟩:=d4j (F:=F) (w:=w) _ _ _ f5;rw[mJ]at hz1;rw[← hz1]at hz2;rcases h4.ite with⟨hb,h4⟩ | ⟨_,h4⟩
    ·
     obtain⟨cs,b1,b2,b3,b4,b5⟩:=e7y (P:=P) (w:=w) hu f1 f4 f2 f3 hz2 hb;refine e1L (NewW.alloc w (.cells cs e)) ?_ h4 hm ht hA (oi ..) b1 b2 b3 b4 hK;simp only[execOp,ho,Sem.run_bind,hn,hc,b5];rfl
    ·exact h4.fail.elim
   ·exact h4.fail.elim
  ·exact h4.fail.elim
 ·exact h2.fail.elim
end
theorem c8J {α:Type} (x:α) (l:List α) (k:Nat) (d:List α):bZ (x::l) (k+1) d=x::bZ l k d:=by
 simp[bZ,Nat.add_right_comm]
theorem d0i {α:Type}:∀(l:List α) (k:Nat) (v:α) (rest:List α),k+(rest.length+1)≤l.length→bZ (l.set k v) (k+1) rest=bZ l k (v::rest)
 | [],_,_,_,h=>by simp at h
 | x::l,0,v,rest,h=>by
  simp only[pu,c8J];simp[bZ]
 | x::l,k+1,v,rest,h=>by
  simp only[mP]at h;simp only[pr,c8J];rw[d0i l k v rest (by omega)]
structure SetW (w w':World) (b:Nat):Prop where
 os:w'.os=w.os
 tape:w'.tape=w.tape
 output:w'.output=w.output
 size:w'.heap.size=w.heap.size
 old:∀k,k≠b→w'.heap[k]?=w.heap[k]?
theorem SetW.refl (w:World) (b:Nat):SetW w w b:=⟨rfl,rfl,rfl,rfl,λ_ _=>rfl⟩
theorem SetW.trans {w w' w'':World} {b:Nat} (h:SetW w w' b) (h':SetW w' w'' b):SetW w w'' b :=
 ⟨h'.os.trans h.os,h'.tape.trans h.tape,h'.output.trans h.output,h'.size.trans h.size,λk hk=>(h'.old k hk).trans (h.old k hk)⟩
theorem d6c {w:World} {b o:Nat} {v:Value} {cs:Array Value} {t:TypeId} {fr:Nat × Nat} (h:w.heap[b]?=some (.cells cs t fr)):(w.setCell ⟨b,o,none⟩ v).heap[b]?=some (.cells (cs.setIfInBounds o v) t fr):=by
 simp[World.setCell,Array.getElem?_modify,h]
theorem d5W (w:World) (b o:Nat) (v:Value):SetW w (w.setCell ⟨b,o,none⟩ v) b:=by
 refine⟨rfl,rfl,rfl,by simp[World.setCell],λk hk=>?_⟩
 simp[World.setCell,Array.getElem?_modify,nm hk]
theorem a4X (b:Nat):∀(vs:List Value) (o:Nat) (w:World),SetW w (w.setCells b o vs) b
 | [],_,w=>SetW.refl w b
 | v::r,o,w=>(d5W w b o v).trans (a4X b r (o+1) _)
theorem a4K {b:Nat} {t:TypeId} {fr:Nat × Nat}:∀(vs:List Value) (o:Nat) (w:World) (cs:Array Value),w.heap[b]?=some (.cells cs t fr)→o+vs.length≤cs.size →
  ∃cs':Array Value,(w.setCells b o vs).heap[b]?=some (.cells cs' t fr)∧cs'.toList=bZ cs.toList o vs∧cs'.size=cs.size
 | [],o,w,cs,h,_=>⟨cs,h,by rw[d1E],rfl⟩
 | v::r,o,w,cs,h,hb=>by
  simp only[mP]at hb;obtain⟨cs',h1,h2,h3⟩:=a4K r (o+1) _ _ (d6c (o:=o) (v:=v) h) (by simp; omega);refine⟨cs',h1,?_,by rw[h3]; simp⟩
  rw[h2];have:=list_seg_step cs.toList o v r (by simp; omega);simp only[bZ,pp,mP]
  simpa[mQ] using this
section
variable {P:Program} {ok:Nat→List DV→List DV→Prop} {cx:Cx} {hi:Hi} {o:Oper} {C:Frm} {A:Nat→Prop} {E:Env} {F:Nat→Prop} {s:St} {a:Act} {w:World} {α:Type} {r:α} {wr:Wr}
theorem c3d {t : TypeId} {i : TI} (hT : TOk P t i) {b o : Nat} {v : Value} (hsz : v.cells.size = i.lay.sum) (h1 : ∀ u ∈ v.cells.toList, cw u)
    {cs : Array Value} {ty : TypeId} {fr : Nat × Nat} (hb : w.heap[b]? = some (.cells cs ty fr)) (ho : o + v.cells.size ≤ cs.size) (hf : ∀ j, j < cs.size → w.frozen? ⟨b, j, none⟩ = false) :
    (Instr.storeAt t (.pointer (some ⟨b, o, none⟩)) v).run P w = .ok () (w.setCells b o v.cells.toList) := by
  have hst := run_storeCells_cells (P := P) b o v.cells.toList 0 w (fun j hj => by
      simp only [World.cell?, hb]
      simp at hj
      simp; omega) (fun j hj => hf _ (by simp at hj; omega)) (fun u hu => b8t.1 (h1 u hu))
  rw [nS] at hst
  obtain ⟨f, z, f1, f2, _⟩ := hT.inf
  simp only [Instr.storeAt, Instr.sureAddr, storeVar, Sem.run_bind, Sem.run_pure, Result.andThen_ok, hT.sizeOf, hsz]
  simp [hst]
theorem c3B {k:Nat}:∀(vl:List L) (l:Nat) (s:St) (bl:List L),aL s.ob k=.box bl→l+vl.length≤bl.length →
  (apply (wrLs k l vl) s).tm=s.tm∧∀n,aL (apply (wrLs k l vl) s).ob n=if k=n then .box (bZ bl l vl) else aL s.ob n
 | [],l,s,bl,h,_=>⟨rfl,λn=>by
   split
   ·rename_i e; subst e; rw[d1E]; exact h
   ·rfl⟩
 | x::r,l,s,bl,h,hb=>by
  simp only[mP]at hb;have e1:asg s (.lf k l) (.l x)={s with ob:=putO s.ob k (.box (bl.set l x))}:=by simp only[asg,h,fZ]
  simp only[wrLs,apply,e1];obtain⟨h1,h2⟩:=c3B r (l+1) {s with ob:=putO s.ob k (.box (bl.set l x))} (bl.set l x) (by simp only; rw[co,if_pos rfl]) (by simp; omega);refine⟨h1,λn=>?_⟩
  rw[h2 n,co];split
  ·
   congr 1;exact d0i bl l x r hb
  ·rfl
theorem d8q {x:V} {obj:Obj} {n:Nat} {s':St} {wr':Wr} {w':World} {K:Act→World→Prop} {Q:Exit→Act→World→Prop} {key:Nat} (hw:SetW w w' (E.e n).blk)
  (hrun:(execOp a.eval o).run P w=.ok .skip w') (hwr:wr=match (motive:=Option Nat→Wr) o.dst with | none=>wr' | some d=>wr'++[(.tmp d,.v bad)])
  (htm:(apply wr' s).tm=s.tm) (hob:∀m,aL (apply wr' s).ob m=if n=m then obj else aL s.ob m) (hm:Mem C A E F s.ob w) (ht:Tms E F s.tm a w)
  (hk:excl (E.e n) (aL s.ob n)) (hlv:obj.live) (hex:excl (E.e n) obj→excl (E.e n) (aL s.ob n)) (hrp:∀hx:Ext E F w E F w',RepO E F w' (E.e n) obj)
  (hK:∀a' w',Rel C (λk=>A k∨(key≤k∧k<key+bK)) (apply wr s) a' w'→K a' w'):o.wp P a w K Q:=by
 unfold Oper.wp;rw[hrun];show K (a.put o.dst undef) w';obtain⟨m,hx⟩:=hm.write hk hw.os hw.tape hw.output hw.size hw.old hlv hex hrp;have m:=(m.same (ob':=(apply wr' s).ob) (λk=>by rw[hob,co])).mono (A':=λk=>A k∨(key≤k∧k<key+bK)) λ_ h=>.inl h
 have ht':Tms E F (apply wr' s).tm a w':=by rw[htm]; exact ht.ext hx
 apply hK;cases hd:o.dst with
 | none =>
  rw[hd]at hwr;simp only at hwr;subst hwr;exact⟨E,F,m,ht'.put_none undef⟩
 | some d =>
  rw[hd]at hwr;simp only at hwr;subst hwr;rw[a6y];exact⟨E,F,m,ht'.put d c6y⟩
end
theorem b8z {α:Type} {p d q d':List α} (h:d.length=d'.length):bZ (p++(d++q)) p.length d'=p++(d'++q):=by
 rw[bZ,pF,← h,← mD,← mQ p d q,pJ]
 ·rfl
 ·rfl
theorem All.leaf {α:Type} {R:α→List Value→Prop}:∀{xs:List α} {cs:List Value} {l:Nat} {x:α},All R xs cs→xs[l]?=some x →
  ∃c1 c c3,cs=c1++(c++c3)∧All R (xs.take l) c1∧R x c∧∀x' c',R x' c'→All R (xs.set l x') (c1++(c'++c3))
 | [],_,_,_,_,h=>by simp at h
 | y::r,_,0,x,⟨c,d,e,hr,ht⟩,h=>by
  simp at h; subst h;exact⟨[],c,d,by simpa using e,rfl,hr,λx' c' h'=>by simpa using ⟨c',d,rfl,h',ht⟩⟩
 | y::r,_,l+1,x,⟨c,d,e,hr,ht⟩,h=>by
  simp at h;obtain⟨c1,c',c3,e1,h1,h2,h3⟩:=ht.leaf h;exact⟨c++c1,c',c3,by rw[e,e1,mQ],⟨c,c1,rfl,hr,h1⟩,h2,λx' c'' h'=>⟨c,c1++(c''++c3),by rw[mQ],hr,h3 x' c'' h'⟩⟩
theorem e2z {α:Type} {p c q d:List α} {o:Nat} (h:o+d.length≤c.length):bZ (p++(c++q)) (p.length+o) d=p++(bZ c o d++q):=by
 simp only[bZ];rw[List.take_append,nP (by omega),ni,pV (by omega)];rw[List.drop_append,nJ (show p.length≤p.length+o+d.length by omega),mf,show p.length+o+d.length-p.length=o+d.length by omega,List.drop_append_of_le_length (by omega)];simp
theorem d0X {w w':World} {b n:Nat} {cs cs':Array Value} {t:TypeId} {fr:Nat × Nat} (h:w.heap[b]?=some (.cells cs t fr)) (h':w'.heap[b]?=some (.cells cs' t fr)) (hu:unfr w b n):unfr w' b n:=by
 intro o ho;have:=hu o ho;unfold World.frozen? at this ⊢;simp only[h]at this;simp only[h'];exact this
theorem d9K {α:Type} (ls:List α) (l:Nat) (x:α) (h:l<ls.length):bZ ls l [x]=ls.set l x:=by
 simp only[bZ,oU,oj];rw[List.set_eq_take_append_cons_drop,if_pos h]
theorem e4q {ls:List L} {l:Nat} {x y:L} (h:ls[l]?=some x) (e:y.size=x.size):ba (ls.set l y)=ba ls:=by
 rw[b8c,b8c,List.map_set,e];apply List.ext_getElem?;intro i;by_cases hi:l=i
 ·
  subst hi;have:=(mL.1 h);obtain⟨hl,he⟩:=this;rw[oF (by simpa using hl),nW,mC hl,he]; rfl
 ·rw[pb hi]
theorem At.set {w:World} {b base o:Nat} {ds vs:List Value} (h:At w b base ds) (hb:o+vs.length≤ds.length):At (w.setCells b (base+o) vs) b base (bZ ds o vs):=by
 intro j u hj;have hc:∀j,j<vs.length→(w.cell? ⟨b,base+o+j,none⟩).isSome=true:=λj hj'=>by
  have:=h (o+j) _ (mC (by omega));rw[nQ,this]; rfl
 simp only[bZ]at hj;by_cases h1:j<o
 ·
  rw[World.cell?_setCells_out b vs (base+o) w ⟨b,base+j,none⟩ (λ_ _=>.inl (by simp; omega))];rw[mW (by simp; omega),pG,if_pos h1]at hj;exact h j u hj
 ·
  have hl:(ds.take o).length=o:=by simp; omega
  rw[mU (by omega),hl]at hj;by_cases h2:j-o<vs.length
  ·
   rw[mW h2]at hj;obtain⟨hj',e⟩:=mL.1 hj;have:=World.cell?_setCells_in b vs (base+o) w hc (j-o) hj';rw[show base+o+(j-o)=base+j by omega,e]at this;exact this
  ·
   rw[World.cell?_setCells_out b vs (base+o) w ⟨b,base+j,none⟩ (λ_ _=>.inr (by simp; omega))];rw[mU (by omega),pK,show o+vs.length+(j-o-vs.length)=j by omega]at hj;exact h j u hj
section
variable {P:Program} {ok:Nat→List DV→List DV→Prop} {cx:Cx} {hi:Hi} {o:Oper} {C:Frm} {A:Nat→Prop} {E:Env} {F:Nat→Prop} {s:St} {a:Act} {w:World} {α:Type} {r:α} {wr:Wr} {K:Act→World→Prop} {Q:Exit→Act→World→Prop} {key:Nat}
theorem c6C {d:Option Nat} {w0:Wr} (h:Ev ok (match (motive:=Option Nat→Rd Wr) d with | none=>.ret w0 | some d=>.ret (w0++[(.tmp d,.v bad)])) s wr) :
  wr=match (motive:=Option Nat→Wr) d with | none=>w0 | some d=>w0++[(.tmp d,.v bad)]:=by
 cases d<;>exact h.ret
theorem e6r {x y:Operand} {t:TypeId} {i:TI} (ho:o.op=.store t x y) (hT:TOk P t i) {n l m j:Nat} {T:Ty} (hsc:h7a T=true) {v:List (Den T)} {z:Den T}
  (h1:RepV E F w (.one (.pta n l m j)) (a.eval x)) (hobj:look s (.lf n l)=.l (.dat (.ar m T) v)) (h3:RepL E F w (.dat T z) [a.eval y]) (hsz:(a.eval y).cells=#[a.eval y]) (hlay:i.lay.sum=1)
  (hwr:wr=match (motive:=Option Nat→Wr) o.dst with | none=>[(.lf n l,.l (.dat (.ar m T) (v.set j z)))] | some d=>[(.lf n l,.l (.dat (.ar m T) (v.set j z)))]++[(.tmp d,.v bad)])
  (hm:Mem C A E F s.ob w) (ht:Tms E F s.tm a w)
  (hK:∀a' w',Rel C (λk=>A k∨(key≤k∧k<key+bK)) (apply wr s) a' w'→K a' w'):o.wp P a w K Q:=by
 obtain⟨bl,hb,hx⟩:=e5p hobj;have hlt:=(mL.1 hx).1;have hrp:=hm.rp n;rw[hb]at hrp;obtain⟨cl,ty,⟨cs,fr,g1,gp,gu⟩,g2,g3,g4⟩:=hrp;obtain⟨_,p1,p2,p3⟩:=h1;simp only[mK,and_true]at p3;obtain⟨c1,c,c3,e1,k1,k2,k3⟩:=All.leaf g2 hx;have k2':=k2;rw[RepL,RepD]at k2';have hv:List.length v=m:=k2'.1;obtain⟨d1,d,d3,e2,q1,q2,q3⟩:=k2'.2.set (λx c=>cJ) (show j<List.length v by omega) (show RepD F w T z [a.eval y] from h3);have q1:d1.length=j:=by rw[q1,b7t hsc,qO]
 have q2:d.length=1:=by rw[q2,b7t hsc]
 have hc1:(E.e n).pre.length+c1.length=(E.e n).loff l:=by rw[iG k1,b8y,g4 l (by omega)]
 have hp:cs.toList=((E.e n).pre++(c1++d1))++(d++(d3++(c3++(E.e n).post))):=by rw[gp,e1,e2]; simp
 have hbnd:(E.e n).loff l+j+1≤cs.size:=by
  have:=congrArg List.length hp;simp only[mD,oG]at this;omega
 have hst:=c3d (P:=P) (w:=w) hT (b:=(E.e n).blk) (o:=(E.e n).loff l+j) (v:=a.eval y) (by rw[hsz,hlay]; rfl) (by rw[hsz]; intro u hu; simp at hu; subst hu; exact c7B h3 _ (by simp)) g1 (by rw[hsz]; exact hbnd) gu;rw[hsz]at hst;obtain⟨cs',m1,m2,m3⟩:=a4K [a.eval y] ((E.e n).loff l+j) w cs g1 hbnd;have hsp:cs'.toList=(E.e n).pre++((c1++((d1++([a.eval y]++d3))++c3))++(E.e n).post):=by
  rw[m2,hp,show (E.e n).loff l+j=((E.e n).pre++(c1++d1)).length by simp only[mD]; omega,b8z (by rw[q2]; rfl)];simp
 obtain⟨t1,t2⟩:=c3B (k:=n) [.dat (.ar m T) (v.set j z)] l s bl hb (by simp; omega);have hss:bZ bl l [.dat (.ar m T) (v.set j z)]=bl.set l (.dat (.ar m T) (v.set j z)):=d9K _ _ _ hlt;rw[hss]at t2;have hk:excl (E.e n) (aL s.ob n):=by rw[hb]; trivial
 refine d8q (obj:=.box (bl.set l (.dat (.ar m T) (v.set j z)))) (n:=n) (a4X (E.e n).blk [a.eval y] ((E.e n).loff l+j) w) ?_ hwr t1 t2 hm ht hk trivial (λ_=>hk) (λhx'=>?_) hK (x:=bad) (s':=s)
 ·simp only[execOp,ho,p3,Sem.run_bind,hst]; rfl
 ·
  refine⟨_,ty,⟨cs',fr,m1,hsp,by rw[m3]; exact d0X g1 m1 gu⟩,?_,g3,λk hk=>?_⟩
  ·exact RepLs.ext hx' (k3 (.dat (.ar m T) (v.set j z)) _ (by rw[RepL,RepD]; exact⟨by simpa using hv,by simpa using q3⟩))
  ·rw[e4q (y:=.dat (.ar m T) (v.set j z)) hx rfl]; exact g4 k (by simpa using hk)
theorem e5X (hti:TIok P cx) {t:TypeId} {x y:Operand} (ho:o.op=.store t x y):OpP P ok cx hi o:=by
 intro C rg ix key A s a w wr K Q h hr hA hK;simp only[cv,ho]at h;obtain⟨E,F,hm,ht⟩:=hr;obtain⟨i,hi',h⟩:=Cx.t_ev h;have hT:=hti t i hi';obtain⟨X,h1,h2⟩:=db h ht;obtain⟨Y,h3,h4⟩:=db h2 ht;unfold h8t at h4;split at h4
 ·exact h4.fail.elim
 rename_i vl hvl;have hvr:=d8R h3 hvl;split at h4
 ·exact h4.fail.elim
 rename_i hz;simp only[mE,mu,List.isEmpty_eq_false_iff]at hz;obtain⟨hz,hne⟩:=hz;have hz:=eU hz;have hvs:(a.eval y).cells.size=i.lay.sum:=by
  have:=iG hvr;rw[hz]at this; simpa using this
 have hlen:vl.length=i.lay.length:=by rw[← hz,jD]
 have run:∀b n w',a.eval x=.pointer (some ⟨b,n,none⟩)→(Instr.storeAt t (.pointer (some ⟨b,n,none⟩)) (a.eval y)).run P w=.ok () w'→(execOp a.eval o).run P w=.ok .skip w':=by
  intro b n w' hx hs;simp only[execOp,ho,hx,Sem.run_bind,hs]; rfl
 split at h4
 ·
  -- a box's leaves
  rename_i n l yy;obtain⟨old,k1,k2,k3⟩:=c6S _ _ h4;split at k2
  ·
   rename_i hold;have hold:=eU hold;rcases k3 with k3 | ⟨bl,hb,rfl,k4⟩
   ·exact absurd (mT.1 k3) hne
   ·
    rw[ft,iE,← hlen]at hold;rw[← hlen]at k4;have hzz:ba vl=ba ((bl.drop l).take vl.length):=by rw[hz,hold]
    have hrp:=hm.rp n;rw[hb]at hrp;obtain⟨cl,ty,⟨cs,fr,g1,gp,gu⟩,g2,g3,g4⟩:=hrp;have hp:=h1.2;rw[RepL]at hp;obtain⟨p1,p2,p3⟩:=hp;simp only[mK,and_true]at p2;obtain⟨q1,q2⟩:=b6h g2 hvr k4 hzz;have hl:=g4 l (by omega);have q3:(E.e n).loff l+(a.eval y).cells.toList.length≤cs.size:=by
     have:=congrArg List.length gp;simp only[mD,oG]at this;rw[hl]; omega
    have hst:=c3d (P:=P) (w:=w) hT hvs (d8P hvr) g1 (by simpa using q3) gu;obtain⟨cs',m1,m2,m3⟩:=a4K (a.eval y).cells.toList ((E.e n).loff l) w cs g1 q3;rw[gp,hl,e2z q2]at m2;obtain⟨t1,t2⟩:=c3B (k:=n) vl l s bl hb k4;have hk:excl (E.e n) (aL s.ob n):=by rw[hb]; trivial
    refine d8q (obj:=.box (bZ bl l vl)) (n:=n) (a4X (E.e n).blk (a.eval y).cells.toList ((E.e n).loff l) w) (run _ _ _ p2 hst) (c6C k2) t1 t2 hm ht hk trivial (λ_=>hk) (λhx'=>?_) hK (x:=bad) (s':=s);refine⟨_,ty,⟨cs',fr,m1,m2,by rw[m3]; exact d0X g1 m1 gu⟩,?_,g3,λk hk=>?_⟩
    ·exact RepLs.ext hx' q1
    ·
     rw[b7m k4 hzz];refine g4 k ?_;rw[← jD,b7m k4 hzz,jD]at hk;exact hk
  ·exact k2.fail.elim
 ·
  -- a h7a of an array
  rename_i n l m j;have h4:=h4.get;split at h4
  ·
   rename_i m' T v hobj;split at h4
   ·
    rename_i k hmm _;have hmm:=mH hmm;subst hmm;have h3':=of_one (by simp) h3;split at h4
    ·
     rename_i hjj;subst hjj;have hcs:(a.eval y).cells=#[a.eval y]:=by have:=eX h3; rw[this]; rfl
     refine e6r ho hT rfl h1 hobj h3'.2 hcs (by rw[← hvs,hcs]; rfl) (c6C h4) hm ht hK
    ·exact h4.fail.elim
   ·
    rename_i hmm _;have hmm:=mH hmm;subst hmm;have h3':=of_one (by simp) h3;have hcs:(a.eval y).cells=#[a.eval y]:=by have:=c8U h3; rw[this]; rfl
    exact e6r ho hT rfl h1 hobj h3'.2 hcs (by rw[← hvs,hcs]; rfl) (c6C h4) hm ht hK
   ·exact h4.fail.elim
  ·exact h4.fail.elim
 ·
  -- an element's leaves
  rename_i n j l yy;have h4:=h4.get;simp only[look]at h4;split at h4
  ·
   rename_i T xs hobj;simp only[Cn.o.injEq]at hobj;split at h4
   ·
    rename_i hold;have hold:=eU hold;rw[ft,iE,← hlen]at hold;have hp:=h1.2;rw[RepL]at hp;obtain⟨p1,p2,p3,p4⟩:=hp;simp only[mK,and_true]at p3;have hrp:=hm.rp n;rw[hobj]at hrp;obtain⟨r1,r2,r3,r4,r5,r6⟩:=hrp;have hnil:(E.e n).nil=false:=by
     cases hn:(E.e n).nil with
     | false=>rfl
     | true=>have:=r5 hn; omega
    obtain⟨cs,ty,fr,ds,c1,c2,c3,c4,c5,c6⟩:=r6 hnil;obtain⟨cF,cU⟩:=c5 rfl;have hjx:j<xs.length:=by omega
    obtain⟨d1,d,d3,e1,e2,e3⟩:=c3.get (λx c=>cJ) (mC hjx);have hgd:xs.getD j (cq T)=xs[j]:=by rw[mA,mC hjx]; rfl
    rw[hgd]at h4 hold;have hu:=jC (E:=E) e3;have hzz:ba vl=ba (((unpk T xs[j]).drop l).take vl.length):=by rw[hz,hold]
    have hb:l+vl.length≤(unpk T xs[j]).length:=by
     have:=congrArg List.length hzz;rw[jD,jD]at this;simp only[nB,mq]at this;have hpos:0<vl.length:=by
      rw[hlen]; exact oH.2 hne
     omega
    obtain⟨q1,q2⟩:=b6h hu hvr hb hzz;rw[d1U _ _ _ hb]at h4;obtain⟨v',q',nb,cc,dd,ee,k1,k2,k3,hsz0⟩:=e5s hm h4 q1;split at k3
    ·
     rename_i hnb;have hnb:nb=[]:=by simpa using hnb
     subst hnb;have hdd:dd=[]:=k2;subst hdd;rw[mJ]at ee;have k1:=k1.plus_nil;rw[← ee]at k1;rw[← c3f,← r4]at k1 q2
     -- the elements' cells with this one's set
     have hdl:d.length=T.sz:=cJ e3;obtain⟨d1',d',d3',f1,f2,f3,f4⟩:=c3.set (λx c=>cJ) hjx k1;have hds:d1=d1'∧d++d3=d'++d3':=nr (by rw[← e1,f1]) (by rw[e2,f2]);have hds':d=d'∧d3=d3':=nr hds.2 (by rw[hdl,f3]);obtain⟨⟨rfl,_⟩,rfl,rfl⟩:=And.intro hds hds';have hspl:d1++(bZ d ((E.e n).eoff l) (a.eval y).cells.toList++d3)=bZ ds (j*(E.e n).esz+(E.e n).eoff l) (a.eval y).cells.toList:=by
      rw[e1,r3,← e2];obtain⟨dp,dm,dq,rfl,hdp,hdm⟩:∃dp dm dq,d=dp++(dm++dq)∧dp.length=(E.e n).eoff l∧dm.length=(a.eval y).cells.toList.length :=
       ⟨d.take ((E.e n).eoff l),(d.drop ((E.e n).eoff l)).take (a.eval y).cells.toList.length,(d.drop ((E.e n).eoff l)).drop (a.eval y).cells.toList.length,by rw[mh,mh],by simp; omega,by simp; simp at q2; omega⟩
      rw[← hdp,b8z hdm];rw[show d1++((dp++(dm++dq))++d3)=(d1++dp)++(dm++(dq++d3)) by simp,← mD,b8z hdm];simp
     rw[hspl]at f4;have hdsl:ds.length=xs.length*T.sz:=c3.len (λx c=>cJ);have hjs:j*T.sz+T.sz≤xs.length*T.sz:=by
      have:(j+1)*T.sz≤xs.length*T.sz:=oL _ hjx
      rwa [og]at this
     have hcap:xs.length*T.sz≤(E.e n).cap*T.sz:=oL _ (by omega);simp only[oG]at q2;rw[hdl]at q2;rw[r3]at c2 p3;have hbnd:(E.e n).base+j*T.sz+(E.e n).eoff l+(a.eval y).cells.size≤cs.size:=by omega
     have hst:=c3d (P:=P) (w:=w) hT hvs (d8P hvr) c1 hbnd cU;obtain⟨cs',m1,m2,m3⟩:=a4K (a.eval y).cells.toList ((E.e n).base+j*T.sz+(E.e n).eoff l) w cs c1 (by simpa using hbnd);have hk:excl (E.e n) (aL s.ob n):=by rw[hobj]; exact hnil
     refine d8q (obj:=.arr T (xs.set j v') false) (n:=n) (s':=s) (a4X (E.e n).blk (a.eval y).cells.toList ((E.e n).base+j*T.sz+(E.e n).eoff l) w) (run _ _ _ p3 hst) (c6C k3) rfl
      (λm=>by rw[d2J]; exact co _ _ _ _) hm ht hk trivial (λ_=>hk) (λhx'=>?_) hK (x:=bad)
     refine⟨by simpa using r1,r2,r3,r4,r5,λ_=>⟨cs',ty,fr,_,m1,by rw[m3,r3]; exact c2,f4.imp λx c hc=>RepD.ext hx'.fz hx'.wd hc,?_,λ_=>⟨cF,?_⟩,λh=>by simp at h⟩⟩
     ·
      have:=c4.set (o:=j*(E.e n).esz+(E.e n).eoff l) (vs:=(a.eval y).cells.toList) (by rw[hdsl,r3]; simp; omega);rw[r3,← nQ]at this;rw[r3]; exact this
     ·
      intro oo hoo;rw[World.frozen?_setCells];exact cU oo (by omega)
    ·exact k3.fail.elim
   ·exact h4.fail.elim
  ·exact h4.fail.elim
 ·exact h4.fail.elim
end
section
variable {P:Program} {ok:Nat→List DV→List DV→Prop} {cx:Cx} {hi:Hi} {o:Oper} {C:Frm} {A:Nat→Prop} {E:Env} {F:Nat→Prop} {s:St} {a:Act} {w w':World} {α:Type} {r:α} {wr:Wr} {K:Act→World→Prop} {Q:Exit→Act→World→Prop} {key:Nat}
theorem Mem.add {ob:List (Nat × Obj)} (h:Mem C A E F ob w) {k:Nat} (hk:¬E.al k) {e:EI} {o:Obj} (hne:¬excl e o) (hrp:∀hx:Ext E F w (E.set k e) F w,RepO (E.set k e) F w e o) :
  Mem C (λn=>A n∨n=k) (E.set k e) F (putO ob k o) w∧Ext E F w (E.set k e) F w:=by
 have hx:Ext E F w (E.set k e) F w:=Env.ext_set hk e (λ_ h=>h) (λ_ _ _ _ h=>h);refine⟨⟨?_,?_,?_,?_,h.fb,h.f0,h.kp,h.uf,?_,h.sz,h.os,h.tape,h.output,λk hk=>⟨hx.al k (h.eo k hk).1,(hx.e k (h.eo k hk).1).trans (h.eo k hk).2⟩⟩,hx⟩
 ·
  intro n hn;rw[co]at hn;by_cases e':k=n
  ·exact .inr e'.symm
  ·rw[if_neg e']at hn; exact .inl (h.lv n hn)
 ·
  intro n;rw[co];by_cases e':k=n
  ·subst e'; rw[if_pos rfl,Env.set_self]; exact hrp hx
  ·
   rw[if_neg e',Env.set_ne E e (nm e')];exact (h.rp n).ext hx (λhl hn=>rfl) (λhn=>gJ h hn)
 ·
  intro n m hn hm hb;rw[co]at hn hm;by_cases e1:k=n
  ·subst e1; rw[if_pos rfl,Env.set_self]at hn; exact (hne hn).elim
  ·
   by_cases e2:k=m
   ·subst e2; rw[if_pos rfl,Env.set_self]at hm; exact (hne hm).elim
   ·
    rw[if_neg e1,Env.set_ne E e (nm e1)]at hn;rw[if_neg e2,Env.set_ne E e (nm e2)]at hm;rw[Env.set_ne E e (nm e1),Env.set_ne E e (nm e2)]at hb;exact h.inj n m hn hm hb
 ·
  intro n hn;rcases hn with hn | rfl
  ·exact .inl (h.al n hn)
  ·exact .inr rfl
 ·
  intro n hn;rw[co]at hn;by_cases e':k=n
  ·subst e'; rw[if_pos rfl,Env.set_self]at hn; exact (hne hn).elim
  ·
   rw[if_neg e',Env.set_ne E e (nm e')]at hn;rw[Env.set_ne E e (nm e')]; exact h.uo n hn
inductive OldOk (E:Env) (F:Nat→Prop) (w:World) (s:St) (t:Ty):List (Den t)→Wr→Value→Prop
 | none (ad:Option Addr) (gone:Wr) (hg:gone=[]∨∃n,gone=[(.ob n,.o .dead)]):OldOk E F w s t [] gone (.slice ad 0 0)
 | some (n o cap:Nat) (xs:List (Den t)) (cs:Array Value) (u:TypeId) (fr:Nat × Nat) (ds:List Value) (he:excl (E.e n) (aL s.ob n)) (hl:List.length xs≤cap)
   (hb:w.heap[(E.e n).blk]?=some (.cells cs u fr)) (hc:o+cap*t.sz≤cs.size) (hd:All (λx c=>RepD F w t x c) xs ds) (ha:At w (E.e n).blk o ds) (hu:unfr w (E.e n).blk cs.size) :
   OldOk E F w s t xs [(.ob n,.o .dead)] (.slice (some ⟨(E.e n).blk,o,none⟩) xs.length cap)
theorem d7G {n off len:Nat} {t:Ty} {xs:List (Den t)} {v:Value} (hm:Mem C A E F s.ob w) (hobj:aL s.ob n=.arr t xs false) (hw:Win (E.e n) off len [v]):OldOk E F w s t ((xs.drop off).take len) [(.ob n,.o .dead)] v:=by
 obtain⟨h1,ad,h2,h3⟩:=hw;simp only[mK,and_true]at h2;subst h2;have hrp:=hm.rp n;rw[hobj]at hrp;obtain⟨q1,q2,q3,q4,q5,q6⟩:=hrp;by_cases hz:(E.e n).cap-off=0
 ·
  have:len=0:=by omega
  subst this;rw[hz,pz];exact .none ad _ (.inr ⟨n,rfl⟩)
 ·
  obtain⟨hnil,rfl⟩:=h3 hz;obtain⟨cs,u,fr,ds,k1,k2,k3,k4,k5,k6⟩:=q6 hnil;obtain⟨cF,cU⟩:=k5 rfl;have hlen:List.length ((xs.drop off).take len)=len:=by simp; omega
  obtain⟨c,d,e',rfl,g1,g2⟩:=c7r (m:=len) (λx c=>cJ) k3 (show off≤xs.length by omega);have:=OldOk.some (E:=E) (F:=F) (w:=w) (s:=s) (t:=t) n ((E.e n).base+off*(E.e n).esz) ((E.e n).cap-off) ((xs.drop off).take len) cs u fr d (by rw[hobj]; exact hnil) (by rw[hlen]; omega) k1 (by
   rw[nQ,q3,← pP,Nat.add_sub_cancel' (by omega),← q3]; exact k2) g2 (by
   have:=(k4.append.2).append.1;rw[g1,← q3]at this;exact this) cU
  rw[hlen]at this;exact this
theorem e7F {t:Ty} {x:V} {v:Value} {k:List (Den t)→Wr→Rd Wr} (h:Ev ok (oldS t x k) s wr) (hm:Mem C A E F s.ob w) (hr:RepV E F w x v):∃xs gone,OldOk E F w s t xs gone v∧Ev ok (k xs gone) s wr:=by
 unfold oldS at h;split at h
 ·
  have hv:=hr.2;rw[RepL]at hv;simp only[mK,and_true]at hv;subst hv;exact⟨[],[],.none _ _ (.inl rfl),h⟩
 ·
  rename_i n;have h:=h.get;simp only[look]at h;split at h
  ·
   rename_i a' xs hobj;simp only[Cn.o.injEq]at hobj;have e:=dO h; subst e; have h:=dJ h;refine⟨_,_,?_,h⟩;have:=d7G hm hobj hr.2.2;rw[← (eP hm hobj).1]at this
   simpa using this
  ·exact h.fail.elim
 ·
  rename_i n off;have h:=h.get;simp only[look]at h;split at h
  ·
   rename_i a' xs hobj;simp only[Cn.o.injEq]at hobj;have e:=dO h; subst e; have h:=dJ h;refine⟨_,_,?_,h⟩;have:=d7G hm hobj hr.2.2.2;rw[← (eP hm hobj).1,nP (by simp)]at this;exact this
  ·exact h.fail.elim
 ·
  rename_i n off len;have h:=h.get;simp only[look]at h;split at h
  ·
   rename_i a' xs hobj;simp only[Cn.o.injEq]at hobj;have e:=dO h; subst e; have h:=dJ h;exact⟨_,_,d7G hm hobj hr.2.2,h⟩
  ·exact h.fail.elim
 ·exact h.fail.elim
theorem d5B (s:ByteArray):byteCells s=(fU s).map (Value.int .u8):=by simp[byteCells,fU]
theorem e6L {t:Ty} {x:V} {v:Value} {tx:TypeId} {k:List (Den t)→Rd Wr} (h:Ev ok (newS t x k) s wr) (hm:Mem C A E F s.ob w) (hr:RepV E F w x v) (hk:(∃e',P.underlying tx=some (.slice e'))∨P.underlying tx=some .string) :
  ∃xs news,Src P t.sz tx v (List.length xs) news w∧All (λx c=>RepD F w t x c) xs news∧Ev ok (k xs) s wr:=by
 unfold newS at h;split at h
 ·
  rename_i sv;have hv:=j0 hr;subst hv;have e:=dO h; subst e; have h:=dJ h;refine⟨fU sv,(fU sv).map (Value.int .u8),?_,c8y sv,h⟩;have hlen:(fU sv).length=sv.size:=by simp[fU]
  rw[← d5B,hlen];exact⟨hk,λ_=>rfl,firstCells_string sv w,firstCells_string sv w.drew,by rw[byteCells_length]; simp[Ty.sz],λu hu=>by
   obtain⟨_,_,rfl⟩:=nK.1 hu;rfl⟩
 ·
  rename_i l _;obtain⟨xs,nb,h3,h4⟩:=d9A h hm (cs:=[v]) (by cases l<;>first | exact Ev.fail h |>.elim | exact hr.2);obtain⟨ad,cap,k1,k2,k3⟩:=h3;simp only[mK,and_true]at k1;subst k1;rcases k3 with rfl | ⟨b,oo,ds,rfl,k4,k5,k6⟩
  ·
   refine⟨[],[],?_,rfl,h4⟩;cases ad with
   | none=>exact⟨hk,λ_=>rfl,run_firstCells_none w t.sz 0 0 cap,run_firstCells_none w.drew t.sz 0 0 cap,by simp,λ_ h=>by simp at h⟩
   | some ad=>exact⟨hk,λ_=>rfl,run_firstCells_some w t.sz 0 ad 0 cap [] (by simp) (by simp),run_firstCells_some w.drew t.sz 0 ad 0 cap [] (by simp) (by simp),by simp,λ_ h=>by simp at h⟩
  ·
   have hl:ds.length=xs.length*t.sz:=k5.len (λx c=>cJ);have hat:∀j u,ds[j]?=some u→w.cell? ((⟨b,oo,none⟩:Addr).add j)=some u:=λj u hj=>by rw[gU]; exact k6 j u hj
   exact⟨xs,ds,⟨hk,λ_=>rfl,run_firstCells_some w t.sz _ _ _ cap ds hl hat,run_firstCells_some w.drew t.sz _ _ _ cap ds hl (by simpa using hat),hl,λu hu=>b8t.1 (k5.mem (λx c hc=>b9V hc) u hu)⟩,k5,h4⟩
 ·exact h.fail.elim
theorem d0f {gone:Wr} {obj:Obj} (hg:gone=[]∨∃n,gone=[(.ob n,.o .dead)]):(apply (gone++[(.ob key,.o obj)]) s).tm=s.tm∧∃ob',(∀{A:Nat→Prop},Mem C A E F s.ob w→Mem C A E F ob' w)∧(apply (gone++[(.ob key,.o obj)]) s).ob=putO ob' key obj:=by
 rcases hg with rfl | ⟨n,rfl⟩
 ·exact⟨rfl,s.ob,λh=>h,rfl⟩
 ·exact⟨rfl,putO s.ob n .dead,λh=>h.kill n,rfl⟩
theorem e5c {obj:Obj} {gone:Wr} {e:EI} {x:V} {v:Value} {ho:Go.Obj} (hg:gone=[]∨∃n,gone=[(.ob n,.o .dead)]) (hrun:(execOp a.eval o).run P w=.ok (.value v) w') (hw:NewW w w' ho)
  (h:Ev ok (fin hi o.dst (gone++[(.ob key,.o obj)]) x) s wr) (hm:Mem C A E F s.ob w) (ht:Tms E F s.tm a w) (hA:∀k,key≤k→k<key+bK→¬A k)
  (hblk:e.blk=w.heap.size) (hrp:∀hx:Ext E F w (E.set key e) F w',RepO (E.set key e) F w' e obj) (hv:∀hx:Ext E F w (E.set key e) F w',RepV (E.set key e) F w' x v)
  (hK:∀a' w',Rel C (λk=>A k∨(key≤k∧k<key+bK)) (apply wr s) a' w'→K a' w'):o.wp P a w K Q:=by
 unfold Oper.wp;rw[hrun];have hk:¬E.al key:=λh=>hA key (mG _) (by simp[bK]) (hm.al _ h)
 obtain⟨t1,ob',t2,t3⟩:=d0f (C:=C) (E:=E) (F:=F) (s:=s) (w:=w) (key:=key) (obj:=obj) hg;obtain⟨m,hx⟩:=(t2 hm).new (w':=w') hk (e:=e) (o:=obj) hw.os hw.tape hw.output hw.size (λb hb=>hw.old hb) (λ_=>hblk) hrp;refine hK _ _ (iY h (E':=E.set key e) (F':=F) ?_ ?_ (hv hx))
 ·
  rw[t3];exact m.mono λk hk=>hk.imp id λe=>by subst e; exact⟨mG _,by simp[bK]⟩
 ·rw[t1]; exact ht.ext hx
theorem e4t {t:Ty} {xs:List (Den t)} {gone:Wr} {v:Value} (h:OldOk E F w s t xs gone v):∃base cap olds,v=.slice base xs.length cap∧xs.length≤cap ∧
  (Builtin.firstCells t.sz xs.length v).run P w.drew=.ok olds.toArray w.drew∧All (λx c=>RepD F w t x c) xs olds∧(gone=[]∨∃n,gone=[(.ob n,.o .dead)]):=by
 cases h with
 | none ad _ hg =>
  refine⟨ad,0,[],rfl,mG _,?_,rfl,hg⟩;cases ad with
  | none=>exact run_firstCells_none w.drew t.sz 0 0 0
  | some ad=>exact run_firstCells_some w.drew t.sz 0 ad 0 0 [] (by simp) (by simp)
 | some n o cap _ cs u fr ds he hl hb hc hd ha hu =>
  exact⟨_,cap,ds,rfl,hl,run_firstCells_some w.drew t.sz _ _ _ cap ds (hd.len (λx c=>cJ)) (λj u hj=>by rw[gU]; simpa using ha j u hj),hd,.inr ⟨n,rfl⟩⟩
def dU (t:Ty):EI:={blk:=0,base:=0,len:=0,cap:=0,esz:=t.sz,nil:=true,loff:=λ_=>0,eoff:=lOff t}
def onEI (b o n c:Nat) (t:Ty):EI:={blk:=b,base:=o,len:=n,cap:=c,esz:=t.sz,nil:=false,loff:=λ_=>0,eoff:=lOff t}
theorem e3r (hti:TIok P cx) {c:Call} (ho:o.op=.call c) (hc:c.callee=.builtin .append):OpP P ok cx hi o:=by
 intro C rg ix key A s a w wr K Q h hr hA hK;simp only[cv,ho,hc]at h;obtain⟨E,F,hm,ht⟩:=hr;obtain⟨xs,h1,h2⟩:=iW h ht;split at h2
 ·
  rename_i x y;split at h2
  ·
   rename_i t tx hat
   obtain⟨p,q,hp,h3,h4⟩:=c6t h1;obtain⟨i,hi',h5⟩:=Cx.t_ev h2;obtain⟨j,hj',h6⟩:=Cx.t_ev h5
   clear h2 h1 h5
   have hT:=hti t i hi';have hU:=hti tx j hj';have hat:c.argTypes=#[t,tx]:=by rw[← qF,hat]
   have h7:Ev ok (h7v key i x y λx wr=>fin hi o.dst wr x) s wr∧((∃e',P.underlying tx=some (.slice e'))∨P.underlying tx=some .string):=by
    split at h6
    ·
     rename_i htd;obtain⟨e',hu',_⟩:=hU.slice htd;exact⟨h6,.inl ⟨e',hu'⟩⟩
    ·
     rename_i htd;exact⟨h6,.inr (hU.str htd)⟩
    ·exact h6.fail.elim
   obtain⟨h7,hkd⟩:=h7
   clear h6
   obtain⟨cs,hrun⟩:=a7G (P:=P) ho hc a w;have run:∀v w',(Builtin.append_ #[t,tx] o.type #[a.eval p,a.eval q]).run P w=.ok v w'→(execOp a.eval o).run P w=.ok (.value v) w':=by
    intro v w' hv;rw[hrun,hp,hat,show (Array.map a.eval #[p,q])=#[a.eval p,a.eval q] by simp];simp only[builtin,Sem.run_bind,hv];rfl
   unfold h7v at h7;split at h7
   ·
    rename_i htd hby
    obtain⟨e,hu,⟨f,z,f1,f2,f3,f4,f5⟩⟩:=hT.slice htd;obtain⟨old,gone,g1,g2⟩:=e7F h7 hm h3;obtain⟨new,news,g3,g4,g5⟩:=e6L (P:=P) g2 hm h4 hkd;rcases g5.ite with⟨hb,g5⟩ | ⟨_,g5⟩
    ·
     have hb:=of_decide_eq_true hb;unfold dQ at hb;have hby:i.eby≠0:=by intro e0; rw[e0]at hby; simp at hby
     have h63:((old.length+new.length:Nat):Int)≤9223372036854775807:=by
      have:old.length+new.length≤(old.length+new.length)*i.eby:=Nat.le_mul_of_pos_right _ (Nat.pos_of_ne_zero hby);omega
     have hk:¬E.al key:=λh=>hA key (mG _) (by simp[bK]) (hm.al _ h)
     -- no room
     have grow:∀cap base,a.eval p=.slice base old.length cap→cap<old.length+new.length→o.wp P a w K Q:=by
      intro cap base hv hlt;obtain⟨base',cap',olds,k1,k2,k3,k4,k5⟩:=e4t (P:=P) g1;rw[hv]at k1 k3;simp only[Value.slice.injEq,true_and]at k1;obtain⟨rfl,rfl⟩:=k1;have hfit:=growslice_fits hlt (bytes:=f.bytes) (by rw[f3]; omega);have hap:=run_append_grow_src (P:=P) w t tx o.type e f z hu f1 f4 base old.length cap olds (by rw[f2]; exact k3) (a.eval q) new.length news (by rw[f2]; exact g3) hlt h63 hfit;have hgc:=grownCap_ge w (old.length+new.length) cap e;have hol:olds.length=old.length*i.ety.sz:=k4.len (λx c=>cJ);have hnl:news.length=new.length*i.ety.sz:=g4.len (λx c=>cJ);have hzl:z.cells.size=i.ety.sz:=by
       obtain⟨zc,hz1,hz2⟩:=d4j (F:=F) (w:=w) _ _ _ f5;rw[mJ]at hz1;rw[← hz1]at hz2;rw[← cJ hz2]; simp
      have hw:=NewW.drew w (.cells ((olds++news).toArray++Builtin.zeroCells z.cells (grownCap w (old.length+new.length) cap e-(old.length+new.length))) e);refine e5c (e:=dR w.heap.size (old.length+new.length) (grownCap w (old.length+new.length) cap e) i.ety) k5 (run _ _ (by rw[hv]; exact hap)) hw g5 hm ht hA rfl (λhx=>?_) (λhx=>?_) hK
      ·
       refine⟨by simp[dR],hgc,rfl,λ_=>rfl,λh=>by simp[dR]at h,λ_=>⟨_,_,_,olds++news,hw.last,?_,(k4.append g4).imp λx c hc=>RepD.ext hx.fz hx.wd hc,hw.at_ (d:=(Builtin.zeroCells z.cells (grownCap w (old.length+new.length) cap e-(old.length+new.length))).toList) (by simp),λ_=>⟨λhf=>?_,?_⟩,λh=>by simp at h⟩⟩
       ·
        obtain⟨d,hd⟩:∃d,grownCap w (old.length+new.length) cap e=old.length+new.length+d:=Nat.exists_eq_add_of_le hgc
        rw[hd];simp[dR,Builtin.zeroCells,hol,hnl,hzl,pP]
       ·have:=hm.fb _ hf; simp[dR]at this
       ·
        intro oo ho;simp only[World.frozen?,dR,hw.last];simp
      ·
       refine gV ⟨.inr rfl,?_⟩;rw[Env.set_self];exact⟨by simp[dR],_,rfl,λ_=>⟨rfl,by simp[dR]⟩⟩
     generalize hv:a.eval p=v at g1;cases g1 with
     | none ad _ hg =>
      by_cases hn:new.length=0
      ·
       have hnew:new=[]:=mT.1 hn;subst hnew;have:news=[]:=g4;subst this;have hap:=run_append_nothing (P:=P) w t tx o.type e f hu f1 ad 0 0 (mG _) (a.eval q) (by rw[f2]; exact g3);have hrun':=run _ _ (by rw[hv]; exact hap);unfold Oper.wp;rw[hrun'];obtain⟨t1,ob',t2,t3⟩:=d0f (C:=C) (E:=E) (F:=F) (s:=s) (w:=w) (key:=key) (obj:=.arr i.ety (([]:List (Den i.ety))++[]) false) hg;obtain⟨m,hx⟩:=(t2 hm).add hk (e:=dU i.ety) (o:=.arr i.ety (([]:List (Den i.ety))++[]) false) (by simp[excl,dU]) (λhx=>⟨rfl,mG _,rfl,λ_=>rfl,λ_=>rfl,λh=>by simp[dU]at h⟩);refine hK _ _ (iY g5 (E':=E.set key (dU i.ety)) (F':=F) ?_ ?_ (gV ⟨.inr rfl,?_⟩))
       ·
        rw[t3];exact m.mono λk hk=>hk.imp id λe=>by subst e; exact⟨mG _,by simp[bK]⟩
       ·rw[t1]; exact ht.ext hx
       ·rw[Env.set_self]; exact⟨by simp[dU],_,rfl,λh=>by simp[dU]at h⟩
      ·exact grow 0 ad hv (by simp; omega)
     | some n oo cap _ cs u fr ds he hl hbk hcs hd ha hun =>
      by_cases hroom:old.length+new.length≤cap
      ·
       have hnl:news.length=new.length*i.ety.sz:=g4.len (λx c=>cJ);have hdl:ds.length=old.length*i.ety.sz:=hd.len (λx c=>cJ);have hle:(old.length+new.length)*i.ety.sz≤cap*i.ety.sz:=oL _ hroom;rw[pP]at hle;have hcell:∀j,j<news.length→(w.cell? ⟨(E.e n).blk,oo+old.length*f.size+j,none⟩).isSome=true:=by
        intro j hj;rw[f2];simp only[World.cell?,hbk];simp; omega
       have hap:=run_append_room_src (P:=P) w t tx o.type e f hu f1 (E.e n).blk oo old.length cap (a.eval q) new.length news (by rw[f2]; exact g3) hroom hcell (λj hj=>hun _ (by rw[f2]; omega));rw[f2]at hap hcell;have hrun':=run _ _ (by rw[hv]; exact hap);unfold Oper.wp;rw[hrun'];have hsw:=a4X (E.e n).blk news (oo+old.length*i.ety.sz) w;obtain⟨cs',m1,m2,m3⟩:=a4K news (oo+old.length*i.ety.sz) w cs hbk (by omega);obtain⟨m,hx⟩:=hm.pass he hk (e:=onEI (E.e n).blk oo (old.length+new.length) cap i.ety) (o:=.arr i.ety (old++new) false) rfl hsw.os hsw.tape hsw.output hsw.size hsw.old (λhx=>by
        refine⟨by simp[onEI],hroom,rfl,λ_=>rfl,λh=>by simp[onEI]at h,λ_=>⟨cs',u,fr,ds++news,m1,by rw[m3]; exact hcs,(hd.append g4).imp λx c hc=>RepD.ext hx.fz hx.wd hc,?_,λ_=>⟨gJ hm he,?_⟩,λh=>by simp at h⟩⟩
        ·
         refine At.join (λj u' hj=>?_) (λj u' hj=>?_)
         ·
          have hlt:=(mL.1 hj).1;rw[World.cell?_setCells_out]
          ·exact ha j u' hj
          ·intro _ _; left; simp only[onEI]; omega
         ·
          obtain⟨hlt,e'⟩:=mL.1 hj;have:=World.cell?_setCells_in (E.e n).blk news (oo+old.length*i.ety.sz) w hcell j hlt;rw[e']at this;rw[hdl]; exact this
        ·
         intro k hk';rw[World.frozen?_setCells];exact hun k (by rw[← m3]; exact hk'))
       refine hK _ _ (iY g5 (E':=E.set key (onEI (E.e n).blk oo (old.length+new.length) cap i.ety)) (F':=F) ?_ ?_ (gV ⟨.inr rfl,?_⟩))
       ·exact m.mono λk hk=>hk.imp id λe=>by subst e; exact⟨mG _,by simp[bK]⟩
       ·exact ht.ext hx
       ·rw[Env.set_self]; exact⟨by simp[onEI],some ⟨(E.e n).blk,oo,none⟩,by simp[onEI],λh=>⟨rfl,by simp[onEI]⟩⟩
      ·exact grow cap _ hv (by omega)
    ·exact g5.fail.elim
   ·exact h7.fail.elim
  ·exact h2.fail.elim
 ·exact h2.fail.elim
end
section
variable {P:Program} {ok:Nat→List DV→List DV→Prop} {cx:Cx} {hi:Hi} {o:Oper} {C:Frm} {A:Nat→Prop} {E:Env} {F:Nat→Prop} {s:St} {a:Act} {w w':World} {α:Type} {r:α} {wr:Wr} {K:Act→World→Prop} {Q:Exit→Act→World→Prop} {key:Nat}
theorem e5I {α:Type} (xs:List α) (n:Nat):laid xs n []=xs:=by simp[laid]
theorem e6y {n off len:Nat} {T:Ty} {xs ys:List (Den T)} {news:List Value} {v:Value} (hm:Mem C A E F s.ob w) (hobj:aL s.ob n=.arr T xs false) (hw:Win (E.e n) off len [v])
  (hall:All (λx c=>RepD F w T x c) ys news) (hle:ys.length≤len) :
  ∃w' ad cap,v=.slice ad len cap∧(∀ad',ad=some ad'→(storeCells ad' news).run P w=.ok () w')∧(ad=none→w'=w∧news=[]∧len=0) ∧
   Mem C A E F (putO s.ob n (.arr T (laid xs off ys) false)) w'∧Ext E F w E F w':=by
 have hlen:news.length=ys.length*T.sz:=hall.len (λx c=>cJ);have hrp:=hm.rp n;rw[hobj]at hrp;obtain⟨r1,r2,r3,r4,r5,r6⟩:=hrp;by_cases h0:ys.length=0
 ·
  obtain rfl:=mT.1 h0;have hn:news=[]:=mT.1 (by rw[hlen]; simp);subst hn;obtain⟨h1,ad,h2,h3⟩:=hw;simp only[mK,and_true]at h2;refine⟨w,ad,_,h2,λad' _=>rfl,λe=>⟨rfl,rfl,?_⟩,?_,Ext.refl E F w⟩
  ·
   have hc:¬(E.e n).cap-off≠0:=λhc=>by rw[(h3 hc).2]at e; simp at e
   omega
  ·
   rw[e5I];refine hm.same λk=>?_
   rw[co];split
   ·rename_i e; subst e; exact hobj.symm
   ·rfl
 ·
  obtain⟨c,hv⟩:=d9g hw (by omega) r2;obtain⟨h1,ad,h2,h3⟩:=hw;obtain⟨hnil,_⟩:=h3 (by omega);obtain⟨cs,ty,fr,ds,c1,c2,c3,c4,c5,c6⟩:=r6 hnil;obtain⟨cF,cU⟩:=c5 rfl;have hsplit:xs=xs.take off++((xs.drop off).take ys.length++xs.drop (off+ys.length)):=by rw[← oN,mh,mh]
  have c3':=c3;rw[hsplit]at c3';obtain⟨d1,dd,e1,k1,k2⟩:=c3'.split;obtain⟨d2,d3,e2,k3,k4⟩:=k2.split;have l1:d1.length=off*T.sz:=by rw[k1.len (λx c=>cJ)]; congr 1; simp; omega
  have l2:d2.length=ys.length*T.sz:=by rw[k3.len (λx c=>cJ)]; congr 1; simp; omega
  have hdl:ds.length=xs.length*T.sz:=c3.len (λx c=>cJ);have hbnd:off*T.sz+news.length≤ds.length:=by rw[e1,e2]; simp only[mD]; omega
  have hcap:xs.length*T.sz≤(E.e n).cap*T.sz:=oL _ (by omega);rw[r3]at c2 hv;have hb2:(E.e n).base+off*T.sz+news.length≤cs.size:=by omega
  have hst:=run_storeCells_cells (P:=P) (E.e n).blk ((E.e n).base+off*T.sz) news 0 w (λj hj=>by
   simp only[World.cell?,c1];simp; omega) (λj hj=>cU _ (by omega)) (λu hu=>b8t.1 (hall.mem (λx c hc=>b9V hc) u hu))
  rw[nS]at hst;obtain⟨cs',m1,m2,m3⟩:=a4K news ((E.e n).base+off*T.sz) w cs c1 hb2;have hk:excl (E.e n) (aL s.ob n):=by rw[hobj]; exact hnil
  have hsw:=a4X (E.e n).blk news ((E.e n).base+off*T.sz) w;obtain⟨m,hx⟩:=hm.write (o:=.arr T (laid xs off ys) false) hk hsw.os hsw.tape hsw.output hsw.size hsw.old trivial (λ_=>hk) (λhx=>by
   have hll:List.length (laid xs off ys)=List.length xs:=by simp[laid]; omega
   refine⟨by rw[hll]; exact r1,r2,r3,r4,r5,λ_=>⟨cs',ty,fr,bZ ds (off*T.sz) news,m1,by rw[m3,r3]; exact c2,?_,?_,λ_=>⟨cF,?_⟩,λh=>by simp at h⟩⟩
   ·
    rw[e1,e2,show bZ (d1++(d2++d3)) (off*T.sz) news=d1++(news++d3) by rw[← l1]; exact b8z (by omega)];exact (k1.append (hall.append k4)).imp λx c hc=>RepD.ext hx.fz hx.wd hc
   ·exact c4.set hbnd
   ·
    intro oo hoo;rw[World.frozen?_setCells];exact cU oo (by omega))
  refine⟨_,_,_,hv,λad' e=>?_,λe=>by simp at e,m,hx⟩
  simp only[mB]at e;subst e;exact hst
theorem e2q {x:V} {v:Value} {k:Nat→(t:Ty)→List (Den t)→Nat→Nat→Rd Wr} (h:Ev ok (winS x k) s wr) (hm:Mem C A E F s.ob w) (hr:RepV E F w x v) :
  ∃n T xs off len,aL s.ob n=.arr T xs false∧Win (E.e n) off len [v]∧Ev ok (k n T xs off len) s wr:=by
 unfold winS at h;split at h
 ·
  rename_i n;have h:=h.get;simp only[look]at h;split at h
  ·
   rename_i a' xs hobj;simp only[Cn.o.injEq]at hobj;refine⟨n,_,xs,0,_,hobj,?_,h⟩;have:=hr.2.2;rw[← (eP hm hobj).1]at this;exact this
  ·exact h.fail.elim
 ·
  rename_i n off;have h:=h.get;simp only[look]at h;split at h
  ·
   rename_i a' xs hobj;simp only[Cn.o.injEq]at hobj;refine⟨n,_,xs,off,_,hobj,?_,h⟩;have:=hr.2.2.2;rw[← (eP hm hobj).1]at this;exact this
  ·exact h.fail.elim
 ·
  rename_i n off len;have h:=h.get;simp only[look]at h;split at h
  ·
   rename_i a' xs hobj;simp only[Cn.o.injEq]at hobj;exact⟨n,_,xs,off,len,hobj,hr.2.2,h⟩
  ·exact h.fail.elim
 ·exact h.fail.elim
theorem e5m (hti:TIok P cx) {c:Call} (ho:o.op=.call c) (hc:c.callee=.builtin .clear):OpP P ok cx hi o:=by
 intro C rg ix key A s a w wr K Q h hr hA hK;simp only[cv,ho,hc]at h;obtain⟨E,F,hm,ht⟩:=hr;obtain⟨xs,h1,h2⟩:=iW h ht;split at h2
 ·
  rename_i x;split at h2
  ·
   rename_i t hat
   obtain⟨p,hp,h3⟩:=e1K h1;obtain⟨i,hi',h5⟩:=Cx.t_ev h2;have hT:=hti t i hi';have hat:c.argTypes=#[t]:=by rw[← qF,hat]
   unfold h8u at h5;split at h5
   ·
    rename_i htd;obtain⟨e,hu,⟨f,z,f1,f2,f3,f4,f5⟩⟩:=hT.slice htd;obtain⟨n,T,xs,off,len,hobj,hwin,h6⟩:=e2q h5 hm h3;have e:=dO h6; subst e; have h6:=dJ h6;obtain⟨zc,hz1,hz2⟩:=d4j (F:=F) (w:=w) _ _ _ f5;rw[mJ]at hz1;rw[← hz1]at hz2;have hzs:z.cells.size=i.ety.sz:=by rw[← cJ hz2]; simp
    have hall:=d2S (F:=F) (w:=w) hz2 len;obtain⟨w',ad,cap,hv,g1,g2,g3,g4⟩:=e6y (P:=P) hm hobj hwin hall (by simp);obtain⟨cs,hrun⟩:=a7G (P:=P) ho hc a w;have hex:(execOp a.eval o).run P w=.ok (.value (.tuple #[])) w':=by
     rw[hrun,hp,hat,show (Array.map a.eval #[p])=#[a.eval p] by simp,hv];have hzv:(zeroValue e).run P w=.ok z w:=by
      simp[zeroValue,typeInfo,f1,f4]
     cases ad with
     | none =>
      obtain⟨rfl,_,_⟩:=g2 rfl;simp only[builtin,Builtin.clear_,Sem.run_bind];simp[run_underlying hu]
     | some ad =>
      have:=g1 ad rfl;cases len with
      | zero =>
       have e0:(madeCells z.cells (0*i.ety.sz)).toList=[]:=by simp[madeCells]
       rw[e0]at this;have:w'=w:=by simpa[storeCells] using this.symm
       subst this;simp only[builtin,Builtin.clear_,Sem.run_bind];simp[run_underlying hu]
      | succ len =>
       have e1:Builtin.zeroCells z.cells (len+1)=madeCells z.cells ((len+1)*i.ety.sz):=by rw[← hzs]; rfl
       rw[← e1]at this;simp only[builtin,Builtin.clear_,Sem.run_bind];simp[run_underlying hu,hzv,this]
    unfold Oper.wp;rw[hex];refine hK _ _ (iY h6 (E':=E) (F':=F) ?_ ?_ ⟨#[],rfl,trivial⟩)
    ·exact g3.mono λk hk=>.inl hk
    ·exact ht.ext g4
   ·exact h5.fail.elim
  ·exact h2.fail.elim
 ·exact h2.fail.elim
theorem e7h (hti:TIok P cx) {c:Call} (ho:o.op=.call c) (hc:c.callee=.builtin .copy):OpP P ok cx hi o:=by
 intro C rg ix key A s a w wr K Q h hr hA hK;simp only[cv,ho,hc]at h;obtain⟨E,F,hm,ht⟩:=hr;obtain⟨xs,h1,h2⟩:=iW h ht;split at h2
 ·
  rename_i x y;split at h2
  ·
   rename_i t tx hat
   obtain⟨p,q,hp,h3,h4⟩:=c6t h1;obtain⟨i,hi',h5⟩:=Cx.t_ev h2;have hT:=hti t i hi';have hat:c.argTypes=#[t,tx]:=by rw[← qF,hat]
   unfold h8L at h5;split at h5
   ·
    rename_i l htd;obtain⟨e,hu,⟨f,z,f1,f2,f3,f4,f5⟩⟩:=hT.slice htd;obtain⟨n,T,xs,off,len,hobj,hwin,h6⟩:=e2q h5 hm h3;have e':=dO h6; subst e'; have h6:=dJ h6;obtain⟨ys,nb,h7,h8⟩:=d9A h6 hm (cs:=[a.eval q]) (by cases l<;>first | exact Ev.fail h6 |>.elim | exact h4.2);obtain⟨sad,scap,k1,k2,k3⟩:=h7;simp only[mK,and_true]at k1;have hmin:(ys.take len).length=Nat.min ys.length len:=by rw[nB,Nat.min_comm]
    have hsz:(sizeOf e).run P w=.ok i.ety.sz w:=by simp[sizeOf,typeInfo,f1,f2]
    obtain⟨news,hall,hfc⟩:∃news,All (λx c=>RepD F w i.ety x c) (ys.take len) news∧(Builtin.firstCells i.ety.sz (Nat.min ys.length len) (.slice sad ys.length scap)).run P w=.ok news.toArray w:=by
     rcases k3 with rfl | ⟨b,oo,ds,rfl,k4,k5,k6⟩
     ·
      refine⟨[],by simp[All],?_⟩
      cases sad with
      | none=>exact run_firstCells_none w _ _ _ _
      | some ad=>exact run_firstCells_some w _ _ ad _ _ [] (by simp) (by simp)
     ·
      have k5':=k5;rw[← mh len ys]at k5';obtain⟨d1,d2,e1,q1,q2⟩:=k5'.split;refine⟨d1,q1,run_firstCells_some w _ _ _ _ _ d1 ?_ ?_⟩
      ·rw[q1.len (λx c=>cJ),hmin]
      ·
       intro j u hj;rw[gU];refine k6 j u ?_;rw[e1,mW (mL.1 hj).1];exact hj
    obtain⟨w',ad,cap,hv,g1,g2,g3,g4⟩:=e6y (P:=P) hm hobj hwin hall (by rw[nB]; omega);obtain⟨cs,hrun⟩:=a7G (P:=P) ho hc a w;have hex:(execOp a.eval o).run P w=.ok (.value (.int .i64 ((ys.take len).length:Int))) w':=by
     rw[hrun,hp,hat,show (Array.map a.eval #[p,q])=#[a.eval p,a.eval q] by simp,hv,k1];rw[hmin];simp only[builtin,Builtin.copy_,Sem.run_bind];cases ad with
     | none =>
      obtain⟨rfl,rfl,rfl⟩:=g2 rfl;rw[show Nat.min ys.length 0=0 from Nat.min_zero _]at hfc;simp[run_underlying hu,Builtin.lenOf,hsz,hfc,goInt]
     | some ad =>
      simp[run_underlying hu,Builtin.lenOf,hsz,hfc,g1 ad rfl,goInt]
    unfold Oper.wp;rw[hex];refine hK _ _ (iY h8 (E':=E) (F':=F) ?_ ?_ ?_)
    ·exact g3.mono λk hk=>.inl hk
    ·exact ht.ext g4
    ·exact⟨by simp[cw],by rw[RepL,RepD]⟩
   ·exact h5.fail.elim
  ·exact h2.fail.elim
 ·exact h2.fail.elim
end
end Go.Proofs.Zz
