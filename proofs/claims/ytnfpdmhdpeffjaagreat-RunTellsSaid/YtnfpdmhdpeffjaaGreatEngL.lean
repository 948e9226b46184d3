import Derived.Test.YtnfpdmhdpeffjaaGreatEngJ
import Derived.Laws.Cells
set_option linter.unusedSimpArgs false
set_option linter.unusedVariables false
/- Loads and addresses. -/
namespace Go.Proofs.Zz
open Go

theorem a8f (b o n:Nat):(⟨b,o,none⟩:Addr).add n = ⟨b,o+n,none⟩:=by
 unfold Addr.add;split
 · rename_i h; subst h; rfl
 · rfl
theorem c0y {α:Type}:∀ (l:List α) (n:Nat),nthO l n = l[n]?
 | [],_=>by simp [nthO]
 | _::_,0=>by simp [nthO]
 | _::r,n+1=>by simp only [nthO,c0y r n]; simp
theorem b7s (a b:List L):sizes (a++b) = sizes a++sizes b:=by simp [b8c]
theorem b8y (l:List L) (n:Nat):sizes (l.take n) = (sizes l).take n:=by simp [b8c]
theorem a6T (l:List L):(sizes l).length = l.length:=by simp [b8c]

section
variable {P:Program} {E:Env} {F:Nat→Prop} {w:World} {t:TypeId} {i:TI}
theorem d1u {ls:List L} {c:List Value} {b o:Nat} (h:RepLs E F w ls c) (ha:At w b o c) (l n:Nat) :
  ∃ c',RepLs E F w (takeN n (dropN l ls)) c'∧At w b (o+((sizes ls).take l).sum) c':=by
 rw [a2G,a6C];have e:ls = ls.take l++((ls.drop l).take n++(ls.drop l).drop n):=by rw [List.take_append_drop,List.take_append_drop]
 rw [e] at h;obtain ⟨c1,d,rfl,h1,h2⟩:=h.split;obtain ⟨c2,c3,rfl,h3,h4⟩:=h2.split;refine ⟨c2,h3,?_⟩;have:=(ha.append.2).append.1
 rwa [a4m h1,b8y] at this

theorem TOk.one (h:TOk P t i) (ha:i.agg = false):i.lay.sum = 1:=by
 obtain ⟨f,z,h1,h2,h3,h4,h5⟩:=h.inf;have:=a4m (b7y (E:=⟨fun _=>⟨0,0,0,0,0,false,fun _=>0,fun _=>0,[],[],.bool false⟩,fun _=>False⟩) (F:=fun _=>False) (w:=default) _ _ h4);rw [← h.lay] at this;rw [← this];cases z <;> simp [ha,Value.cells] at h5 ⊢
theorem TOk.isAgg (h:TOk P t i):(isAgg t).run P w = .ok i.agg w:=by
 obtain ⟨d,h1,h2,_⟩:=h.und;unfold Go.isAgg;simp only [Sem.run_bind,run_underlying h1,Result.andThen_ok];rw [← h2];cases d <;> simp [isAggD]
theorem TOk.sizeOf (h:TOk P t i):(sizeOf t).run P w = .ok i.lay.sum w:=by
 obtain ⟨f,z,h1,h2,_⟩:=h.inf;simp [Go.sizeOf,typeInfo,h1,h2]
theorem e2B (h:TOk P t i) {b o:Nat} {c:List Value} {ls:List L} (hr:RepLs E F w ls c) (ha:At w b o c) (hl:natsEq (sizes ls) i.lay = true) {v:V} (hv:toV i ls = some v) :
  ∃ y,(Instr.loadAt t (.pointer (some ⟨b,o,none⟩))).run P w = .ok y w∧RepV E F w v y:=by
 have hl:=a1c hl;have hc:c.length = i.lay.sum:=by rw [a4m hr,hl]
 unfold toV at hv;cases hag:i.agg with
 | true =>
  rw [hag] at hv;simp only [Option.some.injEq] at hv; subst hv;refine ⟨.agg c.toArray,?_,c.toArray,rfl,by simpa using hr⟩
  simp only [Instr.loadAt,Instr.sureAddr,loadVar,Sem.run_bind,Sem.run_pure,Result.andThen_ok,h.isAgg,hag,if_true,h.sizeOf];rw [← hc,run_loadCells_list w ⟨b,o,none⟩ c (fun j u hj=>by rw [a8f]; exact ha j u hj)];rfl
 | false =>
  rw [hag] at hv
  match ls,hv,hr with
  | [l],hv,hr =>
   simp only [Option.some.injEq] at hv; subst hv;have hr:=All.one.1 hr;have h1:=h.one hag
   match c,hr,ha,hc with
   | [u],hr,ha,hc =>
    refine ⟨u,?_,d9m (c7B hr u (by simp)) hr⟩;simp only [Instr.loadAt,Instr.sureAddr,loadVar,Sem.run_bind,Sem.run_pure,Result.andThen_ok,h.isAgg,hag,Bool.false_eq_true,if_false,run_load,ha.one]
   | [],_,_,hc=>simp at hc; omega
   | _::_::_,_,_,hc=>simp at hc; omega
  | [],hv,_=>simp at hv
  | _::_::_,hv,_=>simp at hv
end

section
variable {P:Program} {ok:Nat→List DV→List DV→Prop} {α:Type} {s:St} {r:α} {C:Frm} {A:Nat→Prop} {E:Env} {F:Nat→Prop} {w:World}
theorem c6S {k:Nat}:∀ (n l:Nat) {f:List L→Rd α},Ev ok (rdLs k n l f) s r →
  ∃ ls,ls.length = n∧Ev ok (f ls) s r∧(n = 0∨∃ bl,lookO s.ob k = .box bl∧ls = takeN n (dropN l bl)∧l+n≤bl.length)
 | 0,l,f,h=>⟨[],rfl,h,.inl rfl⟩
 | n+1,l,f,h=>by
  simp only [rdLs] at h;have h:=h.get;split at h
  ·
   rename_i x hx;obtain ⟨ls,h1,h2,h3⟩:=c6S n (l+1) h;simp only [look] at hx;split at hx
   ·
    rename_i bl hbl;split at hx
    ·
     rename_i y hy;simp only [Cn.l.injEq] at hx; subst hx;rw [c0y] at hy;have hlt:=(List.getElem?_eq_some_iff.1 hy).1;refine ⟨y::ls,by simp [h1],h2,.inr ⟨bl,hbl,?_,?_⟩⟩
     ·
      rcases h3 with rfl | ⟨bl',e1,e2,e3⟩
      ·
       have:ls = []:=List.length_eq_zero_iff.1 h1;subst this;rw [a2G,a6C,List.drop_eq_getElem_cons hlt];simp [(List.getElem?_eq_some_iff.1 hy).2]
      ·
       rw [hbl] at e1; simp only [Obj.box.injEq] at e1; subst e1;rw [a2G,a6C,List.drop_eq_getElem_cons hlt,List.take_succ_cons,(List.getElem?_eq_some_iff.1 hy).2];rw [e2,a2G,a6C]
     ·
      rcases h3 with rfl | ⟨bl',e1,e2,e3⟩
      · omega
      · rw [hbl] at e1; simp only [Obj.box.injEq] at e1; subst e1; omega
    · simp at hx
   · simp at hx
  · exact h.fail.elim
theorem e8N {k:Nat} {bl:List L} (hm:Mem C A E F s.ob w) (hb:lookO s.ob k = .box bl):∃ cs t,BoxAt w (E.e k) t cs∧RepLs E F w bl cs∧At w (E.e k).blk (E.e k).pre.length cs ∧
  ∀ i,i≤bl.length→(E.e k).loff i = (E.e k).pre.length+((sizes bl).take i).sum:=by
 have:=hm.rp k;rw [hb] at this;obtain ⟨cs,t,h1,h2,h3,h4⟩:=this;refine ⟨cs,t,h1,h2,fun j u hj=>?_,h4⟩
 obtain ⟨ds,fr,k1,k2,k3⟩:=h1;unfold World.cell?;simp only [k1,Option.isSome_none,Bool.false_eq_true,if_false];have hlt:=(List.getElem?_eq_some_iff.1 hj).1;rw [← Array.getElem?_toList,k2,List.getElem?_append_right (by omega),Nat.add_sub_cancel_left,List.getElem?_append_left hlt];exact hj
theorem d3a {k n l:Nat} {ls:List L} (hm:Mem C A E F s.ob w) (hn:ls.length = n) (h:n = 0∨∃ bl,lookO s.ob k = .box bl∧ls = takeN n (dropN l bl)∧l+n≤bl.length) :
  ∃ c,RepLs E F w ls c∧At w (E.e k).blk ((E.e k).loff l) c:=by
 rcases h with rfl | ⟨bl,h1,rfl,h3⟩
 ·
  have:ls = []:=List.length_eq_zero_iff.1 hn;subst this;exact ⟨[],rfl,At.nil⟩
 ·
  obtain ⟨cs,t,k1,k2,k3,k4⟩:=e8N hm h1;obtain ⟨c,g1,g2⟩:=d1u k2 k3 l n;refine ⟨c,g1,?_⟩;rw [k4 l (by omega)]
  simpa using g2
theorem e5p {k l:Nat} {x:L} (h:look s (.lf k l) = .l x):∃ bl,lookO s.ob k = .box bl∧bl[l]? = some x:=by
 simp only [look] at h;split at h
 ·
  rename_i bl hbl;split at h
  ·
   rename_i y hy;simp only [Cn.l.injEq] at h; subst h;exact ⟨bl,hbl,by rw [← c0y]; exact hy⟩
  · simp at h
 · simp at h
theorem d2i {k l:Nat} {x:L} {bl:List L} (hm:Mem C A E F s.ob w) (h:lookO s.ob k = .box bl) (hx:bl[l]? = some x):∃ c,RepL E F w x c∧At w (E.e k).blk ((E.e k).loff l) c:=by
 have hlt:=(List.getElem?_eq_some_iff.1 hx).1;obtain ⟨c,h1,h2⟩:=d3a (s:=s) (k:=k) (l:=l) (n:=1) (ls:=[x]) hm rfl (.inr ⟨bl,h,by
  rw [a2G,a6C,List.drop_eq_getElem_cons hlt]; simp [(List.getElem?_eq_some_iff.1 hx).2],hlt⟩)
 exact ⟨c,All.one.1 h1,h2⟩
theorem c3f {a:Ty} (v:Den a) (l:Nat):lOff a l = ((sizes (unpk a v)).take l).sum:=by
 unfold lOff; rw [a2G,d1R v]
theorem a6X {k:Nat} {a:Ty} {xs:List (Den a)} {ro:Bool} (hm:Mem C A E F s.ob w) (h:lookO s.ob k = .arr a xs ro):xs.length = (E.e k).len∧(E.e k).len≤(E.e k).cap∧(E.e k).esz = a.sz∧(∀ l,(E.e k).eoff l = lOff a l) ∧
  ∃ ds,All (fun x c=>RepD F w a x c) xs ds∧At w (E.e k).blk (E.e k).base ds:=by
 have:=hm.rp k;rw [h] at this;obtain ⟨h1,h2,h3,h4,h5,h6⟩:=this;refine ⟨h1,h2,h3,h4,?_⟩;cases hn:(E.e k).nil with
 | false=>obtain ⟨cs,u,fr,ds,k1,k2,k3,k4,_⟩:=h6 hn; exact ⟨ds,k3,k4⟩
 | true =>
  have hz:=h5 hn;have:xs = []:=List.length_eq_zero_iff.1 (by omega);subst this;exact ⟨[],rfl,At.nil⟩
theorem d3A {a:Ty} {xs:List (Den a)} {ds:List Value} {b o i:Nat} (h:All (fun x c=>RepD F w a x c) xs ds) (ha:At w b o ds) (hi:i < xs.length) :
  ∃ d,RepD F w a (xs.getD i (zeroD a)) d∧At w b (o+i*a.sz) d:=by
 have hx:xs[i]? = some (xs.getD i (zeroD a)):=by simp [List.getD,hi]
 obtain ⟨c,d,e,rfl,h2,h3⟩:=h.get (fun x c=>a0X) hx;refine ⟨d,h3,?_⟩;have:=(ha.append.2).append.1
 rwa [h2] at this

theorem e7j {cx:Cx} {hi:Hi} {o:Oper} (hti:TIok P cx) {t:TypeId} {x:Operand} (ho:o.op = .load t x):OpP P ok cx hi o:=by
 intro C rg ix key A s a w wr K Q h hr hA hK;simp only [opSem,ho] at h;obtain ⟨E,F,hm,ht⟩:=hr;obtain ⟨i,hi',h⟩:=Cx.t_ev h;have hT:=hti t i hi';obtain ⟨X,h1,h2⟩:=a6A h ht;have fin:∀ (b o':Nat) (c:List Value) (ls:List L),a.eval x = .pointer (some ⟨b,o',none⟩)→RepLs E F w ls c→At w b o' c →
   Ev ok (match natsEq (sizes ls) i.lay with
    | true=>match toV i ls with
     | some v=>fin hi o.dst [] v
     | none=>.fail
    | false=>.fail) s wr→o.wp P a w K Q:=by
  intro b o' c ls hx hl hat h;split at h
  ·
   rename_i hz;split at h
   ·
    rename_i v hv;obtain ⟨y,k1,k2⟩:=e2B hT hl hat hz hv;refine a0I ?_ h hm ht k2 hK;simp only [execOp,ho,hx,Sem.run_bind,k1];rfl
   · exact h.fail.elim
  · exact h.fail.elim
 unfold loadS at h2;split at h2
 ·
  rename_i n l;obtain ⟨ls,k1,k2,k3⟩:=c6S _ _ h2;obtain ⟨c,g1,g2⟩:=d3a hm k1 k3;have:=h1.2; rw [RepL] at this; have:=this.2.1; simp only [List.cons.injEq,and_true] at this;exact fin _ _ c ls this g1 g2 k2
 ·
  rename_i n l m i';have h2:=h2.get;split at h2
  ·
   rename_i m' a' v hv;obtain ⟨bl,g1,g2⟩:=e5p hv;obtain ⟨c,g3,g4⟩:=d2i hm g1 g2;have hp:=h1.2; rw [RepL] at hp;obtain ⟨_,hlt,hp⟩:=hp;simp only [List.cons.injEq,and_true] at hp;split at h2
   ·
    rename_i j v hmm;have hmm:=Nat.eq_of_beq_eq_true hmm;rw [RepL,RepD] at g3;have hc:=d2s g3.2;have hl:List.length (α:=Int) v = m:=by rw [hmm]; exact g3.1
    refine fin _ _ [.int j ((v:List Int).getD i' 0)] _ hp (All.one.2 (by rw [RepL,RepD])) (At.of_one ?_) h2;have:c[i']? = some (.int j ((v:List Int).getD i' 0)):=by
     rw [hc]; simp [List.getD,hl,hlt]
    exact g4 i' _ this
   ·
    rename_i v hmm;have hmm:=Nat.eq_of_beq_eq_true hmm;rw [RepL,RepD] at g3;have hc:=c6u g3.2;have hl:List.length (α:=Bool) v = m:=by rw [hmm]; exact g3.1
    refine fin _ _ [.bool ((v:List Bool).getD i' false)] _ hp (All.one.2 (by rw [RepL,RepD])) (At.of_one ?_) h2;have:c[i']? = some (.bool ((v:List Bool).getD i' false)):=by
     rw [hc]; simp [List.getD,hl,hlt]
    exact g4 i' _ this
   · exact h2.fail.elim
  · exact h2.fail.elim
 ·
  rename_i n i' l y';have h2:=h2.get;simp only [look] at h2;split at h2
  ·
   rename_i a' xs ro hobj;simp only [Cn.o.injEq] at hobj;obtain ⟨g1,g2,g3,g4,ds,g5,g6⟩:=a6X hm hobj;have hp:=h1.2; rw [RepL] at hp;obtain ⟨_,hlt,hp,_⟩:=hp;simp only [List.cons.injEq,and_true] at hp;obtain ⟨d,k1,k2⟩:=d3A g5 g6 (i:=i') (by omega);obtain ⟨c,k3,k4⟩:=d1u (a7m (E:=E) k1) k2 l i.lay.length;rw [← c3f,← g4,← g3] at k4;exact fin _ _ c _ hp k3 k4 h2
  · exact h2.fail.elim
 ·
  rename_i a' v l;obtain ⟨_,b,o',ds,k1,k2,k3,k4⟩:=h1;simp only [List.cons.injEq,and_true] at k1;obtain ⟨c,g1,g2⟩:=d1u (a7m (E:=E) k3) k4 l i.lay.length;rw [← c3f] at g2;exact fin _ _ c _ k1 g1 g2 h2
 · exact h2.fail.elim
end
end Go.Proofs.Zz

/- Addresses of fields and elements; cuts; lengths. -/
namespace Go.Proofs.Zz
open Go

theorem d2f {P:Program}:∀ (fs:List Field) (fl:List (Nat × List Nat)) (lay:List Nat),fsOk P fs fl lay = true→∀ (f:Nat) (d:Nat) (z:List Nat),nthO fl f = some (d,z) →
  ∃ x y,fs[f]? = some x∧x.offset = (lay.take d).sum∧P.info? x.type = some y∧y.size = z.sum∧y.size≠0∧z = (lay.drop d).take z.length∧d+z.length≤lay.length
 | [],[],_,_,f,d,z,hn=>by simp [nthO] at hn
 | [],_::_,_,h,_,_,_,_=>by simp [fsOk] at h
 | _::_,[],_,h,_,_,_,_=>by simp [fsOk] at h
 | x::r,p::q,lay,h,f,d,z,hn=>by
  simp only [fsOk,Bool.and_eq_true,Nat.beq_eq,Nat.ble_eq] at h;obtain ⟨⟨⟨⟨h1,h2⟩,h3⟩,h4⟩,h5⟩:=h;cases f with
  | zero =>
   simp only [nthO,Option.some.injEq] at hn; subst hn;split at h2
   ·
    rename_i y hy;simp only [Bool.and_eq_true,Nat.beq_eq,Bool.not_eq_true'] at h2;refine ⟨x,y,rfl,h1,hy,h2.1,?_,a1c h3,h4⟩;intro e;have:=h2.2;rw [e] at this; simp at this
   · simp at h2
  | succ f =>
   obtain ⟨x',y,g1,g2⟩:=d2f r q lay h5 f d z hn;exact ⟨x',y,by simpa using g1,g2⟩

section
variable {P:Program} {ok:Nat→List DV→List DV→Prop} {cx:Cx} {hi:Hi} {o:Oper}
theorem d7Q {t:TypeId} {fs:Array Field} {f:Nat} {x:Field} {y:TypeInfo} (hu:P.underlying t = some (.struct fs)) (hf:fs[f]? = some x) (hy:P.info? x.type = some y) (hz:y.size≠0) (b n:Nat) (w:World) :
  (Instr.fieldAt t (.pointer (some ⟨b,n,none⟩)) f).run P w = .ok (.pointer (some ⟨b,n+x.offset,none⟩)) w:=by
 simp [Instr.fieldAt,run_underlying hu,hf,Instr.sureAddr,fieldPlace,sizeOf,typeInfo,hy,hz,a8f]
theorem Steps.sub {g:Nat→Nat} {l d:Nat} {y z:List Nat} (h:Steps g l y) (hz:z = (y.drop d).take z.length) (hd:d+z.length≤y.length):Steps g (l+d) z:=by
 intro e he;have h1:=h (d+e) (by omega);have h2:=h d (by omega);rw [Nat.add_assoc,h1,h2,Nat.add_assoc];congr 1;have e1:y.take (d+e) = y.take d++(y.drop d).take e:=List.take_add ..;have e2:z.take e = (y.drop d).take e:=by
  rw [hz,List.take_take,Nat.min_eq_left he]
 rw [e1,List.sum_append,e2]
theorem d6a (hti:TIok P cx) {t:TypeId} {x:Operand} {f:Nat} (ho:o.op = .fieldAddr t x f):OpP P ok cx hi o:=by
 intro C rg ix key A s a w wr K Q h hr hA hK;simp only [opSem,ho] at h;obtain ⟨E,F,hm,ht⟩:=hr;obtain ⟨i,hi',h⟩:=Cx.t_ev h;have hT:=hti t i hi';obtain ⟨X,h1,h2⟩:=a6A h ht;unfold fieldS at h2;split at h2
 ·
  rename_i d z htd hn;obtain ⟨fs,hu,hfs⟩:=hT.struct htd;obtain ⟨fx,y,g1,g2,g3,g4,g5,g6,g7⟩:=d2f _ _ _ hfs f d z hn;have g1':fs[f]? = some fx:=by simpa using g1
  have run:∀ b n,a.eval x = .pointer (some ⟨b,n,none⟩)→(execOp a.eval o).run P w = .ok (.value (.pointer (some ⟨b,n+fx.offset,none⟩))) w:=by
   intro b n hx;simp only [execOp,ho,hx,Sem.run_bind,d7Q hu g1' g3 g5];rfl
  split at h2
  ·
   rename_i n l y';split at h2
   ·
    rename_i hy;have hy:=a1c hy; subst hy;have hp:=h1.2; rw [RepL] at hp;obtain ⟨p1,p2,p3⟩:=hp;simp only [List.cons.injEq,and_true] at p2;refine a0I (run _ _ p2) h2 hm ht ⟨trivial,p1,?_,p3.sub g6 g7⟩ hK;rw [p3 d (by omega),g2]
   · exact h2.fail.elim
  ·
   rename_i n j l y';split at h2
   ·
    rename_i hy;have hy:=a1c hy; subst hy;have hp:=h1.2; rw [RepL] at hp;obtain ⟨p1,p2,p3,p4⟩:=hp;simp only [List.cons.injEq,and_true] at p3;refine a0I (run _ _ p3) h2 hm ht ⟨trivial,p1,p2,?_,p4.sub g6 g7⟩ hK;rw [p4 d (by omega),g2];simp [Nat.add_assoc]
   · exact h2.fail.elim
  ·
   rename_i a' v l;split at h2
   ·
    rename_i hy;have hy:=a1c hy;obtain ⟨_,b,o',ds,k1,k2,k3,k4⟩:=h1;simp only [List.cons.injEq,and_true] at k1;refine a0I (run _ _ k1) h2 hm ht ⟨trivial,b,o',ds,?_,k2,k3,k4⟩ hK;have:lOff a' (l+d) = lOff a' l+fx.offset:=by
     unfold lOff;rw [a2G,a2G,g2,← hy,a2G,a6C,List.take_take,Nat.min_eq_left (by omega),List.take_add,List.sum_append]
    rw [this]; simp [Nat.add_assoc]
   · exact h2.fail.elim
  · exact h2.fail.elim
 · exact h2.fail.elim

theorem c3p {t e:TypeId} {f:TypeInfo} (hu:P.underlying t = some (.slice e)) (hf:P.info? e = some f) {b n len cap:Nat} {k:IntKind} {i:Int} (h0:0≤i) (h1:i < len) (w:World) :
  (Instr.indexAt t (.slice (some ⟨b,n,none⟩) len cap) (.int k i)).run P w = .ok (.pointer (some ⟨b,n+i.toNat*f.size,none⟩)) w:=by
 simp [Instr.indexAt,asIntOf,run_underlying hu,h0,h1,sizeOf,typeInfo,hf,a8f]
theorem b3s {t e:TypeId} {f:TypeInfo} {m:Nat} (hu:P.underlying t = some (.array m e)) (hf:P.info? e = some f) {b n:Nat} {k:IntKind} {i:Int} (h0:0≤i) (h1:i < m) (w:World) :
  (Instr.indexAt t (.pointer (some ⟨b,n,none⟩)) (.int k i)).run P w = .ok (.pointer (some ⟨b,n+i.toNat*f.size,none⟩)) w:=by
 simp [Instr.indexAt,asIntOf,run_underlying hu,h0,h1,sizeOf,typeInfo,hf,a8f,Instr.sureAddr]
theorem b4q {i:Int} {n:Nat} (h:idx i n = true):0≤i∧i < n:=by simpa [idx] using h
theorem b7t {t:Ty} (h:scalar t = true):t.sz = 1:=by cases t <;> simp [scalar] at h <;> rfl
theorem c2T {a:Ty} {g:Nat→Nat} (h:∀ l,g l = lOff a l):Steps g 0 (sizes (unpk a (zeroD a))):=by
 intro d hd;rw [h,h,Nat.zero_add];unfold lOff;rw [a2G,a2G]; simp
theorem d9g {e:EI} {off n:Nat} {v:Value} (h:Win e off n [v]) (hn:0 < n) (hc:e.len≤e.cap):∃ c,v = .slice (some ⟨e.blk,e.base+off*e.esz,none⟩) n c:=by
 obtain ⟨h1,a,h2,h3⟩:=h;have:=h3 (by omega);simp only [List.cons.injEq,and_true] at h2;exact ⟨_,by rw [h2,this.2]⟩
theorem d5f (hti:TIok P cx) {t:TypeId} {x y:Operand} (ho:o.op = .indexAddr t x y):OpP P ok cx hi o:=by
 intro C rg ix key A s a w wr K Q h hr hA hK;simp only [opSem,ho] at h;obtain ⟨E,F,hm,ht⟩:=hr;obtain ⟨i,hi',h⟩:=Cx.t_ev h;have hT:=hti t i hi';obtain ⟨X,h1,h2⟩:=a6A h ht;obtain ⟨Y,h3,h4⟩:=a6A h2 ht;unfold indexS at h4;split at h4
 ·
  rename_i k j;have hj:=a7x h3;split at h4
  ·
   -- arrays
   rename_i htd;obtain ⟨e,hu,⟨f,z,f1,f2,f3,f4,f5⟩,hsc,hzk⟩:=hT.array htd;have hsz:f.size = 1:=by rw [f2,b7t hsc]
   split at h4
   ·
    rename_i n l y';rcases h4.ite with ⟨hb,h4⟩ | ⟨_,h4⟩
    ·
     obtain ⟨b0,b1⟩:=b4q hb;have hp:=h1.2; rw [RepL] at hp;obtain ⟨p1,p2,p3⟩:=hp;simp only [List.cons.injEq,and_true] at p2;refine a0I (v:=.pointer (some ⟨(E.e n).blk,(E.e n).loff l+j.toNat,none⟩)) ?_ h4 hm ht ⟨trivial,p1,by omega,rfl⟩ hK
     simp only [execOp,ho,p2,hj,Sem.run_bind,b3s hu f1 b0 b1,hsz,Nat.mul_one];rfl
    · exact h4.fail.elim
   ·
    rename_i a' v l;split at h4
    ·
     rename_i m b w' r hd;split at h4
     ·
      rename_i hmb;simp only [Bool.and_eq_true,Nat.beq_eq,g7H] at hmb;obtain ⟨rfl,rfl⟩:=hmb;rcases h4.ite with ⟨hb,h4⟩ | ⟨_,h4⟩
      ·
       obtain ⟨b0,b1⟩:=b4q hb;obtain ⟨_,bb,o',ds,k1,k2,k3,k4⟩:=h1;simp only [List.cons.injEq,and_true] at k1
       -- the array's cells among the datum's
       obtain ⟨c,g1,g2⟩:=d1u (a7m (E:=E) k3) k4 l 1;rw [← c3f] at g2;rw [hd] at g1;have g1:=All.one.1 (show RepLs E F w [L.dat (.ar i.n i.ety) w'] c from g1);have g1':=g1;rw [RepL,RepD] at g1';have hlw:List.length w' = i.n:=g1'.1;obtain ⟨d,m1,m2⟩:=d3A g1'.2 g2 (i:=j.toNat) (by rw [hlw]; omega);refine a0I (v:=.pointer (some ⟨bb,o'+lOff a' l+j.toNat*f.size,none⟩)) ?_ h4 hm ht ⟨trivial,bb,o'+lOff a' l+j.toNat*i.ety.sz,d,?_,k2,m1,m2⟩ hK
       ·
        simp only [execOp,ho,k1,hj,Sem.run_bind,b3s hu f1 b0 b1];rfl
       · rw [f2]; simp [lOff,takeN]
      · exact h4.fail.elim
     · exact h4.fail.elim
    · exact h4.fail.elim
   · exact h4.fail.elim
  ·
   -- slices
   rename_i htd;obtain ⟨e,hu,⟨f,z,f1,f2,f3,f4,f5⟩⟩:=hT.slice htd;have run:∀ b n len cap,a.eval x = .slice (some ⟨b,n,none⟩) len cap→0≤j→j < len→(execOp a.eval o).run P w = .ok (.value (.pointer (some ⟨b,n+j.toNat*i.ety.sz,none⟩))) w:=by
    intro b n len cap hx h0 hlt;rw [← f2];simp only [execOp,ho,hx,hj,Sem.run_bind,c3p hu f1 h0 hlt];rfl
   have frz:∀ (xs:List (Den i.ety)),RepD F w (.sl i.ety) xs [a.eval x]→Ev ok (Rd.ite (idx j xs.length) (fin hi o.dst [] (.one (.rf i.ety (xs.getD j.toNat (zeroD i.ety)) 0))) .fail) s wr→o.wp P a w K Q:=by
    intro xs hr h4;rcases h4.ite with ⟨hb,h4⟩ | ⟨_,h4⟩
    ·
     obtain ⟨b0,b1⟩:=b4q hb;rw [RepD] at hr;obtain ⟨ad,cap,k1,k2,k3⟩:=hr;rcases k3 with rfl | ⟨b,o',ds,rfl,k4,k5,k6⟩
     · simp at b1; omega
     ·
      simp only [List.cons.injEq,and_true] at k1;obtain ⟨d,m1,m2⟩:=d3A k5 k6 (i:=j.toNat) (by omega);exact a0I (run _ _ _ _ k1 b0 b1) h4 hm ht ⟨trivial,b,o'+j.toNat*i.ety.sz,d,by simp [lOff,takeN],k4,m1,m2⟩ hK
    · exact h4.fail.elim
   split at h4
   ·
    rename_i n;have h4:=h4.get;simp only [look] at h4;split at h4
    ·
     rename_i a' xs ro hobj;simp only [Cn.o.injEq] at hobj;have e4:=a1A h4; subst e4; have h4:=a0Z h4;rcases h4.ite with ⟨hb,h4⟩ | ⟨_,h4⟩
     ·
      obtain ⟨b0,b1⟩:=b4q hb;obtain ⟨g1,g2,g3,g4,ds,g5,g6⟩:=a6X hm hobj;obtain ⟨_,p1,p2⟩:=h1;obtain ⟨c,hx⟩:=d9g p2 (by omega) g2;have b1':j < ((E.e n).len:Int):=by rw [← g1]; exact b1
      refine a0I (run _ _ _ _ hx b0 b1') h4 hm ht ⟨trivial,p1,by omega,?_,c2T g4⟩ hK
      rw [g4,g3]; simp [lOff,takeN]
     · exact h4.fail.elim
    · exact h4.fail.elim
   ·
    rename_i n off;have h4:=h4.get;simp only [look] at h4;split at h4
    ·
     rename_i a' xs ro hobj;simp only [Cn.o.injEq] at hobj;have e4:=a1A h4; subst e4; have h4:=a0Z h4;rcases h4.ite with ⟨hb,h4⟩ | ⟨_,h4⟩
     ·
      obtain ⟨b0,b1⟩:=b4q hb;obtain ⟨g1,g2,g3,g4,ds,g5,g6⟩:=a6X hm hobj;obtain ⟨_,p1,p0,p2⟩:=h1;have b1':j < ((E.e n).len - off:Nat):=by rw [← g1]; exact b1
      obtain ⟨c,hx⟩:=d9g p2 (by omega) g2;refine a0I (run _ _ _ _ hx b0 b1') h4 hm ht ⟨trivial,p1,by omega,?_,c2T g4⟩ hK
      rw [g4,g3]; simp [lOff,takeN,Nat.add_mul,Nat.add_assoc]
     · exact h4.fail.elim
    · exact h4.fail.elim
   ·
    rename_i n off len;have h4:=h4.get;simp only [look] at h4;split at h4
    ·
     rename_i a' xs ro hobj;simp only [Cn.o.injEq] at hobj;have e4:=a1A h4; subst e4; have h4:=a0Z h4;rcases h4.ite with ⟨hb,h4⟩ | ⟨_,h4⟩
     ·
      obtain ⟨b0,b1⟩:=b4q hb;obtain ⟨g1,g2,g3,g4,ds,g5,g6⟩:=a6X hm hobj;obtain ⟨_,p1,p2⟩:=h1;obtain ⟨c,hx⟩:=d9g p2 (by omega) g2;have:=p2.1;refine a0I (run _ _ _ _ hx b0 b1) h4 hm ht ⟨trivial,p1,by omega,?_,c2T g4⟩ hK
      rw [g4,g3]; simp [lOff,takeN,Nat.add_mul,Nat.add_assoc]
     · exact h4.fail.elim
    · exact h4.fail.elim
   ·
    rename_i a' xs;have e4:=a1A h4; subst e4; have h4:=a0Z h4;exact frz xs h1.2 h4
   ·
    rename_i a' xs;have e4:=a1A h4; subst e4; have h4:=a0Z h4;exact frz xs h1.2.1 h4
   ·
    rename_i q n i' sz y';split at h4
    ·
     rename_i hsz;have hsz:=Nat.eq_of_beq_eq_true hsz;rcases h4.ite with ⟨hb,h5⟩ | ⟨_,h5⟩
     ·
      simp only [decide_eq_true_eq] at hb;obtain ⟨rfl,b0,b1⟩:=hb;obtain ⟨_,p1,p2,ad,m,c,p3,p4,p5⟩:=h1;obtain ⟨b,rfl,q1,q2⟩:=p5 b0 b1;simp only [List.cons.injEq,and_true] at p2;rw [p3] at p2;refine a0I (x:=.one (.ptr q 0 y')) (run _ _ _ _ p2 b0 (by rw [p4]; exact b1)) h5 hm ht ⟨trivial,p1,?_,q2⟩ hK;rw [q1,hsz]
     · exact h5.fail.elim
    · exact h4.fail.elim
   · exact h4.fail.elim
  · exact h4.fail.elim
 · exact h4.fail.elim
end
end Go.Proofs.Zz
