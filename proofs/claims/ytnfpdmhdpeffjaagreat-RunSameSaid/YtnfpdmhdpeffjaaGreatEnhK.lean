import Derived.Test.YtnfpdmhdpeffjaaGreatEnhF
import Derived.OpenShut
import Derived.ChangeArms
import Derived.Below
set_option linter.unusedSimpArgs false
set_option linter.unusedVariables false
namespace Go.Proofs.Zz
open Go
def wf:(t:Ty)→Den t→Prop
 | .int k,v=>(Lit.int k v).wf=true
 | .bool,_=>True
 | .str,s=>ByteArray.size s≤maxLen
 | .unit,_=>True
 | .nl,_=>True
 | .pair a b,v=>wf a v.1∧wf b v.2
 | .ar n a,v=>List.length v=n∧∀x∈v,wf a x
 | .sl a,v=>List.length v≤maxLen∧∀x∈v,wf a x
noncomputable def isFs (P:Program) (chk:TypeId→Ty→Bool):List Field→Ty→Nat→Bool
 | [],.unit,_=>true
 | f::r,.pair a b,o=>Nat.beq f.offset o&&(Nat.beq (P.cellsOf f.type) a.sz&&(chk f.type a&&isFs P chk r b (o+a.sz)))
 | _,_,_=>false
noncomputable def isTy (P:Program):Nat→TypeId→Ty→Bool
 | 0,_,_=>false
 | n+1,t,T=>match P.underlying t,T with
  | some .bool,.bool=>true
  | some (.int k),.int k'=>decide (k=k')
  | some .string,.str=>true
  | some (.slice e),.sl a=>Nat.beq (P.cellsOf e) a.sz&&(Nat.blt 0 a.sz&&isTy P n e a)
  | some (.array m e),.ar m' a=>Nat.beq m m'&&(Nat.beq (P.cellsOf e) a.sz&&(Nat.beq (P.cellsOf t) (m*a.sz)&&isTy P n e a))
  | some (.struct fs),T=>Nat.beq (P.cellsOf t) T.sz&&isFs P (isTy P n) fs.toList T 0
  | _,_=>false
section
variable {H:Type} {enc:TypeId × Value→H} {P:Program} {w:World}
theorem d8M {a:Addr} {k m:Nat} {row:List Value} (h:w.cells? 0 (a.add k) m=some row):row.length=m∧∀j,j<m→w.cell? ((a.add k).add j)=row[j]?:=by
 unfold World.cells? at h;rw[if_pos (nU _)]at h;refine⟨by simpa using mapM_some_length h,λj hj=>?_⟩
 exact mapM_some_get h j j (by simp[hj])
theorem e4n {a:Addr} {u:Value} (h:w.cell? a=some u):a.spot=none∧a.block<w.heap.size:=by
 unfold World.cell? at h;split at h
 ·
  rename_i c t fr hb;split at h
  ·simp at h
  ·
   rename_i hs;exact⟨by cases hq:a.spot with
    | none=>rfl
    | some x=>rw[hq]at hs; simp at hs,(nM.1 hb).1⟩
 ·simp at h
theorem d9d {α:Type} {R:α→List Value→Prop} {xs:List α} {ds:List Value} {x:α} {c:List Value} (h:All R xs ds) (hx:R x c):All R (xs++[x]) (ds++c) :=
 h.append ⟨c,[],by simp,hx,rfl⟩
theorem e4B {T:Ty} {a:Addr} {len:Nat} (hsz:0<T.sz) (hel:∀i,i<len→∃row v,w.cells? 0 (a.add (i*T.sz)) T.sz=some row∧RepD (λb=>b<w.heap.size) w T v row∧wf T v) :
  ∃xs:List (Den T),xs.length=len∧(∀x∈xs,wf T x)∧(xs=[]∨∃b o ds,a=⟨b,o,none⟩∧b<w.heap.size∧All (λx c=>RepD (λb=>b<w.heap.size) w T x c) xs ds∧At w b o ds):=by
 by_cases hl:len=0
 ·exact⟨[],by simp[hl],by simp,.inl rfl⟩
 have hsp:a.spot=none∧a.block<w.heap.size:=by
  obtain⟨row,v,h1,_,_⟩:=hel 0 (by omega);obtain⟨g1,g2⟩:=d8M h1;have:=g2 0 hsz;rw[mC (by omega)]at this;have:=e4n this
  simpa[Addr.add] using this
 obtain⟨hs1,hs2⟩:=hsp;have ha:a=⟨a.block,a.off,none⟩:=by cases a; simp_all
 have key:∀k,k≤len→∃(xs:List (Den T)) (ds:List Value),xs.length=k∧ds.length=k*T.sz∧(∀x∈xs,wf T x)∧All (λx c=>RepD (λb=>b<w.heap.size) w T x c) xs ds∧At w a.block a.off ds:=by
  intro k;induction k with
  | zero=>intro _; exact⟨[],[],rfl,by simp,by simp,rfl,λj u h=>by simp at h⟩
  | succ k ih =>
   intro hk;obtain⟨xs,ds,h1,h2,h3,h4,h5⟩:=ih (by omega);obtain⟨row,v,g1,g2,g3⟩:=hel k (by omega);obtain⟨r1,r2⟩:=d8M g1;refine⟨xs++[v],ds++row,by simp[h1],by simp[h2,r1,og],?_,d9d h4 g2,?_⟩
   ·
    intro x hx;rcases mM.1 hx with hx | hx
    ·exact h3 x hx
    ·simp only[mI]at hx; subst hx; exact g3
   ·
    refine h5.join ?_;intro j u hj;have hj':j<T.sz:=by rw[← r1]; exact (mL.1 hj).1
    have:=r2 j hj';rw[ha,gU,gU,hj]at this;rw[h2]; exact this
 obtain⟨xs,ds,h1,h2,h3,h4,h5⟩:=key len (mG _);exact⟨xs,h1,h3,.inr ⟨_,_,ds,ha,hs2,h4,h5⟩⟩
theorem c9k {cs:List Value} {o m:Nat} (h:o+m≤cs.length):cs.drop o=(cs.drop o).take m++cs.drop (o+m):=by
 rw[← oN,mh]
theorem d9f {chk:TypeId→Ty→Bool} (hc:∀t T cs,chk t T=true→(∃fuel d,DataW.trod enc P w 0 (λ_=>true) true fuel t cs=some d)→∃v,RepD (λb=>b<w.heap.size) w T v cs∧wf T v) :
  ∀(fs:List Field) (T:Ty) (o:Nat) (cs:List Value),isFs P chk fs T o=true→cs.length=o+T.sz→(∀f∈fs,∃fuel d,DataW.trod enc P w 0 (λ_=>true) true fuel f.type ((cs.drop f.offset).take (P.cellsOf f.type))=some d) →
   ∃v,RepD (λb=>b<w.heap.size) w T v (cs.drop o)∧wf T v
 | [],.unit,o,cs,_,hl,_=>⟨(),by rw[RepD,nJ (by simp[Ty.sz]at hl; omega)],trivial⟩
 | f::r,.pair a b,o,cs,h,hl,hf=>by
  simp only[isFs,mE,nk]at h;obtain⟨h1,h2,h3,h4⟩:=h;simp only[Ty.sz]at hl;obtain⟨v,g1,g2⟩:=hc f.type a _ h3 (hf f (by simp));obtain⟨u,k1,k2⟩:=d9f hc r b (o+a.sz) cs h4 (by omega) (λf' hf'=>hf f' (by simp[hf']));refine⟨(v,u),?_,g2,k2⟩;rw[RepD];rw[h1,h2]at g1;exact⟨_,_,c9k (by omega),g1,k1⟩
 | [],.int _,_,_,h,_,_=>by simp[isFs]at h
 | [],.bool,_,_,h,_,_=>by simp[isFs]at h
 | [],.str,_,_,h,_,_=>by simp[isFs]at h
 | [],.pair _ _,_,_,h,_,_=>by simp[isFs]at h
 | [],.ar _ _,_,_,h,_,_=>by simp[isFs]at h
 | [],.sl _,_,_,h,_,_=>by simp[isFs]at h
 | [],.nl,_,_,h,_,_=>by simp[isFs]at h
 | _::_,.nl,_,_,h,_,_=>by simp[isFs]at h
 | _::_,.unit,_,_,h,_,_=>by simp[isFs]at h
 | _::_,.int _,_,_,h,_,_=>by simp[isFs]at h
 | _::_,.bool,_,_,h,_,_=>by simp[isFs]at h
 | _::_,.str,_,_,h,_,_=>by simp[isFs]at h
 | _::_,.ar _ _,_,_,h,_,_=>by simp[isFs]at h
 | _::_,.sl _,_,_,h,_,_=>by simp[isFs]at h
theorem e2D {T:Ty}:∀(n:Nat) (cs:List Value),cs.length=n*T.sz→(∀i,i<n→∃v,RepD (λb=>b<w.heap.size) w T v ((cs.drop (i*T.sz)).take T.sz)∧wf T v) →
  ∃xs:List (Den T),xs.length=n∧(∀x∈xs,wf T x)∧All (λx c=>RepD (λb=>b<w.heap.size) w T x c) xs cs
 | 0,cs,hl,_=>⟨[],rfl,by simp,by rw[All]; exact List.eq_nil_of_length_eq_zero (by simpa using hl)⟩
 | n+1,cs,hl,h=>by
  obtain⟨v,h1,h2⟩:=h 0 (by omega);obtain⟨xs,g1,g2,g3⟩:=e2D (T:=T) n (cs.drop T.sz) (by simp[hl,og]) (λi hi=>by
   obtain⟨v,k1,k2⟩:=h (i+1) (by omega);refine⟨v,?_,k2⟩;rw[oN,oM,← og]; exact k1)
  refine⟨v::xs,by simp[g1],?_,cs.take T.sz,cs.drop T.sz,by simp,by simpa using h1,g3⟩
  intro x hx;rcases mV.1 hx with rfl | hx
  ·exact h2
  ·exact g2 x hx
theorem a2W : ∀ (n : Nat) (t : TypeId) (T : Ty) (cs : List Value), isTy P n t T = true → (∃ fuel d, DataW.trod enc P w 0 (fun _ => true) true fuel t cs = some d) → ∃ v, RepD (fun b => b < w.heap.size) w T v cs ∧ wf T v
  | 0, _, _, _, h, _ => by simp [isTy] at h
  | n + 1, t, T, cs, h, ⟨fuel, d, hd⟩ => by
    unfold isTy at h
    split at h
    · rename_i hu
      cases fuel with
      | zero => simp [DataW.trod] at hd
      | succ m =>
        unfold DataW.trod at hd
        rw [hu] at hd
        have key : ∃ b, cs = [.bool b] := by split at hd <;> simp_all
        obtain ⟨b, rfl⟩ := key
        exact ⟨b, by rw [RepD], trivial⟩
    · rename_i k k' hu
      simp only [decide_eq_true_eq] at h
      subst h
      cases fuel with
      | zero => simp [DataW.trod] at hd
      | succ m =>
        unfold DataW.trod at hd
        rw [hu] at hd
        have key : ∃ n, cs = [.int k n] ∧ (Lit.int k n).wf = true := by
          split at hd <;> simp_all
        obtain ⟨n, rfl, hn⟩ := key
        exact ⟨n, by rw [RepD], by rw [wf]; exact hn⟩
    · rename_i hu
      cases fuel with
      | zero => simp [DataW.trod] at hd
      | succ m =>
        unfold DataW.trod at hd
        rw [hu] at hd
        have key : ∃ s : ByteArray, cs = [.string s] ∧ s.size ≤ maxLen := by
          split at hd <;> simp_all
        obtain ⟨s, rfl, hn⟩ := key
        exact ⟨s, by rw [RepD], by rw [wf]; exact hn⟩
    · rename_i e a hu
      simp only [mE, nk, Nat.blt_eq] at h
      obtain ⟨h1, h2, h3⟩ := h
      rcases DataW.trod_slice hu hd with ⟨rfl, _⟩ | ⟨ad, len, cap, h7Y, rest, m, _, rfl, _, _, hl, hm, hlen, hel, _, _⟩
      · exact ⟨[], by rw [RepD]; exact ⟨none, 0, rfl, mG _, .inl rfl⟩, by rw [wf]; exact ⟨nU _, by simp⟩⟩
      · obtain ⟨xs, g1, g2, g3⟩ := e4B (T := a) (a := ad) (len := len) h2 (fun i hi => by
          have := hel i hi
          rw [mC (by omega), Option.bind_eq_some_iff] at this
          obtain ⟨row, k1, k2⟩ := this
          rw [h1] at k1
          obtain ⟨v, k3, k4⟩ := a2W n e a row h3 ⟨_, _, k2⟩
          exact ⟨row, v, k1, k3, k4⟩)
        refine ⟨xs, ?_, ?_⟩
        · rw [RepD]
          refine ⟨some ad, cap, by rw [g1], by rw [g1]; exact hl, ?_⟩
          rcases g3 with h | ⟨b, o, ds, e1, e2, e3, e4⟩
          · exact .inl h
          · exact .inr ⟨b, o, ds, by rw [e1], e2, e3, e4⟩
        · rw [wf]; exact ⟨by rw [g1]; exact nO hl hm, g2⟩
    · rename_i m e m' a hu
      simp only [mE, nk] at h
      obtain ⟨rfl, h1, h2, h3⟩ := h
      obtain ⟨xs, q, _, _, k1, k2, k3⟩ := DataW.trod_array hu hd
      obtain ⟨ys, g1, g2, g3⟩ := e2D (w := w) (T := a) m cs (by rw [k1, h2]) (fun i hi => by
        have := k3 i hi
        rw [mC (by omega), h1] at this
        exact a2W n e a _ h3 ⟨_, _, this⟩)
      exact ⟨ys, by rw [RepD]; exact ⟨g1, g3⟩, by rw [wf]; exact ⟨g1, g2⟩⟩
    · rename_i T _ _ fs hu
      simp only [mE, nk] at h
      obtain ⟨xs, q, _, _, k1, k2, k3⟩ := DataW.trod_struct hu hd
      have := d9f (enc := enc) (P := P) (w := w) (chk := isTy P n) (fun t T cs h1 h2 => a2W n t T cs h1 h2) fs.toList T 0 cs h.2 (by rw [k1, h.1, ml]) (fun f hf => by
        obtain ⟨i, hi, e⟩ := nC hf
        have hi' : i < fs.size := by simpa using hi
        have := k3 i f (by rw [oY hi']; simpa using e)
        rw [mC (by omega)] at this
        exact ⟨_, _, this⟩)
      simpa using this
    · simp at h
end
theorem d5y {P:Program} {c:CS} {p:List DV} {b:Bool} (h:eM P c p [⟨.bool,b⟩]) (hbx:c.i.bx=[]) (hr:c.r=[.one (.d .bool)]) (hob:c.ob=[]) (hone:c.one=true) {w:World} {vs:List Value}
  (hl:vs.length=c.i.av.length) (hA:RepAs (λ_=>dU .unit) (λb=>b<w.heap.size) w c.i.av p [] vs) :
  Calls P c.fn vs.toArray w λe w'=>e=.returned (.bool b)∧RowKit.Below w.heap.size w w':=by
 have hs:SigIn c.i (λ_=>dU .unit) (λb=>b<w.heap.size) w p [] vs:=by
  refine⟨⟨p,[],[],[],by simp,by simp,hA,by rw[hbx]; exact .nil 0⟩,?_,.nil,?_,?_⟩
  ·intro i j hi; rw[hbx]at hi; simp at hi
  ·intro j hj; rw[hbx]at hj; simp at hj
  ·intro e he; simp at he
 refine (h.2.1 _ _ w [] vs (λb hb=>hb) hl hs).mono ?_
 rintro e w' ⟨v,F',fs,rfl,ho⟩
 obtain⟨β',p1,p2,e1,e2,rs,_,hq,_,hA',hrl,hv,hB⟩:=ho.ex;rw[hone]at hv;simp only at hv;subst hv;rw[hr]at hA';rw[hob]at hB;cases hB;cases hA' with
 | cons a1 a2 =>
  cases a1 with
  | one h1 h2 h3 =>
   cases h3 with
   | d h4 =>
    cases a2;simp only[mJ,oC,mf,mK,DV.mk.injEq,heq_eq_eq,true_and,and_true]at hq;subst hq;rw[RepD]at h4;simp only[mK,and_true]at h4;subst h4;refine⟨rfl,ho.os,ho.tape,ho.output,ho.sz,λk hk=>ho.kp k hk ?_⟩
    rintro (⟨j,hj,_⟩ | ⟨e,he,_⟩)
    ·rw[hbx]at hj; simp at hj
    ·simp at he
section
variable {β:Nat→EI} {F:Nat→Prop} {w:World}
theorem e6K {cs:List Value} {v:Den .unit} (h:RepD F w .unit v cs):RepKs β F w [] [] [] cs:=by
 rw[RepD]at h; subst h; exact .nil
theorem e8k {t:Ty} {x:Den t} {v:Value} {as:List AK} {p:List DV} {vs:List Value} (hc:cw v) (h:RepD F w t x [v]) (hr:RepAs β F w as p [] vs):RepAs β F w (.one (.d t)::as) (⟨t,x⟩::p) [] (v::vs) :=
 .cons (p:=[⟨t,x⟩]) (es:=[]) (.one (λ_=>by simp) hc (.d h)) hr
theorem e3b {k:IntKind} {x:Int} {as:List AK} {p:List DV} {vs:List Value} (hr:RepAs β F w as p [] vs):RepAs β F w (.one (.d (.int k))::as) (⟨.int k,x⟩::p) [] (.int k x::vs) :=
 e8k trivial (by rw[RepD]) hr
theorem c8u {ks:List LK} {p q:List DV} {as:List AK} {cs:Array Value} {vs:List Value} (h:RepKs β F w ks p [] cs.toList) (hr:RepAs β F w as q [] vs):RepAs β F w (.agg ks::as) (p++q) [] (.agg cs::vs) :=
 .cons (es:=[]) (.agg h) hr
end
section
variable {P:Program} {ok:Nat→List DV→List DV→Prop} {cx:Cx} {hi:Hi} {ct:CT} {lt:LT} {bod:Bod} {nt:Nat}
theorem round_ok (hct:CTok ok ct) (hti:TIok P cx) (hok:∀rg ix c,fc hi.cs rg ix=some c→∀p q,ok c.id p q→eM P c p q) (hmix:P.follows .mixedOrders=true) {nb:Nat} (hlt:LTok P hi bod nt nb lt)
  {b:Nat} {l:LS} {body:Code} (hb:hZ bod.lp b body) (hB:h7r bod.bk b body) {again:List DV→Option Rs} {p:List DV} {q:Rs} (h:round cx hi ct lt nt nb b l body again p=some q)
  {C:Frm} (hC:C.nb=nb) {a:Act} {w:World} {β:Nat→EI} {F:Nat→Prop} {es:List EI} (hs:SigIn l.h β F w p es a.tmps.toList) (he:Enter C F w l.h.bx.length β es) (hsz:a.tmps.size=nt) (hd:a.defers=[]) :
  body.wp P (λe a' w'=>(e=.normal∧∃p' β' F' es',again p'=some q∧SigIn l.h β' F' w' p' es' a'.tmps.toList∧Enter C F' w' l.h.bx.length β' es'∧a'.tmps.size=nt∧a'.defers=[])∨(e≠.normal∧h7d C l nt q e a' w')) a w:=by
 subst hC;simp only[round]at h;split at h
 ·simp at h
 ·
  rename_i s0 hs0;obtain⟨m1,m2⟩:=j6 (rest:=[]) hs he hs0 (by simp) hsz hd;refine d9h hct hti hok hmix hlt body b s0 _ _ _ q a w _ hb hB h m2 (λs' a' w' h' hr'=>?_) (λi s' a' w' h' hr'=>?_) (λs' a' w' h' hr'=>?_)
  ·
   obtain⟨p',β',G',es',k1,k2,k3,k4,k5⟩:=i6 hct h' hr';exact .inl ⟨rfl,p',β',G',es',k1,k2,k3,k4,k5⟩
  ·
   split at h'
   ·simp at h'
   ·
    rename_i sg hsg;obtain⟨p',β',G',es',k1,k2,k3,k4,k5⟩:=i6 hct h' hr';simp only[mB]at k1;subst k1;exact .inr ⟨by simp,rfl,k4,k5,sg,β',G',es',hsg,k2,k3⟩
  ·
   split at h'
   ·simp at h'
   ·
    rename_i sg hsg;obtain⟨p',β',G',es',k1,k2,k3,k4,k5⟩:=i6 hct h' hr';simp only[mB]at k1;subst k1;exact .inr ⟨by simp,rfl,k4,k5,sg,β',G',es',hsg,k2,k3⟩
theorem d4r {l0:List CE} {t0:List LE} (hti:TIok P cx) (hmix:P.follows .mixedOrders=true) (hct:AllP (CEok P) l0) (hcs:AllP (λe=>dM l0 e.2.id=some e.2) hi.cs) {f:FuncId} {fn:Func} (hf:Fn P f fn (cr fn)) {nb b:Nat}
  (hlt:AllP (LEok P hi (bn fn) fn.ntmps nb) t0) {l:LS} {body:Code} (h2:(bn fn).lp b=some body) {again:List DV→Option Rs} {p:List DV} {q:Rs} (h:round cx hi (ctL l0) (ltL t0) fn.ntmps nb b l body again p=some q)
  {C:Frm} (hC:C.nb=nb) {a:Act} {w:World} {β:Nat→EI} {F:Nat→Prop} {es:List EI} (hs:SigIn l.h β F w p es a.tmps.toList) (he:Enter C F w l.h.bx.length β es) (hsz:a.tmps.size=fn.ntmps) (hd:a.defers=[]) :
  body.wp P (λe a' w'=>(e=.normal∧∃p' β' F' es',again p'=some q∧SigIn l.h β' F' w' p' es' a'.tmps.toList∧Enter C F' w' l.h.bx.length β' es'∧a'.tmps.size=fn.ntmps∧a'.defers=[])∨(e≠.normal∧h7d C l fn.ntmps q e a' w')) a w :=
 round_ok (d3Z hct) hti (d2l hcs) hmix (d1e hlt) (c5A hf.loops h2) (c7T hf.blks h2) h hC hs he hsz hd
end
def kOk (n:Nat):LK→Bool
 | .any _ | .d _ | .np=>true
 | .p j _ _=>Nat.blt j n
 | _=>false
def ksOk (n:Nat):List LK→Bool
 | []=>true
 | k::r=>match kOk n k with
  | true=>ksOk n r
  | false=>false
def aOk (n:Nat):AK→Bool
 | .no=>true
 | .one k=>kOk n k
 | .agg ks=>ksOk n ks
def asOk (n:Nat):List AK→Bool
 | []=>true
 | a::r=>match aOk n a with
  | true=>asOk n r
  | false=>false
def bsOk (n:Nat):List (List LK)→Bool
 | []=>true
 | ks::r=>match ksOk n ks with
  | true=>bsOk n r
  | false=>false
structure Agree (β β':Nat→EI) (n:Nat):Prop where
 blk:∀j,j<n→(β' j).blk=(β j).blk
 loff:∀j,j<n→(β' j).loff=(β j).loff
 pre:∀j,j<n→(β' j).pre=(β j).pre
 post:∀j,j<n→(β' j).post=(β j).post
theorem Agree.symm {β β':Nat→EI} {n:Nat} (h:Agree β β' n):Agree β' β n:=⟨λj hj=>(h.blk j hj).symm,λj hj=>(h.loff j hj).symm,λj hj=>(h.pre j hj).symm,λj hj=>(h.post j hj).symm⟩
theorem Agree.mono {β β':Nat→EI} {n m:Nat} (h:Agree β β' n) (hm:m≤n):Agree β β' m:=⟨λj hj=>h.blk j (by omega),λj hj=>h.loff j (by omega),λj hj=>h.pre j (by omega),λj hj=>h.post j (by omega)⟩
section
variable {β β':Nat→EI} {F F':Nat→Prop} {w:World} {n:Nat}
theorem RepK.noes {k:LK} {p:List DV} {es:List EI} {cs:List Value} (h:RepK β F w k p es cs) (hk:kOk n k=true):es=[]:=by
 cases h<;>first | rfl | simp[kOk]at hk
theorem RepKs.noes {ks:List LK} {p:List DV} {es:List EI} {cs:List Value} (h:RepKs β F w ks p es cs):ksOk n ks=true→es=[]:=by
 induction h with
 | nil=>intro _; rfl
 | cons a b ih =>
  intro hk;simp only[ksOk]at hk;split at hk
  ·rename_i h1; rw[a.noes h1,ih hk]; rfl
  ·simp at hk
theorem RepK.beta {k:LK} {p:List DV} {es:List EI} {cs:List Value} (h:RepK β F w k p es cs) (hk:kOk n k=true) (ha:Agree β β' n):RepK β' F w k p es cs:=by
 cases h with
 | any h1 h2=>exact .any h1 h2
 | d h=>exact .d h
 | np=>exact .np
 | p h =>
  simp only[kOk]at hk;have hj:=c1r hk;rw[← ha.loff _ hj]at h;have:=RepK.p (β:=β') (F:=F) (w:=w) h;rw[ha.blk _ hj,ha.loff _ hj]at this;exact this
 | _=>simp[kOk]at hk
theorem RepKs.beta {ks:List LK} {p:List DV} {es:List EI} {cs:List Value} (h:RepKs β F w ks p es cs) (ha:Agree β β' n):ksOk n ks=true→RepKs β' F w ks p es cs:=by
 induction h with
 | nil=>intro _; exact .nil
 | cons a b ih =>
  intro hk;simp only[ksOk]at hk;split at hk
  ·rename_i h1; exact .cons (a.beta h1 ha) (ih hk)
  ·simp at hk
theorem RepA.beta {a:AK} {p:List DV} {es:List EI} {v:Value} (h:RepA β F w a p es v) (hk:aOk n a=true) (ha:Agree β β' n):RepA β' F w a p es v:=by
 cases h with
 | no v=>exact .no v
 | any m v=>exact .any m v
 | one h1 h2 h3=>exact .one h1 h2 (h3.beta hk ha)
 | agg h=>exact .agg (h.beta ha hk)
theorem RepA.noes {a:AK} {p:List DV} {es:List EI} {v:Value} (h:RepA β F w a p es v) (hk:aOk n a=true):es=[]:=by
 cases h with
 | no v=>rfl
 | any m v=>rfl
 | one h1 h2 h3=>exact h3.noes hk
 | agg h=>exact h.noes hk
theorem RepAs.beta {as:List AK} {p:List DV} {es:List EI} {vs:List Value} (h:RepAs β F w as p es vs) (ha:Agree β β' n):asOk n as=true→RepAs β' F w as p es vs:=by
 induction h with
 | nil vs=>intro _; exact .nil vs
 | cons a b ih =>
  intro hk;simp only[asOk]at hk;split at hk
  ·rename_i h1; exact .cons (a.beta h1 ha) (ih hk)
  ·simp at hk
theorem RepAs.noes {as:List AK} {p:List DV} {es:List EI} {vs:List Value} (h:RepAs β F w as p es vs):asOk n as=true→es=[]:=by
 induction h with
 | nil vs=>intro _; rfl
 | cons a b ih =>
  intro hk;simp only[asOk]at hk;split at hk
  ·rename_i h1; rw[a.noes h1,ih hk]; rfl
  ·simp at hk
theorem BoxAt.beta {e e':EI} {t:TypeId} {cs:List Value} (h:BoxAt w e t cs) (h1:e'.blk=e.blk) (h2:e'.pre=e.pre) (h3:e'.post=e.post):BoxAt w e' t cs:=by
 obtain⟨ds,fr,k1,k2,k3⟩:=h;exact⟨ds,fr,by rw[h1]; exact k1,by rw[h2,h3]; exact k2,by rw[h1]; exact k3⟩
theorem RepBs.beta {kss:List (List LK)} {j:Nat} {p:List DV} {es:List EI} (h:RepBs β F w kss j p es) (ha:Agree β β' n):bsOk n kss=true→j+kss.length≤n→RepBs β' F w kss j p es:=by
 induction h with
 | nil j=>intro _ _; exact .nil j
 | cons a b c d _ ih =>
  intro hk hj;simp only[mP]at hj;simp only[bsOk]at hk;split at hk
  ·
   rename_i h1;refine .cons (a.beta (ha.blk _ (by omega)) (ha.pre _ (by omega)) (ha.post _ (by omega))) (b.beta ha h1) (by rw[ha.blk _ (by omega)]; exact c) (λi hi=>?_) (ih hk (by omega));rw[ha.loff _ (by omega),ha.pre _ (by omega)]; exact d i hi
  ·simp at hk
theorem RepBs.noes {kss:List (List LK)} {j:Nat} {p:List DV} {es:List EI} (h:RepBs β F w kss j p es):bsOk n kss=true→es=[]:=by
 induction h with
 | nil j=>intro _; rfl
 | cons a b c d _ ih =>
  intro hk;simp only[bsOk]at hk;split at hk
  ·rename_i h1; rw[b.noes h1,ih hk]; rfl
  ·simp at hk
theorem RepBs.grow {kss:List (List LK)} {j:Nat} {p:List DV} {es:List EI} (h:RepBs β F w kss j p es) (hF:∀b,F b→F' b):(∀i,j≤i→i<j+kss.length→¬F' (β i).blk)→RepBs β F' w kss j p es:=by
 induction h with
 | nil j=>intro _; exact .nil j
 | cons a b c d _ ih =>
  intro hn;refine .cons a (b.to (.inr hF)) (hn _ (mG _) (by simp)) d (ih λi h1 h2=>hn i (by omega) (by simp only[mP]; omega))
theorem RepBs.split {xs:List (List LK)}:∀{ys:List (List LK)} {j:Nat} {p:List DV} {es:List EI},RepBs β F w (xs++ys) j p es→∃p1 p2 e1 e2,p=p1++p2∧es=e1++e2∧RepBs β F w xs j p1 e1∧RepBs β F w ys (j+xs.length) p2 e2:=by
 induction xs with
 | nil=>intro ys j p es h; exact⟨[],p,[],es,rfl,rfl,.nil j,h⟩
 | cons x xs ih =>
  intro ys j p es h;obtain⟨p1,p2,e1,e2,cs,t,rfl,rfl,h1,h2,h3,h4,h5⟩:=RepBs.inv (kss:=x::(xs++ys)) h;obtain⟨q1,q2,f1,f2,rfl,rfl,g1,g2⟩:=ih h5;refine⟨p1++q1,q2,e1++f1,f2,by simp,by simp,.cons h1 h2 h3 h4 g1,?_⟩
  rw[mP,show j+(xs.length+1)=j+1+xs.length by omega];exact g2
theorem RepBs.join {xs:List (List LK)}:∀{ys:List (List LK)} {j:Nat} {p q:List DV} {es fs:List EI},RepBs β F w xs j p es→RepBs β F w ys (j+xs.length) q fs→RepBs β F w (xs++ys) j (p++q) (es++fs):=by
 induction xs with
 | nil =>
  intro ys j p q es fs h h';obtain⟨rfl,rfl⟩:=h.inv;exact h'
 | cons x xs ih =>
  intro ys j p q es fs h h';obtain⟨p1,p2,e1,e2,cs,t,rfl,rfl,h1,h2,h3,h4,h5⟩:=h.inv;have:=ih h5 (ys:=ys) (by rw[mP,show j+(xs.length+1)=j+1+xs.length by omega]at h'; exact h');rw[mQ,mQ];exact .cons h1 h2 h3 h4 this
theorem RepBs.none {kss:List (List LK)} {j:Nat} {p:List DV} {es:List EI} (h:RepBs β F w kss j p es):∀i,j≤i→i<j+kss.length→¬F (β i).blk:=by
 intro i h1 h2;have:=h.nf (i-j) (by omega)
 rwa [show j+(i-j)=i by omega]at this
end
def LK.plen:LK→Nat
 | .d _ | .o _ | .r _=>1
 | .oh _ _ _=>2
 | _=>0
def h7Z:List LK→Nat
 | []=>0
 | k::r=>k.plen+h7Z r
def AK.plen:AK→Nat
 | .no=>0
 | .one k=>k.plen
 | .agg ks=>h7Z ks
def h8n:List AK→Nat
 | []=>0
 | a::r=>a.plen+h8n r
def h8e:List (List LK)→Nat
 | []=>0
 | ks::r=>h7Z ks+h8e r
section
variable {β:Nat→EI} {F:Nat→Prop} {w:World}
theorem RepK.plen {k:LK} {p:List DV} {es:List EI} {cs:List Value} (h:RepK β F w k p es cs):p.length=k.plen:=by cases h<;>rfl
theorem RepKs.plen {ks:List LK} {p:List DV} {es:List EI} {cs:List Value} (h:RepKs β F w ks p es cs):p.length=h7Z ks:=by
 induction h with
 | nil=>rfl
 | cons a _ ih=>rw[mD,a.plen,ih]; rfl
theorem RepA.plen {a:AK} {p:List DV} {es:List EI} {v:Value} (h:RepA β F w a p es v):p.length=a.plen:=by
 cases h with
 | no v=>rfl
 | any n v=>rfl
 | one _ _ h=>exact RepK.plen h
 | agg h=>exact RepKs.plen h
theorem RepAs.plen {as:List AK} {p:List DV} {es:List EI} {vs:List Value} (h:RepAs β F w as p es vs):p.length=h8n as:=by
 induction h with
 | nil vs=>rfl
 | cons a _ ih=>rw[mD,a.plen,ih]; rfl
theorem RepBs.plen {kss:List (List LK)} {j:Nat} {p:List DV} {es:List EI} (h:RepBs β F w kss j p es):p.length=h8e kss:=by
 induction h with
 | nil j=>rfl
 | cons a b c d _ ih=>rw[mD,RepKs.plen b,ih]; rfl
theorem RepK.lt {k:LK} {p:List DV} {es:List EI} {cs:List Value} (h:RepK β F w k p es cs):∀e∈es,e.nil=false→e.blk<w.heap.size:=by
 cases h with
 | o h1 h2 =>
  intro e he hn;simp only[mI]at he; subst he;obtain⟨_,_,_,_,_,h6⟩:=h2;obtain⟨cs,u,fr,ds,k1,_⟩:=h6 hn;exact (nM.1 k1).1
 | _=>intro e he; simp at he
theorem RepKs.lt {ks:List LK} {p:List DV} {es:List EI} {cs:List Value} (h:RepKs β F w ks p es cs):∀e∈es,e.nil=false→e.blk<w.heap.size:=by
 induction h with
 | nil=>intro e he; simp at he
 | cons a _ ih =>
  intro e he hn;rcases mM.1 he with he | he
  ·exact a.lt e he hn
  ·exact ih e he hn
theorem d8E {e:EI} {t:Ty} {xs:List (Den t)} {cs:List Value} {F2:Nat→Prop} (hw:Win e 0 e.len cs) (ha:RepArrO F w e t xs) (hF:∀b,F b→F2 b) (he:e.nil=false→F2 e.blk):RepD F2 w (.sl t) xs cs:=by
 obtain⟨h1,a,rfl,h3⟩:=hw;obtain⟨q1,q2,q3,q4,q5,q6⟩:=ha;rw[RepD];refine⟨a,e.cap-0,by rw[q1],by rw[q1]; omega,?_⟩
 by_cases hz:e.cap-0=0
 ·left; exact mT.1 (by omega)
 ·
  obtain⟨g1,g2⟩:=h3 hz;obtain⟨cs,u,fr,ds,k1,k2,k3,k4,k5⟩:=q6 g1;exact .inr ⟨e.blk,e.base,ds,by simpa using g2,he g1,k3.imp λx c hc=>hc.mono hF,k4⟩
theorem e4Z {b o:Nat} {cs:Array Value} {u:TypeId} {fr:Nat × Nat} {ds:List Value} (h:w.heap[b]?=some (.cells cs u fr)) (ha:At w b o ds) (hl:o+ds.length≤cs.size) :
  cs.toList=cs.toList.take o++(ds++cs.toList.drop (o+ds.length)):=by
 have e:ds=(cs.toList.drop o).take ds.length:=by
  apply List.ext_getElem?;intro j;by_cases hj:j<ds.length
  ·
   have:=ha j ds[j] (mC hj);unfold World.cell? at this;simp only[h,pH,mN,if_false]at this;rw[mC hj,← this,pG,if_pos hj,pK,my]
  ·rw[mg (by omega),mg (by simp; omega)]
 have e3:cs.toList.drop o=ds++cs.toList.drop (o+ds.length):=by
  have:=(mh ds.length (cs.toList.drop o)).symm;rw[← e,oN]at this; exact this
 exact (mh o _).symm.trans (congrArg (cs.toList.take o++·) e3)
theorem f1Q {b:Nat} {cs:Array Value} {u:TypeId} {fr:Nat × Nat} {p ds q:List Value} (h:w.heap[b]?=some (.cells cs u fr)) (e:cs.toList=p++(ds++q)):At w b p.length ds:=by
 intro j v hj;have hlt:=(mL.1 hj).1;unfold World.cell?;simp only[h,pH,mN,if_false];rw[← my,e,mU (by omega),ni,mW hlt];exact hj
end
theorem Enter.comp {C : Frm} {F F1 : Nat → Prop} {w w1 : World} {nb nb1 : Nat} {β β1 β2 : Nat → EI} {es es1 es2 : List EI} {m : Nat} {O1 : Nat → Prop} {n1 : Nat} {e1 : Nat → EI} (h : Enter C F w nb β es) (hO : ∀ b, O1 b → C.O b ∨ C.w0.heap.size ≤ b)
    (h1 : Enter ⟨O1, F, w, n1, e1⟩ F1 w1 nb1 β1 es1) {F2 : Nat → Prop} (hF : ∀ b, F1 b → F2 b) (hF2 : ∀ b, F2 b → F1 b ∨ (b < w1.heap.size ∧ (C.O b ∨ C.w0.heap.size ≤ b))) (ho : ∀ b, ownB m β2 es2 b → C.O b ∨ C.w0.heap.size ≤ b)
    (hn : C.nb ≤ m) (he : ∀ k, k < C.nb → β2 k = C.e0 k) : Enter C F2 w1 m β2 es2 := by
  refine ⟨fun b hb => ?_, fun b hb => hF b (h1.f0 b (h.f0 b hb)), fun b hb ho' => ?_, fun b hb => ?_, ho, nO h.sz h1.sz, h1.os.trans h.os, h1.tape.trans h.tape, h1.output.trans h.output, hn, he⟩
  · rcases hF2 b hb with h2 | ⟨h2, _⟩
    · exact h1.fb b h2
    · exact h2
  · have := h1.kp b (oJ hb h.sz) (fun h2 => by
      rcases hO b h2 with h3 | h3
      · exact ho' h3
      · omega)
    exact this.trans (h.kp b hb ho')
  · rcases hF2 b hb with h2 | ⟨_, h2⟩
    · rcases h1.uf b h2 with h3 | h3 | h3
      · exact h.uf b h3
      · exact .inr (hO b h3)
      · exact .inr (.inr (nO h.sz h3))
    · exact .inr h2
section
variable {P:Program} {cx:Cx} {hi:Hi} {l0:List CE} {t0:List LE} {f:FuncId} {fn:Func} {b:Nat} {body:Code}
structure OL (P:Program) (cx:Cx) (hi:Hi) (l0:List CE) (t0:List LE) (fn:Func) (b:Nat) (body:Code) where
 bs:List (List LK)
 av:List AK
 ap:Int→Int→List DV
 ax:List AK
 sk:List LK
 ks:List LK
 T0:Ty
 T1:Ty
 sz:Nat
 LR:LS
 LX:LS
 L0:LS
 po:Den T0→List DV
 pc:Den T1→List DV
 step:Int→Int→List DV→List DV→Den T0→Option (List DV × List DV × Den T1)
 okA:asOk (bs.length+1) av=true
 okX:asOk (bs.length+1) ax=true
 okB:bsOk (bs.length+1) bs=true
 okS:ksOk (bs.length+1) sk=true
 nA:∀n i,(ap n i).length=h8n av
 nX:h8n ax=0
 hR:LR.h={av:=av,bx:=bs++[.oh (bs.length+1) sz (szsL ks)::sk,ks]}
 hX:LX.h={av:=av,bx:=bs++[.oh bs.length sz (szsL ks)::sk]}
 xR:LR.x=[]
 xX:bT LX.x 1=some {av:=ax,bx:=bs++[.oh bs.length sz (szsL ks)::sk]}
 h0:L0.h={av:=av,bx:=bs++[.o T0::sk]}
 x0:bT L0.x 1=some {av:=ax,bx:=bs++[.o T1::sk]}
 z0:T0.sz=sz
 z1:T1.sz=sz
 zp:0<sz
 zo:∀l,lOff T0 l=lOff T1 l
 open_:∀β F w v c,RepD F w T0 v c→∃es,RepKs β F w ks (po v) es c∧∀e∈es,e.nil=true
 close:∀β F w v es c,RepKs β F w ks (pc v) es c→∀F2:Nat→Prop,(∀b,F b→F2 b)→(∀e∈es,e.nil=false→F2 e.blk)→RepD F2 w T1 v c
 round:∀n i X S v X' S' v',step n i X S v=some (X',S',v')→h8e bs=X.length→h7Z sk=S.length →
  X'.length=h8e bs∧S'.length=h7Z sk∧Zz.round cx hi (ctL l0) (ltL t0) fn.ntmps (bs.length+2) b LR body (λp=>some (7,p)) (ap n i++(X++((⟨.int .i64,n⟩::⟨.int .i64,i⟩::S)++po v))) =
   some (7,ap n (i+1)++(X'++((⟨.int .i64,n⟩::⟨.int .i64,i⟩::S')++pc v')))
 exit:∀(n:Int) (X S:List DV) (β:Nat→EI) (F:Nat→Prop) (w:World),RepBs β F w bs 0 X []→(∃c,RepKs β F w sk S [] c)→Zz.round cx hi (ctL l0) (ltL []) fn.ntmps (bs.length+1) b LX body (λ_=>none) (ap n n++(X++(⟨.int .i64,n⟩::⟨.int .i64,n⟩::S)))=some (1,X++(⟨.int .i64,n⟩::⟨.int .i64,n⟩::S))
def OL.walk (o:OL P cx hi l0 t0 fn b body) (n:Int):List (Den o.T0)→Int→List DV→List DV→Option (List DV × List DV × List (Den o.T1))
 | [],_,X,S=>some (X,S,[])
 | v::r,i,X,S=>match o.step n i X S v with
  | none=>none
  | some (X',S',v')=>match o.walk n r (i+1) X' S' with
   | none=>none
   | some (X2,S2,ys)=>some (X2,S2,v'::ys)
theorem OL.walk_cons (o:OL P cx hi l0 t0 fn b body) (n:Int) (v:Den o.T0) (r:List (Den o.T0)) (i:Int) (X S:List DV):o.walk n (v::r) i X S=(match o.step n i X S v with
  | none=>none
  | some (X',S',v')=>match o.walk n r (i+1) X' S' with
   | none=>none
   | some (X2,S2,ys)=>some (X2,S2,v'::ys)):=rfl
structure OI (o:OL P cx hi l0 t0 fn b body) (C:Frm) (β:Nat→EI) (e:EI) (F:Nat→Prop) (a:Act) (w:World) (X S:List DV) (ys:List (Den o.T1)) (rest:List (Den o.T0)):Prop where
 tm:RepAs β F w o.av (o.ap (e.len:Int) (ys.length:Int)) [] a.tmps.toList
 bx:RepBs β F w o.bs 0 X []
 sb:∃t c,BoxAt w (β o.bs.length) t ((β o.bs.length).hd::c)∧RepKs β F w o.sk S [] c
 sn:¬F (β o.bs.length).blk
 sl:∀i,i≤1+(szsL o.sk).length→(β o.bs.length).loff i=(β o.bs.length).pre.length+((1::szsL o.sk).take i).sum
 bd:∀i j,i<o.bs.length+1→j<o.bs.length+1→(β i).blk=(β j).blk→i=j
 ent:Enter C F w (o.bs.length+1) β []
 tz:a.tmps.size=fn.ntmps
 df:a.defers=[]
 len:ys.length+rest.length=e.len
 esz:e.esz=o.sz
 eoff:∀l,e.eoff l=lOff o.T0 l
 cap:e.len≤e.cap
 win:Win e 0 e.len [(β o.bs.length).hd]
 nz:e.nil=true→e.cap=0
 arr:e.nil=false→∃cs u fr pre d1 d2 post,w.heap[e.blk]?=some (.cells cs u fr)∧cs.toList=pre++(d1++(d2++post))∧pre.length=e.base∧All (λx c=>RepD F w o.T1 x c) ys d1∧All (λx c=>RepD F w o.T0 x c) rest d2 ∧
  unfr w e.blk cs.size∧e.base+e.cap*e.esz≤cs.size
 nf:e.nil=false→¬F e.blk
 nb:e.nil=false→∀j,j<o.bs.length+1→(β j).blk≠e.blk
 own:e.nil=false→C.O e.blk∨C.w0.heap.size≤e.blk
end
section
variable {P:Program} {cx:Cx} {hi:Hi} {l0:List CE} {t0:List LE} {f:FuncId} {fn:Func} {b:Nat} {body:Code} {o:OL P cx hi l0 t0 fn b body} {C:Frm} {β:Nat→EI} {e:EI} {F:Nat→Prop} {a:Act} {w:World} {X S:List DV} {ys:List (Den o.T1)} {rest:List (Den o.T0)}
theorem d6m {C1:Frm} {F1:Nat→Prop} {w1:World} {nb:Nat} {β1:Nat→EI} {es:List EI} (h1:Enter C1 F1 w1 nb β1 es) (hb:∀b,C1.F0 b→b<C1.w0.heap.size) (hO:∀b,C1.F0 b→¬C1.O b) :
  ∀b,C1.F0 b→∀o u,C1.w0.cell? ⟨b,o,none⟩=some u→w1.cell? ⟨b,o,none⟩=some u:=by
 intro b hF o u hu;have:=h1.kp b (hb b hF) (hO b hF);rw[cell?_heap (w:=C1.w0) (w':=w1) this]; exact hu
theorem OI.exit_ok (h:OI o C β e F a w X S ys []) (hti:TIok P cx) (hmix:P.follows .mixedOrders=true) (hct:AllP (CEok P) l0) (hcs:AllP (λe=>dM l0 e.2.id=some e.2) hi.cs) (hf:Fn P f fn (cr fn)) (hbod:(bn fn).lp b=some body) :
  body.wp P (λe' a' w'=>e'≠.normal∧h7d C o.L0 fn.ntmps (1,X++(⟨.sl o.T1,ys⟩::S)) e' a' w') a w:=by
 obtain⟨t,c2,hbx,hsk⟩:=h.sb;have hlen:(ys.length:Int)=(e.len:Int):=by have:=h.len; simp at this; omega
 obtain⟨_,ad,hw1,hw2⟩:=h.win;simp only[mK,and_true]at hw1;have htm:RepAs β F w o.av (o.ap (ys.length:Int) (ys.length:Int)) [] a.tmps.toList:=by
  have:=h.tm;rw[← hlen]at this;exact this
 have hin:SigIn o.LX.h β F w (o.ap (ys.length:Int) (ys.length:Int)++(X++(⟨.int .i64,(ys.length:Int)⟩::⟨.int .i64,(ys.length:Int)⟩::S))) [] a.tmps.toList:=by
  rw[o.hX];refine⟨⟨o.ap (ys.length:Int) (ys.length:Int),X++(([⟨.int .i64,(ys.length:Int)⟩,⟨.int .i64,(ys.length:Int)⟩]++S)++[]),[],[]++([]++[]),by simp,by simp,htm,?_⟩,?_,.nil,?_,?_⟩
  ·
   refine RepBs.join h.bx (.cons (cs:=[(β o.bs.length).hd]++c2) (by rw[ml]; exact hbx) (.cons (.oh ?_) hsk) (by rw[ml]; exact h.sn) ?_ (.nil _))
   ·exact⟨ad,e.len,_,hw1,hlen.symm,λ_ h2=>by omega⟩
   ·
    intro i hi;rw[ml];exact h.sl i (by simpa[szsL,LK.szs,oM] using hi)
  ·intro i j hi hj; exact h.bd i j (by simpa using hi) (by simpa using hj)
  ·intro j hj e' he'; simp at he'
  ·intro e' he'; simp at he'
 have hlh:o.LX.h.bx.length=o.bs.length+1:=by rw[o.hX]; simp
 have hown:∀b',ownB (o.bs.length+1) β [] b'→C.O b'∨C.w0.heap.size≤b':=h.ent.uo
 have he:Enter ⟨ownB (o.bs.length+1) β [],F,w,o.bs.length+1,β⟩ F w o.LX.h.bx.length β []:=by
  rw[hlh];exact⟨h.ent.fb,λ_ h=>h,λ_ _ _=>rfl,λ_ h=>.inl h,λ_ h=>.inl h,mG _,rfl,rfl,rfl,mG _,λ_ _=>rfl⟩
 have hrd:=o.exit (ys.length:Int) X S β F w h.bx ⟨c2,hsk⟩;refine wp_mono (d4r (t0:=[]) hti hmix hct hcs hf trivial hbod hrd rfl hin he h.tz h.df) λe' a' w' hpost=>?_
 rcases hpost with⟨_,p',_,_,_,k1,_⟩ | ⟨hne,hp⟩
 ·simp at k1
 ·
  refine⟨hne,?_⟩;obtain⟨k1,k2,k3,sgx,β',F',fs,k4,k5,k6⟩:=hp;rw[o.xX]at k4;simp only[mB]at k4;subst k4;obtain⟨p1,p2,e1,e2,q1,q2,hA,hB⟩:=k5.ex;have q1:X++(⟨.int .i64,(ys.length:Int)⟩::⟨.int .i64,(ys.length:Int)⟩::S)=p1++p2:=q1;have hp1:p1=[]:=mT.1 (by rw[hA.plen]; exact o.nX);subst hp1;have he1:=hA.noes o.okX;subst he1;obtain⟨x1,x2,f1,f2,rfl,rfl,hB1,hB2⟩:=RepBs.split hB;have hf1:=hB1.noes o.okB;subst hf1;have hx1:x1.length=X.length:=by rw[hB1.plen,h.bx.plen]
  simp only[mf]at q1 q2;obtain⟨rfl,q3⟩:=nr q1 hx1.symm;obtain⟨s1,s2,g1,g2,cs,t',rfl,rfl,b1,b2,b3,b4,b5⟩:=hB2.inv;obtain⟨rfl,rfl⟩:=b5.inv;obtain⟨u1,u2,v1,v2,c1,c3,rfl,rfl,rfl,m1,m2⟩:=b2.inv;have hv2:=m2.noes o.okS;subst hv2;have hu1:=m1.plen;have q4:[⟨.int .i64,(ys.length:Int)⟩,⟨.int .i64,(ys.length:Int)⟩]++S=u1++u2:=by simpa using q3
  have hu2:u2=S:=(nr q4 (by rw[hu1]; rfl)).2.symm;subst hu2;have hc1:c1=[(β' o.bs.length).hd]∧v1=[]:=by cases m1; exact⟨rfl,rfl⟩
  obtain⟨rfl,rfl⟩:=hc1;simp only[mf,mJ]at q2;subst q2;have hβ:∀j,j<o.bs.length+1→β' j=β j:=λj hj=>k6.e0 j hj
  have hm:=hβ o.bs.length (by omega);rw[ml]at b1 b3 b4;have hFO:∀b',F b'→¬ownB (o.bs.length+1) β [] b':=by
   rintro b' hb' (⟨j,hj,rfl⟩ | ⟨e',he',_⟩)
   ·
    by_cases ej:j=o.bs.length
    ·subst ej; exact h.sn hb'
    ·exact h.bx.none j (nU _) (by omega) hb'
   ·simp at he'
  have hkeep:=d6m k6 h.ent.fb hFO;have hF:∀b',F b'→F' b':=k6.f0
  -- the array, as it lay
  have harr:e.nil=false→w'.heap[e.blk]?=w.heap[e.blk]?∧¬F' e.blk:=by
   intro hn;obtain⟨cs0,u0,fr0,pre,d1,d2,post,r1,_⟩:=h.arr hn;have hlt:=(nM.1 r1).1;have hno:¬ownB (o.bs.length+1) β [] e.blk:=by
    rintro (⟨j,hj,hb'⟩ | ⟨e',he',_⟩)
    ·exact h.nb hn j hj hb'
    ·simp at he'
   refine⟨k6.kp e.blk hlt hno,λhc=>?_⟩
   rcases k6.uf e.blk hc with h3 | h3 | h3
   ·exact h.nf hn h3
   ·exact hno h3
   ·exact Nat.lt_irrefl _ (oJ hlt h3)
  have hwin:Win e 0 e.len [(β' o.bs.length).hd]:=by rw[hm]; exact h.win
  have hao:RepArrO F' w' e o.T1 ys:=by
   refine⟨by omega,h.cap,by rw[h.esz,o.z1],λl=>by rw[h.eoff,o.zo],h.nz,λhn=>?_⟩
   obtain⟨cs0,u0,fr0,pre,d1,d2,post,r1,r2,r3,r4,r5,r6,r7⟩:=h.arr hn;have hd2:d2=[]:=r5;subst hd2;have hh:=(harr hn).1;have r1':=hh.trans r1;refine⟨cs0,u0,fr0,d1,r1',r7,r4.imp λx c hc=>RepD.ext hF hkeep hc,?_,λj hj=>(frozen?_heap hh).trans (r6 j hj)⟩
   rw[← r3];exact f1Q r1' r2
  have hnb':e.nil=false→∀j,j<o.bs.length+1→(β' j).blk≠e.blk:=λhn j hj=>by rw[hβ j hj]; exact h.nb hn j hj
  have hlx:({av:=o.ax,bx:=o.bs++[.oh o.bs.length o.sz (szsL o.ks)::o.sk]}:Sg).bx.length=o.bs.length+1:=by simp
  refine⟨k1,k2,k3,{av:=o.ax,bx:=o.bs++[.o o.T1::o.sk]},β',F',[e],o.x0,⟨⟨[],X++(([⟨.sl o.T1,ys⟩]++u2)++[]),[],[]++(([e]++[])++[]),by simp,by simp,hA,?_⟩,?_,by simp,?_,?_⟩,?_⟩
  ·
   refine RepBs.join hB1 (.cons (cs:=[(β' o.bs.length).hd]++c3) (by rw[ml]; exact b1) (.cons (.o hwin hao) m2) (by rw[ml]; exact b3) ?_ (.nil _));intro i hi;rw[ml];exact b4 i (by simpa[szsL,LK.szs] using hi)
  ·intro i j hi hj; exact k5.bd i j (by simpa using hi) (by simpa using hj)
  ·
   intro j hj e' he' hn hb';simp only[mI]at he'; subst he';exact hnb' hn j (by simpa using hj) hb'
  ·
   intro e' he' hn;simp only[mI]at he'; subst he';exact (harr hn).2
  ·
   have hcl:({av:=o.ax,bx:=o.bs++[.o o.T1::o.sk]}:Sg).bx.length=o.bs.length+1:=by simp
   rw[hcl];refine Enter.comp h.ent (O1:=ownB (o.bs.length+1) β []) hown (by rw[hlx]at k6; exact k6) (λ_ h=>h) (λ_ h=>.inl h) ?_ h.ent.nb (λk hk=>?_)
   ·
    rintro b' (⟨j,hj,rfl⟩ | ⟨e',he',hn,rfl⟩)
    ·exact hown _ (.inl ⟨j,hj,by rw[hβ j hj]⟩)
    ·
     simp only[mI]at he'; subst he';exact h.own hn
   ·rw[hβ k (by have:=h.ent.nb; omega)]; exact h.ent.e0 k hk
end
section
variable {P:Program} {cx:Cx} {hi:Hi} {l0:List CE} {t0:List LE} {f:FuncId} {fn:Func} {b:Nat} {body:Code} {o:OL P cx hi l0 t0 fn b body} {C:Frm} {β:Nat→EI} {e:EI} {F:Nat→Prop} {a:Act} {w:World} {X S X' S':List DV} {ys:List (Den o.T1)} {rest:List (Den o.T0)}
theorem OI.round_ok {v : Den o.T0} {v' : Den o.T1} (h : OI o C β e F a w X S ys (v :: rest)) (hti : TIok P cx) (hmix : P.follows .mixedOrders = true) (hct : AllP (CEok P) l0) (hcs : AllP (fun e => dM l0 e.2.id = some e.2) hi.cs) (hf : Fn P f fn (cr fn)) (hbod : (bn fn).lp b = some body)
    (hlt : AllP (LEok P hi (bn fn) fn.ntmps (o.bs.length + 2)) t0) (hst : o.step (e.len : Int) (ys.length : Int) X S v = some (X', S', v')) :
    body.wp P (fun e' a' w' => e' = .normal ∧ ∃ F2, OI o C β e F2 a' w' X' S' (ys ++ [v']) rest) a w := by
  obtain ⟨t, c2, hbx, hsk⟩ := h.sb
  have hlen : ys.length < e.len := by have := h.len; simp at this; omega
  have hnil : e.nil = false := by
    cases hn : e.nil with
    | false => rfl
    | true => have := h.nz hn; have := h.cap; omega
  obtain ⟨_, ad, hw1, hw2⟩ := h.win
  simp only [mK, and_true] at hw1
  have hadr := (hw2 (by have := h.cap; omega)).2
  obtain ⟨cs0, u0, fr0, pre, d1, d2, post, r1, r2, r3, r4, r5, r6, r7⟩ := h.arr hnil
  obtain ⟨c, d2', rfl, hv, hr5⟩ := r5
  have hd1 : d1.length = ys.length * o.sz := by rw [r4.len (fun x c => cJ), o.z1]
  have hc : c.length = o.sz := by rw [cJ hv, o.z0]
  let eb : EI := { blk := e.blk, base := 0, len := 0, cap := 0, esz := 0, nil := false, loff := fun i => (pre ++ d1).length + ((szsL o.ks).take i).sum, eoff := fun _ => 0, pre := pre ++ d1, post := d2' ++ post, hd := (β o.bs.length).hd }
  let β5 : Nat → EI := fun j => if j = o.bs.length + 1 then eb else β j
  have b5 : β5 (o.bs.length + 1) = eb := by simp [β5]
  have b4 : ∀ j, j < o.bs.length + 1 → β5 j = β j := fun j hj => by simp only [β5]; rw [if_neg (by omega)]
  have hag : Agree β β5 (o.bs.length + 1) := ⟨fun j hj => by rw [b4 j hj], fun j hj => by rw [b4 j hj], fun j hj => by rw [b4 j hj], fun j hj => by rw [b4 j hj]⟩
  obtain ⟨es5, hks, hes5⟩ := o.open_ β5 F w v c hv
  have hboxE : BoxAt w eb u0 c := ⟨cs0, fr0, r1, by rw [r2]; simp [eb], r6⟩
  have hlR : o.LR.h.bx.length = o.bs.length + 2 := by rw [o.hR]; simp
  have hin : SigIn o.LR.h β5 F w (o.ap (e.len : Int) (ys.length : Int) ++ (X ++ ((⟨.int .i64, (e.len : Int)⟩ :: ⟨.int .i64, (ys.length : Int)⟩ :: S) ++ o.po v))) es5 a.tmps.toList := by
    rw [o.hR]
    refine ⟨⟨o.ap (e.len : Int) (ys.length : Int), X ++ (([⟨.int .i64, (e.len : Int)⟩, ⟨.int .i64, (ys.length : Int)⟩] ++ S) ++ (o.po v ++ [])), [], [] ++ (([] ++ []) ++ (es5 ++ [])), by simp, by simp, h.tm.beta hag o.okA, ?_⟩, ?_, ?_, ?_, ?_⟩
    · refine RepBs.join (h.bx.beta hag o.okB (by omega)) (.cons (cs := [(β5 (o.bs.length + 1)).hd] ++ c2) (t := t) ?_ (.cons (.oh ?_) (hsk.beta hag o.okS)) ?_ ?_ (.cons (cs := c) (t := u0) ?_ hks ?_ ?_ (.nil _)))
      · rw [ml, b5]
        exact hbx.beta (by rw [b4 _ (by omega)]) (by rw [b4 _ (by omega)]) (by rw [b4 _ (by omega)])
      · rw [b5]
        refine ⟨ad, e.len, _, hw1, rfl, fun _ _ => ⟨e.base, by rw [hadr]; simp [eb], ?_, ?_⟩⟩
        · show (pre ++ d1).length + ((szsL o.ks).take 0).sum = _
          simp [hd1, r3]
        · intro d hd
          show (pre ++ d1).length + ((szsL o.ks).take (0 + d)).sum = (pre ++ d1).length + ((szsL o.ks).take 0).sum + ((szsL o.ks).take d).sum
          simp
      · rw [ml, b4 _ (by omega)]; exact h.sn
      · intro i hi
        rw [ml, b4 _ (by omega)]
        exact h.sl i (by simpa [szsL, LK.szs, oM] using hi)
      · rw [ml, b5]; exact hboxE
      · rw [ml, b5]; exact h.nf hnil
      · intro i hi
        rw [ml, b5]
    · intro i j hi hj hij
      simp only [mD, mP, ma] at hi hj
      by_cases ei : i = o.bs.length + 1
      · by_cases ej : j = o.bs.length + 1
        · rw [ei, ej]
        · exfalso
          rw [ei, b5, b4 j (by omega)] at hij
          exact h.nb hnil j (by omega) hij.symm
      · by_cases ej : j = o.bs.length + 1
        · exfalso
          rw [ej, b5, b4 i (by omega)] at hij
          exact h.nb hnil i (by omega) hij
        · rw [b4 i (by omega), b4 j (by omega)] at hij
          exact h.bd i j (by omega) (by omega) hij
    · exact List.pairwise_iff_forall_sublist.2 (fun hs ha hb => by
        have := hes5 _ (hs.subset (nj ..))
        rw [this] at ha; simp at ha)
    · intro j hj e' he' hn; rw [hes5 e' he'] at hn; simp at hn
    · intro e' he' hn; rw [hes5 e' he'] at hn; simp at hn
  have hO : ∀ b', ownB (o.bs.length + 2) β5 es5 b' → C.O b' ∨ C.w0.heap.size ≤ b' := by
    rintro b' (⟨j, hj, rfl⟩ | ⟨e', he', hn, _⟩)
    · by_cases ej : j = o.bs.length + 1
      · rw [ej, b5]; exact h.own hnil
      · rw [b4 j (by omega)]; exact h.ent.uo _ (.inl ⟨j, by omega, rfl⟩)
    · rw [hes5 e' he'] at hn; simp at hn
  have he : Enter ⟨ownB (o.bs.length + 2) β5 es5, F, w, o.bs.length + 2, β5⟩ F w o.LR.h.bx.length β5 es5 := by
    rw [hlR]
    exact ⟨h.ent.fb, fun _ h => h, fun _ _ _ => rfl, fun _ h => .inl h, fun _ h => .inl h, mG _, rfl, rfl, rfl, mG _, fun _ _ => rfl⟩
  obtain ⟨lx, ls, hrd⟩ := o.round _ _ X S v X' S' v' hst h.bx.plen.symm hsk.plen.symm
  refine wp_mono (d4r hti hmix hct hcs hf hlt hbod hrd rfl hin he h.tz h.df) fun e' a' w' hpost => ?_
  rcases hpost with ⟨rfl, p', β', F', es', k1, k2, k3, k4, k5⟩ | ⟨hne, hp⟩
  · refine ⟨rfl, ?_⟩
    simp only [mB, mb, true_and] at k1
    subst k1
    rw [o.hR] at k2
    obtain ⟨p1, p2, e1, e2, q1, q2, hA, hB⟩ := k2.ex
    have hA : RepAs β' F' w' o.av p1 e1 a'.tmps.toList := hA
    have hB : RepBs β' F' w' (o.bs ++ [.oh (o.bs.length + 1) o.sz (szsL o.ks) :: o.sk, o.ks]) 0 p2 e2 := hB
    have he1 := hA.noes o.okA
    subst he1
    have hp1 : p1.length = (o.ap (e.len : Int) ((ys.length : Int) + 1)).length := by rw [hA.plen, o.nA]
    have q1' : o.ap (e.len : Int) ((ys.length : Int) + 1) ++ (X' ++ ((⟨.int .i64, (e.len : Int)⟩ :: ⟨.int .i64, (ys.length : Int)⟩ :: S') ++ o.pc v')) = p1 ++ p2 := by simpa using q1
    obtain ⟨rfl, q3⟩ := nr q1' hp1.symm
    obtain ⟨x1, x2, f1, f2, rfl, rfl, hB1, hB2⟩ := RepBs.split hB
    have hf1 := hB1.noes o.okB
    subst hf1
    obtain ⟨rfl, q4⟩ := nr q3 (by rw [hB1.plen, lx])
    obtain ⟨s1, s2, g1, g2, cs, t', rfl, rfl, w1, w2, w3, w4, w5⟩ := hB2.inv
    obtain ⟨u1, u2, v1, v2, c1, c3, rfl, rfl, rfl, m1, m2⟩ := w2.inv
    have hv2 := m2.noes o.okS
    subst hv2
    have hu1 := m1.plen
    have q5 : [⟨.int .i64, (e.len : Int)⟩, ⟨.int .i64, (ys.length : Int)⟩] ++ (S' ++ o.pc v') = u1 ++ (u2 ++ s2) := by simpa using q4
    have q6 := (nr q5 (by rw [hu1]; rfl)).2
    obtain ⟨rfl, q7⟩ := nr q6 (by rw [m2.plen, ls])
    obtain ⟨s3, s4, g3, g4, cE, tE, rfl, rfl, z1, z2, z3, z4, z5⟩ := w5.inv
    obtain ⟨rfl, rfl⟩ := z5.inv
    simp only [mJ] at q7
    subst q7
    have hc1 : c1 = [(β' (o.bs.length + 1)).hd] ∧ v1 = [] := by cases m1; exact ⟨rfl, rfl⟩
    obtain ⟨rfl, rfl⟩ := hc1
    simp only [mf, mJ] at q2
    subst q2
    have hβ : ∀ j, j < o.bs.length + 2 → β' j = β5 j := fun j hj => k3.e0 j hj
    have hβ4 : ∀ j, j < o.bs.length + 1 → β' j = β j := fun j hj => (hβ j (by omega)).trans (b4 j hj)
    have hβ5 : β' (o.bs.length + 1) = eb := (hβ _ (by omega)).trans b5
    rw [ml] at w1 w3 w4 z1 z3 z4
    rw [hβ5] at z1 z3
    have hag' : Agree β' β (o.bs.length + 1) := ⟨fun j hj => by rw [hβ4 j hj], fun j hj => by rw [hβ4 j hj], fun j hj => by rw [hβ4 j hj], fun j hj => by rw [hβ4 j hj]⟩
    have hFO : ∀ b', F b' → ¬ ownB (o.bs.length + 2) β5 es5 b' := by
      rintro b' hb' (⟨j, hj, rfl⟩ | ⟨e', he', hn, _⟩)
      · by_cases ej : j = o.bs.length + 1
        · rw [ej, b5] at hb'; exact h.nf hnil hb'
        · rw [b4 j (by omega)] at hb'
          by_cases ek : j = o.bs.length
          · subst ek; exact h.sn hb'
          · exact h.bx.none j (nU _) (by omega) hb'
      · rw [hes5 e' he'] at hn; simp at hn
    have hkeep := d6m k3 h.ent.fb hFO
    have hF : ∀ b', F b' → F' b' := k3.f0
    let F2 : Nat → Prop := fun b' => F' b' ∨ ∃ e' ∈ es', e'.nil = false ∧ e'.blk = b'
    have hF2 : ∀ b', F' b' → F2 b' := fun _ h => .inl h
    have hnot : ∀ j, j < o.bs.length + 2 → ¬ F' (β' j).blk → ¬ F2 (β' j).blk := by
      rintro j hj hn (h1 | ⟨e', he', hn', h2⟩)
      · exact hn h1
      · exact k2.be j (by simpa using hj) e' he' hn' h2.symm
    have hdat := o.close β' F' w' v' es' cE z2 F2 hF2 (fun e' he' hn => .inr ⟨e', he', hn, rfl⟩)
    have hcE : cE.length = o.sz := by rw [cJ hdat, o.z1]
    obtain ⟨ds, fr, y1, y2, y3⟩ := z1
    have y1 : w'.heap[e.blk]? = some (.cells ds tE fr) := y1
    have y2 : ds.toList = (pre ++ d1) ++ (cE ++ (d2' ++ post)) := y2
    have hds : ds.size = cs0.size := by
      have e1 := congrArg List.length y2
      have e2 := congrArg List.length r2
      simp only [mD, oG] at e1 e2
      omega
    have hlr : ({ av := o.av, bx := o.bs ++ [.oh (o.bs.length + 1) o.sz (szsL o.ks) :: o.sk, o.ks] } : Sg).bx.length = o.bs.length + 2 := by simp
    refine ⟨F2, ?_, ?_, ?_, ?_, h.sl, h.bd, ?_, k4, k5, by have := h.len; simp at this ⊢; omega, h.esz, h.eoff, h.cap, h.win, h.nz, fun _ => ⟨ds, tE, fr, pre, d1 ++ cE, d2', post, y1, by rw [y2]; simp, r3, ?_, ?_, y3, by rw [hds]; exact r7⟩, fun _ => ?_, h.nb, h.own⟩
    · have := (hA.beta hag' o.okA).to (F' := F2) (.inr hF2)
      rw [show (((ys ++ [v']).length : Nat) : Int) = (ys.length : Int) + 1 by simp]
      exact this
    · refine (hB1.beta hag' o.okB (by omega)).grow hF2 fun i _ hi => ?_
      rw [← hβ4 i (by omega)]
      exact hnot i (by omega) (hB1.none i (nU _) hi)
    · refine ⟨t', c3, ?_, (m2.beta hag' o.okS).to (.inr hF2)⟩
      rw [hβ5] at w1
      have w1 : BoxAt w' (β' o.bs.length) t' ([(β o.bs.length).hd] ++ c3) := w1
      rw [hβ4 _ (by omega)] at w1
      exact w1
    · rw [← hβ4 _ (by omega)]
      exact hnot _ (by omega) w3
    · rw [o.hR] at k3
      refine Enter.comp h.ent (O1 := ownB (o.bs.length + 2) β5 es5) hO (by rw [hlr] at k3; exact k3) hF2 (fun b' hb' => ?_) h.ent.uo h.ent.nb h.ent.e0
      rcases hb' with h1 | ⟨e', he', hn, rfl⟩
      · exact .inl h1
      · refine .inr ⟨z2.lt e' he' hn, ?_⟩
        rcases k3.uo e'.blk (.inr ⟨e', he', hn, rfl⟩) with h1 | h1
        · exact hO _ h1
        · exact .inr (nO h.ent.sz h1)
    · refine d9d (r4.imp fun x c hc => RepD.ext (fun b' hb' => hF2 b' (hF b' hb')) (fun b' hb' o u hu => hkeep b' hb' o u hu) hc) hdat
    · exact hr5.imp fun x c hc => RepD.ext (fun b' hb' => hF2 b' (hF b' hb')) (fun b' hb' o u hu => hkeep b' hb' o u hu) hc
    · have := hnot (o.bs.length + 1) (by omega) (by rw [hβ5]; exact z3)
      rw [hβ5] at this; exact this
  · obtain ⟨_, _, _, sgx, _, _, _, k4, _⟩ := hp
    rw [o.xR] at k4
    simp [bT] at k4
end
section
variable {P:Program} {cx:Cx} {hi:Hi} {l0:List CE} {t0:List LE} {f:FuncId} {fn:Func} {b:Nat} {body:Code}
theorem OL.enter (o:OL P cx hi l0 t0 fn b body) {C:Frm} {β0:Nat→EI} {es:List EI} {F:Nat→Prop} {a:Act} {w:World} {X S:List DV} {xs:List (Den o.T0)} (hX:X.length=h8e o.bs)
  (hs:SigIn o.L0.h β0 F w (o.ap (xs.length:Int) 0++(X++(⟨.sl o.T0,xs⟩::S))) es a.tmps.toList) (he:Enter C F w o.L0.h.bx.length β0 es) (hn:C.nb=0) (hz:a.tmps.size=fn.ntmps) (hd:a.defers=[]) :
  ∃e β,OI o C β e F a w X S [] xs:=by
 rw[o.h0]at hs he;obtain⟨p1,p2,e1,e2,q1,q2,hA,hB⟩:=hs.ex;have hA:RepAs β0 F w o.av p1 e1 a.tmps.toList:=hA;have hB:RepBs β0 F w (o.bs++[.o o.T0::o.sk]) 0 p2 e2:=hB;have he1:=hA.noes o.okA;subst he1;have hp1:p1.length=(o.ap (xs.length:Int) 0).length:=by rw[hA.plen,o.nA]
 have q1':o.ap (xs.length:Int) 0++(X++(⟨.sl o.T0,xs⟩::S))=p1++p2:=by simpa using q1
 obtain⟨rfl,q3⟩:=nr q1' hp1.symm;obtain⟨x1,x2,f1,f2,rfl,rfl,hB1,hB2⟩:=RepBs.split hB;have hf1:=hB1.noes o.okB;subst hf1;obtain⟨rfl,q4⟩:=nr q3 (by rw[hB1.plen,hX]);obtain⟨s1,s2,g1,g2,cs,t',rfl,rfl,w1,w2,w3,w4,w5⟩:=hB2.inv;obtain⟨rfl,rfl⟩:=w5.inv;obtain⟨u1,u2,v1,v2,c1,c3,rfl,rfl,rfl,m1,m2⟩:=w2.inv;have hv2:=m2.noes o.okS;subst hv2;cases m1 with
 | @o _ xs' e cs' hwin hao =>
  simp only[oC,mf,mJ,mK,DV.mk.injEq,heq_eq_eq,true_and]at q4;obtain⟨rfl,rfl⟩:=q4;simp only[mf,mJ]at q2;subst q2;rw[ml]at w1 w3 w4;obtain⟨k1,ad,k2,k3⟩:=hwin;subst k2;have hlen:({av:=o.av,bx:=o.bs++[.o o.T0::o.sk]}:Sg).bx.length=o.bs.length+1:=by simp
  let β:Nat→EI:=λj=>if j=o.bs.length then {β0 o.bs.length with hd:=.slice ad e.len (e.cap-0)} else β0 j
  have hβ:∀j,(β j).blk=(β0 j).blk∧(β j).loff=(β0 j).loff∧(β j).pre=(β0 j).pre∧(β j).post=(β0 j).post:=by
   intro j;simp only[β];by_cases ej:j=o.bs.length
   ·subst ej; simp
   ·simp[ej]
  have hm:(β o.bs.length).hd=.slice ad e.len (e.cap-0):=by simp[β]
  have hag:Agree β0 β (o.bs.length+1):=⟨λj _=>(hβ j).1,λj _=>(hβ j).2.1,λj _=>(hβ j).2.2.1,λj _=>(hβ j).2.2.2⟩
  obtain⟨r1,r2,r3,r4,r5,r6⟩:=hao;have hA':=hA.beta hag o.okA;rw[r1]at hA';refine⟨e,β,hA',hB1.beta hag o.okB (by omega),⟨t',c3,?_,m2.beta hag o.okS⟩,?_,λi hi=>?_,λi j hi hj hij=>?_,?_,hz,hd,by simpa using r1,by rw[r3,o.z0],r4,r2,?_,r5,λhnl=>?_,λhnl=>hs.ef e (by simp) hnl,λhnl j hj=>?_,λhnl=>he.uo e.blk (.inr ⟨e,by simp,hnl,rfl⟩)⟩
  ·
   rw[hm];exact w1.beta (hβ _).1 (hβ _).2.2.1 (hβ _).2.2.2
  ·rw[(hβ _).1]; exact w3
  ·
   rw[(hβ _).2.1,(hβ _).2.2.1];exact w4 i (by simpa[szsL,LK.szs,oM] using hi)
  ·
   rw[(hβ _).1,(hβ _).1]at hij;exact hs.bd i j (by rw[hlen]; exact hi) (by rw[hlen]; exact hj) hij
  ·
   rw[hlen]at he;refine⟨he.fb,he.f0,he.kp,he.uf,λb' hb'=>?_,he.sz,he.os,he.tape,he.output,by omega,λk hk=>by omega⟩
   rcases hb' with⟨j,hj,rfl⟩ | ⟨e',he',_⟩
   ·rw[(hβ _).1]; exact he.uo _ (.inl ⟨j,hj,rfl⟩)
   ·simp at he'
  ·
   rw[hm];exact⟨k1,ad,rfl,k3⟩
  ·
   obtain⟨cs,u,fr,ds,y1,y2,y3,y4,y5⟩:=r6 hnl;have hdl:e.base+ds.length≤cs.size:=by
    rw[y3.len (λx c=>cJ),r1,← r3];have:=oL e.esz r2;omega
   exact⟨cs,u,fr,cs.toList.take e.base,[],ds,cs.toList.drop (e.base+ds.length),y1,by rw[mf]; exact e4Z y1 y4 hdl,by simp; omega,rfl,y3,y5,y2⟩
  ·rw[(hβ _).1]; exact hs.be j (by rw[hlen]; exact hj) e (by simp) hnl
theorem OL.loop (o:OL P cx hi l0 t0 fn b body) (hti:TIok P cx) (hmix:P.follows .mixedOrders=true) (hct:AllP (CEok P) l0) (hcs:AllP (λe=>dM l0 e.2.id=some e.2) hi.cs) (hf:Fn P f fn (cr fn)) (hbod:(bn fn).lp b=some body)
  (hlt:AllP (LEok P hi (bn fn) fn.ntmps (o.bs.length+2)) t0) {X S X2 S2:List DV} {xs:List (Den o.T0)} {zs:List (Den o.T1)} (hX:X.length=h8e o.bs) (hw:o.walk (xs.length:Int) xs 0 X S=some (X2,S2,zs)) :
  h7t P fn.ntmps 0 o.L0 body (o.ap (xs.length:Int) 0++(X++(⟨.sl o.T0,xs⟩::S))) (1,X2++(⟨.sl o.T1,zs⟩::S2)):=by
 intro C a w β0 F es hC hs he hz hd;obtain⟨e,β,hI⟩:=o.enter hX hs he hC hz hd;refine c4F (λk a w=>∃F X S ys rest us,OI o C β e F a w X S ys rest∧o.walk (e.len:Int) rest (ys.length:Int) X S=some (X2,S2,us)∧zs=ys++us∧k=rest.length) (n:=xs.length)
  ⟨F,X,S,[],xs,zs,hI,by have:=hI.len; simp at this; rw[← this]; exact hw,rfl,rfl⟩ ?_
 rintro k a w ⟨F,X,S,ys,rest,us,hI,hw,rfl,rfl⟩
 cases rest with
 | nil =>
  simp only[OL.walk,mB,mb]at hw;obtain⟨rfl,rfl,rfl⟩:=hw;refine wp_mono (hI.exit_ok hti hmix hct hcs hf hbod) λe' a' w' hpost=>?_
  obtain⟨hne,hp⟩:=hpost;rw[mJ];cases e'<;>first | exact (hne rfl).elim | exact hp
 | cons v rest =>
  simp only[OL.walk]at hw;split at hw
  ·simp at hw
  ·
   rename_i X' S' v' hst;split at hw
   ·simp at hw
   ·
    rename_i X3 S3 us' hw';simp only[mB,mb]at hw;obtain⟨rfl,rfl,rfl⟩:=hw;refine wp_mono (hI.round_ok hti hmix hct hcs hf hbod hlt hst) λe' a' w' hpost=>?_
    obtain⟨rfl,F2,hI'⟩:=hpost;refine⟨rest.length,by simp,F2,X',S',ys++[v'],rest,us',hI',?_,by simp,rfl⟩
    rw[show (((ys++[v']).length:Nat):Int)=(ys.length:Int)+1 by simp];exact hw'
end
theorem jx {β:Nat→EI} {F:Nat→Prop} {w:World}:∀{ts:List Ty} {p:List DV} {es:List EI} {c:List Value},RepKs β F w (ts.map LK.d) p es c→∃ys:Tup ts,p=ofT ts ys
 | [],p,es,c,h=>by
  obtain⟨rfl,_,_⟩:=h.inv;exact⟨(),rfl⟩
 | t::ts,p,es,c,h=>by
  obtain⟨p1,p2,e1,e2,c1,c2,rfl,rfl,rfl,h1,h2⟩:=RepKs.inv (ks:=LK.d t::ts.map LK.d) h;obtain⟨ys,rfl⟩:=jx h2;cases h1 with
  | d hd=>exact⟨(_,ys),rfl⟩
def sgOf (l:LS) (n:Nat):Sg:=match bT l.x n with
 | some s=>s
 | none=>l.h
abbrev B4 (a:Ty):Ty:=.pair (.int .i64) (.pair (.int .i64) (.pair (.int .i64) (.pair (.int .i64) (.pair a (.pair a .unit)))))
def ks4 (t:Ty):List LK:=[.d (.int .i64),.d (.int .i64),.d (.int .i64),.d (.int .i64),.o t,.o t]
def po4 (t:Ty) (v:Den (B4 .nl)):List DV:=[⟨.int .i64,v.1⟩,⟨.int .i64,v.2.1⟩,⟨.int .i64,v.2.2.1⟩,⟨.int .i64,v.2.2.2.1⟩,⟨.sl t,[]⟩,⟨.sl t,[]⟩]
def pc4 (t:Ty) (v:Den (B4 (.sl t))):List DV:=[⟨.int .i64,v.1⟩,⟨.int .i64,v.2.1⟩,⟨.int .i64,v.2.2.1⟩,⟨.int .i64,v.2.2.2.1⟩,⟨.sl t,v.2.2.2.2.1⟩,⟨.sl t,v.2.2.2.2.2.1⟩]
theorem e3M {F:Nat→Prop} {w:World} {β:Nat→EI} (t:Ty):RepK β F w (.o t) [⟨.sl t,[]⟩] [dU t] [.slice none 0 0] :=
 .o ⟨by simp[dU],none,rfl,λh=>by simp[dU]at h⟩ ⟨rfl,mG _,rfl,λ_=>rfl,λ_=>rfl,λh=>by simp[dU]at h⟩
theorem h8O (t:Ty):∀(β:Nat→EI) (F:Nat→Prop) (w:World) (v:Den (B4 .nl)) (c:List Value),RepD F w (B4 .nl) v c→∃es,RepKs β F w (ks4 t) (po4 t v) es c∧∀e∈es,e.nil=true:=by
 intro β F w v c h;obtain⟨v1,v2,v3,v4,v5,v6,v7⟩:=v;simp only[B4,RepD]at h;obtain⟨c1,d1,rfl,rfl,c2,d2,rfl,rfl,c3,d3,rfl,rfl,c4,d4,rfl,rfl,c5,d5,rfl,rfl,c6,d6,rfl,rfl,rfl⟩:=h;refine⟨[]++([]++([]++([]++([dU t]++([dU t]++[]))))),?_,by simp[dU]⟩
 have hd:∀x:Int,RepK β F w (.d (.int .i64)) [⟨.int .i64,x⟩] [] [.int .i64 x]:=λx=>.d (by rw[RepD])
 exact .cons (hd v1) (.cons (hd v2) (.cons (hd v3) (.cons (hd v4) (.cons (e3M t) (.cons (e3M t) .nil)))))
theorem h8B (t:Ty):∀(β:Nat→EI) (F:Nat→Prop) (w:World) (v:Den (B4 (.sl t))) (es:List EI) (c:List Value),RepKs β F w (ks4 t) (pc4 t v) es c→∀F2:Nat→Prop,(∀b,F b→F2 b)→(∀e∈es,e.nil=false→F2 e.blk)→RepD F2 w (B4 (.sl t)) v c:=by
 intro β F w v es c h F2 hF he;obtain⟨v1,v2,v3,v4,v5,v6,v7⟩:=v;obtain⟨p1,q1,e1,f1,c1,d1,z1,rfl,rfl,h1,h⟩:=RepKs.inv (ks:=ks4 t) h;obtain⟨p2,q2,e2,f2,c2,d2,rfl,rfl,rfl,h2,h⟩:=h.inv;obtain⟨p3,q3,e3,f3,c3,d3,rfl,rfl,rfl,h3,h⟩:=h.inv;obtain⟨p4,q4,e4,f4,c4,d4,rfl,rfl,rfl,h4,h⟩:=h.inv;obtain⟨p5,q5,e5,f5,c5,d5,rfl,rfl,rfl,h5,h⟩:=h.inv;obtain⟨p6,q6,e6,f6,c6,d6,rfl,rfl,rfl,h6,h⟩:=h.inv;obtain⟨rfl,rfl,rfl⟩:=h.inv;cases h1 with
 | d h1=>cases h2 with
  | d h2=>cases h3 with
   | d h3=>cases h4 with
    | d h4=>cases h5 with
     | o w5 a5=>cases h6 with
      | o w6 a6 =>
       simp only[pc4,oC,mf,mK,DV.mk.injEq,heq_eq_eq,true_and,and_true]at z1;obtain⟨rfl,rfl,rfl,rfl,rfl,rfl⟩:=z1;have g5:=d8E (F2:=F2) w5 a5 hF (he _ (by simp));have g6:=d8E (F2:=F2) w6 a6 hF (he _ (by simp));simp only[B4];rw[RepD]; refine⟨_,_,rfl,h1.mono hF,?_⟩;rw[RepD]; refine⟨_,_,rfl,h2.mono hF,?_⟩;rw[RepD]; refine⟨_,_,rfl,h3.mono hF,?_⟩;rw[RepD]; refine⟨_,_,rfl,h4.mono hF,?_⟩;rw[RepD]; refine⟨_,_,rfl,g5,?_⟩;rw[RepD]; refine⟨_,_,rfl,g6,?_⟩;rw[RepD]
end Go.Proofs.Zz
