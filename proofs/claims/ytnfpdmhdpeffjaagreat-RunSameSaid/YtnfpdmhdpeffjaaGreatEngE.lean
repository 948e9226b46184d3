import Derived.Test.YtnfpdmhdpeffjaaGreatEngA
import Derived.Orders
import Derived.Laws.Small
import Derived.Laws.StructEq
set_option linter.unusedSimpArgs false
set_option linter.unusedVariables false
namespace Go.Proofs.Zz
open Go
def eqv (s s':St):Prop:=s.tm.length=s'.tm.length∧s.nx=s'.nx∧∀l,look s l=look s' l
theorem eqv.refl (s:St):eqv s s:=⟨rfl,rfl,λ_=>rfl⟩
theorem eqv.symm {s s':St} (h:eqv s s'):eqv s' s:=⟨h.1.symm,h.2.1.symm,λl=>(h.2.2 l).symm⟩
theorem eqv.trans {s s' s'':St} (h:eqv s s') (h':eqv s' s''):eqv s s'':=⟨h.1.trans h'.1,h.2.1.trans h'.2.1,λl=>(h.2.2 l).trans (h'.2.2 l)⟩
theorem eqv.ob {s s':St} (h:eqv s s') (k:Nat):aL s.ob k=aL s'.ob k:=by
 have:=h.2.2 (.ob k); simpa[look] using this
theorem eqv.tm {s s':St} (h:eqv s s') (t:Nat):nthD bad s.tm t=nthD bad s'.tm t:=by
 have:=h.2.2 (.tmp t); simpa[look] using this
theorem d9D {s s':St} (h1:s.tm.length=s'.tm.length) (h2:s.nx=s'.nx) (h3:∀t,nthD bad s.tm t=nthD bad s'.tm t) (h4:∀k,aL s.ob k=aL s'.ob k):eqv s s' :=
 ⟨h1,h2,λl=>by cases l<;>simp only[look,h3,h4]⟩
theorem Rel.eqv {C:Frm} {A:Nat→Prop} {s s':St} {a:Act} {w:World} (h:Rel C A s a w) (he:eqv s s'):Rel C A s' a w:=by
 obtain⟨E,F,hm,ht⟩:=h;exact⟨E,F,hm.same λk=>(he.ob k).symm,λt=>by rw[← he.tm]; exact ht.at_ t,by rw[← he.1]; exact ht.tl,ht.df⟩
theorem d9u {α:Type} (l:List α) (n:Nat) (x:α):(setN l n x).length=l.length:=by rw[fZ]; simp
theorem c8q {α:Type} (d:α) (l:List α) (n m:Nat) (x:α):nthD d (setN l n x) m=if n=m∧n<l.length then x else nthD d l m:=by
 simp only[eY,fZ,mA,oO];by_cases h:n=m
 ·
  subst h;by_cases hl:n<l.length
  ·simp[hl]
  ·simp[hl]
 ·simp[h]
theorem d5m {α:Type}:∀(l:List α) (n m:Nat) (x:α),n≠m→nthO (setN l n x) m=nthO l m
 | [],_,_,_,_=>rfl
 | _::_,0,0,_,h=>absurd rfl h
 | _::_,0,_+1,_,_=>rfl
 | _::_,_+1,0,_,_=>rfl
 | _::r,n+1,m+1,x,h=>by simp only[setN,nthO]; exact d5m r n m x (λe=>h (by rw[e]))
theorem d7X (s:St) (l:Loc) (c:Cn):(asg s l c).tm.length=s.tm.length:=by
 cases l<;>cases c<;>simp only[asg,d9u]
 split<;>rfl
theorem e6l (s:St) (l:Loc) (c:Cn):(asg s l c).nx=s.nx:=by
 cases l<;>cases c<;>simp only[asg]
 split<;>rfl
theorem d8e {s:St} {l l':Loc} {c:Cn} (h:di l l'=false):look (asg s l c) l'=look s l':=by
 cases l with
 | tmp t =>
  cases c with
  | v x =>
   cases l' with
   | tmp t' =>
    have:¬(t=t'):=λe=>by subst e; simp[di]at h
    simp[asg,look,c8q,this]
   | lf k i=>rfl
   | ob k=>rfl
  | l x=>rfl
  | o x=>rfl
 | lf k i =>
  cases c with
  | v x=>rfl
  | o x=>rfl
  | l x =>
   simp only[asg];split
   ·
    rename_i ls hk;cases l' with
    | tmp t'=>rfl
    | lf k' i' =>
     simp only[look,co];by_cases e:k=k'
     ·
      subst e;have:¬(i=i'):=λe=>by subst e; simp[di]at h
      simp[hk,d5m _ _ _ _ this]
     ·simp[e]
    | ob k' =>
     have:¬(k=k'):=λe=>by subst e; simp[di]at h
     simp[look,co,this]
   ·rfl
 | ob k =>
  cases c with
  | v x=>rfl
  | l x=>rfl
  | o x =>
   cases l' with
   | tmp t'=>rfl
   | lf k' i' =>
    have:¬(k=k'):=λe=>by subst e; simp[di]at h
    simp[asg,look,co,this]
   | ob k' =>
    have:¬(k=k'):=λe=>by subst e; simp[di]at h
    simp[asg,look,co,this]
theorem b7a (l l':Loc):di l l'=di l' l:=by
 have e:∀a b:Nat,Nat.beq a b=Nat.beq b a:=λa b=>by
  rw[md]; simp only[nk]; exact eq_comm
 cases l with
 | tmp a=>cases l'<;>simp only[di]; exact e _ _
 | lf a b=>cases l' with
  | tmp c=>rfl
  | lf c d=>simp only[di]; rw[e a c,e b d]
  | ob c=>simp only[di]; exact e _ _
 | ob a=>cases l'<;>simp only[di]<;>exact e _ _
def fv:Loc→Option Nat
 | .tmp _=>none
 | .lf k _=>some k
 | .ob k=>some k
def upd (l:Loc) (c:Cn) (o:Obj):Obj :=
 match l,c with
 | .lf _ i,.l x=>match o with
  | .box ls=>.box (setN ls i x)
  | o=>o
 | .ob _,.o x=>x
 | _,_=>o
theorem c2g (s:St) (l:Loc) (c:Cn) (n:Nat):aL (asg s l c).ob n=if fv l=some n then upd l c (aL s.ob n) else aL s.ob n:=by
 cases l with
 | tmp t=>cases c<;>simp[asg,fv]
 | lf k i =>
  cases c with
  | v x=>simp[asg,upd]
  | o x=>simp[asg,upd]
  | l x =>
   simp only[asg,fv,mB];by_cases e:k=n
   ·
    subst e;rw[if_pos rfl];split
    ·
     rename_i ls hk;simp[co,hk,upd]
    ·
     rename_i hk;cases ho:aL s.ob k with
     | box ls=>exact absurd ho (hk ls)
     | dead=>rfl
     | arr t xs ro=>rfl
   ·
    rw[if_neg e];split
    ·simp[co,e]
    ·rfl
 | ob k =>
  cases c with
  | v x=>simp[asg,upd]
  | l x=>simp[asg,upd]
  | o x =>
   simp only[asg,fv,mB,co,upd]
theorem c6p (s:St) (l:Loc) (c:Cn) (n:Nat):nthD bad (asg s l c).tm n=match l,c with
  | .tmp t,.v x=>if t=n∧t<s.tm.length then x else nthD bad s.tm n
  | _,_=>nthD bad s.tm n:=by
 cases l with
 | tmp t=>cases c<;>simp[asg,c8q]
 | lf k i =>
  cases c with
  | l x =>
   simp only[asg];split<;>rfl
  | v x=>rfl
  | o x=>rfl
 | ob k=>cases c<;>rfl
theorem e7t {s s':St} (h:eqv s s') (l:Loc) (c:Cn):eqv (asg s l c) (asg s' l c):=by
 cases l with
 | tmp t =>
  cases c with
  | v x=>exact d9D (by simp[asg,d9u,h.1]) h.2.1 (λm=>by simp only[asg,c8q,h.tm,h.1]) (λk=>by simp only[asg]; exact h.ob k)
  | l x=>exact h
  | o x=>exact h
 | lf k i =>
  cases c with
  | v x=>exact h
  | o x=>exact h
  | l x =>
   simp only[asg,h.ob k];split
   ·exact d9D h.1 h.2.1 h.tm (λk'=>by simp only[co,h.ob])
   ·exact h
 | ob k =>
  cases c with
  | v x=>exact h
  | l x=>exact h
  | o x=>exact d9D h.1 h.2.1 h.tm (λk'=>by simp only[asg,co,h.ob])
theorem e5K {s:St} {l l':Loc} {c c':Cn} (h:di l l'=false):eqv (asg (asg s l c) l' c') (asg (asg s l' c') l c):=by
 refine d9D ?_ ?_ ?_ ?_
 ·simp only[d7X]
 ·simp only[e6l]
 ·
  intro t;rw[c6p,c6p _ l c,c6p,c6p,d7X,d7X];cases l<;>cases l'<;>cases c<;>cases c'<;>try rfl
  rename_i a b x y;have hne:¬(a=b):=λe=>by subst e; simp[di]at h
  simp only;by_cases e:a=t
  ·subst e; simp[nm hne]
  ·simp[e]
 ·
  intro n;rw[c2g,c2g,c2g _ l c,c2g];by_cases h1:fv l=some n
  ·
   by_cases h2:fv l'=some n
   ·
    simp only[if_pos h1,if_pos h2];cases l with
    | tmp t=>simp[fv]at h1
    | lf k i =>
     simp only[fv,mB]at h1; subst h1;cases l' with
     | tmp t=>simp[fv]at h2
     | lf k' j =>
      simp only[fv,mB]at h2; subst h2;have hij:¬(i=j):=λe=>by subst e; simp[di]at h
      cases c<;>cases c'<;>simp only[upd]
      cases aL s.ob k' with
      | box ls=>simp only; rw[fZ,fZ,fZ,fZ,List.set_comm _ _ hij]
      | dead=>rfl
      | arr t xs ro=>rfl
     | ob k'=>simp only[fv,mB]at h2; subst h2; simp[di]at h
    | ob k =>
     simp only[fv,mB]at h1; subst h1;cases l' with
     | tmp t=>simp[fv]at h2
     | lf k' j=>simp only[fv,mB]at h2; subst h2; simp[di]at h
     | ob k'=>simp only[fv,mB]at h2; subst h2; simp[di]at h
   ·simp only[if_pos h1,if_neg h2]
  ·
   by_cases h2:fv l'=some n
   ·simp only[if_neg h1,if_pos h2]
   ·simp only[if_neg h1,if_neg h2]
theorem c1m:∀(wr:Wr) {s s':St},eqv s s'→eqv (apply wr s) (apply wr s')
 | [],_,_,h=>h
 | p::r,_,_,h=>c1m r (e7t h p.1 p.2)
theorem c9b {l:Loc}:∀{ls:List Loc},h7X l ls=false→∀x∈ls,di l x=false
 | [],_=>by simp
 | y::r,h=>by
  simp only[h7X,mw]at h;intro x hx;rcases mV.1 hx with rfl | hx
  ·exact h.1
  ·exact c9b h.2 x hx
theorem a8h:∀{a b:List Loc},kT a b=false→∀x∈a,∀y∈b,di x y=false
 | [],_,_=>by simp
 | z::r,b,h=>by
  simp only[kT,mw]at h;intro x hx;rcases mV.1 hx with rfl | hx
  ·exact c9b h.1
  ·exact a8h h.2 x hx
theorem b5n:∀(wr:Wr) {s:St} {l:Loc},(∀x∈fk wr,di x l=false)→look (apply wr s) l=look s l
 | [],_,_,_=>rfl
 | p::r,s,l,h=>by
  simp only[apply];rw[b5n r λx hx=>h x (by simp[fk,hx])];exact d8e (h p.1 (by simp[fk]))
theorem b9r:∀(wr:Wr) {s:St} {l:Loc} {c:Cn},(∀x∈fk wr,di x l=false)→eqv (asg (apply wr s) l c) (apply wr (asg s l c))
 | [],_,_,_,_=>eqv.refl _
 | p::r,s,l,c,h=>by
  simp only[apply];refine (b9r r λx hx=>h x (by simp[fk,hx])).trans (c1m r ?_);exact e5K (h p.1 (by simp[fk]))
theorem d1y:∀(wr wr':Wr) {s:St},(∀x∈fk wr,∀y∈fk wr',di x y=false)→eqv (apply wr (apply wr' s)) (apply wr' (apply wr s))
 | [],_,_,_=>eqv.refl _
 | p::r,wr',s,h=>by
  simp only[apply];have h1:eqv (asg (apply wr' s) p.1 p.2) (apply wr' (asg s p.1 p.2)):=b9r wr' λy hy=>by
   rw[b7a]; exact h p.1 (by simp[fk]) y hy
  exact (c1m r h1).trans (d1y r wr' λx hx y hy=>h x (by simp[fk,hx]) y hy)
theorem a6y:∀(wr wr':Wr) (s:St),apply (wr++wr') s=apply wr' (apply wr s)
 | [],_,_=>rfl
 | p::r,wr',s=>by simp only[oC,apply]; exact a6y r wr' _
structure It where
 ix:Nat
 wr:Wr
 rd:List Loc
def It.fp (i:It):Fp:=⟨i.ix,i.rd,fk i.wr⟩
def Chain (ok:Nat→List DV→List DV→Prop) (sem:Nat→Rd Wr):List It→St→St→Prop
 | [],s,s'=>s'=s
 | i::r,s,s'=>RdE ok (sem i.ix) s i.wr i.rd∧Chain ok sem r (apply i.wr s) s'
section
variable {ok:Nat→List DV→List DV→Prop} {sem:Nat→Rd Wr}
theorem Chain.eqv:∀{l:List It} {s t s':St},Chain ok sem l s s'→eqv s t→∃t',Chain ok sem l t t'∧eqv s' t'
 | [],_,t,_,h,e=>⟨t,rfl,by rw[show _=_ from h]; exact e⟩
 | i::r,s,t,s',h,e=>by
  obtain⟨t',h1,h2⟩:=Chain.eqv h.2 (c1m i.wr e);exact⟨t',⟨h.1.local λl _=>(e.2.2 l).symm,h1⟩,h2⟩
theorem c3D {a b:Fp} (h:fj a b=true):(∀x∈a.wr,∀y∈b.wr,di x y=false)∧(∀x∈a.wr,∀y∈b.rd,di x y=false)∧(∀x∈a.rd,∀y∈b.wr,di x y=false):=by
 simp only[fj,mE,mu]at h;exact⟨a8h h.1.1,a8h h.1.2,a8h h.2⟩
theorem Chain.pull:∀{p q:List It} {j:It} {s s':St},Chain ok sem (p++j::q) s s'→(∀i∈p,fj i.fp j.fp=true) →
  RdE ok (sem j.ix) s j.wr j.rd∧∃s'',Chain ok sem (p++q) (apply j.wr s) s''∧Zz.eqv s' s''
 | [],q,j,s,s',h,_=>⟨h.1,s',h.2,eqv.refl _⟩
 | i::p,q,j,s,s',h,ha=>by
  obtain⟨hi,h⟩:=h;obtain⟨hj,s'',h1,h2⟩:=Chain.pull h λx hx=>ha x (by simp[hx])
  obtain⟨a1,a2,a3⟩:=c3D (ha i (by simp));have hj':RdE ok (sem j.ix) s j.wr j.rd:=hj.local λl hl=>(b5n i.wr λx hx=>a2 x hx l hl).symm
  refine⟨hj',?_⟩;have hi':RdE ok (sem i.ix) (apply j.wr s) i.wr i.rd:=hi.local λl hl=>b5n j.wr λx hx=>by
   rw[b7a]; exact a3 l hl x hx
  obtain⟨t,h3,h4⟩:=h1.eqv (d1y j.wr i.wr λx hx y hy=>by rw[b7a]; exact a1 y hy x hx);exact⟨t,⟨hi',h3⟩,h2.trans h4⟩
end
theorem c8I {acc:List Nat}:∀{es:List Edge} {i:Nat},(bits acc es).testBit i=true→∃e∈es,Region.binds .any e=true∧(e.on=i∨(nthD 0 acc e.on).testBit i=true)
 | [],i,h=>by simp[bits]at h
 | e::r,i,h=>by
  simp only[bits]at h;split at h
  ·
   rename_i hb;simp only[Nat.testBit_or,nq]at h;rcases h with (h | h) | h
   ·exact⟨e,by simp,hb,.inl (by simpa[Nat.testBit_two_pow] using h)⟩
   ·exact⟨e,by simp,hb,.inr h⟩
   ·
    obtain⟨e',h1,h2⟩:=c8I h;exact⟨e',by simp[h1],h2⟩
  ·
   obtain⟨e',h1,h2⟩:=c8I h;exact⟨e',by simp[h1],h2⟩
theorem d5F:∀(ops:List Oper) (acc:List Nat),∃t,eK ops acc=acc++t
 | [],acc=>⟨[],by simp[eK]⟩
 | o::r,acc=>by
  obtain⟨t,h⟩:=d5F r (acc++[bits acc o.after.toList]);exact⟨[bits acc o.after.toList]++t,by simp only[eK]; rw[h,mQ]⟩
theorem d9B:∀(ops:List Oper) (acc:List Nat) (j:Nat) (o:Oper),ops[j]?=some o →
  nthD 0 (eK ops acc) (acc.length+j)=bits ((eK ops acc).take (acc.length+j)) o.after.toList
 | [],_,_,_,h=>by simp at h
 | p::r,acc,0,o,h=>by
  simp at h; subst h;simp only[eK];obtain⟨t,ht⟩:=d5F r (acc++[bits acc p.after.toList]);rw[ht,eY,nS,mQ,pF rfl,mA,mU (mG _)];simp
 | p::r,acc,j+1,o,h=>by
  simp only[eK];have:=d9B r (acc++[bits acc p.after.toList]) j o (by simpa using h);simp only[mD,mP,ma]at this;rw[show acc.length+(j+1)=acc.length+(0+1)+j by omega];exact this
theorem c4O:∀(ops:List Oper) (n:Nat),h6V ops n=true→∀(j:Nat) (o:Oper),ops[j]?=some o→∀e∈o.after.toList,Region.binds .any e=true→e.on<n+j
 | [],_,_,_,_,h=>by simp at h
 | p::r,n,hk,0,o,h=>by
  simp at h; subst h;simp only[h6V,mE,mz]at hk;intro e he hb;have:=hk.1 e he;simp only[hb,mR,nH]at this
  simpa using this
 | p::r,n,hk,j+1,o,h=>by
  simp only[h6V,mE]at hk;intro e he hb;have:=c4O r (n+1) hk.2 j o (by simpa using h) e he hb;omega
def keys (base ix:Nat):Nat→Prop:=λk=>base+bK*ix≤k∧k<base+bK*ix+bK
def OpOk (P:Program) (ok:Nat→List DV→List DV→Prop) (Q:Exit→Act→World→Prop) (C:Frm) (ops:Array Oper) (sem:Nat→Rd Wr) (base:Nat):Prop :=
 ∀(ix:Nat) (s:St) (wr:Wr) (rd:List Loc) (A:Nat→Prop) (a:Act) (w:World) (K:Act→World→Prop),ix<ops.size→RdE ok (sem ix) s wr rd→Rel C A s a w →
  (∀k,keys base ix k→¬A k)→(∀a' w',Rel C (λk=>A k∨keys base ix k) (apply wr s) a' w'→K a' w')→wpOp P ops Q ix K a w
section
variable {P:Program} {ok:Nat→List DV→List DV→Prop} {Q:Exit→Act→World→Prop} {C:Frm} {ops:Array Oper} {sem:Nat→Rd Wr} {base:Nat}
def Fine (ws:List Nat) (l:List It):Prop:=l.Pairwise λi j=>(nthD 0 ws j.ix).testBit i.ix=true∨fj i.fp j.fp=true
theorem e9o (hop:OpOk P ok Q C ops sem base) (hed:h6V ops.toList 0=true):∀(l:List It) (fuel:Nat) (listed:Array Bool) (A:Nat→Prop) (s s':St) (a:Act) (w:World),
  l.length≤fuel→listed.size=ops.size→(∀i,i<ops.size→(listed.getD i true=false↔i∈l.map It.ix))→(l.map It.ix).Pairwise (·<·)→(∀i∈l,i.ix<ops.size) →
  (∀d,listed.getD d false=true→∀i,i<ops.size→(nthD 0 (eK ops.toList []) d).testBit i=true→listed.getD i false=true) →
  Fine (eK ops.toList []) l→Chain ok sem l s s'→Rel C A s a w→(∀k,A k→k<base∨∃i,i<ops.size∧i∉l.map It.ix∧keys base i k) →
  (∀a' w',Rel C (λk=>k<base+bK*ops.size) s' a' w'→Q .normal a' w') →
  wpAny P .any ops Q fuel listed a w:=by
 intro l;induction hn:l.length generalizing l with
 | zero =>
  intro fuel listed A s s' a w _ hls hli _ _ _ _ hch hr hA hQ;have hl:l=[]:=mT.1 hn;subst hl;have hready:Region.ready .any ops listed=[]:=by
   rw[List.eq_nil_iff_forall_not_mem];intro i hi;rw[mem_ready]at hi;obtain⟨hi2,o,ho,_⟩:=hi;have hi1:i<ops.size:=(nM.1 ho).1;have:=(hli i hi1).1 hi2;simp at this
  have hq:Q .normal a w:=hQ a w (by
   rw[show s'=s from hch];obtain⟨E,F,hm,ht⟩:=hr;refine⟨E,F,hm.mono λk hk=>?_,ht⟩
   rcases hA k hk with h | ⟨i,h1,_,h2⟩
   ·have:=nU (bK*ops.size); omega
   ·
    have:bK*i+bK≤bK*ops.size:=by rw[← nF]; exact nv _ h1
    have:=h2.2; omega)
  cases fuel with
  | zero=>exact⟨hready,hq⟩
  | succ n=>exact⟨λ_=>hq,λi hi=>by rw[hready]at hi; simp at hi⟩
 | succ n ih =>
  intro fuel listed A s s' a w hfu hls hli hpw hlt hcl hfine hch hr hA hQ;obtain⟨fuel,rfl⟩:∃m,fuel=m+1:=⟨fuel-1,by omega⟩
  refine⟨λhempty=>?_,λj hj=>?_⟩
  ·
   -- the first of those that are left may come up
   exfalso
   match l,hn with
   | i::r,_ =>
    have hi:i.ix<ops.size:=hlt i (by simp);have:i.ix∈Region.ready .any ops listed:=by
     rw[mem_ready];refine⟨(hli i.ix hi).2 (by simp),?_⟩;obtain⟨o,ho⟩:∃o,ops[i.ix]?=some o:=⟨_,oY hi⟩
     refine⟨o,ho,λe he hb=>?_⟩
     have h1:e.on<i.ix:=by
      have:=c4O ops.toList 0 hed i.ix o (by simpa using ho) e (by simpa using he) hb;omega
     have h2:¬listed.getD e.on true=false:=by
      rw[hli e.on (by omega)];intro hm;rw[nN,oS]at hpw;rw[nN,mV]at hm;rcases hm with hm | hm
      ·omega
      ·have:=hpw.1 _ hm; omega
     have h3:e.on<listed.size:=by omega
     simpa[Array.getD,h3] using h2
    rw[hempty]at this;simp at this
  ·
   rw[mem_ready]at hj;obtain⟨hj2,o,ho,hafter⟩:=hj;have hj1:j<ops.size:=(nM.1 ho).1;have hjl:j∈l.map It.ix:=(hli j hj1).1 hj2;obtain⟨x,hx,rfl⟩:=nK.1 hjl;obtain⟨p,q,rfl⟩:=List.append_of_mem hx;have hbits:∀i,i<ops.size→(nthD 0 (eK ops.toList []) x.ix).testBit i=true→listed.getD i false=true:=by
    intro i hi hb;have h1:=d9B ops.toList [] x.ix o (by simpa using ho);simp only[ma,ml]at h1;rw[h1]at hb;obtain⟨e,he,hbd,h2⟩:=c8I hb;have h3:=hafter e (by simpa using he) hbd;rcases h2 with rfl | h2
    ·exact h3
    ·
     refine hcl e.on h3 i hi ?_;rw[eY,mA]at h2 ⊢;rw[pG]at h2;split at h2
     ·exact h2
     ·simp at h2
   have hnotl:∀i∈p,¬listed.getD i.ix false=true:=by
    intro i hi hl;have h1:i.ix<ops.size:=hlt i (by simp[hi]);have h2:=(hli i.ix h1).2 (by simp; exact .inl ⟨i,hi,rfl⟩);have h3:i.ix<listed.size:=by omega
    simp[Array.getD,h3]at h2 hl;rw[h2]at hl; simp at hl
   have hap:∀i∈p,fj i.fp x.fp=true:=by
    intro i hi;unfold Fine at hfine;rw[na]at hfine;rcases hfine.2.2 i hi x (by simp) with h | h
    ·exact absurd (hbits i.ix (hlt i (by simp[hi])) h) (hnotl i hi)
    ·exact h
   obtain⟨hx1,t,hch',heq⟩:=Chain.pull hch hap;have hpw':((p++q).map It.ix).Pairwise (·<·):=hpw.sublist (by
    rw[mv,mv,nN];exact (List.Sublist.refl _).append (List.sublist_cons_self _ _))
   have hnd:x.ix∉(p++q).map It.ix:=by
    intro hm;rw[mv,mM]at hm;rw[mv,nN,na,oS]at hpw;rcases hm with hm | hm
    ·have:=hpw.2.2 _ hm x.ix (by simp); omega
    ·have:=hpw.2.1.1 _ hm; omega
   refine hop x.ix s x.wr x.rd A a w _ hj1 hx1 hr (λk hk hAk=>?_) λa' w' hr'=>?_
   ·
    rcases hA k hAk with h | ⟨i,h1,h2,h3⟩
    ·have:=hk.1; omega
    ·
     have hne:i≠x.ix:=λe=>h2 (by rw[e]; simp)
     have ha:=hk.1;have hb:=hk.2;have hc:=h3.1;have hd:=h3.2;rcases Nat.lt_or_gt_of_ne hne with hlt' | hgt
     ·
      have:bK*i+bK≤bK*x.ix:=by rw[← nF]; exact nv _ hlt'
      omega
     ·
      have:bK*x.ix+bK≤bK*i:=by rw[← nF]; exact nv _ hgt
      omega
   ·
    have hset:∀i,i≠x.ix→∀d,(listed.setIfInBounds x.ix true).getD i d=listed.getD i d:=λi hi d=>getD_set_ne d (nm hi)
    refine ih (p++q) (by simp at hn ⊢; omega) fuel _ _ (apply x.wr s) t a' w' (by simp at hfu ⊢; omega) (by simpa using hls) (λi hi=>?_) hpw' (λi hi=>hlt i (by
     rcases mM.1 hi with h | h<;>simp[h])) (λd hd i hi hb=>?_) ?_ hch' hr' (λk hk=>?_) (λa'' w'' hr''=>hQ a'' w'' (hr''.eqv heq.symm))
    ·
     by_cases e:i=x.ix
     ·
      subst e;have h3:x.ix<listed.size:=by omega
      simp only[hnd,iff_false];simp[Array.getD,h3]
     ·
      rw[hset i e,hli i hi];simp only[mv,nN,mM,mV];constructor
      ·
       rintro (h | h | h)
       ·exact .inl h
       ·exact absurd h e
       ·exact .inr h
      ·
       rintro (h | h)
       ·exact .inl h
       ·exact .inr (.inr h)
    ·
     by_cases e:d=x.ix
     ·
      subst e;exact getD_set_true (hbits i hi hb)
     ·
      rw[hset d e]at hd;exact getD_set_true (hcl d hd i hi hb)
    ·
     unfold Fine at hfine ⊢;exact hfine.sublist ((List.Sublist.refl _).append (List.sublist_cons_self _ _))
    ·
     rcases hk with hk | hk
     ·
      rcases hA k hk with h | ⟨i,h1,h2,h3⟩
      ·exact .inl h
      ·
       refine .inr ⟨i,h1,λhm=>h2 ?_,h3⟩
       simp only[mv,nN,mM,mV]at hm ⊢;rcases hm with hm | hm
       ·exact .inl hm
       ·exact .inr (.inr hm)
     ·exact .inr ⟨x.ix,hj1,hnd,hk⟩
end
theorem At.heap {w w':World} {b o:Nat} {ds:List Value} (h:At w b o ds) (hb:w'.heap[b]?=w.heap[b]?):At w' b o ds:=by
 intro j u hj;have:=h j u hj;unfold World.cell? at this ⊢;simp only[hb]; exact this
theorem cell?_heap {w w':World} {a:Addr} (hb:w'.heap[a.block]?=w.heap[a.block]?):w'.cell? a=w.cell? a:=by
 unfold World.cell?; rw[hb]
theorem frozen?_heap {w w':World} {a:Addr} (hb:w'.heap[a.block]?=w.heap[a.block]?):w'.frozen? a=w.frozen? a:=by
 unfold World.frozen?; rw[hb]
theorem RepArr.ext {F F':Nat→Prop} {w w':World} {e:EI} {t:Ty} {xs:List (Den t)} {ro:Bool} (h:RepArr F w e t xs ro) (hf:∀b,F b→F' b)
  (hw:∀b,F b→∀o u,w.cell? ⟨b,o,none⟩=some u→w'.cell? ⟨b,o,none⟩=some u) (hb:e.nil=false→w'.heap[e.blk]?=w.heap[e.blk]?) (hF:ro=false→e.nil=false→¬F' e.blk):RepArr F' w' e t xs ro:=by
 obtain⟨h1,h2,h3,h4,h5,h6⟩:=h;refine⟨h1,h2,h3,h4,h5,λhn=>?_⟩
 obtain⟨cs,u,fr,ds,k1,k2,k3,k4,k5,k6⟩:=h6 hn;have hbl:=hb hn;refine⟨cs,u,fr,ds,hbl.trans k1,k2,k3.imp λ_ _ hc=>RepD.ext hf hw hc,k4.heap hbl,λhro=>?_,λhro=>hf _ (k6 hro)⟩
 exact⟨hF hro hn,λo ho=>(frozen?_heap hbl).trans ((k5 hro).2 o ho)⟩
theorem BoxAt.heap {w w':World} {e:EI} {t:TypeId} {cs:List Value} (h:BoxAt w e t cs) (hb:w'.heap[e.blk]?=w.heap[e.blk]?):BoxAt w' e t cs:=by
 obtain⟨ds,fr,h1,h2,h3⟩:=h;exact⟨ds,fr,hb.trans h1,h2,λo ho=>(frozen?_heap hb).trans (h3 o ho)⟩
theorem RepO.ext {E E':Env} {F F':Nat→Prop} {w w':World} {e:EI} {o:Obj} (h:RepO E F w e o) (hx:Ext E F w E' F' w') (hb:o.live→e.nil=false∨(∃ls,o=.box ls)→w'.heap[e.blk]?=w.heap[e.blk]?)
  (hF:excl e o→¬F' e.blk):RepO E' F' w' e o:=by
 cases o with
 | dead=>trivial
 | box ls =>
  obtain⟨cs,t,h1,h2,_,h4⟩:=h;exact⟨cs,t,h1.heap (hb trivial (.inr ⟨ls,rfl⟩)),RepLs.ext hx h2,hF trivial,h4⟩
 | arr t xs ro=>exact RepArr.ext h hx.fz hx.wd (λhn=>hb trivial (.inl hn)) (λhro hn=>by subst hro; exact hF hn)
theorem gJ {C:Frm} {A:Nat→Prop} {E:Env} {F:Nat→Prop} {ob:List (Nat × Obj)} {w:World} (h:Mem C A E F ob w) {k:Nat} (hk:excl (E.e k) (aL ob k)):¬F (E.e k).blk:=by
 have:=h.rp k;cases hb:aL ob k with
 | dead=>rw[hb]at hk; exact hk.elim
 | box ls=>rw[hb]at this; obtain⟨cs,t,_,_,h3,_⟩:=this; exact h3
 | arr t xs ro =>
  rw[hb]at this hk;cases ro with
  | true=>exact hk.elim
  | false =>
   obtain⟨_,_,_,_,_,h6⟩:=this;obtain⟨cs,u,fr,ds,k1,k2,k3,k4,k5,k6⟩:=h6 hk;exact (k5 rfl).1
theorem Mem.heap {C:Frm} {A:Nat→Prop} {E:Env} {F:Nat→Prop} {ob:List (Nat × Obj)} {w w':World} (h:Mem C A E F ob w) (hh:w'.heap=w.heap) (ho:w'.os=w.os) (ht:w'.tape=w.tape) (hp:w'.output=w.output) :
  Mem C A E F ob w'∧Ext E F w E F w':=by
 have hx:Ext E F w E F w':=⟨λ_ h=>h,λ_ _=>rfl,λ_ h=>h,λb _ o u hu=>by rw[cell?_heap (w:=w) (w':=w') (by rw[hh])]; exact hu⟩
 refine⟨⟨h.lv,λk=>(h.rp k).ext hx (λ_ _=>by rw[hh]) (λhk=>?_),h.inj,h.al,λb hb=>by rw[hh]; exact h.fb b hb,h.f0,λb hb ho=>by rw[hh]; exact h.kp b hb ho,h.uf,h.uo,by rw[hh]; exact h.sz,ho.trans h.os,ht.trans h.tape,hp.trans h.output,h.eo⟩,hx⟩
 exact gJ h hk
theorem Rel.drawn {C:Frm} {A:Nat→Prop} {s:St} {a:Act} {w:World} (h:Rel C A s a w) (n:Nat):Rel C A s a {w with drawn:=n}:=by
 obtain⟨E,F,hm,ht⟩:=h;obtain⟨h1,h2⟩:=hm.heap (w':={w with drawn:=n}) rfl rfl rfl rfl;exact⟨E,F,h1,ht.ext h2⟩
theorem Rel.mono {C:Frm} {A A':Nat→Prop} {s:St} {a:Act} {w:World} (h:Rel C A s a w) (hA:∀k,A k→A' k):Rel C A' s a w:=by
 obtain⟨E,F,hm,ht⟩:=h;exact⟨E,F,hm.mono hA,ht⟩
theorem d3w:∀(wr:Wr) (s:St),(apply wr s).nx=s.nx
 | [],_=>rfl
 | p::r,s=>by simp only[apply]; rw[d3w r,e6l]
theorem a4F {a b:List Loc} (h:∀x∈a,∀y∈b,di x y=false):kT a b=false:=by
 have hm:∀(l:Loc) (ls:List Loc),(∀y∈ls,di l y=false)→h7X l ls=false:=by
  intro l ls;induction ls with
  | nil=>intro _; rfl
  | cons y r ih=>intro h; simp only[h7X,h y (by simp),ih λz hz=>h z (by simp[hz]),Bool.or_self]
 induction a with
 | nil=>rfl
 | cons x r ih=>simp only[kT,hm x b (h x (by simp)),ih λy hy=>h y (by simp[hy]),Bool.or_self]
theorem e0E {ix:Nat} {rd:List Loc} {wr:Wr} {i:It} (h:fj ⟨ix,rd.reverse++[],fk wr⟩ i.fp=true):fj (It.fp ⟨ix,wr,rd⟩) i.fp=true:=by
 obtain⟨h1,h2,h3⟩:=c3D h;simp only[fj,It.fp,mE,mu];exact⟨⟨a4F h1,a4F h2⟩,a4F λx hx=>h3 x (by simp; exact hx)⟩
theorem d7q {ix:Nat} {rd:List Loc} {wr:Wr} {f:Fp} (h:fj f ⟨ix,rd.reverse++[],fk wr⟩=true):fj f (It.fp ⟨ix,wr,rd⟩)=true:=by
 obtain⟨h1,h2,h3⟩:=c3D h;simp only[fj,It.fp,mE,mu];exact⟨⟨a4F h1,a4F λx hx y hy=>h2 x hx y (by simp; exact hy)⟩,a4F h3⟩
def jj (cx:Cx) (hi:Hi) (rg:Nat) (ops:List Oper) (base:Nat) (ix:Nat):Rd Wr :=
 match ops[ix]? with
 | some o=>opG cx hi rg ix (base+bK*ix) (h7J ops) o
 | none=>.fail
section
variable {P:Program} {ok:Nat→List DV→List DV→Prop} {ct:CT} {Q:Exit→Act→World→Prop} {C:Frm} {cx:Cx} {hi:Hi} {rg:Nat} {ops:Array Oper} {base:Nat} {k:St→Option Rs} {r:Rs}
theorem e6s (hct:CTok ok ct) (hop:OpOk P ok Q C ops (jj cx hi rg ops.toList base) base):∀(l:List Oper) (ix:Nat) (s:St) (a:Act) (w:World),ops.toList.drop ix=l→ix≤ops.size →
  h7P cx hi ct rg (h7J ops.toList) l ix (base+bK*ix) s k=some r→Rel C (λk=>k<base+bK*ix) s a w →
  (∀s' a' w',s'.nx=s.nx→k s'=some r→Rel C (λk=>k<base+bK*ops.size) s' a' w'→Q .normal a' w') →
  wpOps P ops Q (List.range' ix (ops.size-ix)) a w
 | [],ix,s,a,w,hl,hle,h,hr,hQ=>by
  have:ix=ops.size:=by
   have:=List.drop_eq_nil_iff.1 hl;simp at this; omega
  subst this;simp only[oT,qE,wpOps];exact hQ s a w rfl h hr
 | o::l,ix,s,a,w,hl,hle,h,hr,hQ=>by
  have hlt:ix<ops.size:=by
   rcases Nat.lt_or_ge ix ops.size with h | h
   ·exact h
   ·rw[nJ (by simpa using h)]at hl; simp at hl
  have ho:ops.toList[ix]?=some o:=by
   have:(ops.toList.drop ix)[0]?=some o:=by rw[hl]; rfl
   simpa using this
  simp only[h7P]at h;obtain⟨wr,rd,h1,h2⟩:=c1j hct h;rw[show ops.size-ix=(ops.size-(ix+1))+1 by omega,nR,wpOps_cons];refine hop ix s wr rd _ a w _ hlt (by simp only[jj,ho]; exact h1) hr (λn hn hA=>by have:=hn.1; omega) λa' w' hr'=>?_
  refine e6s hct hop l (ix+1) (apply wr s) a' w' (by rw[← oN,hl]; rfl) hlt (by rw[nF,← nQ]; exact h2) (hr'.mono λn hn=>?_) ?_
  ·
   rw[nF];rcases hn with hn | hn
   ·omega
   ·have:=hn.2; omega
  ·
   intro s' a'' w'' hnx hk hr'';exact hQ s' a'' w'' (hnx.trans (d3w wr s)) hk hr''
theorem d6z (hct:CTok ok ct) (ws:List Nat):∀(l:List Oper) (ix:Nat) (s:St) (fs:List Fp),ops.toList.drop ix=l →
  h7T cx hi ct rg (h7J ops.toList) ws l ix (base+bK*ix) fs s k=some r →
  ∃(its:List It) (s':St),its.map It.ix=List.range' ix l.length∧Chain ok (jj cx hi rg ops.toList base) its s s'∧s'.nx=s.nx∧k s'=some r∧Fine ws its ∧
   (∀i∈its,∀f∈fs,(nthD 0 ws i.ix).testBit f.ix=true∨fj f i.fp=true)
 | [],ix,s,fs,_,h=>⟨[],s,rfl,rfl,rfl,h,List.Pairwise.nil,by simp⟩
 | o::l,ix,s,fs,hl,h=>by
  have ho:ops.toList[ix]?=some o:=by
   have:(ops.toList.drop ix)[0]?=some o:=by rw[hl]; rfl
   simpa using this
  simp only[h7T]at h;obtain⟨wr,rd,h1,h2⟩:=c1j hct h;split at h2
  ·
   rename_i hap;obtain⟨its,s',g1,g2,g3,g4,g5,g6⟩:=d6z hct ws l (ix+1) _ _ (by rw[← oN,hl]; rfl) (by rw[nF,← nQ]; exact h2);have key:∀fs:List Fp,h7e (nthD 0 ws ix) ⟨ix,rd.reverse++[],fk wr⟩ fs=true→∀f∈fs,(nthD 0 ws ix).testBit f.ix=true∨fj f ⟨ix,rd.reverse++[],fk wr⟩=true:=by
    intro fs;induction fs with
    | nil=>simp
    | cons f q ih =>
     intro h;simp only[h7e,mE,nq]at h;intro g hg;rcases mV.1 hg with rfl | hg
     ·exact h.1
     ·exact ih h.2 g hg
   -- the readings in either order
   have hrd:RdE ok (jj cx hi rg ops.toList base ix) s wr rd:=by simp only[jj,ho]; exact h1
   refine⟨⟨ix,wr,rd⟩::its,s',?_,⟨hrd,g2⟩,g3.trans (d3w wr s),g4,?_,?_⟩
   ·simp only[nN,mP,nR,g1]
   ·
    refine oS.2 ⟨λi hi=>?_,g5⟩
    have:=g6 i hi _ (nj ..);refine this.imp id λh=>?_
    exact e0E h
   ·
    intro i hi f hf;rcases mV.1 hi with rfl | hi
    ·
     refine (key fs hap f hf).imp id λh=>?_
     exact d7q h
    ·exact g6 i hi f (nG _ hf)
  ·simp at h2
end
section
variable {P:Program} {ok:Nat→List DV→List DV→Prop} {ct:CT} {Q:Exit→Act→World→Prop} {C:Frm} {cx:Cx} {hi:Hi} {rg:Nat} {k:St→Option Rs} {r:Rs}
theorem e3g {ops:Array Oper} {draw:Bool} {s:St} {a:Act} {w:World} (hct:CTok ok ct) (hm:P.follows .mixedOrders=true)
  (hop:OpOk P ok Q C ops (jj cx hi rg ops.toList s.nx) s.nx) (h:region cx hi ct rg ops.toList draw s k=some r) (hr:Rel C (λk=>k<s.nx) s a w)
  (hQ:∀s' a' w',k s'=some r→Rel C (λk=>k<s'.nx) s' a' w'→Q .normal a' w'):(Code.region rg ops draw).wp P Q a w:=by
 have hr':Rel C (λk=>k<s.nx) (bump ops.toList.length s) a w:=by
  obtain⟨E,F,h1,h2⟩:=hr;exact⟨E,F,h1,h2.at_,h2.tl,h2.df⟩
 cases draw with
 | false =>
  simp only[region]at h;refine wp_region ?_;have:=e6s (base:=s.nx) (ops:=ops) hct hop ops.toList 0 _ a w rfl (nU _) h (by simpa using hr') (λs' a' w' hnx hk hr''=>hQ s' a' w' hk (hr''.mono λn hn=>by
   rw[hnx]; simpa[bump] using hn))
  rw[pd];exact this
 | true =>
  simp only[region]at h;split at h
  ·
   rename_i hed;obtain⟨its,s',g1,g2,g3,g4,g5,g6⟩:=d6z (base:=s.nx) (ops:=ops) hct _ ops.toList 0 _ [] rfl h;refine wp_region_any hm ?_;refine e9o hop hed its ops.size _ _ _ s' a _ ?_ (by simp) ?_ ?_ ?_ ?_ g5 g2 (hr'.drawn _) (λn hn=>.inl hn) λa' w' hr''=>hQ s' a' w' g4 (hr''.mono λn hn=>by
    rw[g3]; simpa[bump] using hn)
   ·
    have:=congrArg List.length g1
    simpa using Nat.le_of_eq this
   ·
    intro i hi;rw[g1];simp[Array.getD,hi]
   ·rw[g1]; exact List.pairwise_lt_range' ..
   ·
    intro i hi;have:i.ix∈its.map It.ix:=nK.2 ⟨i,hi,rfl⟩;rw[g1]at this
    simpa using this
   ·
    intro d hd i hi hb;exfalso;by_cases h3:d<ops.size
    ·simp[Array.getD,h3]at hd
    ·simp[Array.getD,h3]at hd
  ·simp at h
end
def Env.set (E:Env) (k:Nat) (e:EI):Env:={e:=λn=>if n=k then e else E.e n,al:=λn=>E.al n∨n=k}
theorem Env.set_self (E:Env) (k:Nat) (e:EI):(E.set k e).e k=e:=if_pos rfl
theorem Env.set_ne (E:Env) {k n:Nat} (e:EI) (h:n≠k):(E.set k e).e n=E.e n:=if_neg h
theorem Env.ext_set {E:Env} {F F':Nat→Prop} {w w':World} {k:Nat} (hk:¬E.al k) (e:EI) (hf:∀b,F b→F' b)
  (hw:∀b,F b→∀o u,w.cell? ⟨b,o,none⟩=some u→w'.cell? ⟨b,o,none⟩=some u):Ext E F w (E.set k e) F' w' :=
 ⟨λ_ h=>.inl h,λn hn=>Env.set_ne E e (λh=>hk (h ▸ hn)),hf,hw⟩
theorem d0D {w:World} {b:Nat} {o:Go.Obj} (h:w.heap[b]?=some o):b<w.heap.size:=(nM.1 h).1
section
variable {C:Frm} {A:Nat→Prop} {E:Env} {F:Nat→Prop} {ob:List (Nat × Obj)} {w w':World}
theorem Mem.blk_lt (h:Mem C A E F ob w) {k:Nat} (hl:(aL ob k).live) (hn:(E.e k).nil=false∨∃ls,aL ob k=.box ls):(E.e k).blk<w.heap.size:=by
 have:=h.rp k;cases ho:aL ob k with
 | dead=>rw[ho]at hl; exact hl.elim
 | box ls=>rw[ho]at this; obtain⟨cs,t,⟨ds,fr,h1,_⟩,_⟩:=this; exact d0D h1
 | arr t xs ro =>
  rw[ho]at this;obtain⟨_,_,_,_,_,h6⟩:=this;rcases hn with hn | ⟨ls,hn⟩
  ·obtain⟨cs,u,fr,ds,k1,_⟩:=h6 hn; exact d0D k1
  ·rw[ho]at hn; cases hn
theorem b3G {e:EI} {o:Obj} (h:excl e o):o.live:=by
 cases o with
 | dead=>exact h.elim
 | box ls=>trivial
 | arr t xs ro=>trivial
theorem Mem.blk_ne (h:Mem C A E F ob w) {k n:Nat} (hk:excl (E.e k) (aL ob k)) (hne:n≠k) (hl:(aL ob n).live) (hn:(E.e n).nil=false∨∃ls,aL ob n=.box ls):(E.e n).blk≠(E.e k).blk:=by
 intro e;by_cases hx:excl (E.e n) (aL ob n)
 ·exact hne (h.inj n k hx hk e)
 ·
  have:=h.rp n;cases ho:aL ob n with
  | dead=>rw[ho]at hl; exact hl
  | box ls=>rw[ho]at hx; exact hx trivial
  | arr t xs ro =>
   rw[ho]at this hx;rcases hn with hn | ⟨ls,hn⟩
   ·
    cases ro with
    | false=>exact hx hn
    | true =>
     obtain⟨_,_,_,_,_,h6⟩:=this;obtain⟨cs,u,fr,ds,k1,k2,k3,k4,k5,k6⟩:=h6 hn;exact gJ h hk (e ▸ k6 rfl)
   ·rw[ho]at hn; cases hn
theorem Mem.new (h:Mem C A E F ob w) {k:Nat} (hk:¬E.al k) {e:EI} {o:Obj} (hos:w'.os=w.os) (htp:w'.tape=w.tape) (hou:w'.output=w.output)
  (hsz:w'.heap.size=w.heap.size+1) (hold:∀b,b<w.heap.size→w'.heap[b]?=w.heap[b]?) (hblk:excl e o→e.blk=w.heap.size)
  (hrp:∀hx:Ext E F w (E.set k e) F w',RepO (E.set k e) F w' e o) :
  Mem C (λn=>A n∨n=k) (E.set k e) F (putO ob k o) w'∧Ext E F w (E.set k e) F w':=by
 have hx:Ext E F w (E.set k e) F w':=Env.ext_set hk e (λ_ h=>h) (λb hb o u hu=>by
  rw[cell?_heap (w:=w) (hold b (h.fb b hb))]; exact hu)
 have hne:∀n,(aL ob n).live→n≠k:=λn hn e=>hk (e ▸ h.lv n hn)
 refine⟨⟨?_,?_,?_,?_,λb hb=>by have:=h.fb b hb; omega,h.f0,λb hb ho=>(hold b (oJ hb h.sz)).trans (h.kp b hb ho),h.uf,?_,by have:=h.sz; omega,hos.trans h.os,htp.trans h.tape,hou.trans h.output,λk hk=>⟨hx.al k (h.eo k hk).1,(hx.e k (h.eo k hk).1).trans (h.eo k hk).2⟩⟩,hx⟩
 ·
  intro n hn;rw[co]at hn;by_cases e':k=n
  ·exact .inr e'.symm
  ·rw[if_neg e']at hn; exact .inl (h.lv n hn)
 ·
  intro n;rw[co];by_cases e':k=n
  ·subst e'; rw[if_pos rfl,Env.set_self]; exact hrp hx
  ·
   rw[if_neg e',Env.set_ne E e (nm e')];exact (h.rp n).ext hx (λhl hn=>hold _ (h.blk_lt hl hn)) (λhn=>gJ h hn)
 ·
  intro n m hn hm hb;rw[co]at hn hm;by_cases e1:k=n
  ·
   by_cases e2:k=m
   ·omega
   ·
    rw[if_neg e2,Env.set_ne E e (nm e2)]at hm;subst e1;rw[if_pos rfl,Env.set_self]at hn;rw[Env.set_self,Env.set_ne E e (nm e2),hblk hn]at hb;exfalso;have:(E.e m).blk<w.heap.size:=by
     cases ho:aL ob m with
     | dead=>rw[ho]at hm; exact hm.elim
     | box ls=>exact h.blk_lt (b3G hm) (.inr ⟨ls,ho⟩)
     | arr t xs ro =>
      rw[ho]at hm;cases ro with
      | true=>exact hm.elim
      | false=>exact h.blk_lt (by rw[ho]; trivial) (.inl hm)
    omega
  ·
   rw[if_neg e1,Env.set_ne E e (nm e1)]at hn;by_cases e2:k=m
   ·
    subst e2;rw[if_pos rfl,Env.set_self]at hm;rw[Env.set_self,Env.set_ne E e (nm e1),hblk hm]at hb;exfalso;have:(E.e n).blk<w.heap.size:=by
     cases ho:aL ob n with
     | dead=>rw[ho]at hn; exact hn.elim
     | box ls=>exact h.blk_lt (b3G hn) (.inr ⟨ls,ho⟩)
     | arr t xs ro =>
      rw[ho]at hn;cases ro with
      | true=>exact hn.elim
      | false=>exact h.blk_lt (by rw[ho]; trivial) (.inl hn)
    omega
   ·
    rw[if_neg e2,Env.set_ne E e (nm e2)]at hm;rw[Env.set_ne E e (nm e1),Env.set_ne E e (nm e2)]at hb;exact h.inj n m hn hm hb
 ·
  intro n hn;rcases hn with hn | rfl
  ·exact .inl (h.al n hn)
  ·exact .inr rfl
 ·
  intro n hn;rw[co]at hn;by_cases e':k=n
  ·
   subst e';rw[if_pos rfl,Env.set_self]at hn;rw[Env.set_self,hblk hn]; exact .inr h.sz
  ·
   rw[if_neg e',Env.set_ne E e (nm e')]at hn;rw[Env.set_ne E e (nm e')]; exact h.uo n hn
theorem Mem.write (h:Mem C A E F ob w) {k:Nat} (hk:excl (E.e k) (aL ob k)) {o:Obj} (hos:w'.os=w.os) (htp:w'.tape=w.tape) (hou:w'.output=w.output)
  (hsz:w'.heap.size=w.heap.size) (hold:∀b,b≠(E.e k).blk→w'.heap[b]?=w.heap[b]?) (hlv:o.live) (hex:excl (E.e k) o→excl (E.e k) (aL ob k))
  (hrp:∀hx:Ext E F w E F w',RepO E F w' (E.e k) o):Mem C A E F (putO ob k o) w'∧Ext E F w E F w':=by
 have hnF:=gJ h hk;have hx:Ext E F w E F w':=⟨λ_ h=>h,λ_ _=>rfl,λ_ h=>h,λb hb o u hu=>by
  rw[cell?_heap (w:=w) (hold b (λe=>hnF (e ▸ hb)))]; exact hu⟩
 refine⟨⟨?_,?_,?_,h.al,λb hb=>by rw[hsz]; exact h.fb b hb,h.f0,?_,h.uf,?_,by rw[hsz]; exact h.sz,hos.trans h.os,htp.trans h.tape,hou.trans h.output,λk hk=>⟨hx.al k (h.eo k hk).1,(hx.e k (h.eo k hk).1).trans (h.eo k hk).2⟩⟩,hx⟩
 ·
  intro n hn;rw[co]at hn;by_cases e':k=n
  ·subst e'; exact h.lv k (b3G hk)
  ·rw[if_neg e']at hn; exact h.lv n hn
 ·
  intro n;rw[co];by_cases e':k=n
  ·subst e'; rw[if_pos rfl]; exact hrp hx
  ·
   rw[if_neg e'];exact (h.rp n).ext hx (λhl hn=>hold _ (h.blk_ne hk (nm e') hl hn)) (λhn=>gJ h hn)
 ·
  intro n m hn hm hb;rw[co]at hn hm;refine h.inj n m ?_ ?_ hb
  ·
   by_cases e':k=n
   ·subst e'; exact hk
   ·rw[if_neg e']at hn; exact hn
  ·
   by_cases e':k=m
   ·subst e'; exact hk
   ·rw[if_neg e']at hm; exact hm
 ·
  intro b hb ho;have:b≠(E.e k).blk:=by
   intro e;rcases h.uo k hk with h1 | h1
   ·exact ho (e ▸ h1)
   ·omega
  exact (hold b this).trans (h.kp b hb ho)
 ·
  intro n hn;rw[co]at hn;by_cases e':k=n
  ·subst e'; exact h.uo k hk
  ·rw[if_neg e']at hn; exact h.uo n hn
theorem Mem.write2 (h:Mem C A E F ob w) {k:Nat} (hk:excl (E.e k) (aL ob k)) {o:Obj} (hos:w'.os=w.os) (htp:w'.tape=w.tape) (hou:w'.output=w.output)
  (hsz:w.heap.size≤w'.heap.size) (hold:∀b,b<w.heap.size→b≠(E.e k).blk→w'.heap[b]?=w.heap[b]?) (hlv:o.live) (hex:excl (E.e k) o→excl (E.e k) (aL ob k))
  (hrp:∀hx:Ext E F w E F w',RepO E F w' (E.e k) o):Mem C A E F (putO ob k o) w'∧Ext E F w E F w':=by
 have hnF:=gJ h hk;have hx:Ext E F w E F w':=⟨λ_ h=>h,λ_ _=>rfl,λ_ h=>h,λb hb o u hu=>by
  rw[cell?_heap (w:=w) (hold b (h.fb b hb) (λe=>hnF (e ▸ hb)))]; exact hu⟩
 refine⟨⟨?_,?_,?_,h.al,λb hb=>oJ (h.fb b hb) hsz,h.f0,?_,h.uf,?_,nO h.sz hsz,hos.trans h.os,htp.trans h.tape,hou.trans h.output,λk hk=>⟨hx.al k (h.eo k hk).1,(hx.e k (h.eo k hk).1).trans (h.eo k hk).2⟩⟩,hx⟩
 ·
  intro n hn;rw[co]at hn;by_cases e':k=n
  ·subst e'; exact h.lv k (b3G hk)
  ·rw[if_neg e']at hn; exact h.lv n hn
 ·
  intro n;rw[co];by_cases e':k=n
  ·subst e'; rw[if_pos rfl]; exact hrp hx
  ·
   rw[if_neg e'];exact (h.rp n).ext hx (λhl hn=>hold _ (h.blk_lt hl hn) (h.blk_ne hk (nm e') hl hn)) (λhn=>gJ h hn)
 ·
  intro n m hn hm hb;rw[co]at hn hm;refine h.inj n m ?_ ?_ hb
  ·
   by_cases e':k=n
   ·subst e'; exact hk
   ·rw[if_neg e']at hn; exact hn
  ·
   by_cases e':k=m
   ·subst e'; exact hk
   ·rw[if_neg e']at hm; exact hm
 ·
  intro b hb ho;have:b≠(E.e k).blk:=by
   intro e;rcases h.uo k hk with h1 | h1
   ·exact ho (e ▸ h1)
   ·omega
  exact (hold b (oJ hb h.sz) this).trans (h.kp b hb ho)
 ·
  intro n hn;rw[co]at hn;by_cases e':k=n
  ·subst e'; exact h.uo k hk
  ·rw[if_neg e']at hn; exact h.uo n hn
theorem Mem.kill (h:Mem C A E F ob w) (k:Nat):Mem C A E F (putO ob k .dead) w:=by
 refine⟨?_,?_,?_,h.al,h.fb,h.f0,h.kp,h.uf,?_,h.sz,h.os,h.tape,h.output,h.eo⟩
 ·
  intro n hn;rw[co]at hn;split at hn
  ·exact hn.elim
  ·exact h.lv n hn
 ·
  intro n;rw[co];split
  ·trivial
  ·exact h.rp n
 ·
  intro n m hn hm hb;rw[co]at hn hm;split at hn
  ·exact hn.elim
  ·
   split at hm
   ·exact hm.elim
   ·exact h.inj n m hn hm hb
 ·
  intro n hn;rw[co]at hn;split at hn
  ·exact hn.elim
  ·exact h.uo n hn
theorem Mem.pass (h:Mem C A E F ob w) {k n:Nat} (hk:excl (E.e k) (aL ob k)) (hn:¬E.al n) {e:EI} {o:Obj} (hblk:e.blk=(E.e k).blk)
  (hos:w'.os=w.os) (htp:w'.tape=w.tape) (hou:w'.output=w.output) (hsz:w'.heap.size=w.heap.size) (hold:∀b,b≠(E.e k).blk→w'.heap[b]?=w.heap[b]?)
  (hrp:∀hx:Ext E F w (E.set n e) F w',RepO (E.set n e) F w' e o) :
  Mem C (λm=>A m∨m=n) (E.set n e) F (putO (putO ob k .dead) n o) w'∧Ext E F w (E.set n e) F w':=by
 have hnF:=gJ h hk;have hx:Ext E F w (E.set n e) F w':=Env.ext_set hn e (λ_ h=>h) λb hb o u hu=>by
  rw[cell?_heap (w:=w) (hold b (λe=>hnF (e ▸ hb)))]; exact hu
 have hkn:k≠n:=λe=>hn (e ▸ h.lv k (b3G hk))
 have hlook:∀m,aL (putO (putO ob k .dead) n o) m=if n=m then o else if k=m then .dead else aL ob m:=λm=>by rw[co,co]
 refine⟨⟨?_,?_,?_,?_,λb hb=>by rw[hsz]; exact h.fb b hb,h.f0,?_,h.uf,?_,by rw[hsz]; exact h.sz,hos.trans h.os,htp.trans h.tape,hou.trans h.output,λk hk=>⟨hx.al k (h.eo k hk).1,(hx.e k (h.eo k hk).1).trans (h.eo k hk).2⟩⟩,hx⟩
 ·
  intro m hm;rw[hlook]at hm;by_cases e1:n=m
  ·exact .inr e1.symm
  ·
   rw[if_neg e1]at hm;by_cases e2:k=m
   ·rw[if_pos e2]at hm; exact hm.elim
   ·rw[if_neg e2]at hm; exact .inl (h.lv m hm)
 ·
  intro m;rw[hlook];by_cases e1:n=m
  ·subst e1; rw[if_pos rfl,Env.set_self]; exact hrp hx
  ·
   rw[if_neg e1,Env.set_ne E e (nm e1)];by_cases e2:k=m
   ·rw[if_pos e2]; trivial
   ·
    rw[if_neg e2];exact (h.rp m).ext hx (λhl hm=>hold _ (h.blk_ne hk (nm e2) hl hm)) (λhm=>gJ h hm)
 ·
  intro m m' hm hm' hb;rw[hlook]at hm hm';by_cases e1:n=m
  ·
   by_cases e2:n=m'
   ·omega
   ·
    rw[if_neg e2,Env.set_ne E e (nm e2)]at hm';by_cases e3:k=m'
    ·rw[if_pos e3]at hm'; exact hm'.elim
    ·
     rw[if_neg e3]at hm';subst e1;rw[Env.set_self,Env.set_ne E e (nm e2),hblk]at hb;exact absurd (h.inj k m' hk hm' hb) e3
  ·
   rw[if_neg e1,Env.set_ne E e (nm e1)]at hm;by_cases e3:k=m
   ·rw[if_pos e3]at hm; exact hm.elim
   ·
    rw[if_neg e3]at hm;by_cases e2:n=m'
    ·
     subst e2;rw[Env.set_self,Env.set_ne E e (nm e1),hblk]at hb;exact absurd (h.inj m k hm hk hb).symm e3
    ·
     rw[if_neg e2,Env.set_ne E e (nm e2)]at hm';by_cases e4:k=m'
     ·rw[if_pos e4]at hm'; exact hm'.elim
     ·
      rw[if_neg e4]at hm';rw[Env.set_ne E e (nm e1),Env.set_ne E e (nm e2)]at hb;exact h.inj m m' hm hm' hb
 ·
  intro m hm;rcases hm with hm | rfl
  ·exact .inl (h.al m hm)
  ·exact .inr rfl
 ·
  intro b hb ho;have:b≠(E.e k).blk:=by
   intro e;rcases h.uo k hk with h1 | h1
   ·exact ho (e ▸ h1)
   ·omega
  exact (hold b this).trans (h.kp b hb ho)
 ·
  intro m hm;rw[hlook]at hm;by_cases e1:n=m
  ·subst e1; rw[Env.set_self,hblk]; exact h.uo k hk
  ·
   rw[if_neg e1,Env.set_ne E e (nm e1)]at hm;by_cases e2:k=m
   ·rw[if_pos e2]at hm; exact hm.elim
   ·
    rw[if_neg e2]at hm;rw[Env.set_ne E e (nm e1)]; exact h.uo m hm
end
theorem b8t {v:Value}:cw v↔v.oneCell'=true:=by
 cases v<;>simp[cw,Value.oneCell']
def zrep (f:List Value→Option (List Value)):Nat→List Value→Option (List Value)
 | 0,r=>some r
 | n+1,r=>match f r with
  | some q=>zrep f n q
  | none=>none
def zD:Ty→List Value→Option (List Value)
 | .unit,r=>some r
 | .pair a b,r=>match zD a r with
  | some q=>zD b q
  | none=>none
 | .ar n a,r=>zrep (zD a) n r
 | .int k,.int j n::r=>if k=j∧n=0 then some r else none
 | .bool,.bool b::r=>match b with
  | false=>some r
  | true=>none
 | .str,.string s::r=>if s.size=0 then some r else none
 | .sl _,.slice none 0 0::r=>some r
 | .nl,.slice none 0 0::r=>some r
 | _,_=>none
theorem e5O {s:ByteArray} (h:s.size=0):s=ByteArray.empty:=by
 cases s with
 | mk d =>
  have:d=#[]:=Array.eq_empty_of_size_eq_zero h;subst this; rfl
theorem d9o {F:Nat→Prop} {w:World} {a:Ty} (ih:∀cs r,zD a cs=some r→∃c,cs=c++r∧RepD F w a (cq a) c):∀(n:Nat) (cs r:List Value),zrep (zD a) n cs=some r →
  ∃c,cs=c++r∧All (λx c=>RepD F w a x c) (List.replicate n (cq a)) c
 | 0,cs,r,h=>by simp only[zrep,mB]at h; subst h; exact⟨[],rfl,rfl⟩
 | n+1,cs,r,h=>by
  simp only[zrep]at h;split at h
  ·
   rename_i q hq;obtain⟨c,rfl,hc⟩:=ih _ _ hq;obtain⟨d,rfl,hd⟩:=d9o ih n _ _ h;exact⟨c++d,by simp,c,d,rfl,hc,hd⟩
  ·simp at h
theorem d4j {F:Nat→Prop} {w:World}:∀(t:Ty) (cs r:List Value),zD t cs=some r→∃c,cs=c++r∧RepD F w t (cq t) c:=by
 intro t;induction t with
 | unit=>intro cs r h; rw[zD]at h; simp only[mB]at h; subst h; exact⟨[],rfl,by rw[RepD]⟩
 | pair a b iha ihb =>
  intro cs r h;rw[zD]at h;split at h
  ·
   rename_i q hq;obtain⟨c,rfl,hc⟩:=iha _ _ hq;obtain⟨d,rfl,hd⟩:=ihb _ _ h;exact⟨c++d,by simp,by rw[RepD]; exact⟨c,d,rfl,hc,hd⟩⟩
  ·simp at h
 | ar n a ih =>
  intro cs r h;rw[zD]at h;obtain⟨c,e,hc⟩:=d9o ih n _ _ h;exact⟨c,e,by rw[RepD]; exact⟨by simp[cq],hc⟩⟩
 | int k =>
  intro cs r h;unfold zD at h;split at h<;>try (first | contradiction | simp at h; done)
  all_goals rename_i e; cases e
  split at h
  ·
   rename_i hk;obtain⟨rfl,rfl⟩:=hk;simp only[mB]at h; subst h;exact⟨[_],rfl,by rw[RepD]; rfl⟩
  ·simp at h
 | bool =>
  intro cs r h;unfold zD at h;split at h<;>try (first | contradiction | simp at h; done)
  split at h
  ·
   simp only[mB]at h; subst h;exact⟨[_],rfl,by rw[RepD]; rfl⟩
  ·simp at h
 | str =>
  intro cs r h;unfold zD at h;split at h<;>try (first | contradiction | simp at h; done)
  split at h
  ·
   rename_i hs;simp only[mB]at h; subst h;exact⟨[_],rfl,by rw[RepD,e5O hs]; rfl⟩
  ·simp at h
 | nl =>
  intro cs r h;unfold zD at h;split at h<;>try (first | contradiction | simp at h; done)
  simp only[mB]at h; subst h;exact⟨[_],rfl,by rw[RepD]⟩
 | sl a _ =>
  intro cs r h;unfold zD at h;split at h<;>try (first | contradiction | simp at h; done)
  simp only[mB]at h; subst h;exact⟨[_],rfl,by rw[RepD]; exact⟨none,0,rfl,mG _,.inl rfl⟩⟩
def zkD:List ZK→List Value→Bool
 | [],[]=>true
 | .d t::r,cs=>match zD t cs with
  | some q=>zkD r q
  | none=>false
 | .nils::r,.slice none 0 0::q=>zkD r q
 | .nilp::r,.pointer none::q=>zkD r q
 | .any n::r,cs=>Nat.ble n cs.length&&(cs.take n).all Value.oneCell'&&zkD r (cs.drop n)
 | _,_=>false
theorem j4 {E:Env} {F:Nat→Prop} {w:World}:∀(ks:List ZK) (cs:List Value),zkD ks cs=true→RepLs E F w (zs ks) cs
 | [],[],_=>rfl
 | [],_::_,h=>by simp[zkD]at h
 | .d t::r,cs,h=>by
  rw[zkD]at h;split at h
  ·
   rename_i q hq;obtain⟨c,rfl,hc⟩:=d4j (F:=F) (w:=w) t _ _ hq;exact⟨c,q,rfl,hc,j4 r q h⟩
  ·simp at h
 | .nils::r,cs,h=>by
  unfold zkD at h;split at h<;>try (first | contradiction | simp at h; done)
  all_goals rename_i e; cases e
  exact⟨[_],_,rfl,rfl,j4 r _ h⟩
 | .nilp::r,cs,h=>by
  unfold zkD at h;split at h<;>try (first | contradiction | simp at h; done)
  all_goals rename_i e; cases e
  exact⟨[_],_,rfl,rfl,j4 r _ h⟩
 | .any n::r,cs,h=>by
  rw[zkD]at h;simp only[mE,mz,qB]at h;exact⟨cs.take n,cs.drop n,by simp,⟨by simp; exact pg h.1.1,λu hu=>b8t.2 (h.1.2 u hu)⟩,j4 r _ h.2⟩
def gY:TypeDesc→Bool
 | .struct _ | .array _ _=>true
 | _=>false
def elOk (P:Program) (e:TypeId) (t:Ty) (by_:Nat):Bool :=
 match P.info? e with
 | some f=>Nat.beq f.size t.sz&&Nat.beq f.bytes by_&&(match f.zero with
  | some z=>(match zD t z.cells.toList with | some []=>true | _=>false)
  | none=>false)
 | none=>false
def fsOk (P:Program):List Field→List (Nat × List Nat)→List Nat→Bool
 | [],[],_=>true
 | x::r,p::q,lay=>Nat.beq x.offset ((lay.take p.1).sum)&&(match P.info? x.type with
  | some y=>Nat.beq y.size p.2.sum&&!Nat.beq y.size 0
  | none=>false)&&dz p.2 ((lay.drop p.1).take p.2.length)&&Nat.ble (p.1+p.2.length) lay.length&&fsOk P r q lay
 | _,_,_=>false
def tysz (ts:List Ty):Nat:=(ts.map Ty.sz).sum
def eqFs (f:TypeId→Option (List Ty)):List Field→Nat→Option (List Ty)
 | [],_=>some []
 | x :: r, off => if x.name = "_" ∨ x.offset ≠ off then none else match f x.type with
  | none=>none
  | some a=>match eqFs f r (off+tysz a) with
   | none=>none
   | some b=>some (a++b)
def eqT (P:Program):Nat→TypeId→Option (List Ty)
 | 0,_=>none
 | n+1,t=>match P.underlying t with
  | some (.int k)=>some [.int k]
  | some .bool=>some [.bool]
  | some .string=>some [.str]
  | some (.array m e)=>match P.info? e,P.underlying e with
   | some i,some (.int k)=>if i.size=1∧P.cellsOf t=m then some [.ar m (.int k)] else none
   | some i,some .bool=>if i.size=1∧P.cellsOf t=m then some [.ar m .bool] else none
   | _,_=>none
  | some (.struct fs)=>if P.stoodInHeld t then none else match eqFs (eqT P n) fs.toList 0 with
   | none=>none
   | some ts=>if P.cellsOf t=tysz ts then some ts else none
  | _=>none
def tdOk (P:Program) (i:TI):TypeDesc→Bool
 | .int k=>match i.td with | .int j=>decide (k=j) | _=>false
 | .bool=>match i.td with | .bool=>true | _=>false
 | .string=>match i.td with | .str=>true | _=>false
 | .slice e=>match i.td with | .slice=>elOk P e i.ety i.eby | _=>false
 | .array n e=>match i.td with
  | .array=>Nat.beq n i.n&&elOk P e i.ety i.eby&&h7a i.ety&&(match i.zk with | [.d t]=>decide (t=.ar n i.ety) | _=>false)
  | _=>false
 | .struct fs=>match i.td with | .struct=>fsOk P fs.toList i.fl i.lay | _=>false
 | .pointer _=>match i.td with | .ptr=>true | _=>false
 | .func _ _ _=>match i.td with | .func=>true | _=>false
 | _=>match i.td with | .other=>true | _=>false
def fgOk (P:Program):List Field→List Bool→Bool
 | _,[]=>true
 | x::r,b::q=>(match P.underlying x.type with
  | some d=>gY d==b
  | none=>false)&&fgOk P r q
 | [],_::_=>false
def tchk (P:Program) (t:TypeId) (i:TI):Bool :=
 (match P.info? t with
 | some f=>Nat.beq f.size i.lay.sum&&(match f.zero with
  | some z=>zkD i.zk z.cells.toList&&(match z with | .agg _=>i.agg | _=>!i.agg)
  | none=>false)
 | none=>false) &&
 (match P.underlying t with
 | some d=>(gY d==i.agg)&&tdOk P i d
 | none=>false)&&dz i.lay (ba (zs i.zk)) &&
 (match i.eqt with
 | none=>true
 | some ts=>decide (eqT P 40 t=some ts)&&!P.eqGuardType P.depth t) &&
 (match P.underlying t with
 | some (.slice e)=>match i.ety with
  | .int .u8=>(match P.underlying e with | some (.int .u8)=>true | _=>false)
  | _=>true
 | _=>true) &&
 (match P.underlying t with
 | some (.struct fs)=>fgOk P fs.toList i.fg
 | _=>true)
structure ElOk (P:Program) (e:TypeId) (t:Ty) (by_:Nat):Prop where
 ex:∃f z,P.info? e=some f∧f.size=t.sz∧f.bytes=by_∧f.zero=some z∧zD t z.cells.toList=some []
structure TOk (P:Program) (t:TypeId) (i:TI):Prop where
 inf:∃f z,P.info? t=some f∧f.size=i.lay.sum∧f.zero=some z∧zkD i.zk z.cells.toList=true∧(match z with | .agg _=>i.agg | _=>!i.agg)=true
 und:∃d,P.underlying t=some d∧gY d=i.agg∧tdOk P i d=true
 lay:i.lay=ba (zs i.zk)
 eq:∀ts,i.eqt=some ts→eqT P 40 t=some ts∧P.eqGuardType P.depth t=false
 by8:∀e,P.underlying t=some (.slice e)→i.ety=.int .u8→P.underlying e=some (.int .u8)
 fg:∀fs,P.underlying t=some (.struct fs)→fgOk P fs.toList i.fg=true
theorem d5z {P:Program} {e:TypeId} {t:Ty} {n:Nat} (h:elOk P e t n=true):ElOk P e t n:=by
 unfold elOk at h;split at h
 ·
  rename_i f hf;simp only[mE,nk]at h;obtain⟨⟨h1,h2⟩,h3⟩:=h;split at h3
  ·
   rename_i z hz;split at h3
   ·rename_i hzd; exact⟨f,z,hf,h1,h2,hz,hzd⟩
   ·simp at h3
  ·simp at h3
 ·simp at h
theorem e3Q {P:Program} {t:TypeId} {i:TI} (h:tchk P t i=true):TOk P t i:=by
 unfold tchk at h;simp only[mE]at h;obtain⟨⟨⟨⟨⟨h1,h2⟩,h3⟩,h4⟩,h5⟩,h6⟩:=h;refine⟨?_,?_,eU h3,?_,λe he h8=>by rw[he]at h5; simp only[h8]at h5; split at h5<;>first | assumption | simp at h5,λfs hfs=>by rw[hfs]at h6; exact h6⟩
 ·
  split at h1
  ·
   rename_i f hf;simp only[mE,nk]at h1;obtain⟨g1,g2⟩:=h1;split at g2
   ·
    rename_i z hz;simp only[mE]at g2;exact⟨f,z,hf,g1,hz,g2.1,g2.2⟩
   ·simp at g2
  ·simp at h1
 ·
  split at h2
  ·
   rename_i d hd;simp only[mE,beq_iff_eq]at h2;exact⟨d,hd,h2.1,h2.2⟩
  ·simp at h2
 ·
  intro ts hts;rw[hts]at h4
  simpa using h4
def TIok (P:Program) (cx:Cx):Prop:=∀t i,cx.ti t=some i→TOk P t i
theorem Cx.t_ev {ok:Nat→List DV→List DV→Prop} {α:Type} {cx:Cx} {t:Nat} {k:TI→Rd α} {s:St} {a:α} (h:Ev ok (cx.t t k) s a):∃i,cx.ti t=some i∧Ev ok (k i) s a:=by
 unfold Cx.t at h;split at h
 ·exact⟨_,‹_›,h⟩
 ·exact h.fail.elim
def finW (dst:Option Nat) (wr:Wr) (y:V):Wr :=
 match dst with
 | none=>wr
 | some d=>wr++[(.tmp d,.v y)]
section
variable {ok:Nat→List DV→List DV→Prop} {α:Type} {t u:Ty} {s:St} {a:α}
theorem dO {v:List (Den t)} {k:List (Den u)→Rd α} (h:Ev ok (castL? t u v k) s a):t=u:=by
 unfold castL? at h;rcases e3N (t:=t) (u:=u) (k:=λh=>k (h ▸ v)) (e:=.fail) with⟨e,_⟩ | e
 ·exact e
 ·rw[e]at h; exact h.fail.elim
theorem dJ {v:List (Den t)} {k:List (Den t)→Rd α} (h:Ev ok (castL? t t v k) s a):Ev ok (k v) s a:=by
 unfold castL? at h;rw[b4f]at h;exact h
theorem c1e {v:Den t} {k:Den u→Rd α} (h:Ev ok (cast? t u v k) s a):t=u:=by
 unfold cast? at h;rcases e3N (t:=t) (u:=u) (k:=λh=>k (h ▸ v)) (e:=.fail) with⟨e,_⟩ | e
 ·exact e
 ·rw[e]at h; exact h.fail.elim
theorem b7B {v:Den t} {k:Den t→Rd α} (h:Ev ok (cast? t t v k) s a):Ev ok (k v) s a:=by
 unfold cast? at h;rw[b4f]at h;exact h
end
section
variable {ok:Nat→List DV→List DV→Prop} {α:Type} {E:Env} {F:Nat→Prop} {s:St} {a:Act} {w:World} {r:α}
theorem e9m {v:Value} {x:V} (h:cV v=some x):RepV E F w x v:=by
 unfold cV at h;split at h<;>simp only[mB,reduceCtorEq]at h<;>subst h
 ·exact⟨trivial,by rw[RepL,RepD]⟩
 ·exact⟨trivial,by rw[RepL,RepD]⟩
 ·exact⟨trivial,by rw[RepL,RepD]⟩
 ·exact⟨trivial,rfl⟩
 ·exact⟨trivial,rfl⟩
theorem db {o:Operand} {k:V→Rd α} (h:Ev ok (ev o k) s r) (ht:Tms E F s.tm a w):∃x,RepV E F w x (a.eval o)∧Ev ok (k x) s r:=by
 unfold ev at h;split at h
 ·
  rename_i t;have h:=h.get;simp only[look]at h;exact⟨_,ht.at_ t,h⟩
 ·
  split at h
  ·
   rename_i v x hx;exact⟨x,e9m hx,h⟩
  ·exact h.fail.elim
 ·
  rename_i f;exact⟨.one (.fn f []),⟨trivial,by simp[RepL,Act.eval]⟩,h⟩
 ·exact h.fail.elim
theorem iW:∀{os:List Operand} {k:List V→Rd α},Ev ok (evs os k) s r→Tms E F s.tm a w→∃xs,All2 (RepV E F w) xs (os.map a.eval)∧Ev ok (k xs) s r
 | [],_,h,_=>⟨[],trivial,h⟩
 | o::q,k,h,ht=>by
  obtain⟨x,h1,h2⟩:=db h ht;obtain⟨xs,h3,h4⟩:=iW h2 ht;exact⟨x::xs,⟨h1,h3⟩,h4⟩
theorem c3P:∀{os:List (Nat × Operand)} {k:List (Nat × V)→Rd α},Ev ok (h7z os k) s r→Tms E F s.tm a w →
  ∃xs,All2 (λ(p:Nat × V) (q:Nat × Value)=>p.1=q.1∧RepV E F w p.2 q.2) xs (os.map λp=>(p.1,a.eval p.2))∧Ev ok (k xs) s r
 | [],_,h,_=>⟨[],trivial,h⟩
 | o::q,k,h,ht=>by
  obtain⟨x,h1,h2⟩:=db h ht;obtain⟨xs,h3,h4⟩:=c3P h2 ht;exact⟨(o.1,x)::xs,⟨⟨rfl,h1⟩,h3⟩,h4⟩
theorem e8g {hi:Hi} {dst:Option Nat} {wr wr':Wr} {x:V} (h:Ev ok (fin hi dst wr x) s wr') :
  ∃y,(∀(E:Env) (F:Nat→Prop) (w:World) (v:Value),RepV E F w x v→RepV E F w y v)∧wr'=finW dst wr y:=by
 cases dst with
 | none=>exact⟨x,λ_ _ _ _ h=>h,h.ret⟩
 | some d =>
  simp only[fin]at h;split at h
  ·
   rename_i b _ _;rcases h.ite with⟨hb,h'⟩ | ⟨hb,h'⟩
   ·subst hb; exact⟨_,λ_ _ _ _ h=>h,h'.ret⟩
   ·subst hb; exact⟨_,λ_ _ _ _ h=>h,h'.ret⟩
  ·exact⟨_,λ_ _ _ _ h=>h,h.ret⟩
theorem iY {C:Frm} {A:Nat→Prop} {E':Env} {F':Nat→Prop} {hi:Hi} {dst:Option Nat} {wr wr':Wr} {x:V} {v:Value} {w':World} (h:Ev ok (fin hi dst wr x) s wr')
  (hm:Mem C A E' F' (apply wr s).ob w') (ht:Tms E' F' (apply wr s).tm a w') (hx:RepV E' F' w' x v):Rel C A (apply wr' s) (a.put dst v) w':=by
 obtain⟨y,hy,rfl⟩:=e8g h;cases dst with
 | none=>exact⟨E',F',hm,ht.put_none v⟩
 | some d =>
  simp only[finW];rw[a6y];exact⟨E',F',hm,ht.put d (hy _ _ _ _ hx)⟩
end
section
variable {P:Program} {ok:Nat→List DV→List DV→Prop} {C:Frm} {A:Nat→Prop} {E:Env} {F:Nat→Prop} {s:St} {a:Act} {w:World} {wr:Wr} {o:Oper} {K:Act→World→Prop} {Q:Exit→Act→World→Prop} {hi:Hi}
theorem e7E {x:V} {v:Value} (hrun:(execOp a.eval o).run P w=.ok (.value v) w) (h:Ev ok (fin hi o.dst [] x) s wr) (hm:Mem C A E F s.ob w) (ht:Tms E F s.tm a w) (hx:RepV E F w x v)
  (hK:∀a' w',Rel C A (apply wr s) a' w'→K a' w'):o.wp P a w K Q:=by
 unfold Oper.wp;rw[hrun];exact hK _ _ (iY h hm ht hx)
end
end Go.Proofs.Zz
