import Derived.Test.YtnfpdmhdpeffjaaGreatEngI
import Derived.WalkSpells
import Derived.Laws.Pointers
import Derived.Lib.SliceRun
set_option linter.unusedSimpArgs false
set_option linter.unusedVariables false
/- Operations that leave memory as it was, one by one. -/
namespace Go.Proofs.Zz
open Go

section
variable {P:Program} {ok:Nat→List DV→List DV→Prop} {α:Type} {s:St} {r:α} {t:TypeId} {E:Env} {F:Nat→Prop} {w:World}
theorem e4k {ls:List L} {v:Value} (h:RepV E F w (.agg ls) v):∃ cs,v = .agg cs∧RepLs E F w ls cs.toList:=h
theorem of_one {l:L} {v:Value} (hl:∀ n,l≠.any n) (h:RepV E F w (.one l) v):cellOk v∧RepL E F w l [v]:=by
 cases l <;> first | exact h | exact absurd rfl (hl _)
theorem d9m {l:L} {v:Value} (h:cellOk v) (h':RepL E F w l [v]):RepV E F w (.one l) v:=by
 cases l <;> first | exact ⟨h,h'⟩ | trivial
theorem TOk.slice {i:TI} (h:TOk P t i) (hd:i.td = .slice):∃ e,P.underlying t = some (.slice e)∧ElOk P e i.ety i.eby:=by
 obtain ⟨d,h1,h2,h3⟩:=h.und;cases d <;> simp [tdOk,hd] at h3
 exact ⟨_,h1,d5z h3⟩
theorem TOk.bool {i:TI} (h:TOk P t i) (hd:i.td = .bool):P.underlying t = some .bool:=by
 obtain ⟨d,h1,h2,h3⟩:=h.und;cases d <;> simp [tdOk,hd] at h3
 exact h1
theorem TOk.str {i:TI} (h:TOk P t i) (hd:i.td = .str):P.underlying t = some .string:=by
 obtain ⟨d,h1,h2,h3⟩:=h.und;cases d <;> simp [tdOk,hd] at h3
 exact h1
theorem TOk.int {i:TI} {k:IntKind} (h:TOk P t i) (hd:i.td = .int k):P.underlying t = some (.int k):=by
 obtain ⟨d,h1,h2,h3⟩:=h.und;cases d <;> simp [tdOk,hd] at h3
 subst h3;exact h1
theorem TOk.ptr {i:TI} (h:TOk P t i) (hd:i.td = .ptr):∃ e,P.underlying t = some (.pointer e):=by
 obtain ⟨d,h1,h2,h3⟩:=h.und;cases d <;> simp [tdOk,hd] at h3
 exact ⟨_,h1⟩
theorem TOk.array {i:TI} (h:TOk P t i) (hd:i.td = .array):∃ e,P.underlying t = some (.array i.n e)∧ElOk P e i.ety i.eby∧scalar i.ety = true∧i.zk = [.d (.ar i.n i.ety)]:=by
 obtain ⟨d,h1,h2,h3⟩:=h.und;cases d <;> simp [tdOk,hd] at h3
 obtain ⟨⟨⟨k1,k2⟩,k3⟩,k4⟩:=h3;subst k1;refine ⟨_,h1,d5z k2,k3,?_⟩;split at k4
 · rename_i hz; rw [hz]; simp at k4; rw [k4]
 · simp at k4
theorem TOk.struct {i:TI} (h:TOk P t i) (hd:i.td = .struct):∃ fs,P.underlying t = some (.struct fs)∧fsOk P fs.toList i.fl i.lay = true:=by
 obtain ⟨d,h1,h2,h3⟩:=h.und;cases d <;> simp [tdOk,hd] at h3
 exact ⟨_,h1,h3⟩

theorem e4T {n:Nat} {ts:List Ty} {d:TypeDesc} (h:eqT P (n+1) t = some ts) (hu:P.underlying t = some d) (ha:isAggD d = true):P.cellsOf t = tysz ts:=by
 unfold eqT at h;rw [hu] at h;cases d <;> simp [isAggD] at ha
 ·
  simp only at h;split at h
  ·
   split at h
   · rename_i hsz; simp only [Option.some.injEq] at h; subst h; rw [hsz.2]; simp [tysz,Ty.sz]
   · simp at h
  ·
   split at h
   · rename_i hsz; simp only [Option.some.injEq] at h; subst h; rw [hsz.2]; simp [tysz,Ty.sz]
   · simp at h
  · simp at h
 ·
  simp only at h;split at h
  · simp at h
  ·
   split at h
   · simp at h
   ·
    split at h
    · rename_i hsz; simp only [Option.some.injEq] at h; subst h; exact hsz
    · simp at h

theorem e7N {i:TI} (hi:i = {}∨TOk P t i) {op:BinOp} {x y:V} {k:V→Rd α} (h:Ev ok (binO i op x y k) s r) {ox oy:Operand} {vx vy:Value} (hx:RepV E F w x vx) (hy:RepV E F w y vy) :
  ∃ v X,(do eqGuard op t ox oy vx vy; binOp op t vx vy:Sem Value).run P w = .ok v w∧RepV E F w X v∧Ev ok (k X) s r:=by
 unfold binO at h;split at h
 ·
  rename_i i' a j b;have:=a7x hx; subst this;have:=a7x hy; subst this;obtain ⟨v,X,h1,h2,h3⟩:=e6U (P:=P) (t:=t) h;refine ⟨v,X,?_,h2 _ _ _,h3⟩;have:(eqGuard op t ox oy (.int i' a) (.int j b)).run P w = .ok () w:=by cases op <;> simp [eqGuard]
  simp [this,h1]
 ·
  rename_i a b;have:=c5s hx; subst this;have:=c5s hy; subst this;obtain ⟨v,X,h1,h2,h3⟩:=e8a (P:=P) (t:=t) h;refine ⟨v,X,?_,h2 _ _ _,h3⟩;have:(eqGuard op t ox oy (.string a) (.string b)).run P w = .ok () w:=by cases op <;> simp [eqGuard]
  simp [this,h1]
 ·
  rename_i a b;have:=c8U hx; subst this;have:=c8U hy; subst this;have hg:(eqGuard op t ox oy (.bool a) (.bool b)).run P w = .ok () w:=by cases op <;> simp [eqGuard]
  split at h
  ·
   rename_i htd;have hu:=(hi.resolve_left (by rintro rfl; simp at htd)).bool htd;exact ⟨_,_,by rw [Sem.run_bind,hg,Result.andThen_ok,run_eql_bool w t a b hu],a4a _,h⟩
  ·
   rename_i htd;have hu:=(hi.resolve_left (by rintro rfl; simp at htd)).bool htd;exact ⟨_,_,by rw [Sem.run_bind,hg,Result.andThen_ok,run_neq_bool w t a b hu],a4a _,h⟩
  · exact h.fail.elim
 ·
  rename_i a b;split at h
  · exact h.fail.elim
  · exact h.fail.elim
  ·
   rename_i ts hts hagg;split at h
   · exact h.fail.elim
   ·
    rename_i hty;simp only [Bool.and_eq_true] at hty;obtain ⟨ca,rfl,ha⟩:=e4k hx;obtain ⟨cb,rfl,hb⟩:=e4k hy;have hT:=hi.resolve_left (by rintro rfl; simp at hts);obtain ⟨he,hgt⟩:=hT.eq ts hts;obtain ⟨va,vb,c,k1,k2,k3,k4⟩:=e8n (P:=P) (w:=w) 40 t ts he 9959 ca cb 0 a b _ _ hty.1 hty.2 ha hb ⟨[],[],by simp,rfl⟩ ⟨[],[],by simp,rfl⟩
    obtain ⟨d,hu,hd,_⟩:=hT.und;rw [hagg] at hd;obtain ⟨f,z,g1,g2,g3,g4,g5⟩:=hT.inf;have hsz:f.size = tysz ts:=by
     have:=e4T he hu hd;rw [← this]; simp [Program.cellsOf,g1]
    have l1:ca.size = f.size:=by have:=b4A hty.1 ha; rw [hsz,← this]; simp
    have l2:cb.size = f.size:=by have:=b4A hty.2 hb; rw [hsz,← this]; simp
    have e1:=a3B (P:=P) hu hd g1 (xs:=ca) (off:=0) w;have e2:=a3B (P:=P) hu hd g1 (xs:=cb) (off:=0) w;rw [k1] at e1; rw [k2] at e2;simp only [Result.ok.injEq,and_true] at e1 e2;have f1:ca.extract 0 (0+f.size) = ca:=by rw [Nat.zero_add,← l1]; simp
    have f2:cb.extract 0 (0+f.size) = cb:=by rw [Nat.zero_add,← l2]; simp
    rw [f1] at e1; rw [f2] at e2;subst e1; subst e2;have hg:=run_eqGuard_agg (P:=P) w op t ox oy ca cb hgt;have k4:(Op.equalIn 10000 t (.agg ca) (.agg cb)).run P w = .ok c w:=k4;split at h
    ·
     rename_i c' hc';rw [k3] at hc'; simp only [Option.some.injEq] at hc'; subst hc';exact ⟨_,_,by rw [Sem.run_bind,hg,Result.andThen_ok,run_eql_struct,k4]; rfl,a4a _,h⟩
    ·
     rename_i c' hc';rw [k3] at hc'; simp only [Option.some.injEq] at hc'; subst hc';exact ⟨_,_,by rw [Sem.run_bind,hg,Result.andThen_ok,run_neq_struct,k4]; rfl,a4a _,h⟩
    · exact h.fail.elim
 ·
  rename_i a;have hz:vy = .slice none 0 0:=by have:=hy.2; rw [RepL] at this; simpa using this
  subst hz;have key:∀ c,isNilS a = some c→∃ b n m,vx = .slice b n m∧b.isNone = c:=by
   intro c hc;cases a <;> simp [isNilS] at hc
   ·
    subst hc;obtain ⟨_,_,b,n,m,h2⟩:=hx;exact ⟨some b,n,m,by simpa using h2,rfl⟩
   ·
    subst hc;have:=hx.2; rw [RepL] at this;exact ⟨none,0,0,by simpa using this,rfl⟩
   ·
    subst hc;obtain ⟨_,c,h2⟩:=hx;exact ⟨none,0,c,by simpa using h2,rfl⟩
  split at h
  ·
   rename_i htd hc;obtain ⟨e,hu,_⟩:=(hi.resolve_left (by rintro rfl; simp at htd)).slice htd;obtain ⟨b,n,m,rfl,rfl⟩:=key _ hc;have hg:(eqGuard .eql t ox oy (.slice b n m) (.slice none 0 0)).run P w = .ok () w:=by simp [eqGuard]
   exact ⟨_,_,by rw [Sem.run_bind,hg,Result.andThen_ok,Lib.run_eql_slice_nil w t e b n m 0 0 hu],a4a _,h⟩
  ·
   rename_i htd hc;obtain ⟨e,hu,_⟩:=(hi.resolve_left (by rintro rfl; simp at htd)).slice htd;obtain ⟨b,n,m,rfl,rfl⟩:=key _ hc;have hg:(eqGuard .neq t ox oy (.slice b n m) (.slice none 0 0)).run P w = .ok () w:=by simp [eqGuard]
   exact ⟨_,_,by rw [Sem.run_bind,hg,Result.andThen_ok,run_neq_slice_nil_any w t e b n m 0 0 hu],a4a _,h⟩
  · exact h.fail.elim
 ·
  rename_i a;have hz:vy = .pointer none:=by have:=hy.2; rw [RepL] at this; simpa using this
  subst hz;have key:∀ c,isNilP a = some c→∃ b,vx = .pointer b∧b.isNone = c:=by
   intro c hc;cases a <;> simp [isNilP] at hc <;> subst hc
   · have:=hx.2; rw [RepL] at this; exact ⟨_,by simpa using this.2.1,rfl⟩
   · have:=hx.2; rw [RepL] at this; exact ⟨_,by simpa using this.2.2,rfl⟩
   · have:=hx.2; rw [RepL] at this; exact ⟨_,by simpa using this.2.2.1,rfl⟩
   · obtain ⟨_,b,o,ds,h2,_⟩:=hx; exact ⟨_,by simpa using h2,rfl⟩
   · have:=hx.2; rw [RepL] at this; exact ⟨_,by simpa using this,rfl⟩
  split at h
  ·
   rename_i htd hc;obtain ⟨e,hu⟩:=(hi.resolve_left (by rintro rfl; simp at htd)).ptr htd;obtain ⟨b,rfl,rfl⟩:=key _ hc;have hg:(eqGuard .eql t ox oy (.pointer b) (.pointer none)).run P w = .ok () w:=by simp [eqGuard]
   have hp:P.underlying t = some (.pointer (P.pointee t)):=by rw [hu]; simp [Program.pointee,hu]
   exact ⟨_,_,by rw [Sem.run_bind,hg,Result.andThen_ok,run_eql_pointer_nil w t b hp],a4a _,h⟩
  ·
   rename_i htd hc;obtain ⟨e,hu⟩:=(hi.resolve_left (by rintro rfl; simp at htd)).ptr htd;obtain ⟨b,rfl,rfl⟩:=key _ hc;have hg:(eqGuard .neq t ox oy (.pointer b) (.pointer none)).run P w = .ok () w:=by simp [eqGuard]
   have hp:P.underlying t = some (.pointer (P.pointee t)):=by rw [hu]; simp [Program.pointee,hu]
   exact ⟨_,_,by rw [Sem.run_bind,hg,Result.andThen_ok,run_neq_pointer_nil w t b hp],a4a _,h⟩
  · exact h.fail.elim
 · exact h.fail.elim
end
end Go.Proofs.Zz

/- Operations, one by one: those that leave memory as it was. -/
namespace Go.Proofs.Zz
open Go

def OpP (P:Program) (ok:Nat→List DV→List DV→Prop) (cx:Cx) (hi:Hi) (o:Oper):Prop :=
 ∀ (C:Frm) (rg ix key:Nat) (A:Nat→Prop) (s:St) (a:Act) (w:World) (wr:Wr) (K:Act→World→Prop) (Q:Exit→Act→World→Prop),
  Ev ok (opSem cx hi rg ix key o) s wr→Rel C A s a w→(∀ k,key≤k→k < key+stride→¬ A k) →
  (∀ a' w',Rel C (fun k=>A k∨(key≤k∧k < key+stride)) (apply wr s) a' w'→K a' w')→o.wp P a w K Q

section
variable {P:Program} {ok:Nat→List DV→List DV→Prop} {cx:Cx} {hi:Hi} {o:Oper}
theorem a0I {C:Frm} {A:Nat→Prop} {E:Env} {F:Nat→Prop} {s:St} {a:Act} {w:World} {wr:Wr} {K:Act→World→Prop} {Q:Exit→Act→World→Prop} {x:V} {v:Value} {key:Nat}
  (hrun:(execOp a.eval o).run P w = .ok (.value v) w) (h:Ev ok (fin hi o.dst [] x) s wr) (hm:Mem C A E F s.ob w) (ht:Tms E F s.tm a w) (hx:RepV E F w x v)
  (hK:∀ a' w',Rel C (fun k=>A k∨(key≤k∧k < key+stride)) (apply wr s) a' w'→K a' w'):o.wp P a w K Q :=
 e7E hrun h hm ht hx fun a' w' hr=>hK a' w' (hr.mono fun _ h=>.inl h)

theorem e6O {x:Operand} (ho:o.op = .move x):OpP P ok cx hi o:=by
 intro C rg ix key A s a w wr K Q h hr hA hK;simp only [opSem,ho] at h;obtain ⟨E,F,hm,ht⟩:=hr;obtain ⟨X,h1,h2⟩:=a6A h ht;exact a0I (by simp [execOp,ho]) h2 hm ht h1 hK
theorem e1U {x:Operand} (ho:o.op = .assign x):OpP P ok cx hi o:=by
 intro C rg ix key A s a w wr K Q h hr hA hK;simp only [opSem,ho] at h;obtain ⟨E,F,hm,ht⟩:=hr;obtain ⟨X,h1,h2⟩:=a6A h ht;exact a0I (by simp [execOp,ho]) h2 hm ht h1 hK
theorem e6Z {c x y:Operand} (ho:o.op = .pick c x y):OpP P ok cx hi o:=by
 intro C rg ix key A s a w wr K Q h hr hA hK;simp only [opSem,ho] at h;obtain ⟨E,F,hm,ht⟩:=hr;obtain ⟨X,h1,h2⟩:=a6A h ht;split at h2
 ·
  rename_i b;have hb:=c8U h1;obtain ⟨Y,h3,h4⟩:=a6A h2 ht;obtain ⟨Z,h5,h6⟩:=a6A h4 ht;rcases h6.ite with ⟨rfl,h7⟩ | ⟨rfl,h7⟩
  · exact a0I (by simp [execOp,ho,hb,asBool]) h7 hm ht h3 hK
  · exact a0I (by simp [execOp,ho,hb,asBool]) h7 hm ht h5 hK
 · exact h2.fail.elim
theorem d7D {x:Operand} (ho:o.op = .nilCheck x):OpP P ok cx hi o:=by
 intro C rg ix key A s a w wr K Q h hr hA hK;simp only [opSem,ho] at h;obtain ⟨E,F,hm,ht⟩:=hr;obtain ⟨X,h1,h2⟩:=a6A h ht;have key:∀ p,a.eval x = .pointer (some p)→(execOp a.eval o).run P w = .ok (.value (a.eval x)) w:=fun p hp=>by simp [execOp,ho,hp]
 split at h2
 ·
  have:=h1.2; rw [RepL] at this; have:=this.2.1; simp only [List.cons.injEq,and_true] at this;exact a0I (key _ this) h2 hm ht h1 hK
 ·
  have:=h1.2; rw [RepL] at this; have:=this.2.2; simp only [List.cons.injEq,and_true] at this;exact a0I (key _ this) h2 hm ht h1 hK
 ·
  have:=h1.2; rw [RepL] at this; have:=this.2.2.1; simp only [List.cons.injEq,and_true] at this;exact a0I (key _ this) h2 hm ht h1 hK
 ·
  have h1':=h1;obtain ⟨_,b,oo,ds,h3,_⟩:=h1;simp only [List.cons.injEq,and_true] at h3;exact a0I (key _ h3) h2 hm ht h1' hK
 · exact h2.fail.elim
theorem e5e (hti:TIok P cx) {op:BinOp} {t u:TypeId} {x y:Operand} (ho:o.op = .binOp op t x y u):OpP P ok cx hi o:=by
 intro C rg ix key A s a w wr K Q h hr hA hK;simp only [opSem,ho] at h;obtain ⟨E,F,hm,ht⟩:=hr;obtain ⟨X,h1,h2⟩:=a6A h ht;obtain ⟨Y,h3,h4⟩:=a6A h2 ht;have fin:∀ i,(i = {}∨TOk P t i)→Ev ok (binO i op X Y fun x=>fin hi o.dst [] x) s wr→o.wp P a w K Q:=by
  intro i hi h5;obtain ⟨v,Z,k1,k2,k3⟩:=e7N (P:=P) hi h5 (ox:=x) (oy:=y) h1 h3;refine a0I ?_ k3 hm ht k2 hK;simp only [execOp,ho,Sem.run_bind,k1];rfl
 split at h4
 · exact fin _ (.inl rfl) h4
 · exact fin _ (.inl rfl) h4
 ·
  obtain ⟨i,hi,h5⟩:=Cx.t_ev h4;exact fin i (.inr (hti t i hi)) h5
theorem e7I {op:UnOp} {t:TypeId} {x:Operand} (ho:o.op = .unOp op t x):OpP P ok cx hi o:=by
 intro C rg ix key A s a w wr K Q h hr hA hK;simp only [opSem,ho] at h;obtain ⟨E,F,hm,ht⟩:=hr;obtain ⟨X,h1,h2⟩:=a6A h ht;unfold unO at h2;split at h2
 ·
  have:=c8U h1;exact a0I (by simp [execOp,ho,this,Op.unary]) h2 hm ht (a4a _) hK
 ·
  have:=a7x h1;exact a0I (v:=.int _ _) (by simp only [execOp,ho,this,Op.unary,Op.intArith]; rfl) h2 hm ht (a1K _ _) hK
 ·
  have:=a7x h1;exact a0I (v:=.int _ _) (by simp only [execOp,ho,this,Op.unary,Op.intBits]; rfl) h2 hm ht (a1K _ _) hK
 · exact h2.fail.elim
theorem e1s {x:Operand} {i:Nat} (ho:o.op = .extract x i):OpP P ok cx hi o:=by
 intro C rg ix key A s a w wr K Q h hr hA hK;simp only [opSem,ho] at h;obtain ⟨E,F,hm,ht⟩:=hr;obtain ⟨X,h1,h2⟩:=a6A h ht;split at h2
 ·
  rename_i vs;obtain ⟨xs,hx,hall⟩:=h1;have get:∀ (vs:List V) (ys:List Value) (i:Nat) (v:V),All2 (RepW E F w) vs ys→nthO vs i = some v→∃ y,ys[i]? = some y∧RepW E F w v y:=by
   intro vs;induction vs with
   | nil=>intro ys i v _ h; simp [nthO] at h
   | cons u r ih =>
    intro ys i v h hn;cases ys with
    | nil=>exact h.elim
    | cons y q =>
     cases i with
     | zero=>simp only [nthO,Option.some.injEq] at hn; subst hn; exact ⟨y,rfl,h.1⟩
     | succ i=>obtain ⟨z,h1,h2⟩:=ih q i v h.2 hn; exact ⟨z,by simpa using h1,h2⟩
  split at h2
  · exact h2.fail.elim
  ·
   rename_i v hv hn;obtain ⟨y,hy,hr⟩:=get vs xs.toList i v hall hn;have hrv:RepV E F w v y:=by
    cases v with
    | one l=>exact hr
    | agg ls=>exact hr
    | tup vs=>exact hr.elim
   have hy':xs[i]? = some y:=by simpa using hy
   exact a0I (by simp [execOp,ho,hx,Instr.extract,hy']) h2 hm ht hrv hK
  · exact h2.fail.elim
 · exact h2.fail.elim
theorem e2U {E:Env} {F:Nat→Prop} {w:World}:∀ {vs:List V} {q:List Cp} {ys:List Value},caps vs = some q→All2 (RepV E F w) vs ys →
  (∀ c∈q,E.al c.k∧Steps (E.e c.k).loff c.l c.y)∧ys = q.map fun c=>Value.pointer (some ⟨(E.e c.k).blk,(E.e c.k).loff c.l,none⟩)
 | [],q,[],h,_=>by simp only [caps,Option.some.injEq] at h; subst h; simp
 | [],q,_::_,_,h=>h.elim
 | _::_,_,[],_,h=>h.elim
 | v::vs,q,y::ys,h,hr=>by
  unfold caps at h;split at h <;> try (first | (rename_i e; cases e; done) | (simp at h; done))
  rename_i n l y' r e;simp only [List.cons.injEq] at e;obtain ⟨rfl,rfl⟩:=e;split at h
  ·
   rename_i q' hq;simp only [Option.some.injEq] at h; subst h;obtain ⟨h1,h2⟩:=e2U hq hr.2;have h3:=hr.1.2; rw [RepL] at h3;refine ⟨fun c hc=>?_,?_⟩
   ·
    rcases List.mem_cons.1 hc with rfl | hc
    · exact ⟨h3.1,h3.2.2⟩
    · exact h1 c hc
   · rw [h2]; simpa using h3.2.1
  · simp at h
theorem d8y {f:Nat} {fs cs:Array Operand} (ho:o.op = .makeFunc (.func f) fs cs):OpP P ok cx hi o:=by
 intro C rg ix key A s a w wr K Q h hr hA hK;simp only [opSem,ho] at h;obtain ⟨E,F,hm,ht⟩:=hr;split at h
 ·
  rename_i hfs;obtain ⟨vs,h1,h2⟩:=b8W h ht;split at h2
  ·
   rename_i q hq;obtain ⟨h3,h4⟩:=e2U hq h1;have hfs':fs = #[]:=Array.ext' (by simpa using hfs);subst hfs';refine a0I (v:=.func (.func f) #[] (cs.map a.eval)) (by simp [execOp,ho,Instr.makeFunc]) h2 hm ht ⟨trivial,h3,?_⟩ hK;have:cs.map a.eval = (q.map fun c=>Value.pointer (some ⟨(E.e c.k).blk,(E.e c.k).loff c.l,none⟩)).toArray:=Array.ext' (by simpa using h4);rw [this]
  · exact h2.fail.elim
 · exact h.fail.elim
end
end Go.Proofs.Zz
