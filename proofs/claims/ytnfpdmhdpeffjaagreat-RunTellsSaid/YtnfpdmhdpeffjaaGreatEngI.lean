import Derived.Test.YtnfpdmhdpeffjaaGreatEngG
import Derived.ChangeKeysEq
set_option linter.unusedSimpArgs false
set_option linter.unusedVariables false
/- Operations that leave memory as it was: numbers, truth values, strings, comparisons. -/
namespace Go.Proofs.Zz
open Go

section
variable {E:Env} {F:Nat→Prop} {w:World}
theorem a1K (k:IntKind) (n:Int):RepV E F w (int k n) (.int k n):=⟨trivial,by rw [RepL,RepD]⟩
theorem a4a (b:Bool):RepV E F w (boo b) (.bool b):=⟨trivial,by rw [RepL,RepD]⟩
theorem c8E (b:ByteArray):RepV E F w (strV b) (.string b):=⟨trivial,by rw [RepL,RepD]⟩
theorem a7x {k:IntKind} {n:Int} {v:Value} (h:RepV E F w (.one (.dat (.int k) n)) v):v = .int k n:=by
 have:=h.2; rw [RepL,RepD] at this; simpa using this
theorem c8U {b:Bool} {v:Value} (h:RepV E F w (.one (.dat .bool b)) v):v = .bool b:=by
 have:=h.2; rw [RepL,RepD] at this; simpa using this
theorem c5s {b:ByteArray} {v:Value} (h:RepV E F w (.one (.dat .str b)) v):v = .string b:=by
 have:=h.2; rw [RepL,RepD] at this; simpa using this
end

section
variable {P:Program} {ok:Nat→List DV→List DV→Prop} {α:Type} {s:St} {r:α} {t:TypeId} {k:V→Rd α}
theorem e6U {op:BinOp} {i j:IntKind} {x y:Int} (h:Ev ok (binI op i j x y k) s r) :
  ∃ v X,(∀ w,(binOp op t (.int i x) (.int j y)).run P w = .ok v w)∧(∀ E F w,RepV E F w X v)∧Ev ok (k X) s r:=by
 unfold binI at h;split at h
 ·
  rcases h.ite with ⟨hb,h⟩ | ⟨hb,h⟩
  · exact h.fail.elim
  ·
   have hb':¬ y < 0:=by simpa using hb
   exact ⟨.int i (shl i x y),_,fun w=>by simp [binOp,Op.shift,hb',shl],fun _ _ _=>a1K _ _,h⟩
 ·
  rcases h.ite with ⟨hb,h⟩ | ⟨hb,h⟩
  · exact h.fail.elim
  ·
   have hb':¬ y < 0:=by simpa using hb
   exact ⟨.int i (shr i x y),_,fun w=>by simp [binOp,Op.shift,hb',shr],fun _ _ _=>a1K _ _,h⟩
 ·
  split at h
  ·
   rename_i hij;subst hij;cases op with
   | add=>exact ⟨_,_,fun w=>by simp [binOp,Op.intArith],fun _ _ _=>a1K _ _,h⟩
   | sub=>exact ⟨_,_,fun w=>by simp [binOp,Op.intArith],fun _ _ _=>a1K _ _,h⟩
   | mul=>exact ⟨_,_,fun w=>by simp [binOp,Op.intArith],fun _ _ _=>a1K _ _,h⟩
   | quo =>
    rcases h.ite with ⟨hb,h⟩ | ⟨hb,h⟩
    · exact h.fail.elim
    ·
     have hb':¬ y = 0:=by simpa using hb
     exact ⟨_,_,fun w=>by simp [binOp,Op.intDiv,hb'],fun _ _ _=>a1K _ _,h⟩
   | rem =>
    rcases h.ite with ⟨hb,h⟩ | ⟨hb,h⟩
    · exact h.fail.elim
    ·
     have hb':¬ y = 0:=by simpa using hb
     exact ⟨_,_,fun w=>by simp [binOp,Op.intDiv,hb'],fun _ _ _=>a1K _ _,h⟩
   | and=>exact ⟨.int i (bitAnd i x y),_,fun w=>by simp only [binOp,Op.intBits,ne_eq,not_true_eq_false,if_false]; rfl,fun _ _ _=>a1K _ _,h⟩
   | or=>exact ⟨.int i (bitOr i x y),_,fun w=>by simp only [binOp,Op.intBits,ne_eq,not_true_eq_false,if_false]; rfl,fun _ _ _=>a1K _ _,h⟩
   | xor=>exact ⟨.int i (bitXor i x y),_,fun w=>by simp only [binOp,Op.intBits,ne_eq,not_true_eq_false,if_false]; rfl,fun _ _ _=>a1K _ _,h⟩
   | andNot=>exact ⟨.int i (bitNot i x y),_,fun w=>by simp only [binOp,Op.intBits,ne_eq,not_true_eq_false,if_false]; rfl,fun _ _ _=>a1K _ _,h⟩
   | eql=>exact ⟨_,_,fun w=>by simp [binOp,Op.intCmp],fun _ _ _=>a4a _,h⟩
   | neq=>exact ⟨_,_,fun w=>by simp [binOp,Op.intCmp],fun _ _ _=>a4a _,h⟩
   | lss=>exact ⟨_,_,fun w=>by simp [binOp,Op.intCmp],fun _ _ _=>a4a _,h⟩
   | leq=>exact ⟨_,_,fun w=>by simp [binOp,Op.intCmp],fun _ _ _=>a4a _,h⟩
   | gtr=>exact ⟨_,_,fun w=>by simp [binOp,Op.intCmp],fun _ _ _=>a4a _,h⟩
   | geq=>exact ⟨_,_,fun w=>by simp [binOp,Op.intCmp],fun _ _ _=>a4a _,h⟩
   | shl=>exact h.fail.elim
   | shr=>exact h.fail.elim
  · exact h.fail.elim
theorem e8a {op:BinOp} {x y:ByteArray} (h:Ev ok (binS op x y k) s r) :
  ∃ v X,(∀ w,(binOp op t (.string x) (.string y)).run P w = .ok v w)∧(∀ E F w,RepV E F w X v)∧Ev ok (k X) s r:=by
 unfold binS at h;split at h
 ·
  rcases h.ite with ⟨hb,h⟩ | ⟨hb,h⟩
  ·
   have hb':x.size+y.size≤reach:=by simpa using hb
   have h2:¬ (((x.size+y.size:Nat):Int) > IntKind.i64.max):=by
    have:IntKind.i64.max = 9223372036854775807:=by decide
    rw [this]; unfold reach at hb'; omega
   refine ⟨_,_,fun w=>?_,fun _ _ _=>c8E _,h⟩
   simp only [binOp,Op.stringOp];rw [if_neg h2]; rfl
  · exact h.fail.elim
 · exact ⟨_,_,fun w=>by simp [binOp,Op.stringOp],fun _ _ _=>a4a _,h⟩
 · exact ⟨_,_,fun w=>by simp [binOp,Op.stringOp],fun _ _ _=>a4a _,h⟩
 · exact ⟨_,_,fun w=>by simp [binOp,Op.stringOp],fun _ _ _=>a4a _,h⟩
 · exact h.fail.elim

theorem d2s {F:Nat→Prop} {w:World} {i:IntKind}:∀ {xs:List Int} {cs:List Value},All (fun (x:Int) c=>RepD F w (.int i) x c) xs cs→cs = xs.map fun x=>Value.int i x
 | [],_,h=>h
 | x::r,_,⟨c,d,e,h1,h2⟩=>by have h1:c = [Value.int i x]:=h1; rw [e,h1,d2s h2]; rfl
theorem c6u {F:Nat→Prop} {w:World}:∀ {xs:List Bool} {cs:List Value},All (fun (x:Bool) c=>RepD F w .bool x c) xs cs→cs = xs.map fun x=>Value.bool x
 | [],_,h=>h
 | x::r,_,⟨c,d,e,h1,h2⟩=>by have h1:c = [Value.bool x]:=h1; rw [e,h1,c6u h2]; rfl

/-! Values held against each other -/
theorem a2k {e:TypeId} {d:TypeDesc} (hd:P.underlying e = some d) (ha:isAggD d = false) {xs:Array Value} {off:Nat} {v:Value} (hx:xs[off]? = some v) (w:World) :
  (part e xs off).run P w = .ok v w:=by
 have:(isAgg e).run P w = .ok false w:=by
  unfold isAgg;simp only [Sem.run_bind,run_underlying hd,Result.andThen_ok];cases d <;> simp_all [isAggD]
 simp [part,this,hx]
theorem a3B {e:TypeId} {d:TypeDesc} {f:TypeInfo} (hd:P.underlying e = some d) (ha:isAggD d = true) (hf:P.info? e = some f) {xs:Array Value} {off:Nat} (w:World) :
  (part e xs off).run P w = .ok (.agg (xs.extract off (off+f.size))) w:=by
 have:(isAgg e).run P w = .ok true w:=by
  unfold isAgg;simp only [Sem.run_bind,run_underlying hd,Result.andThen_ok];cases d <;> simp_all [isAggD]
 simp [part,this,sizeOf,typeInfo,hf]

theorem a5A {ls:List L} {u:Ty} (h:tysEq ls [u] = true):∃ v:Den u,ls = [L.dat u v]:=by
 cases ls with
 | nil=>simp [tysEq] at h
 | cons l r =>
  cases l <;> simp [tysEq] at h
  rename_i t v;obtain ⟨rfl,h⟩:=h;cases r with
  | nil=>exact ⟨v,rfl⟩
  | cons l r=>cases l <;> simp [tysEq] at h
theorem c4U {a:List Ty}:∀ {ls:List L} {b:List Ty},tysEq ls (a++b) = true→∃ l1 l2,ls = l1++l2∧tysEq l1 a = true∧tysEq l2 b = true:=by
 induction a with
 | nil=>intro ls b h; exact ⟨[],ls,rfl,rfl,h⟩
 | cons u q ih =>
  intro ls b h;cases ls with
  | nil=>simp [tysEq] at h
  | cons l r =>
   cases l <;> simp [tysEq] at h
   rename_i t v;obtain ⟨l1,l2,rfl,h1,h2⟩:=ih h.2;exact ⟨.dat t v::l1,l2,rfl,by simp [tysEq,h.1,h1],h2⟩
theorem e2C {a b : L} {r q : List L} {x y : Bool} (h1 : eqL a b = some x) (h2 : eqLs r q = some y) : eqLs (a :: r) (b :: q) = some (x && y) := by
  cases r with
  | nil =>
    cases q with
    | nil => simp only [eqLs, Option.some.injEq] at h2 ⊢; subst h2; rw [h1]; simp
    | cons d q => simp [eqLs] at h2
  | cons c r =>
    cases q with
    | nil => simp [eqLs] at h2
    | cons d q => rw [eqLs]; · rw [h1, h2]
                  · intro h; cases h
theorem c7c {r q : List L} {y : Bool} (h2 : eqLs r q = some y) : ∀ {a b : List L} {x : Bool}, eqLs a b = some x → eqLs (a ++ r) (b ++ q) = some (x && y)
  | [], [], x, h => by simp only [eqLs, Option.some.injEq] at h; subst h; simpa using h2
  | [], _ :: _, x, h => by simp [eqLs] at h
  | _ :: _, [], x, h => by simp [eqLs] at h
  | a :: a', b :: b', x, h => by
    have : ∃ u v, eqL a b = some u ∧ eqLs a' b' = some v ∧ x = (u && v) := by
      cases a' with
      | nil =>
        cases b' with
        | nil => rw [eqLs] at h; exact ⟨x, true, h, rfl, by simp⟩
        | cons d b' => rw [eqLs] at h; · split at h <;> simp_all [eqLs]
                       · intro _ h; cases h
      | cons c a' =>
        rw [eqLs] at h
        · split at h
          · rename_i u v hu hv; simp at h; exact ⟨u, v, hu, hv, h.symm⟩
          · simp at h
        · intro h; cases h
    obtain ⟨u, v, hu, hv, rfl⟩ := this
    rw [List.cons_append, List.cons_append, e2C hu (c7c h2 hv), Bool.and_assoc]
theorem c9s {e:TypeId} {i:IntKind} (hu:P.underlying e = some (.int i)) {d:Nat} {w:World} {xs ys:List Int} (hl:xs.length = ys.length):∀ (n m:Nat),n+m = xs.length →
  (Op.eqItems (d+1) e 1 (xs.map fun x=>Value.int i x).toArray (ys.map fun x=>Value.int i x).toArray (List.range' n m)).run P w = .ok (xs.drop n == ys.drop n) w:=by
 intro n m;induction m generalizing n with
 | zero=>intro h; simp [Op.eqItems,List.drop_of_length_le (show xs.length≤n by omega),List.drop_of_length_le (show ys.length≤n by omega)]
 | succ m ih =>
  intro h;have hx:n < xs.length:=by omega
  have hy:n < ys.length:=by omega
  have h1:(part e (xs.map fun x=>Value.int i x).toArray (n*1)).run P w = .ok (.int i xs[n]) w:=a2k hu rfl (by simp [hx]) w;have h2:(part e (ys.map fun x=>Value.int i x).toArray (n*1)).run P w = .ok (.int i ys[n]) w:=a2k hu rfl (by simp [hy]) w;rw [List.range'_succ];simp only [Op.eqItems,Sem.run_bind,h1,h2,Result.andThen_ok,run_equalIn_int w d e i i _ _ hu];rw [List.drop_eq_getElem_cons hx,List.drop_eq_getElem_cons hy,List.cons_beq_cons];cases hb:(xs[n] == ys[n])
  · simp
  · simp only [Bool.not_true,Bool.false_eq_true,if_false,Bool.true_and]; exact ih (n+1) (by omega)
theorem c6j {e:TypeId} (hu:P.underlying e = some .bool) {d:Nat} {w:World} {xs ys:List Bool} (hl:xs.length = ys.length):∀ (n m:Nat),n+m = xs.length →
  (Op.eqItems (d+1) e 1 (xs.map fun x=>Value.bool x).toArray (ys.map fun x=>Value.bool x).toArray (List.range' n m)).run P w = .ok (xs.drop n == ys.drop n) w:=by
 intro n m;induction m generalizing n with
 | zero=>intro h; simp [Op.eqItems,List.drop_of_length_le (show xs.length≤n by omega),List.drop_of_length_le (show ys.length≤n by omega)]
 | succ m ih =>
  intro h;have hx:n < xs.length:=by omega
  have hy:n < ys.length:=by omega
  have h1:(part e (xs.map fun x=>Value.bool x).toArray (n*1)).run P w = .ok (.bool xs[n]) w:=a2k hu rfl (by simp [hx]) w;have h2:(part e (ys.map fun x=>Value.bool x).toArray (n*1)).run P w = .ok (.bool ys[n]) w:=a2k hu rfl (by simp [hy]) w;rw [List.range'_succ];simp only [Op.eqItems,Sem.run_bind,h1,h2,Result.andThen_ok,run_equalIn_bool' w d e _ _ hu];rw [List.drop_eq_getElem_cons hx,List.drop_eq_getElem_cons hy,List.cons_beq_cons];cases hb:(xs[n] == ys[n])
  · simp
  · simp only [Bool.not_true,Bool.false_eq_true,if_false,Bool.true_and]; exact ih (n+1) (by omega)

def Seg (xs:Array Value) (off:Nat) (c:List Value):Prop:=∃ p q,xs.toList = p++(c++q)∧p.length = off
theorem Seg.one {xs:Array Value} {off:Nat} {v:Value} (h:Seg xs off [v]):xs[off]? = some v:=by
 obtain ⟨p,q,h1,rfl⟩:=h;rw [← Array.getElem?_toList,h1]; simp
theorem Seg.extract {xs:Array Value} {off n:Nat} {c:List Value} (h:Seg xs off c) (hn:n = c.length):(xs.extract off (off+n)).toList = c:=by
 obtain ⟨p,q,h1,rfl⟩:=h;subst hn;simp [h1]
theorem Seg.split {xs:Array Value} {off:Nat} {c d:List Value} (h:Seg xs off (c++d)):Seg xs off c∧Seg xs (off+c.length) d:=by
 obtain ⟨p,q,h1,rfl⟩:=h;exact ⟨⟨p,d++q,by simp [h1],rfl⟩,⟨p++c,q,by simp [h1],by simp⟩⟩
theorem b4A {E:Env} {F:Nat→Prop} {w:World}:∀ {ls:List L} {ts:List Ty} {c:List Value},tysEq ls ts = true→RepLs E F w ls c→c.length = tysz ts
 | [],[],c,_,h=>by rw [show c = [] from h]; rfl
 | [],_::_,_,h,_=>by simp [tysEq] at h
 | l::r,[],_,h,_=>by cases l <;> simp [tysEq] at h
 | l::r,u::q,_,h,⟨c,d,e,h1,h2⟩=>by
  cases l <;> simp [tysEq] at h
  rename_i t v;rw [e,List.length_append,b5g h1,b4A h.2 h2];simp [tysz,L.size,h.1]

theorem e8n {E:Env} {F:Nat→Prop} {w:World}:∀ (n:Nat) (t:TypeId) (ts:List Ty),eqT P n t = some ts→∀ (d:Nat) (xs ys:Array Value) (off:Nat) (ls ms:List L) (c e:List Value),
  tysEq ls ts = true→tysEq ms ts = true→RepLs E F w ls c→RepLs E F w ms e→Seg xs off c→Seg ys off e →
  ∃ a b r,(part t xs off).run P w = .ok a w∧(part t ys off).run P w = .ok b w∧eqLs ls ms = some r∧(Op.equalIn (d+n+1) t a b).run P w = .ok r w:=by
 intro n;induction n with
 | zero=>intro t ts h; simp [eqT] at h
 | succ n ih =>
  intro t ts h d xs ys off ls ms c e hls hms hc he sx sy;unfold eqT at h;split at h
  ·
   -- whole numbers
   rename_i k hu;simp only [Option.some.injEq] at h; subst h;obtain ⟨x,rfl⟩:=a5A hls;obtain ⟨y,rfl⟩:=a5A hms;have hc:=All.one.1 hc; have he:=All.one.1 he;rw [RepL,RepD] at hc he;subst hc; subst he;exact ⟨_,_,(x:Int) == (y:Int),a2k hu rfl sx.one w,a2k hu rfl sy.one w,by simp [eqLs,eqL],run_equalIn_int w _ _ _ _ _ _ hu⟩
  ·
   rename_i hu;simp only [Option.some.injEq] at h; subst h;obtain ⟨x,rfl⟩:=a5A hls;obtain ⟨y,rfl⟩:=a5A hms;have hc:=All.one.1 hc; have he:=All.one.1 he;rw [RepL,RepD] at hc he;subst hc; subst he;exact ⟨_,_,(x:Bool) == (y:Bool),a2k hu rfl sx.one w,a2k hu rfl sy.one w,by simp [eqLs,eqL],run_equalIn_bool' w _ _ _ _ hu⟩
  ·
   rename_i hu;simp only [Option.some.injEq] at h; subst h;obtain ⟨x,rfl⟩:=a5A hls;obtain ⟨y,rfl⟩:=a5A hms;have hc:=All.one.1 hc; have he:=All.one.1 he;rw [RepL,RepD] at hc he;subst hc; subst he;exact ⟨_,_,(x:ByteArray) == (y:ByteArray),a2k hu rfl sx.one w,a2k hu rfl sy.one w,by simp [eqLs,eqL],by
    rw [run_equalIn_string w _ _ _ _ hu,← beq_toListBytes]⟩
  ·
   -- arrays
   rename_i m el hu;have hag:∀ (f:TypeInfo),P.info? t = some f→P.cellsOf t = f.size:=fun f hf=>by simp [Program.cellsOf,hf]
   have hinfo:∃ f,P.info? t = some f:=by
    unfold Program.underlying at hu;split at hu
    · exact ⟨_,‹_›⟩
    · exact ⟨_,‹_›⟩
    · simp at hu
   obtain ⟨f,hf⟩:=hinfo;split at h
   ·
    rename_i i k hi hue;split at h
    ·
     rename_i hsz;simp only [Option.some.injEq] at h; subst h;obtain ⟨x,rfl⟩:=a5A hls;obtain ⟨y,rfl⟩:=a5A hms;have hc:=All.one.1 hc; have he:=All.one.1 he;rw [RepL,RepD] at hc he;have ec:=d2s hc.2; have ee:=d2s he.2;have hlx:List.length (α:=Int) x = m:=hc.1;have hly:List.length (α:=Int) y = m:=he.1;have hlc:c.length = m:=by rw [ec]; simpa using hlx
     have hle:e.length = m:=by rw [ee]; simpa using hly
     have hfs:f.size = m:=by rw [← hag f hf]; exact hsz.2
     refine ⟨_,_,(x:List Int) == (y:List Int),a3B hu rfl hf w,a3B hu rfl hf w,by simp [eqLs,eqL],?_⟩
     have e1:xs.extract off (off+f.size) = ((x:List Int).map fun x=>Value.int k x).toArray:=by
      apply Array.ext'; rw [sx.extract (by omega),ec]
     have e2:ys.extract off (off+f.size) = ((y:List Int).map fun x=>Value.int k x).toArray:=by
      apply Array.ext'; rw [sy.extract (by omega),ee]
     have hce:P.cellsOf el = 1:=by simp [Program.cellsOf,hi,hsz.1]
     rw [e1,e2,run_equalIn_array w _ _ _ hu hi,List.range_eq_range',hce,show d+(n+1) = d+n+1 from rfl];have:=c9s (P:=P) (w:=w) (d:=d+n) hue (xs:=x) (ys:=y) (hlx.trans hly.symm) 0 m (by rw [hlx]; simp)
     simpa using this
    · simp at h
   ·
    rename_i i hi hue;split at h
    ·
     rename_i hsz;simp only [Option.some.injEq] at h; subst h;obtain ⟨x,rfl⟩:=a5A hls;obtain ⟨y,rfl⟩:=a5A hms;have hc:=All.one.1 hc; have he:=All.one.1 he;rw [RepL,RepD] at hc he;have ec:=c6u hc.2; have ee:=c6u he.2;have hlx:List.length (α:=Bool) x = m:=hc.1;have hly:List.length (α:=Bool) y = m:=he.1;have hlc:c.length = m:=by rw [ec]; simpa using hlx
     have hle:e.length = m:=by rw [ee]; simpa using hly
     have hfs:f.size = m:=by rw [← hag f hf]; exact hsz.2
     refine ⟨_,_,(x:List Bool) == (y:List Bool),a3B hu rfl hf w,a3B hu rfl hf w,by simp [eqLs,eqL],?_⟩
     have e1:xs.extract off (off+f.size) = ((x:List Bool).map fun x=>Value.bool x).toArray:=by
      apply Array.ext'; rw [sx.extract (by omega),ec]
     have e2:ys.extract off (off+f.size) = ((y:List Bool).map fun x=>Value.bool x).toArray:=by
      apply Array.ext'; rw [sy.extract (by omega),ee]
     have hce:P.cellsOf el = 1:=by simp [Program.cellsOf,hi,hsz.1]
     rw [e1,e2,run_equalIn_array w _ _ _ hu hi,List.range_eq_range',hce,show d+(n+1) = d+n+1 from rfl];have:=c6j (P:=P) (w:=w) (d:=d+n) hue (xs:=x) (ys:=y) (hlx.trans hly.symm) 0 m (by rw [hlx]; simp)
     simpa using this
    · simp at h
   · simp at h
  ·
   -- structs
   rename_i fs hu;have hinfo:∃ f,P.info? t = some f:=by
    unfold Program.underlying at hu;split at hu
    · exact ⟨_,‹_›⟩
    · exact ⟨_,‹_›⟩
    · simp at hu
   obtain ⟨f,hf⟩:=hinfo;have hag:P.cellsOf t = f.size:=by simp [Program.cellsOf,hf]
   split at h
   · simp at h
   ·
    rename_i hst;split at h
    · simp at h
    ·
     rename_i us hus;split at h
     ·
      rename_i hsz;simp only [Option.some.injEq] at h; subst h;have lc:=b4A hls hc;have le:=b4A hms he;have hfo:P.fieldsOf t = fs:=by simp [Program.fieldsOf,hu]
      have key:∀ (gs:List Field) (o:Nat) (vs:List Ty) (ls ms:List L) (c e:List Value) (xs ys:Array Value),eqFs (eqT P n) gs o = some vs→tysEq ls vs = true→tysEq ms vs = true→RepLs E F w ls c→RepLs E F w ms e→Seg xs o c→Seg ys o e →
        ∃ r,eqLs ls ms = some r∧(Op.eqFields (d+n+1) xs ys gs).run P w = .ok r w:=by
       intro gs;induction gs with
       | nil =>
        intro o vs ls ms c e xs ys hv hl hm _ _ _ _;simp only [eqFs,Option.some.injEq] at hv; subst hv;cases ls with
        | cons l r=>cases l <;> simp [tysEq] at hl
        | nil =>
         cases ms with
         | cons l r=>cases l <;> simp [tysEq] at hm
         | nil=>exact ⟨true,rfl,by simp [Op.eqFields]⟩
       | cons g gs ihg =>
        intro o vs ls ms c e xs ys hv hl hm hcc hee sx sy;simp only [eqFs] at hv;split at hv
        · simp at hv
        ·
         rename_i hne;split at hv
         · simp at hv
         ·
          rename_i u1 hu1;split at hv
          · simp at hv
          ·
           rename_i u2 hu2;simp only [Option.some.injEq] at hv; subst hv;obtain ⟨l1,l2,rfl,hl1,hl2⟩:=c4U hl;obtain ⟨m1,m2,rfl,hm1,hm2⟩:=c4U hm;obtain ⟨c1,c2,rfl,hc1,hc2⟩:=hcc.split;obtain ⟨e1,e2,rfl,he1,he2⟩:=hee.split;have z1:=b4A hl1 hc1;have z2:=b4A hm1 he1;have hgo:g.offset = o:=by
            by_cases h:g.offset = o
            · exact h
            · exact absurd (.inr h) hne
           obtain ⟨va, vb, r1, k1, k2, k3, k4⟩ := ih g.type u1 hu1 d xs ys o l1 m1 c1 e1 hl1 hm1 hc1 he1 sx.split.1 sy.split.1;obtain ⟨r2, k5, k6⟩ := ihg _ u2 l2 m2 c2 e2 xs ys hu2 hl2 hm2 hc2 he2 (by rw [← z1]; exact sx.split.2) (by rw [← z2]; exact sy.split.2);refine ⟨r1 && r2, c7c k5 k3, ?_⟩;have hnm : g.name ≠ "_" := fun h => hne (.inl h)
           simp only [Op.eqFields,if_pos hnm,Sem.run_bind,hgo,k1,k2,k4,Result.andThen_ok];cases r1
           · simp
           · simpa using k6
      have e1:(xs.extract off (off+f.size)).toList = c:=sx.extract (by omega);have e2:(ys.extract off (off+f.size)).toList = e:=sy.extract (by omega);obtain ⟨r,h1,h2⟩:=key fs.toList 0 us ls ms c e (xs.extract off (off+f.size)) (ys.extract off (off+f.size)) hus hls hms hc he ⟨[],[],by rw [e1]; simp,rfl⟩ ⟨[],[],by rw [e2]; simp,rfl⟩
      refine ⟨_,_,r,a3B hu rfl hf w,a3B hu rfl hf w,h1,?_⟩;rw [run_equalIn_struct w _ _ _ _ (by rw [hfo]; exact hu) (by simpa using hst),hfo];exact h2
     · simp at h
  · simp at h
end
end Go.Proofs.Zz
