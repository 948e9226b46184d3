import Derived.Test.YtnfpdmhdpeffjaaGreatEngE
import Derived.ChangeKeysEq
import Derived.WalkSpells
import Derived.Laws.Pointers
import Derived.Lib.SliceRun
import Derived.Laws.Cells
set_option linter.unusedSimpArgs false
set_option linter.unusedVariables false
namespace Go.Proofs.Zz
open Go
section
variable {E:Env} {F:Nat→Prop} {w:World}
theorem dy (k:IntKind) (n:Int):RepV E F w (int k n) (.int k n):=⟨trivial,by rw[RepL,RepD]⟩
theorem eZ (b:Bool):RepV E F w (boo b) (.bool b):=⟨trivial,by rw[RepL,RepD]⟩
theorem c8E (b:ByteArray):RepV E F w (strV b) (.string b):=⟨trivial,by rw[RepL,RepD]⟩
theorem eX {k:IntKind} {n:Int} {v:Value} (h:RepV E F w (.one (.dat (.int k) n)) v):v=.int k n:=by
 have:=h.2; rw[RepL,RepD]at this; simpa using this
theorem c8U {b:Bool} {v:Value} (h:RepV E F w (.one (.dat .bool b)) v):v=.bool b:=by
 have:=h.2; rw[RepL,RepD]at this; simpa using this
theorem j0 {b:ByteArray} {v:Value} (h:RepV E F w (.one (.dat .str b)) v):v=.string b:=by
 have:=h.2; rw[RepL,RepD]at this; simpa using this
end
section
variable {P:Program} {ok:Nat→List DV→List DV→Prop} {α:Type} {s:St} {r:α} {t:TypeId} {k:V→Rd α}
theorem e6U {op:BinOp} {i j:IntKind} {x y:Int} (h:Ev ok (binI op i j x y k) s r) :
  ∃v X,(∀w,(binOp op t (.int i x) (.int j y)).run P w=.ok v w)∧(∀E F w,RepV E F w X v)∧Ev ok (k X) s r:=by
 unfold binI at h;split at h
 ·
  rcases h.ite with⟨hb,h⟩ | ⟨hb,h⟩
  ·exact h.fail.elim
  ·
   have hb':¬y<0:=by simpa using hb
   exact⟨.int i (shl i x y),_,λw=>by simp[binOp,Op.shift,hb',shl],λ_ _ _=>dy _ _,h⟩
 ·
  rcases h.ite with⟨hb,h⟩ | ⟨hb,h⟩
  ·exact h.fail.elim
  ·
   have hb':¬y<0:=by simpa using hb
   exact⟨.int i (shr i x y),_,λw=>by simp[binOp,Op.shift,hb',shr],λ_ _ _=>dy _ _,h⟩
 ·
  split at h
  ·
   rename_i hij;subst hij;cases op with
   | add=>exact⟨_,_,λw=>by simp[binOp,Op.intArith],λ_ _ _=>dy _ _,h⟩
   | sub=>exact⟨_,_,λw=>by simp[binOp,Op.intArith],λ_ _ _=>dy _ _,h⟩
   | mul=>exact⟨_,_,λw=>by simp[binOp,Op.intArith],λ_ _ _=>dy _ _,h⟩
   | quo =>
    rcases h.ite with⟨hb,h⟩ | ⟨hb,h⟩
    ·exact h.fail.elim
    ·
     have hb':¬y=0:=by simpa using hb
     exact⟨_,_,λw=>by simp[binOp,Op.intDiv,hb'],λ_ _ _=>dy _ _,h⟩
   | rem =>
    rcases h.ite with⟨hb,h⟩ | ⟨hb,h⟩
    ·exact h.fail.elim
    ·
     have hb':¬y=0:=by simpa using hb
     exact⟨_,_,λw=>by simp[binOp,Op.intDiv,hb'],λ_ _ _=>dy _ _,h⟩
   | and=>exact⟨.int i (cG i x y),_,λw=>by simp only[binOp,Op.intBits,ne_eq,not_true_eq_false,if_false]; rfl,λ_ _ _=>dy _ _,h⟩
   | or=>exact⟨.int i (fS i x y),_,λw=>by simp only[binOp,Op.intBits,ne_eq,not_true_eq_false,if_false]; rfl,λ_ _ _=>dy _ _,h⟩
   | xor=>exact⟨.int i (kM i x y),_,λw=>by simp only[binOp,Op.intBits,ne_eq,not_true_eq_false,if_false]; rfl,λ_ _ _=>dy _ _,h⟩
   | andNot=>exact⟨.int i (h8A i x y),_,λw=>by simp only[binOp,Op.intBits,ne_eq,not_true_eq_false,if_false]; rfl,λ_ _ _=>dy _ _,h⟩
   | eql=>exact⟨_,_,λw=>by simp[binOp,Op.intCmp],λ_ _ _=>eZ _,h⟩
   | neq=>exact⟨_,_,λw=>by simp[binOp,Op.intCmp],λ_ _ _=>eZ _,h⟩
   | lss=>exact⟨_,_,λw=>by simp[binOp,Op.intCmp],λ_ _ _=>eZ _,h⟩
   | leq=>exact⟨_,_,λw=>by simp[binOp,Op.intCmp],λ_ _ _=>eZ _,h⟩
   | gtr=>exact⟨_,_,λw=>by simp[binOp,Op.intCmp],λ_ _ _=>eZ _,h⟩
   | geq=>exact⟨_,_,λw=>by simp[binOp,Op.intCmp],λ_ _ _=>eZ _,h⟩
   | shl=>exact h.fail.elim
   | shr=>exact h.fail.elim
  ·exact h.fail.elim
theorem e8a {op:BinOp} {x y:ByteArray} (h:Ev ok (binS op x y k) s r) :
  ∃v X,(∀w,(binOp op t (.string x) (.string y)).run P w=.ok v w)∧(∀E F w,RepV E F w X v)∧Ev ok (k X) s r:=by
 unfold binS at h;split at h
 ·
  rcases h.ite with⟨hb,h⟩ | ⟨hb,h⟩
  ·
   have hb':x.size+y.size≤dQ:=by simpa using hb
   have h2:¬(((x.size+y.size:Nat):Int)>IntKind.i64.max):=by
    have:IntKind.i64.max=9223372036854775807:=by decide
    rw[this]; unfold dQ at hb'; omega
   refine⟨_,_,λw=>?_,λ_ _ _=>c8E _,h⟩
   simp only[binOp,Op.stringOp];rw[if_neg h2]; rfl
  ·exact h.fail.elim
 ·exact⟨_,_,λw=>by simp[binOp,Op.stringOp],λ_ _ _=>eZ _,h⟩
 ·exact⟨_,_,λw=>by simp[binOp,Op.stringOp],λ_ _ _=>eZ _,h⟩
 ·exact⟨_,_,λw=>by simp[binOp,Op.stringOp],λ_ _ _=>eZ _,h⟩
 ·exact h.fail.elim
theorem d2s {F:Nat→Prop} {w:World} {i:IntKind}:∀{xs:List Int} {cs:List Value},All (λ(x:Int) c=>RepD F w (.int i) x c) xs cs→cs=xs.map λx=>Value.int i x
 | [],_,h=>h
 | x::r,_,⟨c,d,e,h1,h2⟩=>by have h1:c=[Value.int i x]:=h1; rw[e,h1,d2s h2]; rfl
theorem c6u {F:Nat→Prop} {w:World}:∀{xs:List Bool} {cs:List Value},All (λ(x:Bool) c=>RepD F w .bool x c) xs cs→cs=xs.map λx=>Value.bool x
 | [],_,h=>h
 | x::r,_,⟨c,d,e,h1,h2⟩=>by have h1:c=[Value.bool x]:=h1; rw[e,h1,c6u h2]; rfl
theorem jc {e:TypeId} {d:TypeDesc} (hd:P.underlying e=some d) (ha:gY d=false) {xs:Array Value} {off:Nat} {v:Value} (hx:xs[off]?=some v) (w:World) :
  (part e xs off).run P w=.ok v w:=by
 have:(isAgg e).run P w=.ok false w:=by
  unfold isAgg;simp only[Sem.run_bind,run_underlying hd,Result.andThen_ok];cases d<;>simp_all [gY]
 simp[part,this,hx]
theorem ko {e:TypeId} {d:TypeDesc} {f:TypeInfo} (hd:P.underlying e=some d) (ha:gY d=true) (hf:P.info? e=some f) {xs:Array Value} {off:Nat} (w:World) :
  (part e xs off).run P w=.ok (.agg (xs.extract off (off+f.size))) w:=by
 have:(isAgg e).run P w=.ok true w:=by
  unfold isAgg;simp only[Sem.run_bind,run_underlying hd,Result.andThen_ok];cases d<;>simp_all [gY]
 simp[part,this,sizeOf,typeInfo,hf]
theorem i9 {ls:List L} {u:Ty} (h:dN ls [u]=true):∃v:Den u,ls=[L.dat u v]:=by
 cases ls with
 | nil=>simp[dN]at h
 | cons l r =>
  cases l<;>simp[dN]at h
  rename_i t v;obtain⟨rfl,h⟩:=h;cases r with
  | nil=>exact⟨v,rfl⟩
  | cons l r=>cases l<;>simp[dN]at h
theorem c4U {a:List Ty}:∀{ls:List L} {b:List Ty},dN ls (a++b)=true→∃l1 l2,ls=l1++l2∧dN l1 a=true∧dN l2 b=true:=by
 induction a with
 | nil=>intro ls b h; exact⟨[],ls,rfl,rfl,h⟩
 | cons u q ih =>
  intro ls b h;cases ls with
  | nil=>simp[dN]at h
  | cons l r =>
   cases l<;>simp[dN]at h
   rename_i t v;obtain⟨l1,l2,rfl,h1,h2⟩:=ih h.2;exact⟨.dat t v::l1,l2,rfl,by simp[dN,h.1,h1],h2⟩
theorem e2C {a b : L} {r q : List L} {x y : Bool} (h1 : eqL a b = some x) (h2 : eqLs r q = some y) : eqLs (a :: r) (b :: q) = some (x && y) := by
  cases r with
  | nil =>
    cases q with
    | nil => simp only [eqLs, mB] at h2 ⊢; subst h2; rw [h1]; simp
    | cons d q => simp [eqLs] at h2
  | cons c r =>
    cases q with
    | nil => simp [eqLs] at h2
    | cons d q => rw [eqLs]; · rw [h1, h2]
                  · intro h; cases h
theorem c7c {r q : List L} {y : Bool} (h2 : eqLs r q = some y) : ∀ {a b : List L} {x : Bool}, eqLs a b = some x → eqLs (a ++ r) (b ++ q) = some (x && y)
  | [], [], x, h => by simp only [eqLs, mB] at h; subst h; simpa using h2
  | [], _ :: _, x, h => by simp [eqLs] at h
  | _ :: _, [], x, h => by simp [eqLs] at h
  | a :: a', b :: b', x, h => by
    have : ∃ u v, eqL a b = some u ∧ eqLs a' b' = some v ∧ x = (u && v) := by
      cases a' with
      | nil =>
        cases b' with
        | nil => rw [eqLs] at h; exact ⟨x, true, h, rfl, by simp⟩
        | cons d b' => rw [eqLs] at h; · split at h <;> simp_all [eqLs]
                       · intro _ h; cases h
      | cons c a' =>
        rw [eqLs] at h
        · split at h
          · rename_i u v hu hv; simp at h; exact ⟨u, v, hu, hv, h.symm⟩
          · simp at h
        · intro h; cases h
    obtain ⟨u, v, hu, hv, rfl⟩ := this
    rw [oC, oC, e2C hu (c7c h2 hv), Bool.and_assoc]
theorem c9s {e:TypeId} {i:IntKind} (hu:P.underlying e=some (.int i)) {d:Nat} {w:World} {xs ys:List Int} (hl:xs.length=ys.length):∀(n m:Nat),n+m=xs.length →
  (Op.eqItems (d+1) e 1 (xs.map λx=>Value.int i x).toArray (ys.map λx=>Value.int i x).toArray (List.range' n m)).run P w=.ok (xs.drop n==ys.drop n) w:=by
 intro n m;induction m generalizing n with
 | zero=>intro h; simp[Op.eqItems,nJ (show xs.length≤n by omega),nJ (show ys.length≤n by omega)]
 | succ m ih =>
  intro h;have hx:n<xs.length:=by omega
  have hy:n<ys.length:=by omega
  have h1:(part e (xs.map λx=>Value.int i x).toArray (n*1)).run P w=.ok (.int i xs[n]) w:=jc hu rfl (by simp[hx]) w;have h2:(part e (ys.map λx=>Value.int i x).toArray (n*1)).run P w=.ok (.int i ys[n]) w:=jc hu rfl (by simp[hy]) w;rw[nR];simp only[Op.eqItems,Sem.run_bind,h1,h2,Result.andThen_ok,run_equalIn_int w d e i i _ _ hu];rw[mS hx,mS hy,List.cons_beq_cons];cases hb:(xs[n]==ys[n])
  ·simp
  ·simp only[mR,mN,if_false,mO]; exact ih (n+1) (by omega)
theorem c6j {e:TypeId} (hu:P.underlying e=some .bool) {d:Nat} {w:World} {xs ys:List Bool} (hl:xs.length=ys.length):∀(n m:Nat),n+m=xs.length →
  (Op.eqItems (d+1) e 1 (xs.map λx=>Value.bool x).toArray (ys.map λx=>Value.bool x).toArray (List.range' n m)).run P w=.ok (xs.drop n==ys.drop n) w:=by
 intro n m;induction m generalizing n with
 | zero=>intro h; simp[Op.eqItems,nJ (show xs.length≤n by omega),nJ (show ys.length≤n by omega)]
 | succ m ih =>
  intro h;have hx:n<xs.length:=by omega
  have hy:n<ys.length:=by omega
  have h1:(part e (xs.map λx=>Value.bool x).toArray (n*1)).run P w=.ok (.bool xs[n]) w:=jc hu rfl (by simp[hx]) w;have h2:(part e (ys.map λx=>Value.bool x).toArray (n*1)).run P w=.ok (.bool ys[n]) w:=jc hu rfl (by simp[hy]) w;rw[nR];simp only[Op.eqItems,Sem.run_bind,h1,h2,Result.andThen_ok,run_equalIn_bool' w d e _ _ hu];rw[mS hx,mS hy,List.cons_beq_cons];cases hb:(xs[n]==ys[n])
  ·simp
  ·simp only[mR,mN,if_false,mO]; exact ih (n+1) (by omega)
def Seg (xs:Array Value) (off:Nat) (c:List Value):Prop:=∃p q,xs.toList=p++(c++q)∧p.length=off
theorem Seg.one {xs:Array Value} {off:Nat} {v:Value} (h:Seg xs off [v]):xs[off]?=some v:=by
 obtain⟨p,q,h1,rfl⟩:=h;rw[← my,h1]; simp
theorem Seg.extract {xs:Array Value} {off n:Nat} {c:List Value} (h:Seg xs off c) (hn:n=c.length):(xs.extract off (off+n)).toList=c:=by
 obtain⟨p,q,h1,rfl⟩:=h;subst hn;simp[h1]
theorem Seg.split {xs:Array Value} {off:Nat} {c d:List Value} (h:Seg xs off (c++d)):Seg xs off c∧Seg xs (off+c.length) d:=by
 obtain⟨p,q,h1,rfl⟩:=h;exact⟨⟨p,d++q,by simp[h1],rfl⟩,⟨p++c,q,by simp[h1],by simp⟩⟩
theorem b4A {E:Env} {F:Nat→Prop} {w:World}:∀{ls:List L} {ts:List Ty} {c:List Value},dN ls ts=true→RepLs E F w ls c→c.length=tysz ts
 | [],[],c,_,h=>by rw[show c=[] from h]; rfl
 | [],_::_,_,h,_=>by simp[dN]at h
 | l::r,[],_,h,_=>by cases l<;>simp[dN]at h
 | l::r,u::q,_,h,⟨c,d,e,h1,h2⟩=>by
  cases l<;>simp[dN]at h
  rename_i t v;rw[e,mD,b5g h1,b4A h.2 h2];simp[tysz,L.size,h.1]
theorem e8n {E:Env} {F:Nat→Prop} {w:World}:∀(n:Nat) (t:TypeId) (ts:List Ty),eqT P n t=some ts→∀(d:Nat) (xs ys:Array Value) (off:Nat) (ls ms:List L) (c e:List Value),
  dN ls ts=true→dN ms ts=true→RepLs E F w ls c→RepLs E F w ms e→Seg xs off c→Seg ys off e →
  ∃a b r,(part t xs off).run P w=.ok a w∧(part t ys off).run P w=.ok b w∧eqLs ls ms=some r∧(Op.equalIn (d+n+1) t a b).run P w=.ok r w:=by
 intro n;induction n with
 | zero=>intro t ts h; simp[eqT]at h
 | succ n ih =>
  intro t ts h d xs ys off ls ms c e hls hms hc he sx sy;unfold eqT at h;split at h
  ·
   -- whole numbers
   rename_i k hu;simp only[mB]at h; subst h;obtain⟨x,rfl⟩:=i9 hls;obtain⟨y,rfl⟩:=i9 hms;have hc:=All.one.1 hc; have he:=All.one.1 he;rw[RepL,RepD]at hc he;subst hc; subst he;exact⟨_,_,(x:Int)==(y:Int),jc hu rfl sx.one w,jc hu rfl sy.one w,by simp[eqLs,eqL],run_equalIn_int w _ _ _ _ _ _ hu⟩
  ·
   rename_i hu;simp only[mB]at h; subst h;obtain⟨x,rfl⟩:=i9 hls;obtain⟨y,rfl⟩:=i9 hms;have hc:=All.one.1 hc; have he:=All.one.1 he;rw[RepL,RepD]at hc he;subst hc; subst he;exact⟨_,_,(x:Bool)==(y:Bool),jc hu rfl sx.one w,jc hu rfl sy.one w,by simp[eqLs,eqL],run_equalIn_bool' w _ _ _ _ hu⟩
  ·
   rename_i hu;simp only[mB]at h; subst h;obtain⟨x,rfl⟩:=i9 hls;obtain⟨y,rfl⟩:=i9 hms;have hc:=All.one.1 hc; have he:=All.one.1 he;rw[RepL,RepD]at hc he;subst hc; subst he;exact⟨_,_,(x:ByteArray)==(y:ByteArray),jc hu rfl sx.one w,jc hu rfl sy.one w,by simp[eqLs,eqL],by
    rw[run_equalIn_string w _ _ _ _ hu,← beq_toListBytes]⟩
  ·
   -- arrays
   rename_i m el hu;have hag:∀(f:TypeInfo),P.info? t=some f→P.cellsOf t=f.size:=λf hf=>by simp[Program.cellsOf,hf]
   have hinfo:∃f,P.info? t=some f:=by
    unfold Program.underlying at hu;split at hu
    ·exact⟨_,‹_›⟩
    ·exact⟨_,‹_›⟩
    ·simp at hu
   obtain⟨f,hf⟩:=hinfo;split at h
   ·
    rename_i i k hi hue;split at h
    ·
     rename_i hsz;simp only[mB]at h; subst h;obtain⟨x,rfl⟩:=i9 hls;obtain⟨y,rfl⟩:=i9 hms;have hc:=All.one.1 hc; have he:=All.one.1 he;rw[RepL,RepD]at hc he;have ec:=d2s hc.2; have ee:=d2s he.2;have hlx:List.length (α:=Int) x=m:=hc.1;have hly:List.length (α:=Int) y=m:=he.1;have hlc:c.length=m:=by rw[ec]; simpa using hlx
     have hle:e.length=m:=by rw[ee]; simpa using hly
     have hfs:f.size=m:=by rw[← hag f hf]; exact hsz.2
     refine⟨_,_,(x:List Int)==(y:List Int),ko hu rfl hf w,ko hu rfl hf w,by simp[eqLs,eqL],?_⟩
     have e1:xs.extract off (off+f.size)=((x:List Int).map λx=>Value.int k x).toArray:=by
      apply pO; rw[sx.extract (by omega),ec]
     have e2:ys.extract off (off+f.size)=((y:List Int).map λx=>Value.int k x).toArray:=by
      apply pO; rw[sy.extract (by omega),ee]
     have hce:P.cellsOf el=1:=by simp[Program.cellsOf,hi,hsz.1]
     rw[e1,e2,run_equalIn_array w _ _ _ hu hi,pd,hce,show d+(n+1)=d+n+1 from rfl];have:=c9s (P:=P) (w:=w) (d:=d+n) hue (xs:=x) (ys:=y) (hlx.trans hly.symm) 0 m (by rw[hlx]; simp)
     simpa using this
    ·simp at h
   ·
    rename_i i hi hue;split at h
    ·
     rename_i hsz;simp only[mB]at h; subst h;obtain⟨x,rfl⟩:=i9 hls;obtain⟨y,rfl⟩:=i9 hms;have hc:=All.one.1 hc; have he:=All.one.1 he;rw[RepL,RepD]at hc he;have ec:=c6u hc.2; have ee:=c6u he.2;have hlx:List.length (α:=Bool) x=m:=hc.1;have hly:List.length (α:=Bool) y=m:=he.1;have hlc:c.length=m:=by rw[ec]; simpa using hlx
     have hle:e.length=m:=by rw[ee]; simpa using hly
     have hfs:f.size=m:=by rw[← hag f hf]; exact hsz.2
     refine⟨_,_,(x:List Bool)==(y:List Bool),ko hu rfl hf w,ko hu rfl hf w,by simp[eqLs,eqL],?_⟩
     have e1:xs.extract off (off+f.size)=((x:List Bool).map λx=>Value.bool x).toArray:=by
      apply pO; rw[sx.extract (by omega),ec]
     have e2:ys.extract off (off+f.size)=((y:List Bool).map λx=>Value.bool x).toArray:=by
      apply pO; rw[sy.extract (by omega),ee]
     have hce:P.cellsOf el=1:=by simp[Program.cellsOf,hi,hsz.1]
     rw[e1,e2,run_equalIn_array w _ _ _ hu hi,pd,hce,show d+(n+1)=d+n+1 from rfl];have:=c6j (P:=P) (w:=w) (d:=d+n) hue (xs:=x) (ys:=y) (hlx.trans hly.symm) 0 m (by rw[hlx]; simp)
     simpa using this
    ·simp at h
   ·simp at h
  ·
   -- structs
   rename_i fs hu;have hinfo:∃f,P.info? t=some f:=by
    unfold Program.underlying at hu;split at hu
    ·exact⟨_,‹_›⟩
    ·exact⟨_,‹_›⟩
    ·simp at hu
   obtain⟨f,hf⟩:=hinfo;have hag:P.cellsOf t=f.size:=by simp[Program.cellsOf,hf]
   split at h
   ·simp at h
   ·
    rename_i hst;split at h
    ·simp at h
    ·
     rename_i us hus;split at h
     ·
      rename_i hsz;simp only[mB]at h; subst h;have lc:=b4A hls hc;have le:=b4A hms he;have hfo:P.fieldsOf t=fs:=by simp[Program.fieldsOf,hu]
      have key:∀(gs:List Field) (o:Nat) (vs:List Ty) (ls ms:List L) (c e:List Value) (xs ys:Array Value),eqFs (eqT P n) gs o=some vs→dN ls vs=true→dN ms vs=true→RepLs E F w ls c→RepLs E F w ms e→Seg xs o c→Seg ys o e →
        ∃r,eqLs ls ms=some r∧(Op.eqFields (d+n+1) xs ys gs).run P w=.ok r w:=by
       intro gs;induction gs with
       | nil =>
        intro o vs ls ms c e xs ys hv hl hm _ _ _ _;simp only[eqFs,mB]at hv; subst hv;cases ls with
        | cons l r=>cases l<;>simp[dN]at hl
        | nil =>
         cases ms with
         | cons l r=>cases l<;>simp[dN]at hm
         | nil=>exact⟨true,rfl,by simp[Op.eqFields]⟩
       | cons g gs ihg =>
        intro o vs ls ms c e xs ys hv hl hm hcc hee sx sy;simp only[eqFs]at hv;split at hv
        ·simp at hv
        ·
         rename_i hne;split at hv
         ·simp at hv
         ·
          rename_i u1 hu1;split at hv
          ·simp at hv
          ·
           rename_i u2 hu2;simp only[mB]at hv; subst hv;obtain⟨l1,l2,rfl,hl1,hl2⟩:=c4U hl;obtain⟨m1,m2,rfl,hm1,hm2⟩:=c4U hm;obtain⟨c1,c2,rfl,hc1,hc2⟩:=hcc.split;obtain⟨e1,e2,rfl,he1,he2⟩:=hee.split;have z1:=b4A hl1 hc1;have z2:=b4A hm1 he1;have hgo:g.offset=o:=by
            by_cases h:g.offset=o
            ·exact h
            ·exact absurd (.inr h) hne
           obtain ⟨va, vb, r1, k1, k2, k3, k4⟩ := ih g.type u1 hu1 d xs ys o l1 m1 c1 e1 hl1 hm1 hc1 he1 sx.split.1 sy.split.1;obtain ⟨r2, k5, k6⟩ := ihg _ u2 l2 m2 c2 e2 xs ys hu2 hl2 hm2 hc2 he2 (by rw [← z1]; exact sx.split.2) (by rw [← z2]; exact sy.split.2);refine ⟨r1 && r2, c7c k5 k3, ?_⟩;have hnm : g.name ≠ "_" := fun h => hne (.inl h)
           simp only[Op.eqFields,if_pos hnm,Sem.run_bind,hgo,k1,k2,k4,Result.andThen_ok];cases r1
           ·simp
           ·simpa using k6
      have e1:(xs.extract off (off+f.size)).toList=c:=sx.extract (by omega);have e2:(ys.extract off (off+f.size)).toList=e:=sy.extract (by omega);obtain⟨r,h1,h2⟩:=key fs.toList 0 us ls ms c e (xs.extract off (off+f.size)) (ys.extract off (off+f.size)) hus hls hms hc he ⟨[],[],by rw[e1]; simp,rfl⟩ ⟨[],[],by rw[e2]; simp,rfl⟩
      refine⟨_,_,r,ko hu rfl hf w,ko hu rfl hf w,h1,?_⟩;rw[run_equalIn_struct w _ _ _ _ (by rw[hfo]; exact hu) (by simpa using hst),hfo];exact h2
     ·simp at h
  ·simp at h
end
section
variable {P:Program} {ok:Nat→List DV→List DV→Prop} {α:Type} {s:St} {r:α} {t:TypeId} {E:Env} {F:Nat→Prop} {w:World}
theorem e4k {ls:List L} {v:Value} (h:RepV E F w (.agg ls) v):∃cs,v=.agg cs∧RepLs E F w ls cs.toList:=h
theorem of_one {l:L} {v:Value} (hl:∀n,l≠.any n) (h:RepV E F w (.one l) v):cw v∧RepL E F w l [v]:=by
 cases l<;>first | exact h | exact absurd rfl (hl _)
theorem d9m {l:L} {v:Value} (h:cw v) (h':RepL E F w l [v]):RepV E F w (.one l) v:=by
 cases l<;>first | exact⟨h,h'⟩ | trivial
theorem TOk.slice {i:TI} (h:TOk P t i) (hd:i.td=.slice):∃e,P.underlying t=some (.slice e)∧ElOk P e i.ety i.eby:=by
 obtain⟨d,h1,h2,h3⟩:=h.und;cases d<;>simp[tdOk,hd]at h3
 exact⟨_,h1,d5z h3⟩
theorem TOk.bool {i:TI} (h:TOk P t i) (hd:i.td=.bool):P.underlying t=some .bool:=by
 obtain⟨d,h1,h2,h3⟩:=h.und;cases d<;>simp[tdOk,hd]at h3
 exact h1
theorem TOk.str {i:TI} (h:TOk P t i) (hd:i.td=.str):P.underlying t=some .string:=by
 obtain⟨d,h1,h2,h3⟩:=h.und;cases d<;>simp[tdOk,hd]at h3
 exact h1
theorem TOk.int {i:TI} {k:IntKind} (h:TOk P t i) (hd:i.td=.int k):P.underlying t=some (.int k):=by
 obtain⟨d,h1,h2,h3⟩:=h.und;cases d<;>simp[tdOk,hd]at h3
 subst h3;exact h1
theorem TOk.ptr {i:TI} (h:TOk P t i) (hd:i.td=.ptr):∃e,P.underlying t=some (.pointer e):=by
 obtain⟨d,h1,h2,h3⟩:=h.und;cases d<;>simp[tdOk,hd]at h3
 exact⟨_,h1⟩
theorem TOk.array {i:TI} (h:TOk P t i) (hd:i.td=.array):∃e,P.underlying t=some (.array i.n e)∧ElOk P e i.ety i.eby∧h7a i.ety=true∧i.zk=[.d (.ar i.n i.ety)]:=by
 obtain⟨d,h1,h2,h3⟩:=h.und;cases d<;>simp[tdOk,hd]at h3
 obtain⟨⟨⟨k1,k2⟩,k3⟩,k4⟩:=h3;subst k1;refine⟨_,h1,d5z k2,k3,?_⟩;split at k4
 ·rename_i hz; rw[hz]; simp at k4; rw[k4]
 ·simp at k4
theorem TOk.struct {i:TI} (h:TOk P t i) (hd:i.td=.struct):∃fs,P.underlying t=some (.struct fs)∧fsOk P fs.toList i.fl i.lay=true:=by
 obtain⟨d,h1,h2,h3⟩:=h.und;cases d<;>simp[tdOk,hd]at h3
 exact⟨_,h1,h3⟩
theorem e4T {n:Nat} {ts:List Ty} {d:TypeDesc} (h:eqT P (n+1) t=some ts) (hu:P.underlying t=some d) (ha:gY d=true):P.cellsOf t=tysz ts:=by
 unfold eqT at h;rw[hu]at h;cases d<;>simp[gY]at ha
 ·
  simp only at h;split at h
  ·
   split at h
   ·rename_i hsz; simp only[mB]at h; subst h; rw[hsz.2]; simp[tysz,Ty.sz]
   ·simp at h
  ·
   split at h
   ·rename_i hsz; simp only[mB]at h; subst h; rw[hsz.2]; simp[tysz,Ty.sz]
   ·simp at h
  ·simp at h
 ·
  simp only at h;split at h
  ·simp at h
  ·
   split at h
   ·simp at h
   ·
    split at h
    ·rename_i hsz; simp only[mB]at h; subst h; exact hsz
    ·simp at h
theorem e7N {i:TI} (hi:i={}∨TOk P t i) {op:BinOp} {x y:V} {k:V→Rd α} (h:Ev ok (binO i op x y k) s r) {ox oy:Operand} {vx vy:Value} (hx:RepV E F w x vx) (hy:RepV E F w y vy) :
  ∃v X,(do eqGuard op t ox oy vx vy; binOp op t vx vy:Sem Value).run P w=.ok v w∧RepV E F w X v∧Ev ok (k X) s r:=by
 unfold binO at h;split at h
 ·
  rename_i i' a j b;have:=eX hx; subst this;have:=eX hy; subst this;obtain⟨v,X,h1,h2,h3⟩:=e6U (P:=P) (t:=t) h;refine⟨v,X,?_,h2 _ _ _,h3⟩;have:(eqGuard op t ox oy (.int i' a) (.int j b)).run P w=.ok () w:=by cases op<;>simp[eqGuard]
  simp[this,h1]
 ·
  rename_i a b;have:=j0 hx; subst this;have:=j0 hy; subst this;obtain⟨v,X,h1,h2,h3⟩:=e8a (P:=P) (t:=t) h;refine⟨v,X,?_,h2 _ _ _,h3⟩;have:(eqGuard op t ox oy (.string a) (.string b)).run P w=.ok () w:=by cases op<;>simp[eqGuard]
  simp[this,h1]
 ·
  rename_i a b;have:=c8U hx; subst this;have:=c8U hy; subst this;have hg:(eqGuard op t ox oy (.bool a) (.bool b)).run P w=.ok () w:=by cases op<;>simp[eqGuard]
  split at h
  ·
   rename_i htd;have hu:=(hi.resolve_left (by rintro rfl; simp at htd)).bool htd;exact⟨_,_,by rw[Sem.run_bind,hg,Result.andThen_ok,run_eql_bool w t a b hu],eZ _,h⟩
  ·
   rename_i htd;have hu:=(hi.resolve_left (by rintro rfl; simp at htd)).bool htd;exact⟨_,_,by rw[Sem.run_bind,hg,Result.andThen_ok,run_neq_bool w t a b hu],eZ _,h⟩
  ·exact h.fail.elim
 ·
  rename_i a b;split at h
  ·exact h.fail.elim
  ·exact h.fail.elim
  ·
   rename_i ts hts hagg;split at h
   ·exact h.fail.elim
   ·
    rename_i hty;simp only[mE]at hty;obtain⟨ca,rfl,ha⟩:=e4k hx;obtain⟨cb,rfl,hb⟩:=e4k hy;have hT:=hi.resolve_left (by rintro rfl; simp at hts);obtain⟨he,hgt⟩:=hT.eq ts hts;obtain⟨va,vb,c,k1,k2,k3,k4⟩:=e8n (P:=P) (w:=w) 40 t ts he 9959 ca cb 0 a b _ _ hty.1 hty.2 ha hb ⟨[],[],by simp,rfl⟩ ⟨[],[],by simp,rfl⟩
    obtain⟨d,hu,hd,_⟩:=hT.und;rw[hagg]at hd;obtain⟨f,z,g1,g2,g3,g4,g5⟩:=hT.inf;have hsz:f.size=tysz ts:=by
     have:=e4T he hu hd;rw[← this]; simp[Program.cellsOf,g1]
    have l1:ca.size=f.size:=by have:=b4A hty.1 ha; rw[hsz,← this]; simp
    have l2:cb.size=f.size:=by have:=b4A hty.2 hb; rw[hsz,← this]; simp
    have e1:=ko (P:=P) hu hd g1 (xs:=ca) (off:=0) w;have e2:=ko (P:=P) hu hd g1 (xs:=cb) (off:=0) w;rw[k1]at e1; rw[k2]at e2;simp only[Result.ok.injEq,and_true]at e1 e2;have f1:ca.extract 0 (0+f.size)=ca:=by rw[ml,← l1]; simp
    have f2:cb.extract 0 (0+f.size)=cb:=by rw[ml,← l2]; simp
    rw[f1]at e1; rw[f2]at e2;subst e1; subst e2;have hg:=run_eqGuard_agg (P:=P) w op t ox oy ca cb hgt;have k4:(Op.equalIn 10000 t (.agg ca) (.agg cb)).run P w=.ok c w:=k4;split at h
    ·
     rename_i c' hc';rw[k3]at hc'; simp only[mB]at hc'; subst hc';exact⟨_,_,by rw[Sem.run_bind,hg,Result.andThen_ok,run_eql_struct,k4]; rfl,eZ _,h⟩
    ·
     rename_i c' hc';rw[k3]at hc'; simp only[mB]at hc'; subst hc';exact⟨_,_,by rw[Sem.run_bind,hg,Result.andThen_ok,run_neq_struct,k4]; rfl,eZ _,h⟩
    ·exact h.fail.elim
 ·
  rename_i a;have hz:vy=.slice none 0 0:=by have:=hy.2; rw[RepL]at this; simpa using this
  subst hz;have key:∀c,h8k a=some c→∃b n m,vx=.slice b n m∧b.isNone=c:=by
   intro c hc;cases a<;>simp[h8k]at hc
   ·
    subst hc;obtain⟨_,_,b,n,m,h2⟩:=hx;exact⟨some b,n,m,by simpa using h2,rfl⟩
   ·
    subst hc;have:=hx.2; rw[RepL]at this;exact⟨none,0,0,by simpa using this,rfl⟩
   ·
    subst hc;obtain⟨_,c,h2⟩:=hx;exact⟨none,0,c,by simpa using h2,rfl⟩
  split at h
  ·
   rename_i htd hc;obtain⟨e,hu,_⟩:=(hi.resolve_left (by rintro rfl; simp at htd)).slice htd;obtain⟨b,n,m,rfl,rfl⟩:=key _ hc;have hg:(eqGuard .eql t ox oy (.slice b n m) (.slice none 0 0)).run P w=.ok () w:=by simp[eqGuard]
   exact⟨_,_,by rw[Sem.run_bind,hg,Result.andThen_ok,Lib.run_eql_slice_nil w t e b n m 0 0 hu],eZ _,h⟩
  ·
   rename_i htd hc;obtain⟨e,hu,_⟩:=(hi.resolve_left (by rintro rfl; simp at htd)).slice htd;obtain⟨b,n,m,rfl,rfl⟩:=key _ hc;have hg:(eqGuard .neq t ox oy (.slice b n m) (.slice none 0 0)).run P w=.ok () w:=by simp[eqGuard]
   exact⟨_,_,by rw[Sem.run_bind,hg,Result.andThen_ok,run_neq_slice_nil_any w t e b n m 0 0 hu],eZ _,h⟩
  ·exact h.fail.elim
 ·
  rename_i a;have hz:vy=.pointer none:=by have:=hy.2; rw[RepL]at this; simpa using this
  subst hz;have key:∀c,h8f a=some c→∃b,vx=.pointer b∧b.isNone=c:=by
   intro c hc;cases a<;>simp[h8f]at hc<;>subst hc
   ·have:=hx.2; rw[RepL]at this; exact⟨_,by simpa using this.2.1,rfl⟩
   ·have:=hx.2; rw[RepL]at this; exact⟨_,by simpa using this.2.2,rfl⟩
   ·have:=hx.2; rw[RepL]at this; exact⟨_,by simpa using this.2.2.1,rfl⟩
   ·obtain⟨_,b,o,ds,h2,_⟩:=hx; exact⟨_,by simpa using h2,rfl⟩
   ·have:=hx.2; rw[RepL]at this; exact⟨_,by simpa using this,rfl⟩
  split at h
  ·
   rename_i htd hc;obtain⟨e,hu⟩:=(hi.resolve_left (by rintro rfl; simp at htd)).ptr htd;obtain⟨b,rfl,rfl⟩:=key _ hc;have hg:(eqGuard .eql t ox oy (.pointer b) (.pointer none)).run P w=.ok () w:=by simp[eqGuard]
   have hp:P.underlying t=some (.pointer (P.pointee t)):=by rw[hu]; simp[Program.pointee,hu]
   exact⟨_,_,by rw[Sem.run_bind,hg,Result.andThen_ok,run_eql_pointer_nil w t b hp],eZ _,h⟩
  ·
   rename_i htd hc;obtain⟨e,hu⟩:=(hi.resolve_left (by rintro rfl; simp at htd)).ptr htd;obtain⟨b,rfl,rfl⟩:=key _ hc;have hg:(eqGuard .neq t ox oy (.pointer b) (.pointer none)).run P w=.ok () w:=by simp[eqGuard]
   have hp:P.underlying t=some (.pointer (P.pointee t)):=by rw[hu]; simp[Program.pointee,hu]
   exact⟨_,_,by rw[Sem.run_bind,hg,Result.andThen_ok,run_neq_pointer_nil w t b hp],eZ _,h⟩
  ·exact h.fail.elim
 ·exact h.fail.elim
end
def OpP (P:Program) (ok:Nat→List DV→List DV→Prop) (cx:Cx) (hi:Hi) (o:Oper):Prop :=
 ∀(C:Frm) (rg ix key:Nat) (A:Nat→Prop) (s:St) (a:Act) (w:World) (wr:Wr) (K:Act→World→Prop) (Q:Exit→Act→World→Prop),
  Ev ok (cv cx hi rg ix key o) s wr→Rel C A s a w→(∀k,key≤k→k<key+bK→¬A k) →
  (∀a' w',Rel C (λk=>A k∨(key≤k∧k<key+bK)) (apply wr s) a' w'→K a' w')→o.wp P a w K Q
section
variable {P:Program} {ok:Nat→List DV→List DV→Prop} {cx:Cx} {hi:Hi} {o:Oper}
theorem bF {C:Frm} {A:Nat→Prop} {E:Env} {F:Nat→Prop} {s:St} {a:Act} {w:World} {wr:Wr} {K:Act→World→Prop} {Q:Exit→Act→World→Prop} {x:V} {v:Value} {key:Nat}
  (hrun:(execOp a.eval o).run P w=.ok (.value v) w) (h:Ev ok (fin hi o.dst [] x) s wr) (hm:Mem C A E F s.ob w) (ht:Tms E F s.tm a w) (hx:RepV E F w x v)
  (hK:∀a' w',Rel C (λk=>A k∨(key≤k∧k<key+bK)) (apply wr s) a' w'→K a' w'):o.wp P a w K Q :=
 e7E hrun h hm ht hx λa' w' hr=>hK a' w' (hr.mono λ_ h=>.inl h)
theorem e6O {x:Operand} (ho:o.op=.move x):OpP P ok cx hi o:=by
 intro C rg ix key A s a w wr K Q h hr hA hK;simp only[cv,ho]at h;obtain⟨E,F,hm,ht⟩:=hr;obtain⟨X,h1,h2⟩:=db h ht;exact bF (by simp[execOp,ho]) h2 hm ht h1 hK
theorem e1U {x:Operand} (ho:o.op=.assign x):OpP P ok cx hi o:=by
 intro C rg ix key A s a w wr K Q h hr hA hK;simp only[cv,ho]at h;obtain⟨E,F,hm,ht⟩:=hr;obtain⟨X,h1,h2⟩:=db h ht;exact bF (by simp[execOp,ho]) h2 hm ht h1 hK
theorem e6Z {c x y:Operand} (ho:o.op=.pick c x y):OpP P ok cx hi o:=by
 intro C rg ix key A s a w wr K Q h hr hA hK;simp only[cv,ho]at h;obtain⟨E,F,hm,ht⟩:=hr;obtain⟨X,h1,h2⟩:=db h ht;split at h2
 ·
  rename_i b;have hb:=c8U h1;obtain⟨Y,h3,h4⟩:=db h2 ht;obtain⟨Z,h5,h6⟩:=db h4 ht;rcases h6.ite with⟨rfl,h7⟩ | ⟨rfl,h7⟩
  ·exact bF (by simp[execOp,ho,hb,asBool]) h7 hm ht h3 hK
  ·exact bF (by simp[execOp,ho,hb,asBool]) h7 hm ht h5 hK
 ·exact h2.fail.elim
theorem d7D {x:Operand} (ho:o.op=.nilCheck x):OpP P ok cx hi o:=by
 intro C rg ix key A s a w wr K Q h hr hA hK;simp only[cv,ho]at h;obtain⟨E,F,hm,ht⟩:=hr;obtain⟨X,h1,h2⟩:=db h ht;have key:∀p,a.eval x=.pointer (some p)→(execOp a.eval o).run P w=.ok (.value (a.eval x)) w:=λp hp=>by simp[execOp,ho,hp]
 split at h2
 ·
  have:=h1.2; rw[RepL]at this; have:=this.2.1; simp only[mK,and_true]at this;exact bF (key _ this) h2 hm ht h1 hK
 ·
  have:=h1.2; rw[RepL]at this; have:=this.2.2; simp only[mK,and_true]at this;exact bF (key _ this) h2 hm ht h1 hK
 ·
  have:=h1.2; rw[RepL]at this; have:=this.2.2.1; simp only[mK,and_true]at this;exact bF (key _ this) h2 hm ht h1 hK
 ·
  have h1':=h1;obtain⟨_,b,oo,ds,h3,_⟩:=h1;simp only[mK,and_true]at h3;exact bF (key _ h3) h2 hm ht h1' hK
 ·exact h2.fail.elim
theorem e5e (hti:TIok P cx) {op:BinOp} {t u:TypeId} {x y:Operand} (ho:o.op=.binOp op t x y u):OpP P ok cx hi o:=by
 intro C rg ix key A s a w wr K Q h hr hA hK;simp only[cv,ho]at h;obtain⟨E,F,hm,ht⟩:=hr;obtain⟨X,h1,h2⟩:=db h ht;obtain⟨Y,h3,h4⟩:=db h2 ht;have fin:∀i,(i={}∨TOk P t i)→Ev ok (binO i op X Y λx=>fin hi o.dst [] x) s wr→o.wp P a w K Q:=by
  intro i hi h5;obtain⟨v,Z,k1,k2,k3⟩:=e7N (P:=P) hi h5 (ox:=x) (oy:=y) h1 h3;refine bF ?_ k3 hm ht k2 hK;simp only[execOp,ho,Sem.run_bind,k1];rfl
 split at h4
 ·exact fin _ (.inl rfl) h4
 ·exact fin _ (.inl rfl) h4
 ·
  obtain⟨i,hi,h5⟩:=Cx.t_ev h4;exact fin i (.inr (hti t i hi)) h5
theorem e7I {op:UnOp} {t:TypeId} {x:Operand} (ho:o.op=.unOp op t x):OpP P ok cx hi o:=by
 intro C rg ix key A s a w wr K Q h hr hA hK;simp only[cv,ho]at h;obtain⟨E,F,hm,ht⟩:=hr;obtain⟨X,h1,h2⟩:=db h ht;unfold unO at h2;split at h2
 ·
  have:=c8U h1;exact bF (by simp[execOp,ho,this,Op.unary]) h2 hm ht (eZ _) hK
 ·
  have:=eX h1;exact bF (v:=.int _ _) (by simp only[execOp,ho,this,Op.unary,Op.intArith]; rfl) h2 hm ht (dy _ _) hK
 ·
  have:=eX h1;exact bF (v:=.int _ _) (by simp only[execOp,ho,this,Op.unary,Op.intBits]; rfl) h2 hm ht (dy _ _) hK
 ·exact h2.fail.elim
theorem e1s {x:Operand} {i:Nat} (ho:o.op=.extract x i):OpP P ok cx hi o:=by
 intro C rg ix key A s a w wr K Q h hr hA hK;simp only[cv,ho]at h;obtain⟨E,F,hm,ht⟩:=hr;obtain⟨X,h1,h2⟩:=db h ht;split at h2
 ·
  rename_i vs;obtain⟨xs,hx,hall⟩:=h1;have get:∀(vs:List V) (ys:List Value) (i:Nat) (v:V),All2 (RepW E F w) vs ys→nthO vs i=some v→∃y,ys[i]?=some y∧RepW E F w v y:=by
   intro vs;induction vs with
   | nil=>intro ys i v _ h; simp[nthO]at h
   | cons u r ih =>
    intro ys i v h hn;cases ys with
    | nil=>exact h.elim
    | cons y q =>
     cases i with
     | zero=>simp only[nthO,mB]at hn; subst hn; exact⟨y,rfl,h.1⟩
     | succ i=>obtain⟨z,h1,h2⟩:=ih q i v h.2 hn; exact⟨z,by simpa using h1,h2⟩
  split at h2
  ·exact h2.fail.elim
  ·
   rename_i v hv hn;obtain⟨y,hy,hr⟩:=get vs xs.toList i v hall hn;have hrv:RepV E F w v y:=by
    cases v with
    | one l=>exact hr
    | agg ls=>exact hr
    | tup vs=>exact hr.elim
   have hy':xs[i]?=some y:=by simpa using hy
   exact bF (by simp[execOp,ho,hx,Instr.extract,hy']) h2 hm ht hrv hK
  ·exact h2.fail.elim
 ·exact h2.fail.elim
theorem e2U {E:Env} {F:Nat→Prop} {w:World}:∀{vs:List V} {q:List Cp} {ys:List Value},caps vs=some q→All2 (RepV E F w) vs ys →
  (∀c∈q,E.al c.k∧Steps (E.e c.k).loff c.l c.y)∧ys=q.map λc=>Value.pointer (some ⟨(E.e c.k).blk,(E.e c.k).loff c.l,none⟩)
 | [],q,[],h,_=>by simp only[caps,mB]at h; subst h; simp
 | [],q,_::_,_,h=>h.elim
 | _::_,_,[],_,h=>h.elim
 | v::vs,q,y::ys,h,hr=>by
  unfold caps at h;split at h<;>try (first | (rename_i e; cases e; done) | (simp at h; done))
  rename_i n l y' r e;simp only[mK]at e;obtain⟨rfl,rfl⟩:=e;split at h
  ·
   rename_i q' hq;simp only[mB]at h; subst h;obtain⟨h1,h2⟩:=e2U hq hr.2;have h3:=hr.1.2; rw[RepL]at h3;refine⟨λc hc=>?_,?_⟩
   ·
    rcases mV.1 hc with rfl | hc
    ·exact⟨h3.1,h3.2.2⟩
    ·exact h1 c hc
   ·rw[h2]; simpa using h3.2.1
  ·simp at h
theorem d8y {f:Nat} {fs cs:Array Operand} (ho:o.op=.makeFunc (.func f) fs cs):OpP P ok cx hi o:=by
 intro C rg ix key A s a w wr K Q h hr hA hK;simp only[cv,ho]at h;obtain⟨E,F,hm,ht⟩:=hr;split at h
 ·
  rename_i hfs;obtain⟨vs,h1,h2⟩:=iW h ht;split at h2
  ·
   rename_i q hq;obtain⟨h3,h4⟩:=e2U hq h1;have hfs':fs=#[]:=pO (by simpa using hfs);subst hfs';refine bF (v:=.func (.func f) #[] (cs.map a.eval)) (by simp[execOp,ho,Instr.makeFunc]) h2 hm ht ⟨trivial,h3,?_⟩ hK;have:cs.map a.eval=(q.map λc=>Value.pointer (some ⟨(E.e c.k).blk,(E.e c.k).loff c.l,none⟩)).toArray:=pO (by simpa using h4);rw[this]
  ·exact h2.fail.elim
 ·exact h.fail.elim
end
theorem gU (b o n:Nat):(⟨b,o,none⟩:Addr).add n=⟨b,o+n,none⟩:=by
 unfold Addr.add;split
 ·rename_i h; subst h; rfl
 ·rfl
theorem c0y {α:Type}:∀(l:List α) (n:Nat),nthO l n=l[n]?
 | [],_=>by simp[nthO]
 | _::_,0=>by simp[nthO]
 | _::r,n+1=>by simp only[nthO,c0y r n]; simp
theorem b7s (a b:List L):ba (a++b)=ba a++ba b:=by simp[b8c]
theorem b8y (l:List L) (n:Nat):ba (l.take n)=(ba l).take n:=by simp[b8c]
theorem jD (l:List L):(ba l).length=l.length:=by simp[b8c]
section
variable {P:Program} {E:Env} {F:Nat→Prop} {w:World} {t:TypeId} {i:TI}
theorem d1u {ls:List L} {c:List Value} {b o:Nat} (h:RepLs E F w ls c) (ha:At w b o c) (l n:Nat) :
  ∃c',RepLs E F w (dw n (et l ls)) c'∧At w b (o+((ba ls).take l).sum) c':=by
 rw[ft,iE];have e:ls=ls.take l++((ls.drop l).take n++(ls.drop l).drop n):=by rw[mh,mh]
 rw[e]at h;obtain⟨c1,d,rfl,h1,h2⟩:=h.split;obtain⟨c2,c3,rfl,h3,h4⟩:=h2.split;refine⟨c2,h3,?_⟩;have:=(ha.append.2).append.1
 rwa [iG h1,b8y]at this
theorem TOk.one (h:TOk P t i) (ha:i.agg=false):i.lay.sum=1:=by
 obtain⟨f,z,h1,h2,h3,h4,h5⟩:=h.inf;have:=iG (j4 (E:=⟨λ_=>⟨0,0,0,0,0,false,λ_=>0,λ_=>0,[],[],.bool false⟩,λ_=>False⟩) (F:=λ_=>False) (w:=default) _ _ h4);rw[← h.lay]at this;rw[← this];cases z<;>simp[ha,Value.cells]at h5 ⊢
theorem TOk.isAgg (h:TOk P t i):(isAgg t).run P w=.ok i.agg w:=by
 obtain⟨d,h1,h2,_⟩:=h.und;unfold Go.isAgg;simp only[Sem.run_bind,run_underlying h1,Result.andThen_ok];rw[← h2];cases d<;>simp[gY]
theorem TOk.sizeOf (h:TOk P t i):(sizeOf t).run P w=.ok i.lay.sum w:=by
 obtain⟨f,z,h1,h2,_⟩:=h.inf;simp[Go.sizeOf,typeInfo,h1,h2]
theorem e2B (h:TOk P t i) {b o:Nat} {c:List Value} {ls:List L} (hr:RepLs E F w ls c) (ha:At w b o c) (hl:dz (ba ls) i.lay=true) {v:V} (hv:toV i ls=some v) :
  ∃y,(Instr.loadAt t (.pointer (some ⟨b,o,none⟩))).run P w=.ok y w∧RepV E F w v y:=by
 have hl:=eU hl;have hc:c.length=i.lay.sum:=by rw[iG hr,hl]
 unfold toV at hv;cases hag:i.agg with
 | true =>
  rw[hag]at hv;simp only[mB]at hv; subst hv;refine⟨.agg c.toArray,?_,c.toArray,rfl,by simpa using hr⟩
  simp only[Instr.loadAt,Instr.sureAddr,loadVar,Sem.run_bind,Sem.run_pure,Result.andThen_ok,h.isAgg,hag,if_true,h.sizeOf];rw[← hc,run_loadCells_list w ⟨b,o,none⟩ c (λj u hj=>by rw[gU]; exact ha j u hj)];rfl
 | false =>
  rw[hag]at hv
  match ls,hv,hr with
  | [l],hv,hr =>
   simp only[mB]at hv; subst hv;have hr:=All.one.1 hr;have h1:=h.one hag
   match c,hr,ha,hc with
   | [u],hr,ha,hc =>
    refine⟨u,?_,d9m (c7B hr u (by simp)) hr⟩;simp only[Instr.loadAt,Instr.sureAddr,loadVar,Sem.run_bind,Sem.run_pure,Result.andThen_ok,h.isAgg,hag,mN,if_false,run_load,ha.one]
   | [],_,_,hc=>simp at hc; omega
   | _::_::_,_,_,hc=>simp at hc; omega
  | [],hv,_=>simp at hv
  | _::_::_,hv,_=>simp at hv
end
section
variable {P:Program} {ok:Nat→List DV→List DV→Prop} {α:Type} {s:St} {r:α} {C:Frm} {A:Nat→Prop} {E:Env} {F:Nat→Prop} {w:World}
theorem c6S {k:Nat}:∀(n l:Nat) {f:List L→Rd α},Ev ok (rdLs k n l f) s r →
  ∃ls,ls.length=n∧Ev ok (f ls) s r∧(n=0∨∃bl,aL s.ob k=.box bl∧ls=dw n (et l bl)∧l+n≤bl.length)
 | 0,l,f,h=>⟨[],rfl,h,.inl rfl⟩
 | n+1,l,f,h=>by
  simp only[rdLs]at h;have h:=h.get;split at h
  ·
   rename_i x hx;obtain⟨ls,h1,h2,h3⟩:=c6S n (l+1) h;simp only[look]at hx;split at hx
   ·
    rename_i bl hbl;split at hx
    ·
     rename_i y hy;simp only[Cn.l.injEq]at hx; subst hx;rw[c0y]at hy;have hlt:=(mL.1 hy).1;refine⟨y::ls,by simp[h1],h2,.inr ⟨bl,hbl,?_,?_⟩⟩
     ·
      rcases h3 with rfl | ⟨bl',e1,e2,e3⟩
      ·
       have:ls=[]:=mT.1 h1;subst this;rw[ft,iE,mS hlt];simp[(mL.1 hy).2]
      ·
       rw[hbl]at e1; simp only[Obj.box.injEq]at e1; subst e1;rw[ft,iE,mS hlt,List.take_succ_cons,(mL.1 hy).2];rw[e2,ft,iE]
     ·
      rcases h3 with rfl | ⟨bl',e1,e2,e3⟩
      ·omega
      ·rw[hbl]at e1; simp only[Obj.box.injEq]at e1; subst e1; omega
    ·simp at hx
   ·simp at hx
  ·exact h.fail.elim
theorem e8N {k:Nat} {bl:List L} (hm:Mem C A E F s.ob w) (hb:aL s.ob k=.box bl):∃cs t,BoxAt w (E.e k) t cs∧RepLs E F w bl cs∧At w (E.e k).blk (E.e k).pre.length cs ∧
  ∀i,i≤bl.length→(E.e k).loff i=(E.e k).pre.length+((ba bl).take i).sum:=by
 have:=hm.rp k;rw[hb]at this;obtain⟨cs,t,h1,h2,h3,h4⟩:=this;refine⟨cs,t,h1,h2,λj u hj=>?_,h4⟩
 obtain⟨ds,fr,k1,k2,k3⟩:=h1;unfold World.cell?;simp only[k1,pH,mN,if_false];have hlt:=(mL.1 hj).1;rw[← my,k2,mU (by omega),ni,mW hlt];exact hj
theorem d3a {k n l:Nat} {ls:List L} (hm:Mem C A E F s.ob w) (hn:ls.length=n) (h:n=0∨∃bl,aL s.ob k=.box bl∧ls=dw n (et l bl)∧l+n≤bl.length) :
  ∃c,RepLs E F w ls c∧At w (E.e k).blk ((E.e k).loff l) c:=by
 rcases h with rfl | ⟨bl,h1,rfl,h3⟩
 ·
  have:ls=[]:=mT.1 hn;subst this;exact⟨[],rfl,At.nil⟩
 ·
  obtain⟨cs,t,k1,k2,k3,k4⟩:=e8N hm h1;obtain⟨c,g1,g2⟩:=d1u k2 k3 l n;refine⟨c,g1,?_⟩;rw[k4 l (by omega)]
  simpa using g2
theorem e5p {k l:Nat} {x:L} (h:look s (.lf k l)=.l x):∃bl,aL s.ob k=.box bl∧bl[l]?=some x:=by
 simp only[look]at h;split at h
 ·
  rename_i bl hbl;split at h
  ·
   rename_i y hy;simp only[Cn.l.injEq]at h; subst h;exact⟨bl,hbl,by rw[← c0y]; exact hy⟩
  ·simp at h
 ·simp at h
theorem d2i {k l:Nat} {x:L} {bl:List L} (hm:Mem C A E F s.ob w) (h:aL s.ob k=.box bl) (hx:bl[l]?=some x):∃c,RepL E F w x c∧At w (E.e k).blk ((E.e k).loff l) c:=by
 have hlt:=(mL.1 hx).1;obtain⟨c,h1,h2⟩:=d3a (s:=s) (k:=k) (l:=l) (n:=1) (ls:=[x]) hm rfl (.inr ⟨bl,h,by
  rw[ft,iE,mS hlt]; simp[(mL.1 hx).2],hlt⟩)
 exact⟨c,All.one.1 h1,h2⟩
theorem c3f {a:Ty} (v:Den a) (l:Nat):lOff a l=((ba (unpk a v)).take l).sum:=by
 unfold lOff; rw[ft,d1R v]
theorem eP {k:Nat} {a:Ty} {xs:List (Den a)} {ro:Bool} (hm:Mem C A E F s.ob w) (h:aL s.ob k=.arr a xs ro):xs.length=(E.e k).len∧(E.e k).len≤(E.e k).cap∧(E.e k).esz=a.sz∧(∀l,(E.e k).eoff l=lOff a l) ∧
  ∃ds,All (λx c=>RepD F w a x c) xs ds∧At w (E.e k).blk (E.e k).base ds:=by
 have:=hm.rp k;rw[h]at this;obtain⟨h1,h2,h3,h4,h5,h6⟩:=this;refine⟨h1,h2,h3,h4,?_⟩;cases hn:(E.e k).nil with
 | false=>obtain⟨cs,u,fr,ds,k1,k2,k3,k4,_⟩:=h6 hn; exact⟨ds,k3,k4⟩
 | true =>
  have hz:=h5 hn;have:xs=[]:=mT.1 (by omega);subst this;exact⟨[],rfl,At.nil⟩
theorem d3A {a:Ty} {xs:List (Den a)} {ds:List Value} {b o i:Nat} (h:All (λx c=>RepD F w a x c) xs ds) (ha:At w b o ds) (hi:i<xs.length) :
  ∃d,RepD F w a (xs.getD i (cq a)) d∧At w b (o+i*a.sz) d:=by
 have hx:xs[i]?=some (xs.getD i (cq a)):=by simp[List.getD,hi]
 obtain⟨c,d,e,rfl,h2,h3⟩:=h.get (λx c=>cJ) hx;refine⟨d,h3,?_⟩;have:=(ha.append.2).append.1
 rwa [h2]at this
theorem e7j {cx:Cx} {hi:Hi} {o:Oper} (hti:TIok P cx) {t:TypeId} {x:Operand} (ho:o.op=.load t x):OpP P ok cx hi o:=by
 intro C rg ix key A s a w wr K Q h hr hA hK;simp only[cv,ho]at h;obtain⟨E,F,hm,ht⟩:=hr;obtain⟨i,hi',h⟩:=Cx.t_ev h;have hT:=hti t i hi';obtain⟨X,h1,h2⟩:=db h ht;have fin:∀(b o':Nat) (c:List Value) (ls:List L),a.eval x=.pointer (some ⟨b,o',none⟩)→RepLs E F w ls c→At w b o' c →
   Ev ok (match dz (ba ls) i.lay with
    | true=>match toV i ls with
     | some v=>fin hi o.dst [] v
     | none=>.fail
    | false=>.fail) s wr→o.wp P a w K Q:=by
  intro b o' c ls hx hl hat h;split at h
  ·
   rename_i hz;split at h
   ·
    rename_i v hv;obtain⟨y,k1,k2⟩:=e2B hT hl hat hz hv;refine bF ?_ h hm ht k2 hK;simp only[execOp,ho,hx,Sem.run_bind,k1];rfl
   ·exact h.fail.elim
  ·exact h.fail.elim
 unfold h8M at h2;split at h2
 ·
  rename_i n l;obtain⟨ls,k1,k2,k3⟩:=c6S _ _ h2;obtain⟨c,g1,g2⟩:=d3a hm k1 k3;have:=h1.2; rw[RepL]at this; have:=this.2.1; simp only[mK,and_true]at this;exact fin _ _ c ls this g1 g2 k2
 ·
  rename_i n l m i';have h2:=h2.get;split at h2
  ·
   rename_i m' a' v hv;obtain⟨bl,g1,g2⟩:=e5p hv;obtain⟨c,g3,g4⟩:=d2i hm g1 g2;have hp:=h1.2; rw[RepL]at hp;obtain⟨_,hlt,hp⟩:=hp;simp only[mK,and_true]at hp;split at h2
   ·
    rename_i j v hmm;have hmm:=mH hmm;rw[RepL,RepD]at g3;have hc:=d2s g3.2;have hl:List.length (α:=Int) v=m:=by rw[hmm]; exact g3.1
    refine fin _ _ [.int j ((v:List Int).getD i' 0)] _ hp (All.one.2 (by rw[RepL,RepD])) (At.of_one ?_) h2;have:c[i']?=some (.int j ((v:List Int).getD i' 0)):=by
     rw[hc]; simp[List.getD,hl,hlt]
    exact g4 i' _ this
   ·
    rename_i v hmm;have hmm:=mH hmm;rw[RepL,RepD]at g3;have hc:=c6u g3.2;have hl:List.length (α:=Bool) v=m:=by rw[hmm]; exact g3.1
    refine fin _ _ [.bool ((v:List Bool).getD i' false)] _ hp (All.one.2 (by rw[RepL,RepD])) (At.of_one ?_) h2;have:c[i']?=some (.bool ((v:List Bool).getD i' false)):=by
     rw[hc]; simp[List.getD,hl,hlt]
    exact g4 i' _ this
   ·exact h2.fail.elim
  ·exact h2.fail.elim
 ·
  rename_i n i' l y';have h2:=h2.get;simp only[look]at h2;split at h2
  ·
   rename_i a' xs ro hobj;simp only[Cn.o.injEq]at hobj;obtain⟨g1,g2,g3,g4,ds,g5,g6⟩:=eP hm hobj;have hp:=h1.2; rw[RepL]at hp;obtain⟨_,hlt,hp,_⟩:=hp;simp only[mK,and_true]at hp;obtain⟨d,k1,k2⟩:=d3A g5 g6 (i:=i') (by omega);obtain⟨c,k3,k4⟩:=d1u (jC (E:=E) k1) k2 l i.lay.length;rw[← c3f,← g4,← g3]at k4;exact fin _ _ c _ hp k3 k4 h2
  ·exact h2.fail.elim
 ·
  rename_i a' v l;obtain⟨_,b,o',ds,k1,k2,k3,k4⟩:=h1;simp only[mK,and_true]at k1;obtain⟨c,g1,g2⟩:=d1u (jC (E:=E) k3) k4 l i.lay.length;rw[← c3f]at g2;exact fin _ _ c _ k1 g1 g2 h2
 ·exact h2.fail.elim
end
theorem d2f {P:Program}:∀(fs:List Field) (fl:List (Nat × List Nat)) (lay:List Nat),fsOk P fs fl lay=true→∀(f:Nat) (d:Nat) (z:List Nat),nthO fl f=some (d,z) →
  ∃x y,fs[f]?=some x∧x.offset=(lay.take d).sum∧P.info? x.type=some y∧y.size=z.sum∧y.size≠0∧z=(lay.drop d).take z.length∧d+z.length≤lay.length
 | [],[],_,_,f,d,z,hn=>by simp[nthO]at hn
 | [],_::_,_,h,_,_,_,_=>by simp[fsOk]at h
 | _::_,[],_,h,_,_,_,_=>by simp[fsOk]at h
 | x::r,p::q,lay,h,f,d,z,hn=>by
  simp only[fsOk,mE,nk,qB]at h;obtain⟨⟨⟨⟨h1,h2⟩,h3⟩,h4⟩,h5⟩:=h;cases f with
  | zero =>
   simp only[nthO,mB]at hn; subst hn;split at h2
   ·
    rename_i y hy;simp only[mE,nk,mu]at h2;refine⟨x,y,rfl,h1,hy,h2.1,?_,eU h3,h4⟩;intro e;have:=h2.2;rw[e]at this; simp at this
   ·simp at h2
  | succ f =>
   obtain⟨x',y,g1,g2⟩:=d2f r q lay h5 f d z hn;exact⟨x',y,by simpa using g1,g2⟩
section
variable {P:Program} {ok:Nat→List DV→List DV→Prop} {cx:Cx} {hi:Hi} {o:Oper}
theorem d7Q {t:TypeId} {fs:Array Field} {f:Nat} {x:Field} {y:TypeInfo} (hu:P.underlying t=some (.struct fs)) (hf:fs[f]?=some x) (hy:P.info? x.type=some y) (hz:y.size≠0) (b n:Nat) (w:World) :
  (Instr.fieldAt t (.pointer (some ⟨b,n,none⟩)) f).run P w=.ok (.pointer (some ⟨b,n+x.offset,none⟩)) w:=by
 simp[Instr.fieldAt,run_underlying hu,hf,Instr.sureAddr,fieldPlace,sizeOf,typeInfo,hy,hz,gU]
theorem Steps.sub {g:Nat→Nat} {l d:Nat} {y z:List Nat} (h:Steps g l y) (hz:z=(y.drop d).take z.length) (hd:d+z.length≤y.length):Steps g (l+d) z:=by
 intro e he;have h1:=h (d+e) (by omega);have h2:=h d (by omega);rw[nQ,h1,h2,nQ];congr 1;have e1:y.take (d+e)=y.take d++(y.drop d).take e:=List.take_add ..;have e2:z.take e=(y.drop d).take e:=by
  rw[hz,qM,pg he]
 rw[e1,List.sum_append,e2]
theorem d6a (hti:TIok P cx) {t:TypeId} {x:Operand} {f:Nat} (ho:o.op=.fieldAddr t x f):OpP P ok cx hi o:=by
 intro C rg ix key A s a w wr K Q h hr hA hK;simp only[cv,ho]at h;obtain⟨E,F,hm,ht⟩:=hr;obtain⟨i,hi',h⟩:=Cx.t_ev h;have hT:=hti t i hi';obtain⟨X,h1,h2⟩:=db h ht;unfold h8x at h2;split at h2
 ·
  rename_i d z htd hn;obtain⟨fs,hu,hfs⟩:=hT.struct htd;obtain⟨fx,y,g1,g2,g3,g4,g5,g6,g7⟩:=d2f _ _ _ hfs f d z hn;have g1':fs[f]?=some fx:=by simpa using g1
  have run:∀b n,a.eval x=.pointer (some ⟨b,n,none⟩)→(execOp a.eval o).run P w=.ok (.value (.pointer (some ⟨b,n+fx.offset,none⟩))) w:=by
   intro b n hx;simp only[execOp,ho,hx,Sem.run_bind,d7Q hu g1' g3 g5];rfl
  split at h2
  ·
   rename_i n l y';split at h2
   ·
    rename_i hy;have hy:=eU hy; subst hy;have hp:=h1.2; rw[RepL]at hp;obtain⟨p1,p2,p3⟩:=hp;simp only[mK,and_true]at p2;refine bF (run _ _ p2) h2 hm ht ⟨trivial,p1,?_,p3.sub g6 g7⟩ hK;rw[p3 d (by omega),g2]
   ·exact h2.fail.elim
  ·
   rename_i n j l y';split at h2
   ·
    rename_i hy;have hy:=eU hy; subst hy;have hp:=h1.2; rw[RepL]at hp;obtain⟨p1,p2,p3,p4⟩:=hp;simp only[mK,and_true]at p3;refine bF (run _ _ p3) h2 hm ht ⟨trivial,p1,p2,?_,p4.sub g6 g7⟩ hK;rw[p4 d (by omega),g2];simp[nQ]
   ·exact h2.fail.elim
  ·
   rename_i a' v l;split at h2
   ·
    rename_i hy;have hy:=eU hy;obtain⟨_,b,o',ds,k1,k2,k3,k4⟩:=h1;simp only[mK,and_true]at k1;refine bF (run _ _ k1) h2 hm ht ⟨trivial,b,o',ds,?_,k2,k3,k4⟩ hK;have:lOff a' (l+d)=lOff a' l+fx.offset:=by
     unfold lOff;rw[ft,ft,g2,← hy,ft,iE,qM,pg (by omega),List.take_add,List.sum_append]
    rw[this]; simp[nQ]
   ·exact h2.fail.elim
  ·exact h2.fail.elim
 ·exact h2.fail.elim
theorem c3p {t e:TypeId} {f:TypeInfo} (hu:P.underlying t=some (.slice e)) (hf:P.info? e=some f) {b n len cap:Nat} {k:IntKind} {i:Int} (h0:0≤i) (h1:i<len) (w:World) :
  (Instr.indexAt t (.slice (some ⟨b,n,none⟩) len cap) (.int k i)).run P w=.ok (.pointer (some ⟨b,n+i.toNat*f.size,none⟩)) w:=by
 simp[Instr.indexAt,asIntOf,run_underlying hu,h0,h1,sizeOf,typeInfo,hf,gU]
theorem b3s {t e:TypeId} {f:TypeInfo} {m:Nat} (hu:P.underlying t=some (.array m e)) (hf:P.info? e=some f) {b n:Nat} {k:IntKind} {i:Int} (h0:0≤i) (h1:i<m) (w:World) :
  (Instr.indexAt t (.pointer (some ⟨b,n,none⟩)) (.int k i)).run P w=.ok (.pointer (some ⟨b,n+i.toNat*f.size,none⟩)) w:=by
 simp[Instr.indexAt,asIntOf,run_underlying hu,h0,h1,sizeOf,typeInfo,hf,gU,Instr.sureAddr]
theorem b4q {i:Int} {n:Nat} (h:idx i n=true):0≤i∧i<n:=by simpa[idx] using h
theorem b7t {t:Ty} (h:h7a t=true):t.sz=1:=by cases t<;>simp[h7a]at h<;>rfl
theorem c2T {a:Ty} {g:Nat→Nat} (h:∀l,g l=lOff a l):Steps g 0 (ba (unpk a (cq a))):=by
 intro d hd;rw[h,h,ml];unfold lOff;rw[ft,ft]; simp
theorem d9g {e:EI} {off n:Nat} {v:Value} (h:Win e off n [v]) (hn:0<n) (hc:e.len≤e.cap):∃c,v=.slice (some ⟨e.blk,e.base+off*e.esz,none⟩) n c:=by
 obtain⟨h1,a,h2,h3⟩:=h;have:=h3 (by omega);simp only[mK,and_true]at h2;exact⟨_,by rw[h2,this.2]⟩
theorem d5f (hti:TIok P cx) {t:TypeId} {x y:Operand} (ho:o.op=.indexAddr t x y):OpP P ok cx hi o:=by
 intro C rg ix key A s a w wr K Q h hr hA hK;simp only[cv,ho]at h;obtain⟨E,F,hm,ht⟩:=hr;obtain⟨i,hi',h⟩:=Cx.t_ev h;have hT:=hti t i hi';obtain⟨X,h1,h2⟩:=db h ht;obtain⟨Y,h3,h4⟩:=db h2 ht;unfold h8y at h4;split at h4
 ·
  rename_i k j;have hj:=eX h3;split at h4
  ·
   -- arrays
   rename_i htd;obtain⟨e,hu,⟨f,z,f1,f2,f3,f4,f5⟩,hsc,hzk⟩:=hT.array htd;have hsz:f.size=1:=by rw[f2,b7t hsc]
   split at h4
   ·
    rename_i n l y';rcases h4.ite with⟨hb,h4⟩ | ⟨_,h4⟩
    ·
     obtain⟨b0,b1⟩:=b4q hb;have hp:=h1.2; rw[RepL]at hp;obtain⟨p1,p2,p3⟩:=hp;simp only[mK,and_true]at p2;refine bF (v:=.pointer (some ⟨(E.e n).blk,(E.e n).loff l+j.toNat,none⟩)) ?_ h4 hm ht ⟨trivial,p1,by omega,rfl⟩ hK
     simp only[execOp,ho,p2,hj,Sem.run_bind,b3s hu f1 b0 b1,hsz,qO];rfl
    ·exact h4.fail.elim
   ·
    rename_i a' v l;split at h4
    ·
     rename_i m b w' r hd;split at h4
     ·
      rename_i hmb;simp only[mE,nk,g7H]at hmb;obtain⟨rfl,rfl⟩:=hmb;rcases h4.ite with⟨hb,h4⟩ | ⟨_,h4⟩
      ·
       obtain⟨b0,b1⟩:=b4q hb;obtain⟨_,bb,o',ds,k1,k2,k3,k4⟩:=h1;simp only[mK,and_true]at k1
       -- the array's cells among the datum's
       obtain⟨c,g1,g2⟩:=d1u (jC (E:=E) k3) k4 l 1;rw[← c3f]at g2;rw[hd]at g1;have g1:=All.one.1 (show RepLs E F w [L.dat (.ar i.n i.ety) w'] c from g1);have g1':=g1;rw[RepL,RepD]at g1';have hlw:List.length w'=i.n:=g1'.1;obtain⟨d,m1,m2⟩:=d3A g1'.2 g2 (i:=j.toNat) (by rw[hlw]; omega);refine bF (v:=.pointer (some ⟨bb,o'+lOff a' l+j.toNat*f.size,none⟩)) ?_ h4 hm ht ⟨trivial,bb,o'+lOff a' l+j.toNat*i.ety.sz,d,?_,k2,m1,m2⟩ hK
       ·
        simp only[execOp,ho,k1,hj,Sem.run_bind,b3s hu f1 b0 b1];rfl
       ·rw[f2]; simp[lOff,dw]
      ·exact h4.fail.elim
     ·exact h4.fail.elim
    ·exact h4.fail.elim
   ·exact h4.fail.elim
  ·
   -- slices
   rename_i htd;obtain⟨e,hu,⟨f,z,f1,f2,f3,f4,f5⟩⟩:=hT.slice htd;have run:∀b n len cap,a.eval x=.slice (some ⟨b,n,none⟩) len cap→0≤j→j<len→(execOp a.eval o).run P w=.ok (.value (.pointer (some ⟨b,n+j.toNat*i.ety.sz,none⟩))) w:=by
    intro b n len cap hx h0 hlt;rw[← f2];simp only[execOp,ho,hx,hj,Sem.run_bind,c3p hu f1 h0 hlt];rfl
   have frz:∀(xs:List (Den i.ety)),RepD F w (.sl i.ety) xs [a.eval x]→Ev ok (Rd.ite (idx j xs.length) (fin hi o.dst [] (.one (.rf i.ety (xs.getD j.toNat (cq i.ety)) 0))) .fail) s wr→o.wp P a w K Q:=by
    intro xs hr h4;rcases h4.ite with⟨hb,h4⟩ | ⟨_,h4⟩
    ·
     obtain⟨b0,b1⟩:=b4q hb;rw[RepD]at hr;obtain⟨ad,cap,k1,k2,k3⟩:=hr;rcases k3 with rfl | ⟨b,o',ds,rfl,k4,k5,k6⟩
     ·simp at b1; omega
     ·
      simp only[mK,and_true]at k1;obtain⟨d,m1,m2⟩:=d3A k5 k6 (i:=j.toNat) (by omega);exact bF (run _ _ _ _ k1 b0 b1) h4 hm ht ⟨trivial,b,o'+j.toNat*i.ety.sz,d,by simp[lOff,dw],k4,m1,m2⟩ hK
    ·exact h4.fail.elim
   split at h4
   ·
    rename_i n;have h4:=h4.get;simp only[look]at h4;split at h4
    ·
     rename_i a' xs ro hobj;simp only[Cn.o.injEq]at hobj;have e4:=dO h4; subst e4; have h4:=dJ h4;rcases h4.ite with⟨hb,h4⟩ | ⟨_,h4⟩
     ·
      obtain⟨b0,b1⟩:=b4q hb;obtain⟨g1,g2,g3,g4,ds,g5,g6⟩:=eP hm hobj;obtain⟨_,p1,p2⟩:=h1;obtain⟨c,hx⟩:=d9g p2 (by omega) g2;have b1':j<((E.e n).len:Int):=by rw[← g1]; exact b1
      refine bF (run _ _ _ _ hx b0 b1') h4 hm ht ⟨trivial,p1,by omega,?_,c2T g4⟩ hK
      rw[g4,g3]; simp[lOff,dw]
     ·exact h4.fail.elim
    ·exact h4.fail.elim
   ·
    rename_i n off;have h4:=h4.get;simp only[look]at h4;split at h4
    ·
     rename_i a' xs ro hobj;simp only[Cn.o.injEq]at hobj;have e4:=dO h4; subst e4; have h4:=dJ h4;rcases h4.ite with⟨hb,h4⟩ | ⟨_,h4⟩
     ·
      obtain⟨b0,b1⟩:=b4q hb;obtain⟨g1,g2,g3,g4,ds,g5,g6⟩:=eP hm hobj;obtain⟨_,p1,p0,p2⟩:=h1;have b1':j<((E.e n).len-off:Nat):=by rw[← g1]; exact b1
      obtain⟨c,hx⟩:=d9g p2 (by omega) g2;refine bF (run _ _ _ _ hx b0 b1') h4 hm ht ⟨trivial,p1,by omega,?_,c2T g4⟩ hK
      rw[g4,g3]; simp[lOff,dw,pP,nQ]
     ·exact h4.fail.elim
    ·exact h4.fail.elim
   ·
    rename_i n off len;have h4:=h4.get;simp only[look]at h4;split at h4
    ·
     rename_i a' xs ro hobj;simp only[Cn.o.injEq]at hobj;have e4:=dO h4; subst e4; have h4:=dJ h4;rcases h4.ite with⟨hb,h4⟩ | ⟨_,h4⟩
     ·
      obtain⟨b0,b1⟩:=b4q hb;obtain⟨g1,g2,g3,g4,ds,g5,g6⟩:=eP hm hobj;obtain⟨_,p1,p2⟩:=h1;obtain⟨c,hx⟩:=d9g p2 (by omega) g2;have:=p2.1;refine bF (run _ _ _ _ hx b0 b1) h4 hm ht ⟨trivial,p1,by omega,?_,c2T g4⟩ hK
      rw[g4,g3]; simp[lOff,dw,pP,nQ]
     ·exact h4.fail.elim
    ·exact h4.fail.elim
   ·
    rename_i a' xs;have e4:=dO h4; subst e4; have h4:=dJ h4;exact frz xs h1.2 h4
   ·
    rename_i a' xs;have e4:=dO h4; subst e4; have h4:=dJ h4;exact frz xs h1.2.1 h4
   ·
    rename_i q n i' sz y';split at h4
    ·
     rename_i hsz;have hsz:=mH hsz;rcases h4.ite with⟨hb,h5⟩ | ⟨_,h5⟩
     ·
      simp only[decide_eq_true_eq]at hb;obtain⟨rfl,b0,b1⟩:=hb;obtain⟨_,p1,p2,ad,m,c,p3,p4,p5⟩:=h1;obtain⟨b,rfl,q1,q2⟩:=p5 b0 b1;simp only[mK,and_true]at p2;rw[p3]at p2;refine bF (x:=.one (.ptr q 0 y')) (run _ _ _ _ p2 b0 (by rw[p4]; exact b1)) h5 hm ht ⟨trivial,p1,?_,q2⟩ hK;rw[q1,hsz]
     ·exact h5.fail.elim
    ·exact h4.fail.elim
   ·exact h4.fail.elim
  ·exact h4.fail.elim
 ·exact h4.fail.elim
end
end Go.Proofs.Zz
