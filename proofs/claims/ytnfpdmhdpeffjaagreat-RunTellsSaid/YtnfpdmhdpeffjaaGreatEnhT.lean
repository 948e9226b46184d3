import Derived.Test.YtnfpdmhdpeffjaaGreatEnhS
import Derived.Test.YtnfpdmhdpeffjaaGreatEnhK
set_option linter.unusedSimpArgs false
set_option linter.unusedVariables false
/- Rows: a law's call out of its arguments' plain data. -/
namespace Go.Proofs.Zz
open Go
def lksOf:Ty→List LK
 | .unit=>[]
 | .pair a b=>lksOf a++lksOf b
 | .int k=>[.d (.int k)]
 | .bool=>[.d .bool]
 | .str=>[.d .str]
 | .ar n a=>[.d (.ar n a)]
 | .sl a=>[.d (.sl a)]
 | .nl=>[.d .nl]
def dvsOf:(t:Ty)→Den t→List DV
 | .unit,_=>[]
 | .pair a b,v=>dvsOf a v.1++dvsOf b v.2
 | .int k,v=>[⟨.int k,v⟩]
 | .bool,v=>[⟨.bool,v⟩]
 | .str,v=>[⟨.str,v⟩]
 | .ar n a,v=>[⟨.ar n a,v⟩]
 | .sl a,v=>[⟨.sl a,v⟩]
 | .nl,v=>[⟨.nl,v⟩]
section
variable {β:Nat→EI} {F:Nat→Prop} {w:World}
theorem e9h {ks ks':List LK} {p q:List DV} {es fs:List EI} {c d:List Value} (h:RepKs β F w ks p es c) (h':RepKs β F w ks' q fs d):RepKs β F w (ks++ks') (p++q) (es++fs) (c++d):=by
 induction h with
 | nil=>exact h'
 | cons hk _ ih =>
  rw [List.cons_append,List.append_assoc,List.append_assoc,List.append_assoc];exact .cons hk ih
theorem d1K {t:Ty} {v:Den t} {cs:List Value} (h:RepD F w t v cs):RepKs β F w [.d t] [⟨t,v⟩] [] cs:=by
 have:=RepKs.cons (β:=β) (p:=[⟨t,v⟩]) (es:=[]) (.d h) .nil
 simpa using this
theorem c0k:∀ {t:Ty} {v:Den t} {cs:List Value},RepD F w t v cs→RepKs β F w (lksOf t) (dvsOf t v) [] cs:=by
 intro t;induction t with
 | unit=>intro v cs h; exact e6K h
 | pair a b iha ihb =>
  intro v cs h;rw [RepD] at h;obtain ⟨c,d,rfl,h1,h2⟩:=h;exact e9h (iha h1) (ihb h2)
 | int k=>intro v cs h; exact d1K h
 | bool=>intro v cs h; exact d1K h
 | str=>intro v cs h; exact d1K h
 | ar n a=>intro v cs h; exact d1K h
 | sl a=>intro v cs h; exact d1K h
 | nl=>intro v cs h; exact d1K h
end
theorem e3F {P:Program} {c:CS} {ts us:List PG} {e:Fn' (Option Rs) ts} (h:CEok P (c,mkF ts us e)) {ys:TupG ts} {zs:TupG us} (he:apG ts e ys = some (0,dvG us zs)):CallOK P c (dvG ts ys) (dvG us zs):=by
 obtain ⟨q,h1,h2⟩:=h (dvG ts ys) (fun q=>some (0,q)) (0,dvG us zs) (by
  show mkF ts us e (dvG ts ys) _ = _;unfold mkF;rw [c5e,d2B,he,g7j,c5e,e3H])
 simp only [Option.some.injEq,Prod.mk.injEq,true_and] at h2;rw [← h2]; exact h1
end Go.Proofs.Zz
