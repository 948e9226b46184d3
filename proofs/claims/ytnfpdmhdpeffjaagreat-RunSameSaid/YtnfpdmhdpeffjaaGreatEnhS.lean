import Derived.Test.YtnfpdmhdpeffjaaGreatEnhF
import Derived.Test.YtnfpdmhdpeffjaaGreatEnhK
set_option linter.unusedSimpArgs false
set_option linter.unusedVariables false
namespace Go.Proofs.Zz
noncomputable section
open Go
def ofTq:(ts:List Ty)→Tup ts→List DV→List DV
 | [],_,q=>q
 | t::ts,y,q=>⟨t,y.1⟩::ofTq ts y.2 q
def unT {X:Type}:(ts:List Ty)→List DV→(Tup ts→List DV→Option X)→Option X
 | [],p,k=>k () p
 | t::ts,p,k=>un t p λy p=>unT ts p λz q=>k (y,z) q
structure Gp (α:Type) where
 ts:List Ty
 to:Tup ts→α
 of:α→Tup ts
 to_of:∀a,to (of a)=a
 of_to:∀y,of (to y)=y
 dv:α→List DV→List DV
 un:{X:Type}→List DV→(α→List DV→Option X)→Option X
 dv_eq:∀a q,dv a q=ofTq ts (of a) q
 un_eq:∀{X:Type} (p:List DV) (k:α→List DV→Option X),un p k=unT ts p λy q=>k (to y) q
structure PG where
 α:Type
 g:Gp α
theorem un_eq {X:Type} {t:Ty} {v:Den t} {q:List DV} {k:Den t→List DV→Option X}:un t (⟨t,v⟩::q) k=k v q:=by
 unfold un;simp only[b4f]
theorem e6w {X:Type}:∀(ts:List Ty) (y:Tup ts) (q:List DV) (k:Tup ts→List DV→Option X),unT ts (ofTq ts y q) k=k y q
 | [],y,q,k=>rfl
 | t::ts,y,q,k=>by
  simp only[unT,ofTq];rw[un_eq,e6w ts]
theorem d8I {X:Type}:∀{ts:List Ty} {p:List DV} {k:Tup ts→List DV→Option X} {x:X},unT ts p k=some x→∃y q,p=ofTq ts y q∧k y q=some x
 | [],p,k,x,h=>⟨(),p,rfl,h⟩
 | t::ts,p,k,x,h=>by
  simp only[unT]at h;obtain⟨y,q,rfl,h'⟩:=un_some h;obtain⟨z,q,rfl,h''⟩:=d8I h';exact⟨(y,z),q,rfl,h''⟩
theorem Gp.un_dv {X α:Type} (g:Gp α) (a:α) (q:List DV) (k:α→List DV→Option X):g.un (g.dv a q) k=k a q:=by
 rw[g.un_eq,g.dv_eq,e6w,g.to_of]
theorem Gp.un_some {X α:Type} {g:Gp α} {p:List DV} {k:α→List DV→Option X} {x:X} (h:g.un p k=some x):∃a q,p=g.dv a q∧k a q=some x:=by
 rw[g.un_eq]at h;obtain⟨y,q,rfl,h'⟩:=d8I h;exact⟨g.to y,q,by rw[g.dv_eq,g.of_to],h'⟩
def gD (t:Ty):Gp (Den t):=⟨[t],λy=>y.1,λa=>(a,()),λ_=>rfl,λ_=>rfl,λa q=>⟨t,a⟩::q,λp k=>Zz.un t p k,λ_ _=>rfl,λ_ _=>rfl⟩
@[reducible] def Fn' (X:Type):List PG→Type
 | []=>X
 | g::r=>g.α→Fn' X r
@[reducible] def TupG:List PG→Type
 | []=>Unit
 | g::r=>g.α × TupG r
def dvG:(l:List PG)→TupG l→List DV
 | [],_=>[]
 | g::r,y=>g.g.dv y.1 (dvG r y.2)
def apG {X:Type}:(l:List PG)→Fn' X l→TupG l→X
 | [],e,_=>e
 | _::r,e,y=>apG r (e y.1) y.2
def gg {X:Type}:(l:List PG)→Fn' (Option X) l→List DV→Option X
 | [],k,p=>un0 p k
 | g::r,k,p=>g.g.un p λa q=>gg r (k a) q
def cK {X:Type}:(l:List PG)→(List DV→X)→Fn' X l
 | [],K=>K []
 | g::r,K=>λa=>cK r λq=>K (g.g.dv a q)
def mapG {X Y:Type} (f:X→Y):(l:List PG)→Fn' X l→Fn' Y l
 | [],e=>f e
 | g::r,e=>λa=>mapG f r (e a)
def conG {X:Type} (x:X):(l:List PG)→Fn' X l
 | []=>x
 | _::r=>λ_=>conG x r
@[simp] theorem ag {X α:Type} (g:Gp α) (r:List PG) (k:Fn' (Option X) (⟨α,g⟩::r)) (a:α) (q:List DV):gg (⟨α,g⟩::r) k (g.dv a q)=gg r (k a) q:=g.un_dv a q _
@[simp] theorem aj {X:Type} (k:Option X):gg [] k []=k:=rfl
theorem jZ {X:Type}:∀{l:List PG} {p:List DV} {K:List DV→Option X} {x:X},gg l (cK l K) p=some x→K p=some x
 | [],p,K,x,h=>by
  simp only[gg,cK]at h;obtain⟨rfl,h⟩:=d9n h;exact h
 | g::r,p,K,x,h=>by
  simp only[gg,cK]at h;obtain⟨a,q,rfl,h'⟩:=Gp.un_some h;exact jZ (K:=λq=>K (g.g.dv a q)) h'
theorem jw {X:Type}:∀{l:List PG} {p:List DV} {k:Fn' (Option X) l} {x:X},gg l k p=some x→∃ys:TupG l,p=dvG l ys∧apG l k ys=some x
 | [],p,k,x,h=>by
  simp only[gg]at h;obtain⟨rfl,h⟩:=d9n h;exact⟨(),rfl,h⟩
 | g::r,p,k,x,h=>by
  simp only[gg]at h;obtain⟨a,q,rfl,h'⟩:=Gp.un_some h;obtain⟨ys,rfl,h''⟩:=jw h';exact⟨(a,ys),rfl,h''⟩
theorem d2B {X Y:Type} {f:X→Y}:∀{l:List PG} {e:Fn' X l} {ys:TupG l},apG l (mapG f l e) ys=f (apG l e ys)
 | [],_,_=>rfl
 | _::r,e,ys=>d2B (l:=r)
theorem e2u {X:Type} (x:X):∀(l:List PG) (ys:TupG l),apG l (conG x l) ys=x
 | [],_=>rfl
 | _::r,ys=>e2u x r ys.2
theorem e3H {X:Type}:∀(l:List PG) (K:List DV→X) (ys:TupG l),apG l (cK l K) ys=K (dvG l ys)
 | [],_,_=>rfl
 | g::r,K,ys=>e3H r (λq=>K (g.g.dv ys.1 q)) ys.2
theorem e1P {X:Type}:∀{l:List PG} {f g:Fn' X l},(∀ys,apG l f ys=apG l g ys)→f=g
 | [],_,_,h=>h ()
 | _::r,_,_,h=>funext λy=>e1P (l:=r) λys=>h (y,ys)
def on1 {X:Type} (r:Option Rs) (k:List DV→Option X):Option X :=
 match r with
 | some (n,p)=>match n with
  | 0=>k p
  | _+1=>none
 | none=>none
def onA {X:Type} (a:Nat) (r:Option Rs) (k:List DV→Option X):Option X :=
 match r with
 | some (n,p)=>match Nat.beq n a with
  | true=>k p
  | false=>none
 | none=>none
def onB {X:Type} (a b:Nat) (r:Option Rs) (k h:List DV→Option X):Option X :=
 match r with
 | some (n,p)=>match Nat.beq n a with
  | true=>k p
  | false=>match Nat.beq n b with
   | true=>h p
   | false=>none
 | none=>none
def onC {X:Type} (a b c:Nat) (r:Option Rs) (k h i:List DV→Option X):Option X :=
 match r with
 | some (n,p)=>match Nat.beq n a with
  | true=>k p
  | false=>match Nat.beq n b with
   | true=>h p
   | false=>match Nat.beq n c with
    | true=>i p
    | false=>none
 | none=>none
@[simp] theorem au {X:Type} (p:List DV) (k:List DV→Option X):on1 (some (0,p)) k=k p:=rfl
@[simp] theorem dG {X:Type} (a:Nat) (p:List DV) (k:List DV→Option X):onA a (some (a,p)) k=k p:=by simp only[onA,pA]
@[simp] theorem dF {X:Type} (a b:Nat) (p:List DV) (k h:List DV→Option X):onB a b (some (a,p)) k h=k p:=by simp only[onB,pA]
theorem e8Y {a b:Nat} (h:a≠b):Nat.beq a b=false:=by
 cases e:Nat.beq a b with
 | false=>rfl
 | true=>exact absurd (mH e) h
@[simp] theorem dH {X:Type} (a b:Nat) (hab:b≠a) (p:List DV) (k h:List DV→Option X):onB a b (some (b,p)) k h=h p:=by simp only[onB,e8Y hab,pA]
theorem f0I {l:List PG} {r:Option Rs} {K:List DV→Option Rs} {x:Rs} (h:on1 r (gg l (cK l K))=some x):∃n q,r=some (n,q)∧K q=some x:=by
 unfold on1 at h;split at h
 ·
  split at h
  ·exact⟨_,_,rfl,jZ h⟩
  ·simp at h
 ·simp at h
theorem f1z {a:Nat} {l:List PG} {r:Option Rs} {K:Rs→Option Rs} {x:Rs} (h:onA a r (gg l (cK l λp=>K (a,p)))=some x):∃q,r=some q∧K q=some x:=by
 unfold onA at h;split at h
 ·
  split at h
  ·rename_i e; rw[mH e]; exact⟨_,rfl,jZ (K:=λp=>K (a,p)) h⟩
  ·simp at h
 ·simp at h
theorem f0x {a b:Nat} {l m:List PG} {r:Option Rs} {K:Rs→Option Rs} {x:Rs} (h:onB a b r (gg l (cK l λp=>K (a,p))) (gg m (cK m λp=>K (b,p)))=some x):∃q,r=some q∧K q=some x:=by
 unfold onB at h;split at h
 ·
  split at h
  ·rename_i e; rw[mH e]; exact⟨_,rfl,jZ (K:=λp=>K (a,p)) h⟩
  ·
   split at h
   ·rename_i e; rw[mH e]; exact⟨_,rfl,jZ (K:=λp=>K (b,p)) h⟩
   ·simp at h
 ·simp at h
theorem f1d {a b c:Nat} {l m o:List PG} {r:Option Rs} {K:Rs→Option Rs} {x:Rs} (h:onC a b c r (gg l (cK l λp=>K (a,p))) (gg m (cK m λp=>K (b,p))) (gg o (cK o λp=>K (c,p)))=some x):∃q,r=some q∧K q=some x:=by
 unfold onC at h;split at h
 ·
  split at h
  ·rename_i e; rw[mH e]; exact⟨_,rfl,jZ (K:=λp=>K (a,p)) h⟩
  ·
   split at h
   ·rename_i e; rw[mH e]; exact⟨_,rfl,jZ (K:=λp=>K (b,p)) h⟩
   ·
    split at h
    ·rename_i e; rw[mH e]; exact⟨_,rfl,jZ (K:=λp=>K (c,p)) h⟩
    ·simp at h
 ·simp at h
def mkF (ts us:List PG) (e:Fn' (Option Rs) ts):List DV→(List DV→Option Rs)→Option Rs:=λp K=>gg ts (mapG (λr=>on1 r (gg us (cK us K))) ts e) p
theorem c4B {P:Program} {c:CS} {ts us:List PG} {e:Fn' (Option Rs) ts} (h:∀ys n q,apG ts e ys=some (n,q)→eM P c (dvG ts ys) q):CEok P (c,mkF ts us e):=by
 intro p K r hr;have hr1:mkF ts us e p K=some r:=hr;unfold mkF at hr1;obtain⟨ys,rfl,hr2⟩:=jw hr1;rw[d2B]at hr2;obtain⟨n,q,h1,h2⟩:=f0I hr2;exact⟨q,h ys n q h1,h2⟩
def exK (K:Rs→Option Rs):List (Nat × List PG)→Option Rs→Option Rs
 | [],_=>none
 | [e],r=>onA e.1 r (gg e.2 (cK e.2 λp=>K (e.1,p)))
 | [e,f],r=>onB e.1 f.1 r (gg e.2 (cK e.2 λp=>K (e.1,p))) (gg f.2 (cK f.2 λp=>K (f.1,p)))
 | [e,f,g],r=>onC e.1 f.1 g.1 r (gg e.2 (cK e.2 λp=>K (e.1,p))) (gg f.2 (cK f.2 λp=>K (f.1,p))) (gg g.2 (cK g.2 λp=>K (g.1,p)))
 | _,_=>none
theorem f1t {K:Rs→Option Rs} {xs:List (Nat × List PG)} {r:Option Rs} {x:Rs} (h:exK K xs r=some x):∃q,r=some q∧K q=some x:=by
 unfold exK at h;split at h
 ·simp at h
 ·exact f1z h
 ·exact f0x h
 ·exact f1d h
 ·simp at h
def mkM (ts:List PG) (xs:List (Nat × List PG)) (l:Fn' (Option Rs) ts):List DV→(Rs→Option Rs)→Option Rs:=λp K=>gg ts (mapG (λr=>exK K xs r) ts l) p
theorem e6E {P:Program} {hi:Hi} {bod:Bod} {nt nb b:Nat} {ts:List PG} {xs:List (Nat × List PG)} {l:Fn' (Option Rs) ts}
  {ls:LS} {body:Code} (h1:bT hi.ls b=some ls) (h2:bod.lp b=some body) (h:∀ys q,apG ts l ys=some q→h7t P nt nb ls body (dvG ts ys) q) (h0:memN b hi.js=false:=by rfl):LEok P hi bod nt nb (b,mkM ts xs l):=by
 refine⟨λ_=>?_,λh3=>absurd (h0.symm.trans h3) (by simp)⟩
 intro ls' body' hl hb p K r hr;have hl:bT hi.ls b=some ls':=hl;have hb:bod.lp b=some body':=hb;rw[h1]at hl;rw[h2]at hb;simp only[mB]at hl hb;subst hl; subst hb;have hr1:mkM ts xs l p K=some r:=hr;unfold mkM at hr1;obtain⟨ys,rfl,hr2⟩:=jw hr1;rw[d2B]at hr2;obtain⟨q,h3,h4⟩:=f1t hr2;exact⟨q,h ys q h3,h4⟩
theorem e6k {ts:List PG} {R:(List DV→Option Rs)→List DV→Option Rs} {r:Fn' (Option Rs) ts→Fn' (Option Rs) ts} {l:Nat→Fn' (Option Rs) ts} (h0:l 0=conG none ts) (hs:∀n,l (n+1)=r (l n))
  (hr:∀A ys,R A (dvG ts ys)=apG ts (r (cK ts A)) ys):∀n ys,iter R n (dvG ts ys)=apG ts (l n) ys
 | 0,ys=>by rw[h0,e2u]; rfl
 | n+1,ys=>by
  have e:cK ts (iter R n)=l n:=e1P λys=>(e3H ts (iter R n) ys).trans (e6k h0 hs hr n ys)
  show R (iter R n) (dvG ts ys)=_;rw[hr,e,hs]
def lpG {ts:List PG} (r:Fn' (Option Rs) ts→Fn' (Option Rs) ts):Nat→Fn' (Option Rs) ts
 | 0=>conG none ts
 | n+1=>r (lpG r n)
section
variable {P:Program} {cx:Cx} {hi:Hi} {l:List CE} {t:List LE}
theorem fnG (hti:TIok P cx) (hmix:P.follows .mixedOrders=true) (hct:AllP (CEok P) l) (hcs:AllP (λe=>dM l e.2.id=some e.2) hi.cs) {cs:CS} {fn:Func} (hf:Fn P cs.fn fn (cr fn))
  (hone:cs.one=Nat.beq fn.results.size 1) (hrl:cs.r.length=fn.results.size) (hlt:AllP (LEok P hi (bn fn) fn.ntmps cs.i.bx.length) t) {ts us:List PG} {e:Fn' (Option Rs) ts}
  (hk:∀ys:TupG ts,den cx hi (ctL l) (ltL t) fn (cr fn) cs.i cs.r cs.ob (dvG ts ys)=apG ts e ys):CEok P (cs,mkF ts us e) :=
 c4B λys _ _ h=>f1r hti hmix hct hcs hf hone hrl hlt ((hk ys).trans h)
theorem h8q (hti:TIok P cx) (hmix:P.follows .mixedOrders=true) (hct:AllP (CEok P) l) (hcs:AllP (λe=>dM l e.2.id=some e.2) hi.cs) {f:FuncId} {fn:Func} (hf:Fn P f fn (cr fn)) {nb b:Nat}
  (hlt:AllP (LEok P hi (bn fn) fn.ntmps nb) t) {ls:LS} {body:Code} (h1:bT hi.ls b=some ls) (h2:(bn fn).lp b=some body) {ts:List PG} {xs:List (Nat × List PG)} {r:Fn' (Option Rs) ts→Fn' (Option Rs) ts} {n:Nat}
  (hr:∀A ys,round cx hi (ctL l) (ltL t) fn.ntmps nb b ls body A (dvG ts ys)=apG ts (r (cK ts A)) ys) (h3:memN b hi.js=false:=by rfl):LEok P hi (bn fn) fn.ntmps nb (b,mkM ts xs (lpG r n)) :=
 e6E h1 h2 (λys _ h=>e7O hti hmix hct hcs hf hlt h1 h2 ((e6k (r:=r) rfl (λ_=>rfl) hr n ys).trans h)) h3
end
def gd {X:Type} (b:Bool) (a:Option X):Option X:=match b with
 | true=>a
 | false=>none
def gf {X:Type} (b:Bool) (a:Option X):Option X:=match b with
 | true=>none
 | false=>a
def bi {X:Type} (b:Bool) (a c:X):X:=match b with
 | true=>a
 | false=>c
@[simp] theorem aH {X:Type} (a:Option X):gd true a=a:=rfl
@[simp] theorem g7N {X:Type} (a:Option X):gd false a=none:=rfl
@[simp] theorem g7O {X:Type} (a:Option X):gf true a=none:=rfl
@[simp] theorem iy {X:Type} (a:Option X):gf false a=a:=rfl
@[simp] theorem ai {X:Type} (a b:X):bi true a b=a:=rfl
@[simp] theorem ah {X:Type} (a b:X):bi false a b=b:=rfl
theorem cP {X:Type} (b:Bool) (a c:X):bi b a c=if b=true then a else c:=by cases b<;>rfl
theorem gS {X:Type}:∀(l:List PG) (k:Fn' (Option X) l) (ys:TupG l),gg l k (dvG l ys)=apG l k ys
 | [],_,_=>rfl
 | g::r,k,ys=>by
  simp only[dvG,apG];exact (g.g.un_dv _ _ _).trans (gS r _ _)
abbrev tI:Ty:=.int .i64
abbrev tW:Ty:=.int .u32
abbrev tU:Ty:=.int .u8
abbrev tB:Ty:=.bool
def gI:Gp Int:=gD tI
@[reducible] noncomputable def pI:PG:=⟨Int,gI⟩
def gW:Gp Int:=gD tW
@[reducible] noncomputable def pW:PG:=⟨Int,gW⟩
def gB:Gp Bool:=gD tB
@[reducible] noncomputable def pB:PG:=⟨Bool,gB⟩
@[reducible] noncomputable def pD (t:Ty):PG:=⟨Den t,gD t⟩
abbrev len {α:Type} (l:List α):Int:=((List.length l:Nat):Int)
namespace w
abbrev i64 (x:Int):Int:=IntKind.i64.wrap x
abbrev i32 (x:Int):Int:=IntKind.i32.wrap x
abbrev u64 (x:Int):Int:=IntKind.u64.wrap x
abbrev u32 (x:Int):Int:=IntKind.u32.wrap x
abbrev i16 (x:Int):Int:=IntKind.i16.wrap x
abbrev i8 (x:Int):Int:=IntKind.i8.wrap x
abbrev u16 (x:Int):Int:=IntKind.u16.wrap x
abbrev u8 (x:Int):Int:=IntKind.u8.wrap x
end w
abbrev rm {α:Type} (a b:List α) (n:Nat):Bool:=decide ((a.length+b.length)*n≤dQ)
abbrev sb (l h:Int):Bool:=decide (0≤l∧l≤h)
def h8H:Ty→List LK
 | .unit=>[]
 | .pair a b=>h8H a++h8H b
 | .int k=>[.d (.int k)]
 | .bool=>[.d .bool]
 | .str=>[.d .str]
 | .ar n a=>[.d (.ar n a)]
 | .sl a=>[.d (.sl a)]
 | .nl=>[.d .nl]
def h8F:(t:Ty)→Den t→List DV
 | .unit,_=>[]
 | .pair a b,v=>h8F a v.1++h8F b v.2
 | .int k,v=>[⟨.int k,v⟩]
 | .bool,v=>[⟨.bool,v⟩]
 | .str,v=>[⟨.str,v⟩]
 | .ar n a,v=>[⟨.ar n a,v⟩]
 | .sl a,v=>[⟨.sl a,v⟩]
 | .nl,v=>[⟨.nl,v⟩]
section
variable {β:Nat→EI} {F:Nat→Prop} {w:World}
theorem e9h {ks ks':List LK} {p q:List DV} {es fs:List EI} {c d:List Value} (h:RepKs β F w ks p es c) (h':RepKs β F w ks' q fs d):RepKs β F w (ks++ks') (p++q) (es++fs) (c++d):=by
 induction h with
 | nil=>exact h'
 | cons hk _ ih =>
  rw[oC,mQ,mQ,mQ];exact .cons hk ih
theorem d1K {t:Ty} {v:Den t} {cs:List Value} (h:RepD F w t v cs):RepKs β F w [.d t] [⟨t,v⟩] [] cs:=by
 have:=RepKs.cons (β:=β) (p:=[⟨t,v⟩]) (es:=[]) (.d h) .nil
 simpa using this
theorem c0k:∀{t:Ty} {v:Den t} {cs:List Value},RepD F w t v cs→RepKs β F w (h8H t) (h8F t v) [] cs:=by
 intro t;induction t with
 | unit=>intro v cs h; exact e6K h
 | pair a b iha ihb =>
  intro v cs h;rw[RepD]at h;obtain⟨c,d,rfl,h1,h2⟩:=h;exact e9h (iha h1) (ihb h2)
 | int k=>intro v cs h; exact d1K h
 | bool=>intro v cs h; exact d1K h
 | str=>intro v cs h; exact d1K h
 | ar n a=>intro v cs h; exact d1K h
 | sl a=>intro v cs h; exact d1K h
 | nl=>intro v cs h; exact d1K h
end
theorem e3F {P:Program} {c:CS} {ts us:List PG} {e:Fn' (Option Rs) ts} (h:CEok P (c,mkF ts us e)) {ys:TupG ts} {zs:TupG us} (he:apG ts e ys=some (0,dvG us zs)):eM P c (dvG ts ys) (dvG us zs):=by
 obtain⟨q,h1,h2⟩:=h (dvG ts ys) (λq=>some (0,q)) (0,dvG us zs) (by
  show mkF ts us e (dvG ts ys) _=_;unfold mkF;rw[gS,d2B,he,au,gS,e3H])
 simp only[mB,mb,true_and]at h2;rw[← h2]; exact h1
end
end Go.Proofs.Zz
