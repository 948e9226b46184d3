import Derived.Orders
import Derived.Laws.NewBlocks
import Derived.Below
set_option linter.unusedSimpArgs false
set_option linter.unusedVariables false
namespace Go.Proofs.Zz
set_option linter.defProp false
def pO:=@Array.ext'
def ng:=@Array.getD_eq_getD_getElem?
def oY:=@Array.getElem?_eq_getElem
def nM:=@Array.getElem?_eq_some_iff
def my:=@Array.getElem?_toList
def oG:=@Array.length_toList
def qF:=@Array.toList_inj
def pp:=@Array.toList_setIfInBounds
def qU:=@BitVec.toNat_and
def mE:=@Bool.and_eq_true
def qA:=@Bool.and_false
def oX:=@Bool.and_true
def md:=@Bool.eq_iff_iff
def mZ:=@Bool.false_and
def mN:=@Bool.false_eq_true
def nH:=@Bool.false_or
def mu:=@Bool.not_eq_true'
def mn:=@Bool.not_false
def mR:=@Bool.not_true
def mw:=@Bool.or_eq_false_iff
def nq:=@Bool.or_eq_true
def oe:=@Bool.or_false
def mO:=@Bool.true_and
def pM:=@Bool.true_eq_false
def oE:=@Bool.true_or
def nu:=@Classical.byContradiction
def pS:=@Classical.not_not
def qG:=@Int.ediv_le_self
def qK:=@Int.ediv_nonneg
def qD:=@Int.emod_eq_of_lt
def oW:=@Int.emod_lt_of_pos
def ol:=@Int.emod_nonneg
def ov:=@Int.fdiv_eq_ediv_of_nonneg
def mo:=@Int.le_refl
def pE:=@Int.le_trans
def qR:=@Int.mul_le_mul_of_nonneg_left
def pU:=@Int.mul_le_mul_of_nonneg_right
def qT:=@Int.mul_nonneg
def qJ:=@Int.natCast_mul
def oB:=@Int.natCast_nonneg
def nD:=@Int.natCast_zero
def ou:=@Int.tdiv_eq_ediv_of_nonneg
def oQ:=@Int.tmod_eq_emod_of_nonneg
def mF:=@Int.toNat_natCast
def mt:=@List.all_cons
def mz:=@List.all_eq_true
def nT:=@List.all_nil
def ny:=@List.any_cons
def pR:=@List.any_eq_false
def pY:=@List.any_eq_true
def mQ:=@List.append_assoc
def pq:=@List.append_cancel_left_eq
def nr:=@List.append_inj
def mJ:=@List.append_nil
def mY:=@List.cons.inj
def mK:=@List.cons.injEq
def oC:=@List.cons_append
def nd:=@List.countP_append
def nV:=@List.countP_cons
def oI:=@List.countP_eq_zero
def oN:=@List.drop_drop
def mS:=@List.drop_eq_getElem_cons
def pJ:=@List.drop_left'
def mi:=@List.drop_length
def nJ:=@List.drop_of_length_le
def mX:=@List.drop_zero
def pC:=@List.eq_of_mem_replicate
def pm:=@List.filterMap_cons
def oa:=@List.filterMap_cons_none
def oc:=@List.filterMap_cons_some
def oV:=@List.filter_append
def pL:=@List.filter_cons_of_neg
def od:=@List.filter_cons_of_pos
def qS:=@List.filter_nil
def oP:=@List.flatMap_cons
def qH:=@List.flatMap_nil
def ot:=@List.foldl_append
def nh:=@List.foldl_cons
def mA:=@List.getD_eq_getElem?_getD
def mW:=@List.getElem?_append_left
def mU:=@List.getElem?_append_right
def pK:=@List.getElem?_drop
def mC:=@List.getElem?_eq_getElem
def mg:=@List.getElem?_eq_none
def mL:=@List.getElem?_eq_some_iff
def nW:=@List.getElem?_map
def pi:=@List.getElem?_range
def oO:=@List.getElem?_set
def pb:=@List.getElem?_set_ne
def oF:=@List.getElem?_set_self
def pG:=@List.getElem?_take
def px:=@List.getElem_idxOf
def oK:=@List.getElem_mem
def nC:=@List.getElem_of_mem
def qC:=@List.getElem_take
def oq:=@List.idxOf_lt_length_of_mem
def mD:=@List.length_append
def mP:=@List.length_cons
def mq:=@List.length_drop
def mT:=@List.length_eq_zero_iff
def pT:=@List.length_filter_le
def mr:=@List.length_map
def ma:=@List.length_nil
def oH:=@List.length_pos_iff
def oi:=@List.length_replicate
def mp:=@List.length_set
def oU:=@List.length_singleton
def nB:=@List.length_take
def qN:=@List.mapM_cons
def mv:=@List.map_append
def nN:=@List.map_cons
def pw:=@List.map_nil
def mM:=@List.mem_append
def nc:=@List.mem_append_left
def mV:=@List.mem_cons
def nG:=@List.mem_cons_of_mem
def nj:=@List.mem_cons_self
def oA:=@List.mem_filter
def pv:=@List.mem_filterMap
def nK:=@List.mem_map
def nL:=@List.mem_of_getElem?
def oZ:=@List.mem_of_mem_drop
def nI:=@List.mem_or_eq_of_mem_set
def nZ:=@List.mem_range
def qL:=@List.mem_range'
def pX:=@List.mem_reverse
def mI:=@List.mem_singleton
def mf:=@List.nil_append
def na:=@List.pairwise_append
def oS:=@List.pairwise_cons
def nY:=@List.pairwise_iff_getElem
def pf:=@List.prefix_append_right_inj
def nR:=@List.range'_succ
def qE:=@List.range'_zero
def pd:=@List.range_eq_range'
def om:=@List.range_succ
def pr:=@List.set_cons_succ
def pu:=@List.set_cons_zero
def oj:=@List.singleton_append
def pQ:=@List.take_add_one
def mh:=@List.take_append_drop
def pV:=@List.take_append_of_le_length
def pF:=@List.take_left'
def nP:=@List.take_of_length_le
def qM:=@List.take_take
def pz:=@List.take_zero
def nQ:=@Nat.add_assoc
def oM:=@Nat.add_comm
def qW:=@Nat.add_le_add
def pP:=@Nat.add_mul
def ni:=@Nat.add_sub_cancel_left
def nS:=@Nat.add_zero
def qV:=@Nat.and_le_right
def nk:=@Nat.beq_eq
def pA:=@Nat.beq_refl
def qB:=@Nat.ble_eq
def mH:=@Nat.eq_of_beq_eq_true
def pN:=@Nat.le_max_left
def py:=@Nat.le_of_lt
def oR:=@Nat.le_of_not_lt
def mG:=@Nat.le_refl
def nO:=@Nat.le_trans
def pj:=@Nat.le_zero
def oJ:=@Nat.lt_of_lt_of_le
def nw:=@Nat.lt_trichotomy
def pg:=@Nat.min_eq_left
def qQ:=@Nat.mul_add
def oz:=@Nat.mul_le_mul
def nv:=@Nat.mul_le_mul_left
def oL:=@Nat.mul_le_mul_right
def qO:=@Nat.mul_one
def nF:=@Nat.mul_succ
def oT:=@Nat.sub_self
def oD:=@Nat.sub_zero
def og:=@Nat.succ_mul
def ml:=@Nat.zero_add
def nU:=@Nat.zero_le
def nm:=@Ne.symm
def mj:=@Option.getD_some
def pH:=@Option.isSome_none
def mB:=@Option.some.injEq
def mb:=@Prod.mk.injEq
open Go
inductive Ty where
 | int (k:IntKind) | bool | str | unit | pair (a b:Ty) | ar (n:Nat) (a:Ty) | sl (a:Ty) | nl
 deriving DecidableEq
@[reducible] def Den:Ty→Type
 | .int _=>Int
 | .bool=>Bool
 | .str=>ByteArray
 | .unit=>Unit
 | .pair a b=>Den a × Den b
 | .ar _ a=>List (Den a)
 | .sl a=>List (Den a)
 | .nl=>Unit
def cq:(t:Ty)→Den t
 | .int _=>(0:Int)
 | .bool=>false
 | .str=>ByteArray.empty
 | .unit=>()
 | .pair a b=>(cq a,cq b)
 | .ar n a=>List.replicate n (cq a)
 | .sl _=>[]
 | .nl=>()
def kEq:IntKind→IntKind→Bool
 | .i8,.i8=>true
 | .i16,.i16=>true
 | .i32,.i32=>true
 | .i64,.i64=>true
 | .u8,.u8=>true
 | .u16,.u16=>true
 | .u32,.u32=>true
 | .u64,.u64=>true
 | _,_=>false
def tyEq:Ty→Ty→Bool
 | .int k,.int j=>kEq k j
 | .bool,.bool=>true
 | .str,.str=>true
 | .unit,.unit=>true
 | .pair a b,.pair c d=>match tyEq a c with
  | true=>tyEq b d
  | false=>false
 | .ar n a,.ar m b=>match Nat.beq n m with
  | true=>tyEq a b
  | false=>false
 | .sl a,.sl b=>tyEq a b
 | .nl,.nl=>true
 | _,_=>false
theorem e4H {k j:IntKind} (h:kEq k j=true):k=j:=by cases k<;>cases j<;>first | rfl | simp[kEq]at h
theorem e5b (k:IntKind):kEq k k=true:=by cases k<;>rfl
theorem c7M:∀{t u:Ty},tyEq t u=true→t=u:=by
 intro t;induction t with
 | int k=>intro u h; cases u<;>simp only[tyEq,mN]at h; rw[e4H h]
 | pair a b iha ihb =>
  intro u h;cases u<;>simp only[tyEq,mN]at h
  split at h
  ·rename_i h1; rw[iha h1,ihb h]
  ·simp at h
 | ar n a ih =>
  intro u h;cases u<;>simp only[tyEq,mN]at h
  split at h
  ·rename_i h1; rw[mH h1,ih h]
  ·simp at h
 | sl a ih=>intro u h; cases u<;>simp only[tyEq,mN]at h; rw[ih h]
 | _=>intro u h; cases u<;>first | rfl | simp[tyEq]at h
theorem d6I:∀t:Ty,tyEq t t=true:=by
 intro t;induction t with
 | int k=>exact e5b k
 | pair a b iha ihb=>simp only[tyEq,iha,ihb]
 | ar n a ih=>simp only[tyEq,pA,ih]
 | sl a ih=>simp only[tyEq,ih]
 | _=>rfl
@[simp] theorem g7H {t u:Ty}:tyEq t u=true↔t=u:=⟨c7M,λh=>by rw[h]; exact d6I u⟩
def tyc {α:Type} (t u:Ty) (k:t=u→α) (e:α):α :=
 match h:tyEq t u with
 | true=>k (c7M h)
 | false=>e
theorem b4f {α:Type} {t:Ty} {k:t=t→α} {e:α}:tyc t t k e=k rfl:=by
 unfold tyc;split
 ·rfl
 ·rename_i h; rw[d6I]at h; simp at h
theorem e3N {α:Type} {t u:Ty} {k:t=u→α} {e:α}:(∃h:t=u,tyc t u k e=k h)∨tyc t u k e=e:=by
 unfold tyc;split
 ·rename_i h; exact .inl ⟨c7M h,rfl⟩
 ·exact .inr rfl
def Ty.sz:Ty→Nat
 | .int _ | .bool | .str | .sl _ | .nl=>1
 | .unit=>0
 | .pair a b=>a.sz+b.sz
 | .ar n a=>n*a.sz
structure Cp where
 k:Nat
 l:Nat
 y:List Nat
inductive L where
 | any (n:Nat)
 | dat (t:Ty) (v:Den t)
 | nn (t:Ty) (v:List (Den t))
 | nils
 | nl
 | cst (k:Nat)
 | oh (k:Nat) (n i:Int) (sz:Nat) (y:List Nat)
 | own (k:Nat)
 | suf (k off:Nat)
 | mid (k off len:Nat)
 | sla (k l m off len:Nat)
 | ptr (k l:Nat) (y:List Nat)
 | pta (k l n i:Nat)
 | pte (k i l:Nat) (y:List Nat)
 | rf (t:Ty) (v:Den t) (l:Nat)
 | nilp
 | fn (f:Nat) (caps:List Cp)
inductive V where
 | one (l:L)
 | agg (ls:List L)
 | tup (vs:List V)
inductive Obj where
 | dead
 | box (ls:List L)
 | arr (t:Ty) (xs:List (Den t)) (ro:Bool)
structure DV where
 t:Ty
 v:Den t
inductive Loc where
 | tmp (t:Nat)
 | lf (k l:Nat)
 | ob (k:Nat)
inductive Cn where
 | v (x:V)
 | l (x:L)
 | o (x:Obj)
structure St where
 tm:List V
 ob:List (Nat × Obj)
 nx:Nat
def bad:V:=.one (.any 1)
def aL:List (Nat × Obj)→Nat→Obj
 | [],_=>.dead
 | p::r,k=>match Nat.beq p.1 k with
  | true=>p.2
  | false=>aL r k
def putO:List (Nat × Obj)→Nat→Obj→List (Nat × Obj)
 | [],k,o=>[(k,o)]
 | p::r,k,o=>match Nat.beq p.1 k with
  | true=>(k,o)::r
  | false=>p::putO r k o
def nthD {α:Type} (d:α):List α→Nat→α
 | [],_=>d
 | x::_,0=>x
 | _::r,n+1=>nthD d r n
def nthO {α:Type}:List α→Nat→Option α
 | [],_=>none
 | x::_,0=>some x
 | _::r,n+1=>nthO r n
def setN {α:Type}:List α→Nat→α→List α
 | [],_,_=>[]
 | _::r,0,y=>y::r
 | x::r,n+1,y=>x::setN r n y
def look (s:St):Loc→Cn
 | .tmp t=>.v (nthD bad s.tm t)
 | .lf k l=>match aL s.ob k with
  | .box ls=>match nthO ls l with
   | some x=>.l x
   | none=>.o .dead
  | o=>.o o
 | .ob k=>.o (aL s.ob k)
def asg (s:St):Loc→Cn→St
 | .tmp t,.v x=>{s with tm:=setN s.tm t x}
 | .lf k l,.l x=>match aL s.ob k with
  | .box ls=>{s with ob:=putO s.ob k (.box (setN ls l x))}
  | _=>s
 | .ob k,.o x=>{s with ob:=putO s.ob k x}
 | _,_=>s
inductive Rd (α:Type) where
 | ret (a:α)
 | fail
 | get (l:Loc) (k:Cn→Rd α)
 | ite (b:Bool) (t e:Rd α)
 | call (f:Nat) (pay:List DV) (k:List DV→Rd α)
abbrev Rs:=Nat × List DV
abbrev CT:=Nat→List DV→(List DV→Option Rs)→Option Rs
def iv (ct:CT) {α:Type}:Rd α→St→List Loc→(α→List Loc→Option Rs)→Option Rs
 | .ret a,_,ls,k=>k a ls
 | .fail,_,_,_=>none
 | .get l f,s,ls,k=>iv ct (f (look s l)) s (l::ls) k
 | .ite b t e,s,ls,k=>match b with
  | true=>iv ct t s ls k
  | false=>iv ct e s ls k
 | .call f p g,s,ls,k=>ct f p λr=>iv ct (g r) s ls k
def Rd.bind {α β:Type}:Rd α→(α→Rd β)→Rd β
 | .ret a,f=>f a
 | .fail,_=>.fail
 | .get l k,f=>.get l λc=>(k c).bind f
 | .ite b t e,f=>.ite b (t.bind f) (e.bind f)
 | .call g p k,f=>.call g p λr=>(k r).bind f
abbrev Wr:=List (Loc × Cn)
def apply:Wr→St→St
 | [],s=>s
 | p::r,s=>apply r (asg s p.1 p.2)
inductive TD where
 | int (k:IntKind) | bool | str | struct | array | slice | ptr | func | other
inductive ZK where
 | d (t:Ty) | nils | nilp | any (n:Nat)
def ZK.l:ZK→L
 | .d t=>.dat t (cq t)
 | .nils=>.nils
 | .nilp=>.nilp
 | .any n=>.any n
structure TI where
 td:TD:=.other
 lay:List Nat:=[]
 fl:List (Nat × List Nat):=[]
 fg:List Bool:=[]
 n:Nat:=0
 ety:Ty:=.unit
 eby:Nat:=0
 zk:List ZK:=[]
 eqt:Option (List Ty):=none
def zs:List ZK→List L
 | []=>[]
 | k::r=>k.l::zs r
def TI.agg (t:TI):Bool:=match t.td with
 | .struct | .array=>true
 | _=>false
inductive LK where
 | any (n:Nat)
 | d (t:Ty)
 | o (t:Ty)
 | r (t:Ty)
 | p (j l:Nat) (y:List Nat)
 | f (f:Nat) (caps:List Cp)
 | np
 | cst (j:Nat)
 | oh (j sz:Nat) (y:List Nat)
 | hd (j l:Nat)
 | w (t:Ty)
inductive AK where
 | no
 | one (k:LK)
 | agg (ks:List LK)
structure Sg where
 av:List AK
 bx:List (List LK)
structure CS where
 id:Nat
 fn:Nat
 i:Sg
 r:List AK
 one:Bool
 ob:List (List LK)
structure LS where
 h:Sg
 x:List (Nat × Sg)
structure Hi where
 cs:List ((Nat × Nat) × CS)
 ls:List (Nat × LS)
 sp:List Nat
 js:List Nat
 gx:List ((Nat × Nat) × List (Nat × Nat))
structure Cx where
 ti:Nat→Option TI
def Cx.t {α:Type} (cx:Cx) (t:Nat) (k:TI→Rd α):Rd α :=
 match cx.ti t with
 | some i=>k i
 | none=>.fail
def unpk:(t:Ty)→Den t→List L
 | .unit,_=>[]
 | .pair a b,v=>unpk a v.1++unpk b v.2
 | .int k,v=>[.dat (.int k) v]
 | .bool,v=>[.dat .bool v]
 | .str,v=>[.dat .str v]
 | .ar n a,v=>[.dat (.ar n a) v]
 | .sl a,v=>[.dat (.sl a) v]
 | .nl,v=>[.dat .nl v]
def L.size:L→Nat
 | .any n=>n
 | .dat t _=>t.sz
 | _=>1
def ba:List L→List Nat
 | []=>[]
 | l::r=>l.size::ba r
def dz:List Nat→List Nat→Bool
 | [],[]=>true
 | a::r,b::q=>match Nat.beq a b with
  | true=>dz r q
  | false=>false
 | _,_=>false
def h7a:Ty→Bool
 | .int _ | .bool=>true
 | _=>false
def cast? {α:Type} (t u:Ty) (v:Den t) (k:Den u→Rd α):Rd α :=
 tyc t u (λh=>k (h ▸ v)) .fail
def castL? {α:Type} (t u:Ty) (v:List (Den t)) (k:List (Den u)→Rd α):Rd α :=
 tyc t u (λh=>k (h ▸ v)) .fail
def slD {α:Type} (a:Ty) (l:L) (bw:List Nat) (k:List (Den a)→List Nat→Rd α):Rd α :=
 match l with
 | .dat (.sl t) v=>castL? t a v λxs=>k xs bw
 | .nn t v=>castL? t a v λxs=>k xs bw
 | .nils=>k [] bw
 | .own n=>.get (.ob n) fun
  | .o (.arr t xs _)=>castL? t a xs λxs=>k xs (n::bw)
  | _=>.fail
 | .suf n off=>.get (.ob n) fun
  | .o (.arr t xs _)=>castL? t a xs λxs=>k (xs.drop off) (n::bw)
  | _=>.fail
 | .mid n off len=>.get (.ob n) fun
  | .o (.arr t xs _)=>castL? t a xs λxs=>k ((xs.drop off).take len) (n::bw)
  | _=>.fail
 | .sla n l m off len=>.get (.lf n l) fun
  | .l (.dat (.ar m' t) v)=>match Nat.beq m m'&&h7a t with
   | true=>castL? t a v λxs=>k ((xs.drop off).take len) (n::bw)
   | false=>.fail
  | _=>.fail
 | _=>.fail
def pk {α:Type}:(t:Ty)→List L→List Nat→(Den t→List L→List Nat→Rd α)→Rd α
 | .unit,ls,bw,k=>k () ls bw
 | .pair a b,ls,bw,k=>pk a ls bw λx r bw=>pk b r bw λy q bw=>k (x,y) q bw
 | .sl a,l::r,bw,k=>slD a l bw λxs bw=>k xs r bw
 | .int i,.dat t v::r,bw,k=>cast? t (.int i) v λx=>k x r bw
 | .bool,.dat t v::r,bw,k=>cast? t .bool v λx=>k x r bw
 | .str,.dat t v::r,bw,k=>cast? t .str v λx=>k x r bw
 | .ar n a,.dat t v::r,bw,k=>cast? t (.ar n a) v λx=>k x r bw
 | .nl,.dat t v::r,bw,k=>cast? t .nl v λx=>k x r bw
 | .nl,.nils::r,bw,k=>k () r bw
 | _,_,_,_=>.fail
structure M where
 bx:List (Option Nat)
 pay:List DV
 tk:List Nat
 bw:List Nat
def memN (k:Nat):List Nat→Bool
 | []=>false
 | x::r=>match Nat.beq x k with
  | true=>true
  | false=>memN k r
def h8d (m:M) (j k:Nat):Option M :=
 match nthO m.bx j with
 | some (some k')=>match Nat.beq k' k with
  | true=>some m
  | false=>none
 | some none=>some {m with bx:=setN m.bx j (some k)}
 | none=>none
def h7m (m:M):List Cp→List Cp→Option M
 | [],[]=>some m
 | c::r,c'::q=>match Nat.beq c.l c'.l&&dz c.y c'.y with
  | true=>match h8d m c.k c'.k with
   | some m=>h7m m r q
   | none=>none
  | false=>none
 | _,_=>none
def mtO {α:Type} (a:Ty) (l:L) (m:M) (k:M→Rd α):Rd α :=
 let take (n:Nat) (f:List (Den a)→List (Den a)):Rd α :=
  match memN n m.tk with
  | true=>.fail
  | false=>.get (.ob n) fun
   | .o (.arr t xs false)=>castL? t a xs λxs=>k {m with pay:=⟨.sl a,f xs⟩::m.pay,tk:=n::m.tk}
   | _=>.fail
 match l with
 | .own n=>take n λxs=>xs
 | .suf n off=>take n λxs=>xs.drop off
 | .mid n off len=>take n λxs=>(xs.drop off).take len
 | .nils=>k {m with pay:=⟨.sl a,([]:List (Den a))⟩::m.pay}
 | _=>.fail
def rdLs {α:Type} (k:Nat):Nat→Nat→(List L→Rd α)→Rd α
 | 0,_,f=>f []
 | n+1,l,f=>.get (.lf k l) fun
  | .l x=>rdLs k n (l+1) λr=>f (x::r)
  | _=>.fail
def dw {α:Type}:Nat→List α→List α
 | 0,_=>[]
 | _+1,[]=>[]
 | n+1,x::r=>x::dw n r
def et {α:Type}:Nat→List α→List α
 | 0,l=>l
 | _+1,[]=>[]
 | n+1,_::r=>et n r
def mtR {α:Type} (t:Ty) (l:L) (m:M) (k:M→Rd α):Rd α :=
 let n:=(ba (unpk t (cq t))).length
 let out (ls:List L) (bw:List Nat):Rd α:=pk t ls bw λv r bw=>match r with
  | []=>k {m with pay:=⟨t,v⟩::m.pay,bw:=bw}
  | _=>.fail
 match l with
 | .ptr b l _=>match Nat.beq n 0 with
  | true=>.fail
  | false=>rdLs b n l λls=>out ls (b::m.bw)
 | .pte b i l _=>.get (.ob b) fun
  | .o (.arr a xs _)=>out (dw n (et l (unpk a (xs.getD i (cq a))))) (b::m.bw)
  | _=>.fail
 | .rf a v l=>out (dw n (et l (unpk a v))) m.bw
 | _=>.fail
def mtLs {α:Type}:List LK→List L→M→(M→Rd α)→Rd α
 | [],[],m,k=>k m
 | .any n::ks,l::ls,m,k=>match Nat.beq l.size n with
  | true=>mtLs ks ls m k
  | false=>.fail
 | .d t::ks,ls,m,k=>pk t ls m.bw λv r bw=>mtLs ks r {m with pay:=⟨t,v⟩::m.pay,bw:=bw} k
 | .o a::ks,l::ls,m,k=>mtO a l m λm=>mtLs ks ls m k
 | .r t::ks,l::ls,m,k=>mtR t l m λm=>mtLs ks ls m k
 | .p j l' y'::ks,.ptr n l y::ls,m,k=>match Nat.beq l l'&&dz y y' with
  | true=>match h8d m j n with
   | some m=>mtLs ks ls m k
   | none=>.fail
  | false=>.fail
 | .f g cs::ks,.fn g' cs'::ls,m,k=>match Nat.beq g g' with
  | true=>match h7m m cs cs' with
   | some m=>mtLs ks ls m k
   | none=>.fail
  | false=>.fail
 | .np::ks,.nilp::ls,m,k=>mtLs ks ls m k
 | .oh j sz y::ks,.oh q n i sz' y'::ls,m,k=>match Nat.beq sz sz'&&dz y y' with
  | true=>match h8d m j q with
   | some m=>mtLs ks ls {m with pay:=⟨.int .i64,i⟩::⟨.int .i64,n⟩::m.pay} k
   | none=>.fail
  | false=>.fail
 | .cst j::ks,.cst n::ls,m,k=>match h8d m j n with
  | some m=>mtLs ks ls m k
  | none=>.fail
 | _,_,_,_=>.fail
def mtAs {α:Type}:List AK→List V→M→(M→Rd α)→Rd α
 | [],_,m,k=>k m
 | .no::as,_::vs,m,k=>mtAs as vs m k
 | .one (.any _)::as,.one _::vs,m,k=>mtAs as vs m k
 | .one (.hd j l)::as,.one (.own n)::vs,m,k=>match nthD none m.bx j with
  | some q=>.get (.lf q l) fun
   | .l (.own n')=>match Nat.beq n n' with
    | true=>mtAs as vs m k
    | false=>.fail
   | _=>.fail
  | none=>.fail
 | .one _::_,.one (.any _)::_,_,_=>.fail
 | .one x::as,.one l::vs,m,k=>mtLs [x] [l] m λm=>mtAs as vs m k
 | .agg xs::as,.agg ls::vs,m,k=>mtLs xs ls m λm=>mtAs as vs m k
 | _,_,_,_=>.fail
def mtBx {α:Type}:List (List LK)→Nat→M→(M→Rd α)→Rd α
 | [],_,m,k=>k m
 | ks::r,j,m,k=>match nthD none m.bx j with
  | some n=>.get (.ob n) fun
   | .o (.box ls)=>mtLs ks ls m λm=>mtBx r (j+1) m k
   | _=>.fail
  | none=>.fail
def h8g:Nat→List (Option Nat)
 | 0=>[]
 | n+1=>none::h8g n
def kG:List Nat→Bool
 | []=>true
 | x::r=>match memN x r with
  | true=>false
  | false=>kG r
def disj:List Nat→List Nat→Bool
 | [],_=>true
 | x::r,l=>match memN x l with
  | true=>false
  | false=>disj r l
def h8a:List (Option Nat)→Option (List Nat)
 | []=>some []
 | some x::r=>match h8a r with
  | some q=>some (x::q)
  | none=>none
 | none::_=>none
def h8o {α:Type} (pre:List (Option Nat)) (sg:Sg) (vs:List V) (k:List DV→List Nat→List Nat→List Nat→Rd α):Rd α :=
 mtAs sg.av vs {bx:=pre,pay:=[],tk:=[],bw:=[]} λm =>
 mtBx sg.bx 0 m λm =>
 match h8a m.bx with
 | some bs=>match kG bs&&disj m.tk m.bw&&disj bs m.bw with
  | true=>k m.pay.reverse bs m.tk m.bw
  | false=>.fail
 | none=>.fail
def mtSg {α:Type} (sg:Sg) (vs:List V) (k:List DV→List Nat→List Nat→List Nat→Rd α):Rd α:=h8o (h8g sg.bx.length) sg vs k
structure B where
 pay:List DV
 nx:Nat
 ob:List (Nat × Obj)
 nb:Nat
def blL (k:LK) (ren:Nat→Nat) (b:B):Option (List L × B) :=
 match k with
 | .any n=>some ([.any n],b)
 | .d t=>match b.pay with
  | ⟨u,v⟩::r=>tyc u t (λh=>some (unpk t (h ▸ v),{b with pay:=r})) none
  | []=>none
 | .o a=>match b.pay with
  | ⟨.sl u,xs⟩::r=>tyc u a (λh=>some ([.own b.nx],{b with pay:=r,nx:=b.nx+1,ob:=(b.nx,.arr a (h ▸ xs) false)::b.ob})) none
  | _=>none
 | .r t=>match b.pay with
  | ⟨u,v⟩::r=>tyc u t (λh=>some ([.rf t (h ▸ v) 0],{b with pay:=r})) none
  | []=>none
 | .p j l y=>match Nat.blt j b.nb with
  | true=>some ([.ptr (ren j) l y],b)
  | false=>none
 | .f g cs=>match cs.all λc=>Nat.blt c.k b.nb with
  | true=>some ([.fn g (cs.map λc=>⟨ren c.k,c.l,c.y⟩)],b)
  | false=>none
 | .np=>some ([.nilp],b)
 | .oh j sz y=>match Nat.blt j b.nb with
  | true=>match b.pay with
   | ⟨.int .i64,n⟩::⟨.int .i64,i⟩::r=>some ([.oh (ren j) n i sz y],{b with pay:=r})
   | _=>none
  | false=>none
 | .cst j=>match Nat.blt j b.nb with
  | true=>some ([.cst (ren j)],b)
  | false=>none
 | .hd _ _=>some ([.any 1],b)
 | .w _=>none
def blLs (ren:Nat→Nat):List LK→B→Option (List L × B)
 | [],b=>some ([],b)
 | k::r,b=>match blL k ren b with
  | some (l,b)=>match blLs ren r b with
   | some (q,b)=>some (l++q,b)
   | none=>none
  | none=>none
def blA (ren:Nat→Nat):AK→B→Option (V × B)
 | .no,b=>some (bad,b)
 | .one k,b=>match blL k ren b with
  | some ([l],b)=>some (.one l,b)
  | _=>none
 | .agg ks,b=>match blLs ren ks b with
  | some (ls,b)=>some (.agg ls,b)
  | none=>none
def blAs (ren:Nat→Nat):List AK→B→Option (List V × B)
 | [],b=>some ([],b)
 | a::r,b=>match blA ren a b with
  | some (v,b)=>match blAs ren r b with
   | some (q,b)=>some (v::q,b)
   | none=>none
  | none=>none
def blBs (ren:Nat→Nat):List (List LK)→Nat→B→Option (List (Nat × List L) × B)
 | [],_,b=>some ([],b)
 | ks::r,j,b=>match blLs ren ks b with
  | some (ls,b)=>match blBs ren r (j+1) b with
   | some (q,b)=>some ((ren j,ls)::q,b)
   | none=>none
  | none=>none
def cD:List (Nat × List L)→List (Nat × Obj)
 | []=>[]
 | p::r=>(p.1,.box p.2)::cD r
def bads:Nat→List V
 | 0=>[]
 | n+1=>bad::bads n
def h8G:List AK→Bool
 | []=>false
 | .one (.hd _ _)::_=>true
 | _::r=>h8G r
def iu (ob:List (Nat × Obj)):List AK→List V→List V
 | .one (.hd j l)::as,v::vs=>(match aL ob j with
  | .box ls=>match nthO ls l with
   | some (.own k)=>.one (.own k)
   | _=>v
  | _=>v)::iu ob as vs
 | _::as,v::vs=>v::iu ob as vs
 | _,vs=>vs
def h7I (ob:List (Nat × Obj)) (as:List AK) (vs:List V):List V:=match h8G as with
 | true=>iu ob as vs
 | false=>vs
def mkSt (sg:Sg) (n:Nat) (pay:List DV):Option St :=
 match blAs (λj=>j) sg.av {pay:=pay,nx:=sg.bx.length,ob:=[],nb:=sg.bx.length} with
 | some (vs,b)=>match blBs (λj=>j) sg.bx 0 b with
  | some (bx,b)=>match b.pay with
   | []=>some {tm:=h7I (cD bx++b.ob) sg.av vs++bads (n-vs.length),ob:=cD bx++b.ob,nx:=b.nx}
   | _=>none
  | none=>none
 | none=>none
end Go.Proofs.Zz
namespace Go.Proofs.Zz
open Go
def cV:Value→Option V
 | .bool b=>some (.one (.dat .bool b))
 | .int k n=>some (.one (.dat (.int k) n))
 | .string s=>some (.one (.dat .str s))
 | .slice none 0 0=>some (.one .nils)
 | .pointer none=>some (.one .nilp)
 | _=>none
def ev {α:Type} (o:Operand) (k:V→Rd α):Rd α :=
 match o with
 | .tmp t=>.get (.tmp t) fun
  | .v x=>k x
  | _=>.fail
 | .const v=>match cV v with
  | some x=>k x
  | none=>.fail
 | .func f=>k (.one (.fn f []))
 | .global _=>.fail
def evs {α:Type}:List Operand→(List V→Rd α)→Rd α
 | [],k=>k []
 | o::r,k=>ev o λx=>evs r λq=>k (x::q)
def h7z {α:Type}:List (Nat × Operand)→(List (Nat × V)→Rd α)→Rd α
 | [],k=>k []
 | p::r,k=>ev p.2 λx=>h7z r λq=>k ((p.1,x)::q)
def fin (hi:Hi) (dst:Option Nat) (wr:Wr) (x:V):Rd Wr :=
 match dst with
 | none=>.ret wr
 | some d=>match memN d hi.sp,x with
  | true,.one (.dat .bool b)=>.ite b (.ret (wr++[(.tmp d,.v (.one (.dat .bool true)))])) (.ret (wr++[(.tmp d,.v (.one (.dat .bool false)))]))
  | _,x=>.ret (wr++[(.tmp d,.v x)])
def cG (k:IntKind) (x y:Int):Int:=k.wrap ((BitVec.ofInt k.bits x &&& BitVec.ofInt k.bits y).toNat:Int)
def fS (k:IntKind) (x y:Int):Int:=k.wrap ((BitVec.ofInt k.bits x ||| BitVec.ofInt k.bits y).toNat:Int)
def kM (k:IntKind) (x y:Int):Int:=k.wrap ((BitVec.ofInt k.bits x ^^^ BitVec.ofInt k.bits y).toNat:Int)
def h8A (k:IntKind) (x y:Int):Int:=k.wrap ((BitVec.ofInt k.bits x &&& ~~~ BitVec.ofInt k.bits y).toNat:Int)
def shl (k:IntKind) (x y:Int):Int:=k.wrap (x*2 ^ (min y.toNat k.bits))
def shr (k:IntKind) (x y:Int):Int:=x.fdiv (2 ^ (min y.toNat k.bits))
def int (k:IntKind) (n:Int):V:=.one (.dat (.int k) n)
def boo (b:Bool):V:=.one (.dat .bool b)
def strV (s:ByteArray):V:=.one (.dat .str s)
def binI {α:Type} (op:BinOp) (i j:IntKind) (x y:Int) (k:V→Rd α):Rd α :=
 match op with
 | .shl=>.ite (decide (y<0)) .fail (k (int i (shl i x y)))
 | .shr=>.ite (decide (y<0)) .fail (k (int i (shr i x y)))
 | op=>if i=j then match op with
  | .add=>k (int i (i.wrap (x+y)))
  | .sub=>k (int i (i.wrap (x-y)))
  | .mul=>k (int i (i.wrap (x*y)))
  | .quo=>.ite (decide (y=0)) .fail (k (int i (i.wrap (x.tdiv y))))
  | .rem=>.ite (decide (y=0)) .fail (k (int i (x.tmod y)))
  | .and=>k (int i (cG i x y))
  | .or=>k (int i (fS i x y))
  | .xor=>k (int i (kM i x y))
  | .andNot=>k (int i (h8A i x y))
  | .eql=>k (boo (x==y))
  | .neq=>k (boo (x != y))
  | .lss=>k (boo (decide (x<y)))
  | .leq=>k (boo (decide (x≤y)))
  | .gtr=>k (boo (decide (x>y)))
  | .geq=>k (boo (decide (x≥y)))
  | _=>.fail
  else .fail
def dQ:Nat:=35184372088832
def binS {α:Type} (op:BinOp) (x y:ByteArray) (k:V→Rd α):Rd α :=
 match op with
 | .add=>.ite (decide (x.size+y.size≤dQ)) (k (strV (x++y))) .fail
 | .eql=>k (boo (x.toList==y.toList))
 | .neq=>k (boo (!(x.toList==y.toList)))
 | .lss=>k (boo (Op.bytesLess x.toList y.toList))
 | _=>.fail
def eqL:L→L→Option Bool
 | .dat (.int i) x,.dat (.int j) y=>if i=j then some (x==y) else none
 | .dat .bool x,.dat .bool y=>some (x==y)
 | .dat .str x,.dat .str y=>some (x==y)
 | .dat (.ar n (.int i)) x,.dat (.ar m (.int j)) y=>if n=m∧i=j then some ((x:List Int)==(y:List Int)) else none
 | .dat (.ar n .bool) x,.dat (.ar m .bool) y=>if n=m then some ((x:List Bool)==(y:List Bool)) else none
 | _,_=>none
def eqLs:List L→List L→Option Bool
 | [],[]=>some true
 | [a],[b]=>eqL a b
 | a::r,b::q=>match eqL a b,eqLs r q with
  | some x,some y=>some (x&&y)
  | _,_=>none
 | _,_=>none
def h8k:L→Option Bool
 | .nils=>some true
 | .nl=>some true
 | .nn _ _=>some false
 | _=>none
def h8f:L→Option Bool
 | .nilp=>some true
 | .ptr _ _ _=>some false
 | .pta _ _ _ _=>some false
 | .pte _ _ _ _=>some false
 | .rf _ _ _=>some false
 | _=>none
def dN:List L→List Ty→Bool
 | [],[]=>true
 | .dat t _::r,u::q=>tyEq t u&&dN r q
 | _,_=>false
def binO {α:Type} (t:TI) (op:BinOp) (x y:V) (k:V→Rd α):Rd α :=
 match x,y with
 | .one (.dat (.int i) a),.one (.dat (.int j) b)=>binI op i j a b k
 | .one (.dat .str a),.one (.dat .str b)=>binS op a b k
 | .one (.dat .bool a),.one (.dat .bool b)=>match t.td,op with
  | .bool,.eql=>k (boo (a==b))
  | .bool,.neq=>k (boo (!(a==b)))
  | _,_=>.fail
 | .agg a,.agg b=>match t.eqt,t.agg with
  | none,_=>.fail
  | some _,false=>.fail
  | some ts,true=>match dN a ts&&dN b ts with
   | false=>.fail
   | true=>match op,eqLs a b with
    | .eql,some c=>k (boo c)
    | .neq,some c=>k (boo (!c))
    | _,_=>.fail
 | .one a,.one .nils=>match t.td,op,h8k a with
  | .slice,.eql,some c=>k (boo c)
  | .slice,.neq,some c=>k (boo (!c))
  | _,_,_=>.fail
 | .one a,.one .nilp=>match t.td,op,h8f a with
  | .ptr,.eql,some c=>k (boo c)
  | .ptr,.neq,some c=>k (boo (!c))
  | _,_,_=>.fail
 | _,_=>.fail
def unO {α:Type} (op:UnOp) (x:V) (k:V→Rd α):Rd α :=
 match op,x with
 | .not,.one (.dat .bool b)=>k (boo (!b))
 | .neg,.one (.dat (.int i) n)=>k (int i (i.wrap (0-n)))
 | .xor,.one (.dat (.int i) n)=>k (int i (kM i (if i.signed then -1 else i.max) n))
 | _,_=>.fail
def fU (s:ByteArray):List Int:=s.data.toList.map λb=>(b.toNat:Int)
def h8l (l:List Int):ByteArray:=⟨(l.map λn=>UInt8.ofNat n.toNat).toArray⟩
def h8m (s:ByteArray) (i:Int):Int:=(s.data.toList.getD i.toNat 0).toNat
def wrLs (k:Nat):Nat→List L→Wr
 | _,[]=>[]
 | l,x::r=>(.lf k l,.l x)::wrLs k (l+1) r
def V.cls:V→Option (List L)
 | .one (.any _)=>none
 | .one l=>some [l]
 | .agg ls=>some ls
 | .tup _=>none
def toV (t:TI) (ls:List L):Option V :=
 match t.agg,ls with
 | true,ls=>some (.agg ls)
 | false,[l]=>some (.one l)
 | _,_=>none
def h8M (t:TI) (x:V) (k:V→Rd Wr):Rd Wr :=
 let out (ls:List L):Rd Wr:=match dz (ba ls) t.lay with
  | true=>match toV t ls with
   | some v=>k v
   | none=>.fail
  | false=>.fail
 match x with
 | .one (.ptr n l _)=>rdLs n t.lay.length l out
 | .one (.pta n l m i)=>.get (.lf n l) fun
  | .l (.dat (.ar m' a) v)=>match Nat.beq m m',a with
   | true,.int j=>out [.dat (.int j) ((v:List Int).getD i 0)]
   | true,.bool=>out [.dat .bool ((v:List Bool).getD i false)]
   | _,_=>.fail
  | _=>.fail
 | .one (.pte n i l _)=>.get (.ob n) fun
  | .o (.arr a xs _)=>out (dw t.lay.length (et l (unpk a (xs.getD i (cq a)))))
  | _=>.fail
 | .one (.rf a v l)=>out (dw t.lay.length (et l (unpk a v)))
 | _=>.fail
def over:List L→Nat→List L→List L
 | ls,0,[]=>ls
 | _::r,0,x::q=>x::over r 0 q
 | x::r,l+1,q=>x::over r l q
 | ls,_,_=>ls
def h8t (t:TI) (x:V) (v:V) (k:Wr→Rd Wr):Rd Wr :=
 match v.cls with
 | none=>.fail
 | some vl=>match dz (ba vl) t.lay&&!t.lay.isEmpty with
  | false=>.fail
  | true=>match x with
   | .one (.ptr n l _)=>rdLs n t.lay.length l λold=>match dz (ba old) t.lay with
    | true=>k (wrLs n l vl)
    | false=>.fail
   | .one (.pta n l m i)=>.get (.lf n l) fun
    | .l (.dat (.ar m' a) w)=>match Nat.beq m m',a,v with
     | true,.int j,.one (.dat (.int j') y)=>if j=j' then k [(.lf n l,.l (.dat (.ar m' (.int j)) ((w:List Int).set i y)))] else .fail
     | true,.bool,.one (.dat .bool y)=>k [(.lf n l,.l (.dat (.ar m' .bool) ((w:List Bool).set i y)))]
     | _,_,_=>.fail
    | _=>.fail
   | .one (.pte n i l _)=>.get (.ob n) fun
    | .o (.arr a xs false) =>
     let old:=unpk a (xs.getD i (cq a))
     match dz (ba (dw t.lay.length (et l old))) t.lay with
     | true=>pk a (over old l vl) [] λy r bw=>match r,bw with
      | [],[]=>k [(.ob n,.o (.arr a (xs.set i y) false))]
      | _,_=>.fail
     | false=>.fail
    | _=>.fail
   | _=>.fail
def h8x (t:TI) (x:V) (f:Nat) (k:V→Rd Wr):Rd Wr :=
 match t.td,nthO t.fl f with
 | .struct,some (d,z)=>match x with
  | .one (.ptr n l y)=>match dz y t.lay with
   | true=>k (.one (.ptr n (l+d) z))
   | false=>.fail
  | .one (.pte n i l y)=>match dz y t.lay with
   | true=>k (.one (.pte n i (l+d) z))
   | false=>.fail
  | .one (.rf a v l)=>match dz (dw t.lay.length (et l (ba (unpk a (cq a))))) t.lay with
   | true=>k (.one (.rf a v (l+d)))
   | false=>.fail
  | _=>.fail
 | _,_=>.fail
def h8w (t:TI) (x:V) (f:Nat) (k:V→Rd Wr):Rd Wr :=
 match t.td,nthO t.fl f,nthO t.fg f,x with
 | .struct,some (d,z),some g,.agg ls=>match dz (ba ls) t.lay,dz (ba (dw z.length (et d ls))) z with
  | true,true=>match g,dw z.length (et d ls) with
   | true,q=>k (.agg q)
   | false,[y]=>match Nat.beq y.size 1 with
    | true=>k (.one y)
    | false=>.fail
   | _,_=>.fail
  | _,_=>.fail
 | _,_,_,_=>.fail
def idx (i:Int) (n:Nat):Bool:=decide (0≤i∧i<(n:Int))
def h8y (t:TI) (x y:V) (k:V→Rd Wr):Rd Wr :=
 match y with
 | .one (.dat (.int _) i)=>match t.td with
  | .array=>match x with
   | .one (.ptr n l _)=>.ite (idx i t.n) (k (.one (.pta n l t.n i.toNat))) .fail
   | .one (.rf a v l)=>match et l (unpk a v) with
    | .dat (.ar m b) w::_=>match Nat.beq m t.n&&tyEq b t.ety with
     | true=>.ite (idx i t.n) (k (.one (.rf b (w.getD i.toNat (cq b)) 0))) .fail
     | false=>.fail
    | _=>.fail
   | _=>.fail
  | .slice=>match x with
   | .one (.own n)=>.get (.ob n) fun
    | .o (.arr a xs _)=>castL? a t.ety xs λxs=>.ite (idx i xs.length) (k (.one (.pte n i.toNat 0 (ba (unpk t.ety (cq t.ety)))))) .fail
    | _=>.fail
   | .one (.suf n off)=>.get (.ob n) fun
    | .o (.arr a xs _)=>castL? a t.ety xs λxs=>.ite (idx i (xs.length-off)) (k (.one (.pte n (off+i.toNat) 0 (ba (unpk t.ety (cq t.ety)))))) .fail
    | _=>.fail
   | .one (.mid n off len)=>.get (.ob n) fun
    | .o (.arr a xs _)=>castL? a t.ety xs λ_=>.ite (idx i len) (k (.one (.pte n (off+i.toNat) 0 (ba (unpk t.ety (cq t.ety)))))) .fail
    | _=>.fail
   | .one (.dat (.sl a) xs)=>castL? a t.ety xs λxs=>.ite (idx i xs.length) (k (.one (.rf t.ety (xs.getD i.toNat (cq t.ety)) 0))) .fail
   | .one (.nn a xs)=>castL? a t.ety xs λxs=>.ite (idx i xs.length) (k (.one (.rf t.ety (xs.getD i.toNat (cq t.ety)) 0))) .fail
   | .one (.oh q n i' sz y)=>match Nat.beq sz t.ety.sz with
    | true=>.ite (decide (i=i'∧0≤i∧i<n)) (k (.one (.ptr q 0 y))) .fail
    | false=>.fail
   | _=>.fail
  | _=>.fail
 | _=>.fail
def h8v (t:TI) (x y:V) (k:V→Rd Wr):Rd Wr :=
 match t.td,x,y with
 | .str,.one (.dat .str s),.one (.dat (.int _) i)=>.ite (idx i s.size) (k (int .u8 (h8m s i))) .fail
 | _,_,_=>.fail
def evO {α:Type} (o:Option Operand) (k:Option V→Rd α):Rd α :=
 match o with
 | none=>k none
 | some o=>ev o λx=>k (some x)
def h8b {α:Type} (n:Nat) (lo:V) (k:Nat→Rd α):Rd α :=
 match lo with
 | .one (.dat (.int _) l)=>.ite (decide (0≤l∧l≤(n:Int))) (k l.toNat) .fail
 | _=>.fail
def h8C {α:Type} (n:Nat) (lo:Option V) (h:Int) (k:Nat→Nat→Rd α):Rd α :=
 match lo with
 | none=>.ite (decide (0≤h∧h≤(n:Int))) (k 0 h.toNat) .fail
 | some (.one (.dat (.int _) l))=>.ite (decide (0≤h∧h≤(n:Int))) (.ite (decide (0≤l∧l≤h)) (k l.toNat h.toNat) .fail) .fail
 | _=>.fail
def cut {α:Type} (n:Nat) (lo hi:Option V) (k:Nat→Nat→Rd α):Rd α :=
 match hi with
 | some (.one (.dat (.int _) h))=>h8C n lo h k
 | none=>match lo with
  | none=>k 0 n
  | some l=>h8b n l λl=>k l n
 | _=>.fail
def h8z (t:TI) (x:V) (lo hi:Option V) (k:V→Rd Wr):Rd Wr :=
 match t.td,x with
 | .str,.one (.dat .str s)=>cut s.size lo hi λl h=>k (strV (s.extract l h))
 | .slice,.one (.own n)=>.get (.ob n) fun
  | .o (.arr a xs _)=>castL? a t.ety xs λxs=>match hi,lo with
   | none,none=>k x
   | none,some lo=>h8b xs.length lo λl=>k (.one (.suf n l))
   | some _,_=>cut xs.length lo hi λl h=>k (.one (.mid n l (h-l)))
  | _=>.fail
 | .slice,.one (.suf n off)=>.get (.ob n) fun
  | .o (.arr a xs _)=>castL? a t.ety xs λxs=>match hi,lo with
   | none,none=>k x
   | none,some lo=>h8b (xs.length-off) lo λl=>k (.one (.suf n (off+l)))
   | some _,_=>cut (xs.length-off) lo hi λl h=>k (.one (.mid n (off+l) (h-l)))
  | _=>.fail
 | .slice,.one (.mid n off len)=>.get (.ob n) fun
  | .o (.arr a xs _)=>castL? a t.ety xs λ_=>cut len lo hi λl h=>k (.one (.mid n (off+l) (h-l)))
  | _=>.fail
 | .slice,.one (.dat (.sl a) xs)=>castL? a t.ety xs λxs=>match hi,lo with
  | none,none=>k x
  | none,some lo=>h8b xs.length lo λl=>k (.one (.dat (.sl t.ety) (xs.drop l)))
  | some _,_=>cut xs.length lo hi λl h=>k (.one (.dat (.sl t.ety) ((xs.drop l).take (h-l))))
 | .array,.one (.ptr n l _)=>cut t.n lo hi λa b=>k (.one (.sla n l t.n a (b-a)))
 | _,_=>.fail
def lenS (t:TI) (x:V) (k:V→Rd Wr):Rd Wr :=
 match t.td,x with
 | .str,.one (.dat .str s)=>k (int .i64 (s.size:Int))
 | .slice,.one (.dat (.sl _) xs)=>k (int .i64 (xs.length:Int))
 | .slice,.one (.nn _ xs)=>k (int .i64 (xs.length:Int))
 | .slice,.one .nils=>k (int .i64 0)
 | .slice,.one (.own n)=>.get (.ob n) fun
  | .o (.arr _ xs _)=>k (int .i64 (xs.length:Int))
  | _=>.fail
 | .slice,.one (.suf n off)=>.get (.ob n) fun
  | .o (.arr _ xs _)=>k (int .i64 ((xs.length-off:Nat):Int))
  | _=>.fail
 | .slice,.one (.mid _ _ len)=>k (int .i64 (len:Int))
 | .slice,.one (.sla _ _ _ _ len)=>k (int .i64 (len:Int))
 | .slice,.one (.oh _ n _ _ _)=>k (int .i64 n)
 | .array,_=>k (int .i64 (t.n:Int))
 | _,_=>.fail
def oldS (a:Ty) (x:V) (k:List (Den a)→Wr→Rd Wr):Rd Wr :=
 match x with
 | .one .nils=>k [] []
 | .one (.own n)=>.get (.ob n) fun
  | .o (.arr t xs false)=>castL? t a xs λxs=>k xs [(.ob n,.o .dead)]
  | _=>.fail
 | .one (.suf n off)=>.get (.ob n) fun
  | .o (.arr t xs false)=>castL? t a xs λxs=>k (xs.drop off) [(.ob n,.o .dead)]
  | _=>.fail
 | .one (.mid n off len)=>.get (.ob n) fun
  | .o (.arr t xs false)=>castL? t a xs λxs=>k ((xs.drop off).take len) [(.ob n,.o .dead)]
  | _=>.fail
 | _=>.fail
def newS (a:Ty) (x:V) (k:List (Den a)→Rd Wr):Rd Wr :=
 match x with
 | .one (.dat .str s)=>castL? (.int .u8) a (fU s) k
 | .one l=>slD a l [] λxs _=>k xs
 | _=>.fail
def h7v (key:Nat) (t:TI) (x y:V) (k:V→Wr→Rd Wr):Rd Wr :=
 match t.td,Nat.beq t.eby 0 with
 | .slice,false=>oldS t.ety x λold gone=>newS t.ety y λnew =>
  .ite (decide ((old.length+new.length)*t.eby≤dQ)) (k (.one (.own key)) (gone++[(.ob key,.o (.arr t.ety (old++new) false))])) .fail
 | _,_=>.fail
def winS (x:V) (k:Nat→(t:Ty)→List (Den t)→Nat→Nat→Rd Wr):Rd Wr :=
 match x with
 | .one (.own n)=>.get (.ob n) fun
  | .o (.arr t xs false)=>k n t xs 0 xs.length
  | _=>.fail
 | .one (.suf n off)=>.get (.ob n) fun
  | .o (.arr t xs false)=>k n t xs off (xs.length-off)
  | _=>.fail
 | .one (.mid n off len)=>.get (.ob n) fun
  | .o (.arr t xs false)=>k n t xs off len
  | _=>.fail
 | _=>.fail
def laid {α:Type} (xs:List α) (off:Nat) (ys:List α):List α:=xs.take off++(ys++xs.drop (off+ys.length))
def h8L (t:TI) (x y:V) (k:V→Wr→Rd Wr):Rd Wr :=
 match t.td,y with
 | .slice,.one l=>winS x λn a xs off len=>castL? a t.ety xs λxs=>slD t.ety l [] λys _ =>
  k (int .i64 ((ys.take len).length:Int)) [(.ob n,.o (.arr t.ety (laid xs off (ys.take len)) false))]
 | _,_=>.fail
def h8u (t:TI) (x:V) (k:V→Wr→Rd Wr):Rd Wr :=
 match t.td with
 | .slice=>winS x λn a xs off len=>castL? a t.ety xs λxs =>
  k (.tup []) [(.ob n,.o (.arr t.ety (laid xs off (List.replicate len (cq t.ety))) false))]
 | _=>.fail
def parts (t:TI):List (Nat × V)→List L→Option (List L)
 | [],ls=>some ls
 | p::r,ls=>match nthO t.fl p.1,p.2.cls with
  | some (l,lay),some vl=>match dz (ba vl) lay,dz (ba (dw vl.length (et l ls))) lay with
   | true,true=>parts t r (over ls l vl)
   | _,_=>none
  | _,_=>none
def h7Y (a:Ty):List (Nat × V)→List (Den a)→(List (Den a)→Rd Wr)→Rd Wr
 | [],xs,k=>k xs
 | p::r,xs,k=>match p.2.cls with
  | some vl=>pk a vl [] λy q bw=>match q,bw,Nat.blt p.1 xs.length with
   | [],[],true=>h7Y a r (setN xs p.1 y) k
   | _,_,_=>.fail
  | none=>.fail
def repl {α:Type}:Nat→α→List α
 | 0,_=>[]
 | n+1,x=>x::repl n x
def h8P (key:Nat) (src dst:TI) (x:V) (k:V→Wr→Rd Wr):Rd Wr :=
 match dst.td,x with
 | .int j,.one (.dat (.int _) n)=>k (int j (j.wrap n)) []
 | .str,.one (.dat .str s)=>k (strV s) []
 | .str,.one (.dat (.int _) n)=>k (strV (Utf8.encode n)) []
 | .str,.one l=>match src.td,src.ety with
  | .slice,.int .u8=>slD (.int .u8) l [] λxs _=>k (strV (h8l xs)) []
  | _,_=>.fail
 | .slice,.one (.dat .str s)=>match src.td,dst.ety with
  | .str,.int .u8=>.ite (decide (s.size≤dQ)) (k (.one (.own key)) [(.ob key,.o (.arr (.int .u8) (fU s) false))]) .fail
  | _,_=>.fail
 | _,_=>.fail
def caps:List V→Option (List Cp)
 | []=>some []
 | .one (.ptr n l y)::r=>match caps r with
  | some q=>some (⟨n,l,y⟩::q)
  | none=>none
 | _=>none
def capV:List Cp→List V
 | []=>[]
 | p::r=>.one (.ptr p.k p.l p.y)::capV r
def Ty.hasSl:Ty→Bool
 | .sl _=>true
 | .pair a b=>a.hasSl||b.hasSl
 | .ar _ a=>a.hasSl
 | _=>false
def LK.hasSl:LK→Bool
 | .d t=>t.hasSl
 | .o t=>t.hasSl
 | .r _=>true
 | _=>false
def h7L:List LK→Bool
 | []=>false
 | k::r=>k.hasSl||h7L r
def AK.hasSl:AK→Bool
 | .no=>false
 | .one k=>k.hasSl
 | .agg ks=>h7L ks
def CS.hasSl (c:CS):Bool:=c.r.any AK.hasSl||c.ob.any h7L
def h7R:List Nat→Wr→(Wr→Rd Wr)→Rd Wr
 | [],wr,k=>k wr
 | n::r,wr,k=>.get (.ob n) fun
  | .o (.arr t xs _)=>h7R r ((.ob n,.o (.arr t xs true))::wr) k
  | _=>.fail
def fa:List Nat→Wr
 | []=>[]
 | n::r=>(.ob n,.o .dead)::fa r
def obs:List (Nat × Obj)→Wr
 | []=>[]
 | p::r=>(.ob p.1,.o p.2)::obs r
def fc {α:Type}:List ((Nat × Nat) × α)→Nat→Nat→Option α
 | [],_,_=>none
 | p::r,a,b=>match Nat.beq p.1.1 a&&Nat.beq p.1.2 b with
  | true=>some p.2
  | false=>fc r a b
def bK:Nat:=64
def h7V {α:Type}:List (Nat × Nat)→List (Option Nat)→(List (Option Nat)→Rd α)→Rd α
 | [],pre,k=>k pre
 | g::r,pre,k=>.get (.tmp g.2) fun
  | .v (.one (.ptr q _ _))=>h7V r (setN pre g.1 (some q)) k
  | _=>.fail
def h8N (key:Nat) (c:CS) (gx:List (Nat × Nat)) (f:V) (args:List V) (k:V→Wr→Rd Wr):Rd Wr :=
 match f with
 | .one (.fn g cp)=>match Nat.beq g c.fn with
  | false=>.fail
  | true=>h7V gx (h8g c.i.bx.length) λpre=>h8o pre c.i (args++capV cp) λpay bs tk bw =>
   .call c.id pay λout =>
    let ren (j:Nat):Nat:=nthD 0 bs j
    match blAs ren c.r {pay:=out,nx:=key,ob:=[],nb:=bs.length} with
    | none=>.fail
    | some (vs,b)=>match blBs ren c.ob 0 b with
     | none=>.fail
     | some (bx,b)=>match b.pay with
      | []=>match Nat.ble b.nx (key+bK)&&Nat.beq c.ob.length bs.length&&Nat.beq (args.length+cp.length) c.i.av.length with
       | false=>.fail
       | true =>
       let wr:=obs (cD bx)++(obs b.ob++fa tk)
       match (if c.one then (match vs with | [v]=>some v | _=>none) else some (.tup vs)) with
       | none=>.fail
       | some v=>match c.hasSl with
        | false=>k v wr
        | true=>h7R bw wr λwr=>k v wr
      | _=>.fail
 | _=>.fail
def wrT (c:CS):Option Ty:=match c.i.av with
 | [.one (.w t)]=>some t
 | _=>none
def wrS (c:CS) (t:Ty) (f:V) (args:List V) (k:V→Wr→Rd Wr):Rd Wr :=
 match f,args with
 | .one (.fn g []),[.one (.own n)]=>match Nat.beq g c.fn with
  | false=>.fail
  | true=>.get (.ob n) fun
   | .o (.arr u xs false)=>castL? u t xs λxs=>.call c.id [⟨.sl t,xs⟩] fun
    | [⟨.sl u',ys⟩]=>castL? u' t ys λys=>k (.tup []) [(.ob n,.o (.arr t ys false))]
    | _=>.fail
   | _=>.fail
 | _,_=>.fail
def cv (cx:Cx) (hi:Hi) (rg ix key:Nat) (o:Oper):Rd Wr :=
  let k (x:V):Rd Wr:=fin hi o.dst [] x
  let kw (x:V) (wr:Wr):Rd Wr:=fin hi o.dst wr x
  match o.op with
  | .move x=>ev x k
  | .assign x=>ev x k
  | .pick c a b=>ev c fun
    | .one (.dat .bool t)=>ev a λx=>ev b λy=>.ite t (k x) (k y)
    | _=>.fail
  | .alloc t=>cx.t t λt=>kw (.one (.ptr key 0 t.lay)) [(.ob key,.o (.box (zs t.zk)))]
  | .box t x=>cx.t t λt=>ev x λv=>match v.cls with
    | some vl=>match dz (ba vl) t.lay with
      | true=>kw (.one (.ptr key 0 t.lay)) [(.ob key,.o (.box vl))]
      | false=>.fail
    | none=>.fail
  | .build t ps=>cx.t t λt=>h7z ps.toList λps=>match t.td with
    | .struct=>match parts t ps (zs t.zk) with
      | some ls=>k (.agg ls)
      | none=>.fail
    | .array=>h7Y t.ety ps (repl t.n (cq t.ety)) λxs=>k (.agg [.dat (.ar t.n t.ety) xs])
    | _=>.fail
  | .buildSlice t n ps=>cx.t t λt=>h7z ps.toList λps=>match t.td with
    | .slice=>match Nat.ble (n*t.ety.sz) 16777216 with
      | true=>h7Y t.ety ps (repl n (cq t.ety)) λxs=>kw (.one (.own key)) [(.ob key,.o (.arr t.ety xs false))]
      | false=>.fail
    | _=>.fail
  | .load t x=>cx.t t λt=>ev x λx=>h8M t x k
  | .store t x y=>cx.t t λt=>ev x λx=>ev y λy=>h8t t x y λwr=>match o.dst with
    | none=>.ret wr
    | some d=>.ret (wr++[(.tmp d,.v bad)])
  | .nilCheck x=>ev x λv=>match v with
    | .one (.ptr _ _ _)=>k v
    | .one (.pta _ _ _ _)=>k v
    | .one (.pte _ _ _ _)=>k v
    | .one (.rf _ _ _)=>k v
    | _=>.fail
  | .binOp op t x y _=>ev x λx=>ev y λy=>match x with
    | .one (.dat (.int _) _)=>binO {} op x y k
    | .one (.dat .str _)=>binO {} op x y k
    | _=>cx.t t λt=>binO t op x y k
  | .unOp op _ x=>ev x λx=>unO op x k
  | .convert s d x=>cx.t s λs=>cx.t d λd=>ev x λx=>h8P key s d x kw
  | .makeFunc (.func f) fs cs=>match fs.toList with
    | []=>evs cs.toList λvs=>match caps vs with
      | some q=>k (.one (.fn f q))
      | none=>.fail
    | _=>.fail
  | .makeSlice t n c=>cx.t t λt=>ev n fun
    | .one (.dat (.int .i64) n)=>ev c fun
      | .one (.dat (.int .i64) c)=>match t.td with
        | .slice=>.ite (decide (0≤n∧n≤c∧c*(t.eby:Int)≤(dQ:Int)∧c≤(dQ:Int))) (kw (.one (.own key)) [(.ob key,.o (.arr t.ety (List.replicate n.toNat (cq t.ety)) false))]) .fail
        | _=>.fail
      | _=>.fail
    | _=>.fail
  | .slice t x lo hi mx=>match mx with
    | none=>cx.t t λt=>ev x λx=>evO lo λlo=>evO hi λhi=>h8z t x lo hi k
    | some _=>.fail
  | .fieldAddr t x f=>cx.t t λt=>ev x λx=>h8x t x f k
  | .field t x f=>cx.t t λt=>ev x λx=>h8w t x f k
  | .indexAddr t x y=>cx.t t λt=>ev x λx=>ev y λy=>h8y t x y k
  | .index t x y=>cx.t t λt=>ev x λx=>ev y λy=>h8v t x y k
  | .extract x i=>ev x fun
    | .tup vs=>match nthO vs i with
      | some (.tup _)=>.fail
      | some v=>k v
      | none=>.fail
    | _=>.fail
  | .call c=>match c.callee with
    | .builtin .len=>evs c.args.toList fun
      | [x]=>match c.argTypes.toList with
        | t::_=>cx.t t λt=>lenS t x k
        | _=>.fail
      | _=>.fail
    | .builtin .append=>evs c.args.toList fun
      | [x,y]=>match c.argTypes.toList with
        | [t,u]=>cx.t t λt=>cx.t u λu=>match u.td with
          | .slice=>h7v key t x y kw
          | .str=>h7v key t x y kw
          | _=>.fail
        | _=>.fail
      | _=>.fail
    | .builtin .copy=>evs c.args.toList fun
      | [x,y]=>match c.argTypes.toList with
        | [t,_]=>cx.t t λt=>h8L t x y kw
        | _=>.fail
      | _=>.fail
    | .builtin .clear=>evs c.args.toList fun
      | [x]=>match c.argTypes.toList with
        | [t]=>cx.t t λt=>h8u t x kw
        | _=>.fail
      | _=>.fail
    | .builtin .min=>evs c.args.toList fun
      | [.one (.dat (.int i) x),.one (.dat (.int _) y)]=>k (int i (if y<x then y else x))
      | _=>.fail
    | .builtin .max=>evs c.args.toList fun
      | [.one (.dat (.int i) x),.one (.dat (.int _) y)]=>k (int i (if x<y then y else x))
      | _=>.fail
    | .value f=>match fc hi.cs rg ix with
      | some cs=>match wrT cs with
       | some t=>ev f λf=>evs c.args.toList λargs=>wrS cs t f args kw
       | none=>ev f λf=>evs c.args.toList λargs=>h8N key cs (match fc hi.gx rg ix with | some g=>g | none=>[]) f args kw
      | none=>.fail
    | _=>.fail
  | _=>.fail
def opG (cx:Cx) (hi:Hi) (rg ix key:Nat) (gd:Nat→Option Nat) (o:Oper):Rd Wr :=
 let off:Rd Wr:=match o.dst with
  | none=>.ret []
  | some d=>.ret [(.tmp d,.v (.tup []))]
 match o.guard with
 | none=>cv cx hi rg ix key o
 | some (j,want)=>match gd j with
  | some d=>.get (.tmp d) fun
   | .v (.one (.dat .bool b))=>match want with
    | true=>.ite b (cv cx hi rg ix key o) off
    | false=>.ite b off (cv cx hi rg ix key o)
   | .v (.tup [])=>off
   | _=>.fail
  | none=>.fail
def h7P (cx:Cx) (hi:Hi) (ct:CT) (rg:Nat) (gd:Nat→Option Nat):List Oper→Nat→Nat→St→(St→Option Rs)→Option Rs
 | [],_,_,s,k=>k s
 | o::r,ix,key,s,k=>iv ct (opG cx hi rg ix key gd o) s [] λwr _ =>
  h7P cx hi ct rg gd r (ix+1) (key+bK) (apply wr s) k
structure Fp where
 ix:Nat
 rd:List Loc
 wr:List Loc
def di:Loc→Loc→Bool
 | .tmp a,.tmp b=>Nat.beq a b
 | .lf k l,.lf k' l'=>Nat.beq k k'&&Nat.beq l l'
 | .ob k,.ob k'=>Nat.beq k k'
 | .ob k,.lf k' _=>Nat.beq k k'
 | .lf k _,.ob k'=>Nat.beq k k'
 | _,_=>false
def h7X (l:Loc):List Loc→Bool
 | []=>false
 | x::r=>di l x||h7X l r
def kT:List Loc→List Loc→Bool
 | [],_=>false
 | x::r,l=>h7X x l||kT r l
def fk:Wr→List Loc
 | []=>[]
 | p::r=>p.1::fk r
def fj (a b:Fp):Bool:=!kT a.wr b.wr&&!kT a.wr b.rd&&!kT a.rd b.wr
def bits (acc:List Nat):List Edge→Nat
 | []=>0
 | e::r=>match Region.binds .any e with
  | true=>(2 ^ e.on ||| nthD 0 acc e.on) ||| bits acc r
  | false=>bits acc r
def eK:List Oper→List Nat→List Nat
 | [],acc=>acc
 | o::r,acc=>eK r (acc++[bits acc o.after.toList])
def h6V:List Oper→Nat→Bool
 | [],_=>true
 | o::r,n=>(o.after.toList.all λe=>!Region.binds .any e||Nat.blt e.on n)&&h6V r (n+1)
def h7e (w:Nat) (f:Fp):List Fp→Bool
 | []=>true
 | g::r=>(w.testBit g.ix||fj g f)&&h7e w f r
def h7T (cx:Cx) (hi:Hi) (ct:CT) (rg:Nat) (gd:Nat→Option Nat) (ws:List Nat):List Oper→Nat→Nat→List Fp→St→(St→Option Rs)→Option Rs
 | [],_,_,_,s,k=>k s
 | o::r,ix,key,fs,s,k=>iv ct (opG cx hi rg ix key gd o) s [] λwr rd =>
  let f:Fp:=⟨ix,rd,fk wr⟩
  match h7e (nthD 0 ws ix) f fs with
  | true=>h7T cx hi ct rg gd ws r (ix+1) (key+bK) (f::fs) (apply wr s) k
  | false=>none
def bump (n:Nat) (s:St):St:={s with nx:=s.nx+bK*n}
def h7J (ops:List Oper) (j:Nat):Option Nat:=nthD none (ops.map λo=>o.dst) j
def region (cx:Cx) (hi:Hi) (ct:CT) (rg:Nat) (ops:List Oper) (draw:Bool) (s:St) (k:St→Option Rs):Option Rs :=
 match draw with
 | false=>h7P cx hi ct rg (h7J ops) ops 0 s.nx (bump ops.length s) k
 | true=>match h6V ops 0 with
  | true=>h7T cx hi ct rg (h7J ops) (eK ops []) ops 0 s.nx [] (bump ops.length s) k
  | false=>none
def bT {α:Type}:List (Nat × α)→Nat→Option α
 | [],_=>none
 | p::r,a=>match Nat.beq p.1 a with
  | true=>some p.2
  | false=>bT r a
abbrev LT:=Nat→List DV→(Rs→Option Rs)→Option Rs
def h7i:Nat→List V
 | 0=>[]
 | n+1=>h7i n++[.one (.ptr n 0 [])]
def jL:Nat→List AK
 | 0=>[]
 | n+1=>jL n++[.one (.p n 0 [])]
def upto:Nat→List Nat
 | 0=>[]
 | n+1=>upto n++[n]
def kept (nb:Nat) (bs:List Nat) (pay:List DV):Rd (List DV) :=
 match dz (dw nb bs) (upto nb) with
 | true=>.ret pay
 | false=>.fail
def Sg.at_ (sg:Sg) (nb:Nat):Sg:={av:=jL nb++sg.av,bx:=sg.bx}
def fR (nt nb:Nat) (ct:CT) (sg:Sg) (s:St) (k:List DV→Option Rs):Option Rs :=
 match Nat.beq s.tm.length nt with
 | true=>iv ct (mtSg (sg.at_ nb) (h7i nb++s.tm) λpay bs _ _=>kept nb bs pay) s [] λpay _=>k pay
 | false=>none
def fN {R:Type} (n:Nat) (k:Nat→R):R:=match n with
 | 0=>k 0
 | m+1=>k (Nat.succ m)
def fNs {R:Type}:List Nat→(List Nat→R)→R
 | [],k=>k []
 | n::r,k=>fN n λn=>fNs r λr=>k (n::r)
def fC {R:Type}:List Cp→(List Cp→R)→R
 | [],k=>k []
 | c::r,k=>fN c.k λn=>fN c.l λl=>fNs c.y λy=>fC r λr=>k (⟨n,l,y⟩::r)
def fL {R:Type} (l:L) (k:L→R):R:=match l with
 | .any n=>fN n λn=>k (.any n)
 | .dat t v=>k (.dat t v)
 | .nn t v=>k (.nn t v)
 | .nils=>k .nils
 | .nl=>k .nl
 | .cst n=>fN n λn=>k (.cst n)
 | .oh n a b sz y=>fN n λn=>fN sz λsz=>fNs y λy=>k (.oh n a b sz y)
 | .own n=>fN n λn=>k (.own n)
 | .suf n off=>fN n λn=>k (.suf n off)
 | .mid n off len=>fN n λn=>k (.mid n off len)
 | .sla n l m off len=>fN n λn=>fN l λl=>fN m λm=>k (.sla n l m off len)
 | .ptr n l y=>fN n λn=>fN l λl=>fNs y λy=>k (.ptr n l y)
 | .pta n l m i=>fN n λn=>fN l λl=>fN m λm=>k (.pta n l m i)
 | .pte n i l y=>fN n λn=>fN l λl=>fNs y λy=>k (.pte n i l y)
 | .rf t v l=>fN l λl=>k (.rf t v l)
 | .nilp=>k .nilp
 | .fn f c=>fN f λf=>fC c λc=>k (.fn f c)
def fLs {R:Type}:List L→(List L→R)→R
 | [],k=>k []
 | l::r,k=>fL l λl=>fLs r λr=>k (l::r)
def fV {R:Type} (v:V) (k:V→R):R:=match v with
 | .one l=>fL l λl=>k (.one l)
 | .agg ls=>fLs ls λls=>k (.agg ls)
 | .tup vs=>k (.tup vs)
def fVs {R:Type}:List V→(List V→R)→R
 | [],k=>k []
 | v::r,k=>fV v λv=>fVs r λr=>k (v::r)
def fO {R:Type} (o:Obj) (k:Obj→R):R:=match o with
 | .dead=>k .dead
 | .box ls=>fLs ls λls=>k (.box ls)
 | .arr t xs ro=>match ro with
  | true=>k (.arr t xs true)
  | false=>k (.arr t xs false)
def fOs {R:Type}:List (Nat × Obj)→(List (Nat × Obj)→R)→R
 | [],k=>k []
 | p::r,k=>fN p.1 λn=>fO p.2 λo=>fOs r λr=>k ((n,o)::r)
def fSt {R:Type} (s:St) (k:St→R):R:=fVs s.tm λtm=>fOs s.ob λob=>fN s.nx λnx=>k {tm:=tm,ob:=ob,nx:=nx}
theorem e2w {R:Type} (n:Nat) (k:Nat→R):fN n k=k n:=by cases n<;>rfl
theorem e3Z {R:Type}:∀(l:List Nat) (k:List Nat→R),fNs l k=k l
 | [],_=>rfl
 | n::r,k=>by simp only[fNs,e2w,e3Z r]
theorem e9i {R:Type}:∀(l:List Cp) (k:List Cp→R),fC l k=k l
 | [],_=>rfl
 | c::r,k=>by simp only[fC,e2w,e3Z,e9i r]
theorem e8F {R:Type} (l:L) (k:L→R):fL l k=k l:=by cases l<;>simp only[fL,e2w,e3Z,e9i]
theorem e1I {R:Type}:∀(l:List L) (k:List L→R),fLs l k=k l
 | [],_=>rfl
 | n::r,k=>by simp only[fLs,e8F,e1I r]
theorem f1U {R:Type} (v:V) (k:V→R):fV v k=k v:=by cases v<;>simp only[fV,e8F,e1I]
theorem e6z {R:Type}:∀(l:List V) (k:List V→R),fVs l k=k l
 | [],_=>rfl
 | n::r,k=>by simp only[fVs,f1U,e6z r]
theorem e9N {R:Type} (o:Obj) (k:Obj→R):fO o k=k o:=by
 cases o with
 | arr t xs ro=>cases ro<;>rfl
 | _=>simp only[fO,e1I]
theorem e6n {R:Type}:∀(l:List (Nat × Obj)) (k:List (Nat × Obj)→R),fOs l k=k l
 | [],_=>rfl
 | n::r,k=>by simp only[fOs,e2w,e9N,e6n r]
theorem e9d {R:Type} (s:St) (k:St→R):fSt s k=k s:=by simp only[fSt,e6z,e6n,e2w]
def told:Nat:=100000
def h8s:Nat:=200000
def h8D (js:List Nat):Code→Option Nat
 | .region id _ _=>match memN (id+h8s) js with
  | true=>some (id+h8s)
  | false=>none
 | _=>none
def run (cx:Cx) (hi:Hi) (ct:CT) (lt:LT) (nt nb:Nat):Nat→Code→St→(St→Option Rs)→(Nat→St→Option Rs)→(St→Option Rs)→Option Rs
 | _,.skip,s,kn,_,_=>kn s
 | b,.seq x y,s,kn,ke,kr=>match h8D hi.js x with
  | none=>run cx hi ct lt nt nb b x s (λs=>run cx hi ct lt nt nb b y s kn ke kr) ke kr
  | some key=>match bT hi.ls key with
   | none=>none
   | some l=>fR nt nb ct l.h s λpay=>lt key pay λr =>
    match bT l.x r.1 with
    | none=>none
    | some sg=>match mkSt sg nt r.2 with
     | none=>none
     | some s=>match r.1 with
      | 0=>kr s
      | i+1=>match Nat.beq i key with
       | true=>kn s
       | false=>ke i s
 | _,.region id ops draw,s,kn,ke,kr=>match memN (id+told) hi.js with
  | false=>region cx hi ct id ops.toList draw s λs=>fSt s kn
  | true=>match bT hi.ls (id+told) with
   | none=>none
   | some l=>fR nt nb ct l.h s λpay=>lt (id+told) pay λr =>
    match bT l.x r.1 with
    | none=>none
    | some sg=>match mkSt sg nt r.2 with
     | none=>none
     | some s=>match r.1 with
      | 0=>kr s
      | i+1=>match Nat.beq i (id+told) with
       | true=>kn s
       | false=>ke i s
 | b,.cond c x y,s,kn,ke,kr=>iv ct (ev c λv=>.ret v) s [] λv _=>match v with
  | .one (.dat .bool t)=>match t with
   | true=>run cx hi ct lt nt nb b x s kn ke kr
   | false=>run cx hi ct lt nt nb b y s kn ke kr
  | _=>none
 | _,.block id x,s,kn,ke,kr=>match memN id hi.js with
  | false=>run cx hi ct lt nt nb id x s kn (λi s=>match Nat.beq i id with
   | true=>kn s
   | false=>ke i s) kr
  | true=>match bT hi.ls id with
   | none=>none
   | some l=>fR nt nb ct l.h s λpay=>lt id pay λr =>
    match bT l.x r.1 with
    | none=>none
    | some sg=>match mkSt sg nt r.2 with
     | none=>none
     | some s=>match r.1 with
      | 0=>kr s
      | i+1=>match Nat.beq i id with
       | true=>kn s
       | false=>ke i s
 | b,.loop _,s,_,ke,kr=>match memN b hi.js with
  | true=>none
  | false=>match bT hi.ls b with
   | none=>none
   | some l=>fR nt nb ct l.h s λpay=>lt b pay λr =>
    match bT l.x r.1 with
    | none=>none
    | some sg=>match mkSt sg nt r.2 with
     | none=>none
     | some s=>match r.1 with
      | 0=>kr s
      | i+1=>ke i s
 | _,.exit id,s,_,ke,_=>ke id s
 | _,.ret,s,_,_,kr=>kr s
 | _,_,_,_,_,_=>none
def round (cx:Cx) (hi:Hi) (ct:CT) (lt:LT) (nt nb:Nat) (b:Nat) (l:LS) (body:Code) (again:List DV→Option Rs) (pay:List DV):Option Rs :=
 match mkSt l.h nt pay with
 | none=>none
 | some s=>run cx hi ct lt nt nb b body s
  (λs=>fR nt nb ct l.h s again)
  (λi s=>match bT l.x (i+1) with
   | none=>none
   | some sg=>fR nt nb ct sg s λpay=>some (i+1,pay))
  (λs=>match bT l.x 0 with
   | none=>none
   | some sg=>fR nt nb ct sg s λpay=>some (0,pay))
def iter (f:(List DV→Option Rs)→List DV→Option Rs):Nat→List DV→Option Rs
 | 0,_=>none
 | n+1,p=>f (iter f n) p
def results {α:Type} (cx:Cx):List ResultVar→(List V→Rd α)→Rd α
 | [],k=>k []
 | .tmp t::r,k=>.get (.tmp t) fun
  | .v x=>results cx r λq=>k (x::q)
  | _=>.fail
 | .cell a t::r,k=>cx.t t λt=>.get (.tmp a) fun
  | .v (.one (.ptr n l _))=>rdLs n t.lay.length l λls=>match dz (ba ls) t.lay,toV t ls with
   | true,some v=>results cx r λq=>k (v::q)
   | _,_=>.fail
  | _=>.fail
def jK (cx:Cx) (ct:CT) (rv:List ResultVar) (nb:Nat) (r:List AK) (ob:List (List LK)) (s:St):Option Rs :=
 iv ct (results cx rv λvs=>mtSg {av:=jL nb++r,bx:=ob} (h7i nb++vs) λpay bs _ _=>kept nb bs pay) s [] λpay _=>some (0,pay)
def den (cx:Cx) (hi:Hi) (ct:CT) (lt:LT) (fn:Func) (c:Code) (i:Sg) (r:List AK) (ob:List (List LK)) (pay:List DV):Option Rs :=
 match mkSt i fn.ntmps pay,Nat.ble i.av.length fn.ntmps&&Nat.beq ob.length i.bx.length with
 | some s,true=>run cx hi ct lt fn.ntmps i.bx.length 0 c s (jK cx ct fn.results.toList i.bx.length r ob) (λ_ _=>none) (jK cx ct fn.results.toList i.bx.length r ob)
 | _,_=>none
def cw:Value→Prop
 | .agg _=>False
 | .tuple _=>False
 | _=>True
def All {α:Type} (R:α→List Value→Prop):List α→List Value→Prop
 | [],cs=>cs=[]
 | x::r,cs=>∃c d,cs=c++d∧R x c∧All R r d
def At (w:World) (b o:Nat) (ds:List Value):Prop:=∀j u,ds[j]?=some u→w.cell? ⟨b,o+j,none⟩=some u
def RepD (F:Nat→Prop) (w:World):(t:Ty)→Den t→List Value→Prop
 | .int k,v,cs=>cs=[.int k v]
 | .bool,v,cs=>cs=[.bool v]
 | .str,v,cs=>cs=[.string v]
 | .unit,_,cs=>cs=[]
 | .pair a b,v,cs=>∃c d,cs=c++d∧RepD F w a v.1 c∧RepD F w b v.2 d
 | .ar n a,v,cs=>List.length v=n∧All (λx c=>RepD F w a x c) v cs
 | .sl a,v,cs=>∃ad cap,cs=[.slice ad (List.length v) cap]∧List.length v≤cap ∧
   (v=[]∨∃b o ds,ad=some ⟨b,o,none⟩∧F b∧All (λx c=>RepD F w a x c) v ds∧At w b o ds)
 | .nl,_,cs=>cs=[.slice none 0 0]
structure EI where
 blk:Nat
 base:Nat
 len:Nat
 cap:Nat
 esz:Nat
 nil:Bool
 loff:Nat→Nat
 eoff:Nat→Nat
 pre:List Value:=[]
 post:List Value:=[]
 hd:Value:=.bool false
structure Env where
 e:Nat→EI
 al:Nat→Prop
def Win (e:EI) (off n:Nat) (cs:List Value):Prop :=
 off+n≤e.len∧∃a,cs=[.slice a n (e.cap-off)]∧(e.cap-off≠0→e.nil=false∧a=some ⟨e.blk,e.base+off*e.esz,none⟩)
def lOff (t:Ty) (l:Nat):Nat:=(dw l (ba (unpk t (cq t)))).sum
def Steps (f:Nat→Nat) (l:Nat) (y:List Nat):Prop:=∀d,d≤y.length→f (l+d)=f l+(y.take d).sum
def HdOk (e:EI) (n i:Int) (sz:Nat) (y:List Nat):Prop:=∃a m c,e.hd=.slice a m c∧(m:Int)=n∧(0≤i→i<n→∃b,a=some ⟨e.blk,b,none⟩∧e.loff 0=b+i.toNat*sz∧Steps e.loff 0 y)
def RepL (E:Env) (F:Nat→Prop) (w:World):L→List Value→Prop
 | .any n,cs=>cs.length=n∧∀u∈cs,cw u
 | .dat t v,cs=>RepD F w t v cs
 | .nn t v,cs=>RepD F w (.sl t) v cs∧∃b n c,cs=[.slice (some b) n c]
 | .nils,cs=>cs=[.slice none 0 0]
 | .nl,cs=>∃c,cs=[.slice none 0 c]
 | .cst k,cs=>E.al k∧cs=[(E.e k).hd]∧cw (E.e k).hd
 | .oh k n i sz y,cs=>E.al k∧cs=[(E.e k).hd]∧HdOk (E.e k) n i sz y
 | .own k,cs=>E.al k∧Win (E.e k) 0 (E.e k).len cs
 | .suf k off,cs=>E.al k∧off≤(E.e k).len∧Win (E.e k) off ((E.e k).len-off) cs
 | .mid k off n,cs=>E.al k∧Win (E.e k) off n cs
 | .sla k l m off n,cs=>E.al k∧off+n≤m∧∃a c,cs=[.slice a n c]∧n≤c∧(c≠0→a=some ⟨(E.e k).blk,(E.e k).loff l+off,none⟩)
 | .ptr k l y,cs=>E.al k∧cs=[.pointer (some ⟨(E.e k).blk,(E.e k).loff l,none⟩)]∧Steps (E.e k).loff l y
 | .pta k l n i,cs=>E.al k∧i<n∧cs=[.pointer (some ⟨(E.e k).blk,(E.e k).loff l+i,none⟩)]
 | .pte k i l y,cs=>E.al k∧i<(E.e k).len∧cs=[.pointer (some ⟨(E.e k).blk,(E.e k).base+i*(E.e k).esz+(E.e k).eoff l,none⟩)]∧Steps (E.e k).eoff l y
 | .rf t v l,cs=>∃b o ds,cs=[.pointer (some ⟨b,o+lOff t l,none⟩)]∧F b∧RepD F w t v ds∧At w b o ds
 | .nilp,cs=>cs=[.pointer none]
 | .fn f caps,cs=>(∀c∈caps,E.al c.k∧Steps (E.e c.k).loff c.l c.y)∧cs=[.func (.func f) #[] (caps.map λc=>Value.pointer (some ⟨(E.e c.k).blk,(E.e c.k).loff c.l,none⟩)).toArray]
abbrev RepLs (E:Env) (F:Nat→Prop) (w:World):List L→List Value→Prop:=All (RepL E F w)
def RepW (E:Env) (F:Nat→Prop) (w:World):V→Value→Prop
 | .one (.any _),_=>True
 | .one l,v=>cw v∧RepL E F w l [v]
 | .agg ls,v=>∃cs,v=.agg cs∧RepLs E F w ls cs.toList
 | .tup _,_=>False
def All2 {α β:Type} (R:α→β→Prop):List α→List β→Prop
 | [],[]=>True
 | a::r,b::q=>R a b∧All2 R r q
 | _,_=>False
def RepV (E:Env) (F:Nat→Prop) (w:World):V→Value→Prop
 | .tup vs,v=>∃xs,v=.tuple xs∧All2 (RepW E F w) vs xs.toList
 | x,v=>RepW E F w x v
theorem At.append {w:World} {b o:Nat} {c d:List Value} (h:At w b o (c++d)):At w b o c∧At w b (o+c.length) d:=by
 refine⟨λj u hj=>?_,λj u hj=>?_⟩
 ·
  have hl:j<c.length:=(mL.1 hj).1;exact h j u (by rw[mW hl]; exact hj)
 ·
  have:=h (c.length+j) u (by rw[mU (by omega)]; simpa using hj)
  rwa [nQ]
theorem At.join {w:World} {b o:Nat} {c d:List Value} (h:At w b o c) (h':At w b (o+c.length) d):At w b o (c++d):=by
 intro j u hj;by_cases hl:j<c.length
 ·
  rw[mW hl]at hj;exact h j u hj
 ·
  rw[mU (by omega)]at hj;have:=h' _ u hj
  rwa [show o+c.length+(j-c.length)=o+j by omega]at this
theorem At.nil {w:World} {b o:Nat}:At w b o []:=λj u h=>by simp at h
theorem At.one {w:World} {b o:Nat} {u:Value} (h:At w b o [u]):w.cell? ⟨b,o,none⟩=some u:=h 0 u rfl
theorem At.of_one {w:World} {b o:Nat} {u:Value} (h:w.cell? ⟨b,o,none⟩=some u):At w b o [u]:=by
 intro j v hj;cases j with
 | zero=>simp at hj; subst hj; exact h
 | succ j=>simp at hj
theorem All.imp {α:Type} {R S:α→List Value→Prop} (h:∀x c,R x c→S x c):∀{xs:List α} {cs:List Value},All R xs cs→All S xs cs
 | [],_,h'=>h'
 | _::_,_,⟨c,d,e,hr,ht⟩=>⟨c,d,e,h _ _ hr,ht.imp h⟩
theorem All.append {α:Type} {R:α→List Value→Prop}:∀{xs ys:List α} {cs ds:List Value},All R xs cs→All R ys ds→All R (xs++ys) (cs++ds)
 | [],_,_,_,h,h'=>by subst h; simpa using h'
 | _::_,_,_,_,⟨c,d,e,hr,ht⟩,h'=>⟨c,d++_,by rw[e,mQ],hr,ht.append h'⟩
theorem All.split {α:Type} {R:α→List Value→Prop}:∀{xs ys:List α} {cs:List Value},All R (xs++ys) cs→∃c d,cs=c++d∧All R xs c∧All R ys d
 | [],_,cs,h=>⟨[],cs,rfl,rfl,h⟩
 | _::_,_,_,⟨c,d,e,hr,ht⟩=>by
  obtain⟨c',d',e',h1,h2⟩:=ht.split;exact⟨c++c',d',by rw[e,e',mQ],⟨c,c',rfl,hr,h1⟩,h2⟩
theorem All.one {α:Type} {R:α→List Value→Prop} {x:α} {cs:List Value}:All R [x] cs↔R x cs:=by
 constructor
 ·
  rintro⟨c,d,e,hr,ht⟩
  rw[ht,mJ]at e;rw[e]; exact hr
 ·intro h; exact⟨cs,[],by simp,h,rfl⟩
theorem All.len {α:Type} {R:α→List Value→Prop} {n:Nat} (h:∀x c,R x c→c.length=n):∀{xs:List α} {cs:List Value},All R xs cs→cs.length=xs.length*n
 | [],_,h'=>by subst h'; simp
 | _::_,_,⟨c,d,e,hr,ht⟩=>by
  rw[e,mD,h _ _ hr,ht.len h,mP,og,oM]
theorem All.mem {α:Type} {R:α→List Value→Prop} {p:Value→Prop} (h:∀x c,R x c→∀u∈c,p u):∀{xs:List α} {cs:List Value},All R xs cs→∀u∈cs,p u
 | [],_,h'=>by subst h'; simp
 | _::_,_,⟨c,d,e,hr,ht⟩=>by
  intro u hu;rw[e,mM]at hu;exact hu.elim (h _ _ hr u) (ht.mem h u)
theorem All.get {α:Type} {R:α→List Value→Prop} {n:Nat} (h:∀x c,R x c→c.length=n):∀{xs:List α} {cs:List Value} {i:Nat} {x:α},All R xs cs→xs[i]?=some x →
  ∃c d e,cs=c++(d++e)∧c.length=i*n∧R x d
 | [],_,_,_,_,hx=>by simp at hx
 | y::r,_,0,x,⟨c,d,e,hr,ht⟩,hx=>by
  simp at hx; subst hx;exact⟨[],c,d,by simpa using e,by simp,hr⟩
 | y::r,_,i+1,x,⟨c,d,e,hr,ht⟩,hx=>by
  simp at hx;obtain⟨c',d',e',h1,h2,h3⟩:=ht.get h hx;exact⟨c++c',d',e',by rw[e,h1,mQ],by rw[mD,h _ _ hr,h2,og,oM],h3⟩
theorem All.set {α:Type} {R:α→List Value→Prop} {n:Nat} (h:∀x c,R x c→c.length=n):∀{xs:List α} {cs:List Value} {i:Nat} {y:α} {d':List Value},All R xs cs→i<xs.length→R y d' →
  ∃c d e,cs=c++(d++e)∧c.length=i*n∧d.length=n∧All R (xs.set i y) (c++(d'++e))
 | [],_,_,_,_,_,hi,_=>by simp at hi
 | z::r,_,0,y,d',⟨c,d,e,hr,ht⟩,_,hy=>⟨[],c,d,by simpa using e,by simp,h _ _ hr,by simpa using ⟨d',d,rfl,hy,ht⟩⟩
 | z::r,_,i+1,y,d',⟨c,d,e,hr,ht⟩,hi,hy=>by
  obtain⟨c',d1,e',h1,h2,h3,h4⟩:=ht.set h (by simpa using hi) hy;exact⟨c++c',d1,e',by rw[e,h1,mQ],by rw[mD,h _ _ hr,h2,og,oM],h3,by
   simp only[pr];exact⟨c,c'++(d'++e'),by rw[mQ],hr,h4⟩⟩
theorem cJ {F:Nat→Prop} {w:World}:∀{t:Ty} {v:Den t} {cs:List Value},RepD F w t v cs→cs.length=t.sz
 | .int _,_,_,h=>by rw[RepD]at h; subst h; rfl
 | .bool,_,_,h=>by rw[RepD]at h; subst h; rfl
 | .str,_,_,h=>by rw[RepD]at h; subst h; rfl
 | .unit,_,_,h=>by rw[RepD]at h; subst h; rfl
 | .nl,_,_,h=>by rw[RepD]at h; subst h; rfl
 | .pair a b,_,_,h=>by
  rw[RepD]at h;obtain⟨c,d,rfl,h1,h2⟩:=h;rw[mD,cJ h1,cJ h2]; rfl
 | .ar n a,v,_,h=>by
  rw[RepD]at h;rw[h.2.len (λx c=>cJ),h.1]; rfl
 | .sl a,_,_,h=>by
  rw[RepD]at h;obtain⟨ad,cap,rfl,_⟩:=h;rfl
theorem b9V {F:Nat→Prop} {w:World}:∀{t:Ty} {v:Den t} {cs:List Value},RepD F w t v cs→∀u∈cs,cw u
 | .int _,_,_,h=>by rw[RepD]at h; subst h; simp[cw]
 | .bool,_,_,h=>by rw[RepD]at h; subst h; simp[cw]
 | .str,_,_,h=>by rw[RepD]at h; subst h; simp[cw]
 | .unit,_,_,h=>by rw[RepD]at h; subst h; simp
 | .nl,_,_,h=>by rw[RepD]at h; subst h; simp[cw]
 | .pair a b,_,_,h=>by
  rw[RepD]at h;obtain⟨c,d,rfl,h1,h2⟩:=h;intro u hu;rw[mM]at hu;exact hu.elim (b9V h1 u) (b9V h2 u)
 | .ar n a,v,_,h=>by
  rw[RepD]at h;exact h.2.mem (λx c hc=>b9V hc)
 | .sl a,_,_,h=>by
  rw[RepD]at h;obtain⟨ad,cap,rfl,_⟩:=h;simp[cw]
structure Ext (E:Env) (F:Nat→Prop) (w:World) (E':Env) (F':Nat→Prop) (w':World):Prop where
 al:∀k,E.al k→E'.al k
 e:∀k,E.al k→E'.e k=E.e k
 fz:∀b,F b→F' b
 wd:∀b,F b→∀o u,w.cell? ⟨b,o,none⟩=some u→w'.cell? ⟨b,o,none⟩=some u
theorem Ext.refl (E:Env) (F:Nat→Prop) (w:World):Ext E F w E F w:=⟨λ_ h=>h,λ_ _=>rfl,λ_ h=>h,λ_ _ _ _ h=>h⟩
theorem Ext.trans {E E' E'':Env} {F F' F'':Nat→Prop} {w w' w'':World} (h:Ext E F w E' F' w') (h':Ext E' F' w' E'' F'' w''):Ext E F w E'' F'' w'' :=
 ⟨λk hk=>h'.al k (h.al k hk),λk hk=>(h'.e k (h.al k hk)).trans (h.e k hk),λb hb=>h'.fz b (h.fz b hb),λb hb o u hu=>h'.wd b (h.fz b hb) o u (h.wd b hb o u hu)⟩
section
variable {E E':Env} {F F':Nat→Prop} {w w':World}
theorem RepD.ext (hF:∀b,F b→F' b) (hw:∀b,F b→∀o u,w.cell? ⟨b,o,none⟩=some u→w'.cell? ⟨b,o,none⟩=some u):∀{t:Ty} {v:Den t} {cs:List Value},RepD F w t v cs→RepD F' w' t v cs
 | .int _,_,_,h=>by rw[RepD]at h ⊢; exact h
 | .bool,_,_,h=>by rw[RepD]at h ⊢; exact h
 | .str,_,_,h=>by rw[RepD]at h ⊢; exact h
 | .unit,_,_,h=>by rw[RepD]at h ⊢; exact h
 | .nl,_,_,h=>by rw[RepD]at h ⊢; exact h
 | .pair a b,_,_,h=>by
  rw[RepD]at h ⊢;obtain⟨c,d,e,h1,h2⟩:=h;exact⟨c,d,e,RepD.ext hF hw h1,RepD.ext hF hw h2⟩
 | .ar n a,v,_,h=>by
  rw[RepD]at h ⊢;exact⟨h.1,h.2.imp λx c hc=>RepD.ext hF hw hc⟩
 | .sl a,_,_,h=>by
  rw[RepD]at h ⊢;obtain⟨ad,cap,e,hl,hh⟩:=h;refine⟨ad,cap,e,hl,hh.imp id ?_⟩
  rintro⟨b,o,ds,h1,h2,h3,h4⟩
  exact⟨b,o,ds,h1,hF b h2,h3.imp λx c hc=>RepD.ext hF hw hc,λj u hj=>hw b h2 _ _ (h4 j u hj)⟩
theorem RepL.ext (h:Ext E F w E' F' w') {l:L} {cs:List Value} (hr:RepL E F w l cs):RepL E' F' w' l cs:=by
 cases l with
 | any n=>exact hr
 | dat t v=>exact RepD.ext h.fz h.wd hr
 | nn t v=>exact⟨RepD.ext h.fz h.wd hr.1,hr.2⟩
 | nils=>exact hr
 | nl=>exact hr
 | cst k=>obtain⟨ha,hr⟩:=hr; exact⟨h.al k ha,by rw[h.e k ha]; exact hr⟩
 | oh k n i sz y=>obtain⟨ha,hr⟩:=hr; exact⟨h.al k ha,by rw[h.e k ha]; exact hr⟩
 | own k=>obtain⟨ha,hr⟩:=hr; exact⟨h.al k ha,by rw[h.e k ha]; exact hr⟩
 | suf k off=>obtain⟨ha,hr⟩:=hr; exact⟨h.al k ha,by rw[h.e k ha]; exact hr⟩
 | mid k off n=>obtain⟨ha,hr⟩:=hr; exact⟨h.al k ha,by rw[h.e k ha]; exact hr⟩
 | sla k l m off n=>obtain⟨ha,hr⟩:=hr; exact⟨h.al k ha,by rw[h.e k ha]; exact hr⟩
 | ptr k l y=>obtain⟨ha,hr⟩:=hr; exact⟨h.al k ha,by rw[h.e k ha]; exact hr⟩
 | pta k l n i=>obtain⟨ha,hr⟩:=hr; exact⟨h.al k ha,by rw[h.e k ha]; exact hr⟩
 | pte k i l y=>obtain⟨ha,hr⟩:=hr; exact⟨h.al k ha,by rw[h.e k ha]; exact hr⟩
 | rf t v l =>
  obtain⟨b,o,ds,h1,h2,h3,h4⟩:=hr;exact⟨b,o,ds,h1,h.fz b h2,RepD.ext h.fz h.wd h3,λj u hj=>h.wd b h2 _ _ (h4 j u hj)⟩
 | nilp=>exact hr
 | fn f caps =>
  obtain⟨ha,hr⟩:=hr;refine⟨λc hc=>⟨h.al _ (ha c hc).1,by rw[h.e _ (ha c hc).1]; exact (ha c hc).2⟩,hr.trans ?_⟩
  congr 3;apply List.map_congr_left;intro c hc;rw[h.e _ (ha c hc).1]
theorem RepLs.ext (h:Ext E F w E' F' w') {ls:List L} {cs:List Value} (hr:RepLs E F w ls cs):RepLs E' F' w' ls cs:=hr.imp λ_ _ hc=>hc.ext h
theorem RepW.ext (h:Ext E F w E' F' w') {x:V} {v:Value} (hr:RepW E F w x v):RepW E' F' w' x v:=by
 cases x with
 | one l=>cases l<;>first | trivial | exact⟨hr.1,RepL.ext h hr.2⟩
 | agg ls=>obtain⟨cs,e,hr⟩:=hr; exact⟨cs,e,RepLs.ext h hr⟩
 | tup vs=>exact hr
theorem All2.imp {α β:Type} {R S:α→β→Prop} (h:∀a b,R a b→S a b):∀{xs:List α} {ys:List β},All2 R xs ys→All2 S xs ys
 | [],[],_=>trivial
 | _::_,_::_,h'=>⟨h _ _ h'.1,h'.2.imp h⟩
 | [],_::_,h'=>h'.elim
 | _::_,[],h'=>h'.elim
theorem RepV.ext (h:Ext E F w E' F' w') {x:V} {v:Value} (hr:RepV E F w x v):RepV E' F' w' x v:=by
 cases x with
 | one l=>exact RepW.ext (x:=.one l) h hr
 | agg ls=>exact RepW.ext (x:=.agg ls) h hr
 | tup vs=>obtain⟨xs,e,hr⟩:=hr; exact⟨xs,e,hr.imp λ_ _=>RepW.ext h⟩
theorem b5g {l:L} {cs:List Value} (h:RepL E F w l cs):cs.length=l.size:=by
 cases l<;>simp only[RepL]at h
 case any n=>exact h.1
 case dat t v=>exact cJ h
 case nn t v=>obtain⟨_,b,n,c,rfl⟩:=h; rfl
 case nils=>rw[h]; rfl
 case nl=>obtain⟨c,rfl⟩:=h; rfl
 case cst k=>rw[h.2.1]; rfl
 case oh k n i sz y=>rw[h.2.1]; rfl
 case own k=>obtain⟨_,_,a,rfl,_⟩:=h; rfl
 case suf k off=>obtain⟨_,_,_,a,rfl,_⟩:=h; rfl
 case mid k off n=>obtain⟨_,_,a,rfl,_⟩:=h; rfl
 case sla k l m off n=>obtain⟨_,_,a,c,rfl,_⟩:=h; rfl
 case ptr k l y=>rw[h.2.1]; rfl
 case pta k l n i=>rw[h.2.2]; rfl
 case pte k i l y=>rw[h.2.2.1]; rfl
 case rf t v l=>obtain⟨b,o,ds,rfl,_⟩:=h; rfl
 case nilp=>rw[h]; rfl
 case fn f caps=>rw[h.2]; rfl
theorem c7B {l:L} {cs:List Value} (h:RepL E F w l cs):∀u∈cs,cw u:=by
 cases l<;>simp only[RepL]at h
 case any n=>exact h.2
 case dat t v=>exact b9V h
 case nn t v=>exact b9V h.1
 case nils=>rw[h]; simp[cw]
 case nl=>obtain⟨c,rfl⟩:=h; simp[cw]
 case cst k=>rw[h.2.1]; simpa using h.2.2
 case oh k n i sz y=>obtain⟨_,e,a,m,c,e2,_⟩:=h; rw[e,e2]; simp[cw]
 case own k=>obtain⟨_,_,a,rfl,_⟩:=h; simp[cw]
 case suf k off=>obtain⟨_,_,_,a,rfl,_⟩:=h; simp[cw]
 case mid k off n=>obtain⟨_,_,a,rfl,_⟩:=h; simp[cw]
 case sla k l m off n=>obtain⟨_,_,a,c,rfl,_⟩:=h; simp[cw]
 case ptr k l y=>rw[h.2.1]; simp[cw]
 case pta k l n i=>rw[h.2.2]; simp[cw]
 case pte k i l y=>rw[h.2.2.1]; simp[cw]
 case rf t v l=>obtain⟨b,o,ds,rfl,_⟩:=h; simp[cw]
 case nilp=>rw[h]; simp[cw]
 case fn f caps=>rw[h.2]; simp[cw]
theorem iG {ls:List L}:∀{cs:List Value},RepLs E F w ls cs→cs.length=(ba ls).sum:=by
 induction ls with
 | nil=>intro cs h; rw[show cs=[] from h]; rfl
 | cons l r ih =>
  rintro cs ⟨c,d,rfl,h1,h2⟩
  rw[mD,b5g h1,ih h2]; simp[ba]
theorem d8P {ls:List L} {cs:List Value} (h:RepLs E F w ls cs):∀u∈cs,cw u:=h.mem λ_ _ hc=>c7B hc
theorem jC:∀{t:Ty} {v:Den t} {cs:List Value},RepD F w t v cs→RepLs E F w (unpk t v) cs
 | .int _,_,_,h=>All.one.2 h
 | .bool,_,_,h=>All.one.2 h
 | .str,_,_,h=>All.one.2 h
 | .unit,_,_,h=>by rw[RepD]at h; exact h
 | .nl,_,_,h=>All.one.2 h
 | .pair a b,_,_,h=>by
  rw[RepD]at h;obtain⟨c,d,rfl,h1,h2⟩:=h;exact (jC h1).append (jC h2)
 | .ar n a,v,_,h=>All.one.2 h
 | .sl a,_,_,h=>All.one.2 h
end
theorem d1R:∀{t:Ty} (v:Den t),ba (unpk t v)=ba (unpk t (cq t)):=by
 intro t;induction t with
 | pair a b iha ihb =>
  intro v;have key:∀(x y:List L),ba (x++y)=ba x++ba y:=by
   intro x y;induction x with
   | nil=>rfl
   | cons l r ih=>simp[ba,ih]
  simp only[unpk,cq];rw[key,key,iha,ihb v.2]
 | _=>intro v; rfl
theorem eY {α:Type} (d:α):∀(l:List α) (n:Nat),nthD d l n=l.getD n d
 | [],_=>by simp[nthD]
 | _::_,0=>by simp[nthD]
 | _::r,n+1=>by simp only[nthD,eY d r n]; simp
theorem fZ {α:Type}:∀(l:List α) (n:Nat) (x:α),setN l n x=l.set n x
 | [],_,_=>rfl
 | _::_,0,_=>rfl
 | _::r,n+1,x=>by simp only[setN,fZ r n x]; rfl
theorem ft {α:Type}:∀(n:Nat) (l:List α),dw n l=l.take n
 | 0,_=>by simp[dw]
 | _+1,[]=>by simp[dw]
 | n+1,x::r=>by simp[dw,ft n r]
theorem iE {α:Type}:∀(n:Nat) (l:List α),et n l=l.drop n
 | 0,_=>by simp[et]
 | _+1,[]=>by simp[et]
 | n+1,_::r=>by simp[et,iE n r]
theorem d7s {α:Type}:∀(n:Nat) (x:α),repl n x=List.replicate n x
 | 0,_=>rfl
 | n+1,x=>by simp[repl,d7s n x,List.replicate_succ]
theorem d8N:∀(n t:Nat),nthD bad (bads n) t=bad
 | 0,_=>rfl
 | _+1,0=>rfl
 | n+1,t+1=>d8N n t
theorem d9i:∀n,(bads n).length=n
 | 0=>rfl
 | n+1=>by simp[bads,d9i n]
theorem b8c:∀ls:List L,ba ls=ls.map L.size
 | []=>rfl
 | l::r=>by simp[ba,b8c r]
theorem eU:∀{a b:List Nat},dz a b=true→a=b
 | [],[],_=>rfl
 | [],_::_,h=>by simp[dz]at h
 | _::_,[],h=>by simp[dz]at h
 | x::r,y::q,h=>by
  simp only[dz]at h;split at h
  ·
   rename_i e;rw[mH e,eU h]
  ·simp at h
theorem d3K:∀{k:Nat} {l:List Nat},memN k l=true↔k∈l
 | k,[]=>by simp[memN]
 | k,x::r=>by
  simp only[memN];split
  ·
   rename_i e;simp[mH e]
  ·
   rename_i e;have:¬k=x:=λh=>by subst h; simp at e
   simp[d3K (l:=r),this]
theorem b8a {k:Nat} {l:List Nat}:memN k l=false↔k∉l:=by
 rw[← Bool.not_eq_true,d3K]
theorem c7Y:∀{a b:List Nat},disj a b=true→∀x∈a,x∉b
 | [],_,_=>by simp
 | y::r,b,h=>by
  simp only[disj]at h;split at h
  ·simp at h
  ·
   rename_i e;intro x hx;rcases mV.1 hx with rfl | hx
   ·exact b8a.1 e
   ·exact c7Y h x hx
theorem c0O:∀{a:List Nat},kG a=true→a.Nodup
 | [],_=>List.nodup_nil
 | x::r,h=>by
  simp only[kG]at h;split at h
  ·simp at h
  ·
   rename_i e;exact List.nodup_cons.2 ⟨b8a.1 e,c0O h⟩
theorem co:∀(l:List (Nat × Obj)) (k:Nat) (o:Obj) (k':Nat),aL (putO l k o) k'=if k=k' then o else aL l k'
 | [],k,o,k'=>by
  simp only[putO,aL];split
  ·rename_i e; rw[if_pos (mH e)]
  ·rename_i e; rw[if_neg (λh=>by subst h; simp at e)]
 | p::r,k,o,k'=>by
  simp only[putO];split
  ·
   rename_i e;have e:=mH e;subst e;simp only[aL];split
   ·rename_i e; rw[if_pos (mH e)]
   ·rename_i e; rw[if_neg (λh=>by subst h; simp at e)]
  ·
   rename_i e;simp only[aL];split
   ·
    rename_i e';have e':=mH e';rw[if_neg (λh=>by subst h; subst e'; simp at e)]
   ·exact co r k o k'
def unfr (w:World) (b n:Nat):Prop:=∀o,o<n→w.frozen? ⟨b,o,none⟩=false
def RepArr (F:Nat→Prop) (w:World) (e:EI) (t:Ty) (xs:List (Den t)) (ro:Bool):Prop :=
 List.length xs=e.len∧e.len≤e.cap∧e.esz=t.sz∧(∀l,e.eoff l=lOff t l)∧(e.nil=true→e.cap=0) ∧
   (e.nil=false→∃cs u fr ds,w.heap[e.blk]?=some (.cells cs u fr)∧e.base+e.cap*e.esz≤cs.size∧All (λx c=>RepD F w t x c) xs ds∧At w e.blk e.base ds ∧
    (ro=false→¬F e.blk∧unfr w e.blk cs.size)∧(ro=true→F e.blk))
def BoxAt (w:World) (e:EI) (t:TypeId) (cs:List Value):Prop:=∃ds fr,w.heap[e.blk]?=some (.cells ds t fr)∧ds.toList=e.pre++(cs++e.post)∧unfr w e.blk ds.size
def RepO (E:Env) (F:Nat→Prop) (w:World) (e:EI):Obj→Prop
 | .dead=>True
 | .box ls=>∃cs t,BoxAt w e t cs∧RepLs E F w ls cs∧¬F e.blk ∧
   ∀i,i≤ls.length→e.loff i=e.pre.length+((ba ls).take i).sum
 | .arr t xs ro=>RepArr F w e t xs ro
def Obj.live:Obj→Prop
 | .dead=>False
 | _=>True
def excl (e:EI):Obj→Prop
 | .box _=>True
 | .arr _ _ false=>e.nil=false
 | _=>False
structure Frm where
 O:Nat→Prop
 F0:Nat→Prop
 w0:World
 nb:Nat
 e0:Nat→EI
structure Mem (C:Frm) (A:Nat→Prop) (E:Env) (F:Nat→Prop) (ob:List (Nat × Obj)) (w:World):Prop where
 lv:∀k,(aL ob k).live→E.al k
 rp:∀k,RepO E F w (E.e k) (aL ob k)
 inj:∀k k',excl (E.e k) (aL ob k)→excl (E.e k') (aL ob k')→(E.e k).blk=(E.e k').blk→k=k'
 al:∀k,E.al k→A k
 fb:∀b,F b→b<w.heap.size
 f0:∀b,C.F0 b→F b
 kp:∀b,b<C.w0.heap.size→¬C.O b→w.heap[b]?=C.w0.heap[b]?
 uf:∀b,F b→C.F0 b∨C.O b∨C.w0.heap.size≤b
 uo:∀k,excl (E.e k) (aL ob k)→C.O (E.e k).blk∨C.w0.heap.size≤(E.e k).blk
 sz:C.w0.heap.size≤w.heap.size
 os:w.os=C.w0.os
 tape:w.tape=C.w0.tape
 output:w.output=C.w0.output
 eo:∀k,k<C.nb→E.al k∧E.e k=C.e0 k
structure Tms (E:Env) (F:Nat→Prop) (tm:List V) (a:Act) (w:World):Prop where
 at_:∀t,RepV E F w (nthD bad tm t) (a.tmps.getD t undef)
 tl:tm.length=a.tmps.size
 df:a.defers=[]
def Rel (C:Frm) (A:Nat→Prop) (s:St) (a:Act) (w:World):Prop:=∃E F,Mem C A E F s.ob w∧Tms E F s.tm a w
theorem Mem.mono {C:Frm} {A A':Nat→Prop} {E:Env} {F:Nat→Prop} {ob:List (Nat × Obj)} {w:World} (h:Mem C A E F ob w) (hA:∀k,A k→A' k):Mem C A' E F ob w :=
 ⟨h.lv,h.rp,h.inj,λk hk=>hA k (h.al k hk),h.fb,h.f0,h.kp,h.uf,h.uo,h.sz,h.os,h.tape,h.output,h.eo⟩
theorem Mem.same {C:Frm} {A:Nat→Prop} {E:Env} {F:Nat→Prop} {ob ob':List (Nat × Obj)} {w:World} (h:Mem C A E F ob w) (ho:∀k,aL ob' k=aL ob k):Mem C A E F ob' w :=
 ⟨λk=>by rw[ho]; exact h.lv k,λk=>by rw[ho]; exact h.rp k,λk k'=>by rw[ho,ho]; exact h.inj k k',h.al,h.fb,h.f0,h.kp,h.uf,λk=>by rw[ho]; exact h.uo k,h.sz,h.os,h.tape,h.output,h.eo⟩
theorem Tms.ext {E E':Env} {F F':Nat→Prop} {w w':World} {tm:List V} {a:Act} (h:Tms E F tm a w) (hx:Ext E F w E' F' w'):Tms E' F' tm a w' :=
 ⟨λt=>(h.at_ t).ext hx,h.tl,h.df⟩
theorem c6y {E:Env} {F:Nat→Prop} {w:World} {v:Value}:RepV E F w bad v:=by simp[bad,RepV,RepW]
theorem Tms.put {E:Env} {F:Nat→Prop} {w:World} {tm:List V} {a:Act} (h:Tms E F tm a w) (d:Nat) {x:V} {v:Value} (hx:RepV E F w x v):Tms E F (setN tm d x) (a.put (some d) v) w:=by
 refine⟨λt=>?_,?_,h.df⟩
 ·
  simp only[Act.put,eY,fZ];by_cases e:d=t
  ·
   subst e;by_cases hl:d<tm.length
   ·
    rw[mA,oF hl,mj];have:d<a.tmps.size:=by rw[← h.tl]; exact hl
    simpa[Array.getD,this] using hx
   ·
    rw[mA,mg (by simpa using hl),Option.getD_none];exact c6y
  ·
   have:=h.at_ t;rw[eY]at this;rw[mA,pb e,← mA];rw[ng,Array.getElem?_setIfInBounds_ne e,← ng];exact this
 ·simp[Act.put,fZ,h.tl]
theorem Tms.put_none {E:Env} {F:Nat→Prop} {w:World} {tm:List V} {a:Act} (h:Tms E F tm a w) (v:Value):Tms E F tm (a.put none v) w:=h
inductive RdE (ok:Nat→List DV→List DV→Prop) {α:Type}:Rd α→St→α→List Loc→Prop
 | ret (a:α) (s:St):RdE ok (.ret a) s a []
 | get {l:Loc} {k:Cn→Rd α} {s:St} {a:α} {ls:List Loc}:RdE ok (k (look s l)) s a ls→RdE ok (.get l k) s a (l::ls)
 | thn {t e:Rd α} {s:St} {a:α} {ls:List Loc}:RdE ok t s a ls→RdE ok (.ite true t e) s a ls
 | els {t e:Rd α} {s:St} {a:α} {ls:List Loc}:RdE ok e s a ls→RdE ok (.ite false t e) s a ls
 | call {f:Nat} {p q:List DV} {g:List DV→Rd α} {s:St} {a:α} {ls:List Loc}:ok f p q→RdE ok (g q) s a ls→RdE ok (.call f p g) s a ls
def CTok (ok:Nat→List DV→List DV→Prop) (ct:CT):Prop:=∀f p K r,ct f p K=some r→∃q,ok f p q∧K q=some r
theorem c1j {ok:Nat→List DV→List DV→Prop} {ct:CT} (hct:CTok ok ct) {α:Type}:∀{m:Rd α} {s:St} {ls:List Loc} {k:α→List Loc→Option Rs} {r:Rs},
  iv ct m s ls k=some r→∃a rd,RdE ok m s a rd∧k a (rd.reverse++ls)=some r:=by
 intro m;induction m with
 | ret a=>intro s ls k r h; exact⟨a,[],.ret a s,h⟩
 | fail=>intro s ls k r h; simp[iv]at h
 | get l g ih =>
  intro s ls k r h;obtain⟨a,rd,h1,h2⟩:=ih _ h;exact⟨a,l::rd,.get h1,by simpa using h2⟩
 | ite b t e iht ihe =>
  intro s ls k r h;cases b with
  | true =>
   obtain⟨a,rd,h1,h2⟩:=iht h;exact⟨a,rd,.thn h1,h2⟩
  | false =>
   obtain⟨a,rd,h1,h2⟩:=ihe h;exact⟨a,rd,.els h1,h2⟩
 | call f p g ih =>
  intro s ls k r h;obtain⟨q,h1,h2⟩:=hct _ _ _ _ h;obtain⟨a,rd,h3,h4⟩:=ih _ h2;exact⟨a,rd,.call h1 h3,h4⟩
theorem RdE.local {ok:Nat→List DV→List DV→Prop} {α:Type} {m:Rd α} {s:St} {a:α} {rd:List Loc} (h:RdE ok m s a rd) {s':St} (hs:∀l∈rd,look s' l=look s l):RdE ok m s' a rd:=by
 induction h with
 | ret a s=>exact .ret a s'
 | get _ ih =>
  refine .get ?_;rw[hs _ (by simp)];exact ih λl hl=>hs l (by simp[hl])
 | thn _ ih=>exact .thn (ih hs)
 | els _ ih=>exact .els (ih hs)
 | call hq _ ih=>exact .call hq (ih hs)
section
variable {ok:Nat→List DV→List DV→Prop} {α:Type} {s:St} {a:α}
def Ev (ok:Nat→List DV→List DV→Prop) {α:Type} (m:Rd α) (s:St) (a:α):Prop:=∃rd,RdE ok m s a rd
theorem Ev.ret {x:α} (h:Ev ok (.ret x) s a):a=x:=by obtain⟨_,h⟩:=h; cases h; rfl
theorem Ev.fail (h:Ev ok (.fail:Rd α) s a):False:=by obtain⟨_,h⟩:=h; cases h
theorem Ev.get {l:Loc} {k:Cn→Rd α} (h:Ev ok (.get l k) s a):Ev ok (k (look s l)) s a:=by obtain⟨_,h⟩:=h; cases h with | get h=>exact⟨_,h⟩
theorem Ev.ite {b:Bool} {t e:Rd α} (h:Ev ok (.ite b t e) s a):(b=true∧Ev ok t s a)∨(b=false∧Ev ok e s a):=by
 obtain⟨_,h⟩:=h;cases h with
 | thn h=>exact .inl ⟨rfl,_,h⟩
 | els h=>exact .inr ⟨rfl,_,h⟩
theorem Ev.call {f:Nat} {p:List DV} {g:List DV→Rd α} (h:Ev ok (.call f p g) s a):∃q,ok f p q∧Ev ok (g q) s a:=by
 obtain⟨_,h⟩:=h;cases h with
 | call hq h=>exact⟨_,hq,_,h⟩
end
end Go.Proofs.Zz
