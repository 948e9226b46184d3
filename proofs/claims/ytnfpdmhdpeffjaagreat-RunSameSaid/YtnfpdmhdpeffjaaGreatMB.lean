import Derived.Test.YtnfpdmhdpeffjaaGreatMA
set_option linter.unusedSimpArgs false
set_option linter.unusedVariables false
namespace Go.Proofs.Zz
open Go
variable {N:Nat}
theorem fq {s:ao} {b:Int}:hasM s b=true↔0≤b∧b<s.A3.length:=by simp only[hasM,len,decide_eq_true_eq]
theorem a7X {s:ao} {b:Int} (h:hasM s b=true):idx b s.A3.length=true:=by rw[fq]at h; exact cd h.1 h.2
theorem a8D (s:ao) (b:Int):jB N s b=some (0,gB.dv (hasM s b) []):=by
 unfold jB hasM;simp only[cP,decide_eq_true_eq];split
 ·refine retB ?_; rw[md]; simp only[decide_eq_true_eq]; omega
 ·refine retB ?_; rw[df (by omega)]
theorem b2y (s:ao) (e:Bool) (b:Int):a7Z N s e b=some (0,(gD (.sl az)).dv (cu s e b) []):=by
 unfold a7Z cu bz;simp only[a8D,au,ag,aj];cases h:hasM s b with
 | false=>rfl
 | true =>
  simp only[a7X h,aH,mR,ah,if_true];cases e<;>rfl
theorem b6X (s:ao) (p:bc):kb N s p=some (0,gI.dv (endM s p) []):=by
 unfold kb endM bz;simp only[a8D,au,ag,aj];cases h:hasM s p.A7 with
 | false=>rfl
 | true=>simp only[a7X h,aH,mR,ah,if_true]
def I64 (x:Int):Prop:=-9223372036854775808≤x∧x≤9223372036854775807
theorem wI64 {x:Int} (h:I64 x):w.i64 x=x:=IntWalk.i64_in _ h
theorem e5f (x:Int):I64 (w.i64 x):=by simp only[w.i64,IntKind.wrap_i64,I64]; omega
theorem d7e (s:ao) (e:Bool) (z:bc) (hl:s.A3.length≤100000):∀(n m i:Nat) (p:bc),m+i=s.A3.length→m<n →
  (a3r N n e (len s.A3) (i:Int) s p z=some (0,gB.dv (bL s e m p).2 (e9.dv (bL s e m p).1 []))) ∨
  (∃p',a3r N n e (len s.A3) (i:Int) s p z=some (1,gB.dv e (cm.dv s (e9.dv p' (e9.dv z []))))∧bL s e m p=bL s e 0 p'):=by
 intro n;induction n with
 | zero=>intro m i p h0 h1; omega
 | succ n ih =>
  intro m i p h0 h1;show (a4y N (a3r N n) e (len s.A3) (i:Int) s p z=_)∨(∃p',a4y N (a3r N n) e (len s.A3) (i:Int) s p z=_∧_);unfold a4y;cases m with
  | zero =>
   rw[ce (by omega)];exact .inr ⟨p,rfl,rfl⟩
  | succ m =>
   rw[bV (by omega)];simp only[ai,a8D,b2y,b6X,au,ag,aj,wS (show i≤100000000 by omega)];unfold bL;cases h:hasM s p.A7 with
   | false=>exact .inl rfl
   | true =>
    simp only[a7X h,aH,mR,ah,pM,if_false,show s.A3.getD p.A7.toNat aW.z=bz s p.A7 from rfl];by_cases h2:p.B3<len (cu s e p.A7)
    ·rw[dt h2,if_pos h2]; exact .inl rfl
    ·
     rw[df h2,if_neg h2,ah];by_cases h3:(bz s p.A7).2.2.1<0
     ·rw[dt h3,if_pos h3]; exact .inl rfl
     ·
      rw[df h3,if_neg h3,ah];exact ih m (i+1) _ (by omega) (by omega)
theorem b0l (s:ao) (e:Bool) (p:bc) (hl:s.A3.length≤100000) (hN:s.A3.length<N):a6v N s e p=some (0,e9.dv (kx s e p).1 (gB.dv (kx s e p).2 [])):=by
 unfold a6v kx;rcases d7e (N:=N) s e bc.z hl N s.A3.length 0 p (by omega) hN with h | ⟨p',h,h2⟩
 ·
  simp only[nD]at h;rw[h];simp only[dF,ag,aj]
 ·
  simp only[nD]at h;rw[h,h2,dH _ _ (by decide)];simp only[ag,aj,a8D,b2y,au];unfold bL;cases hasM s p'.A7<;>rfl
theorem b6D (s:ao) (e:Bool):∀(m:Nat) (p:bc),(bL s e m p).2=false→hasM s (bL s e m p).1.A7=true∧(bL s e m p).1.B3<len (cu s e (bL s e m p).1.A7)
 | 0,p,h=>by
  unfold bL at *;simp only[mw,Bool.not_eq_false',decide_eq_false_iff_not]at h;exact⟨h.1,by simp only; omega⟩
 | m+1,p,h=>by
  unfold bL at *;split at h
  ·simp at h
  ·
   rename_i h1;rw[if_neg h1];split at h
   ·
    rename_i h2;rw[if_pos h2];exact⟨by simpa using h1,h2⟩
   ·
    rename_i h2;rw[if_neg h2];split at h
    ·simp at h
    ·
     rename_i h3;rw[if_neg h3];exact b6D s e m _ h
theorem a6W (s:ao) (e:Bool) (p:bc) (hl:s.A3.length≤100000) (hN:s.A3.length<N):kg N s e p=some (0,bS.dv (aT s e p).1 (gI.dv (aT s e p).2.1 (gB.dv (aT s e p).2.2 []))):=by
 unfold kg aT;simp only[b0l s e p hl hN,au,ag,aj,b6X,b2y];have hs:=b6D s e s.A3.length p;rw[show bL s e s.A3.length p=kx s e p from rfl]at hs;generalize kx s e p=q at *;obtain⟨q,f⟩:=q;cases f with
 | true=>simp only[ai,true_or,if_true]
 | false =>
  obtain⟨h1,h2⟩:=hs rfl;simp only[ah,mN,false_or];by_cases h3:q.B3<0
  ·rw[dt h3,if_pos h3,ai]
  ·
   rw[df h3,if_neg h3,ah];simp only[len]at h2;rw[cd (by omega) h2,aH];rfl
theorem c8w (s:ao) (p:bc) (t:Bool):c2D N s p t=some (0,e9.dv (goM s p t) []):=by
 unfold c2D goM;simp only[a8D,b6X,au,ag,aj];cases t with
 | false=>rfl
 | true =>
  cases h:hasM s p.A7 with
  | false=>rfl
  | true =>
   simp only[a7X h,aH,ai,true_and,bz];cases hasM s (s.A3.getD p.A7.toNat aW.z).2.2.2.1<;>rfl
variable {N:Nat}
theorem e2Z {r:Int} (h:1≤r∧r≤15):idx r 16=true:=cd (by omega) (by omega)
theorem a3A (d:aI) (r:Int):ge N d r=some (0,gW.dv (getM d r) []):=by
 unfold ge getM;simp only[cP,decide_eq_true_eq];by_cases h:1≤r∧r≤15
 ·rw[if_neg (by omega),if_neg (by omega),if_pos h,e2Z h,aH]
 ·
  rw[if_neg h];split
  ·rfl
  ·rw[if_pos (by omega)]
theorem e6u {x:aa} {r:Int} {a b:Option Rs} (h1:1≤r∧r≤15→a=b) (h2:¬(1≤r∧r≤15)→some (0,aA.dv x [])=b) :
  bi (decide (r≥1)) (bi (decide (r≤15)) (gd (idx r 16) (gd (idx r 16) a)) (some (0,aA.dv x []))) (some (0,aA.dv x []))=b:=by
 simp only[cP,decide_eq_true_eq];by_cases h:1≤r∧r≤15
 ·rw[if_pos h.1,if_pos h.2,e2Z h,aH,aH]; exact h1 h
 ·
  split
  ·rw[if_neg (by omega)]; exact h2 h
  ·exact h2 h
theorem a8u (r v ready:Int) (x:aa):a7S N r v ready x=some (0,aA.dv {x with E:=setM x.E r v ready} []):=by
 unfold a7S setM;exact e6u (λh=>by rw[if_pos h]) (λh=>by rw[if_neg h])
theorem b2z (r v ready:Int) (x:aa):b0W N r v ready x=some (0,aA.dv {x with A:=setM x.A r v ready} []):=by
 unfold b0W setM;exact e6u (λh=>by rw[if_pos h]) (λh=>by rw[if_neg h])
theorem a5e (x:aa):a3V N x=some (0,aA.dv {x with E:=cj x.E} []):=rfl
theorem a3t (x:aa):ip N x=some (0,aA.dv {x with A:=cj x.A} []):=rfl
theorem c7y (x:aa):b6p N x=some (0,aA.dv {x with E:=h7M x.E} []):=rfl
theorem c8v (x:aa):b1F N x=some (0,aA.dv {x with A:=h7M x.A} []):=rfl
theorem b3P (s:ao) (t:Bool) (x:aa):b0f N s t x=some (0,aA.dv {x with E:=goD s x.A1 x.E t} []):=by
 unfold b0f goD;rw[c8w,au,ag,aj];cases t<;>rfl
theorem b4E (s:ao) (t:Bool) (x:aa):a7P N s t x=some (0,aA.dv {x with A:=goD s x.A1 x.A t} []):=by
 unfold a7P goD;rw[c8w,au,ag,aj];cases t<;>rfl
theorem e6D:decide ((1:Int)<(1:Int))=false:=rfl
theorem e6G:decide ((1:Int)>(50:Int))=false:=rfl
theorem d9G:decide ((32:Int)<(0:Int))=false:=rfl
theorem e2l (a:Int):bi (decide (a<1)) (some (0,gI.dv (1:Int) [])) (bi (decide (a>50)) (some (0,gI.dv (1:Int) [])) (some (0,gI.dv a [])))=(some (0,gI.dv (if a<1∨a>50 then 1 else a) []):Option Rs):=by
 simp only[cP,decide_eq_true_eq];split
 ·rw[if_pos (.inl (by assumption))]
 ·
  split
  ·rw[if_pos (.inr (by assumption))]
  ·rw[if_neg (by omega)]
theorem b9w (c:ay) (op:Int):b0K N c op=some (0,gI.dv (latM c op) []):=by
 unfold b0K latM;simp only[e2l,e6D,e6G,ah];simp only[cP,beq_iff_eq]
 repeat' split
 all_goals first | rfl | omega
theorem c5r (op a b:Int):b6n N op a b=some (0,gB.dv (fX op a b) []):=by
 unfold b6n fX sg;simp only[cP,beq_iff_eq]
 repeat' split
 all_goals rfl
def U32 (x:Int):Prop:=0≤x∧x≤4294967295
theorem dI (x:Int):U32 (w.u32 x):=by simp only[w.u32,IntKind.wrap_u32,U32]; omega
theorem d8w {a:Int} (h:U32 a):sg a=if a≥2147483648 then a-4294967296 else a:=by
 simp only[sg,w.i32,IntKind.wrap_i32];simp only[U32]at h;split<;>omega
theorem b0P {a:Int} (h:U32 a):kD N a=some (0,gI.dv (sg a) []):=by
 unfold kD;simp only[U32]at h;rw[d8w h,wI (x:=a) (by omega) (by omega),wI (by omega) (by omega)];simp only[cP,decide_eq_true_eq];split<;>rfl
theorem c9m (op:Int) {a b:Int} (ha:U32 a) (hb:U32 b):c2n N op a b=some (0,gB.dv (fX op a b) []):=by
 unfold c2n fX;simp only[b0P ha,b0P hb,au,ag,aj];simp only[cP,beq_iff_eq]
 repeat' split
 all_goals rfl
theorem d5D (op:Int):b6L N op=some (0,gI.dv (kF op) []):=by
 unfold b6L kF;simp only[cP,beq_iff_eq]
 repeat' split
 all_goals rfl
theorem e1o (b:Bool):d3f N b=some (0,gW.dv (h8r b) []):=by cases b<;>rfl
theorem e2v (b:Bool):kP N b=some (0,gW.dv (h8r b) []):=by cases b<;>rfl
theorem c6q {a:Int} (h:U32 a):-2147483648≤sg a∧sg a≤2147483647:=by
 rw[d8w h]; simp only[U32]at h; split<;>omega
theorem e2K {a:Int} (h:U32 a) (h0:a≠0):sg a≠0:=by
 rw[d8w h]; simp only[U32]at h; split<;>omega
theorem d3O (a b:Int):decide (cG .u32 a b<0)=false:=df (by
 unfold cG;have:=dI (((BitVec.ofInt IntKind.u32.bits a &&& BitVec.ofInt IntKind.u32.bits b).toNat:Nat):Int);simp only[w.u32,U32]at this;omega)
theorem e6p {a b:Int} (ha:-2147483648≤a∧a≤2147483647) (hb:-2147483648≤b∧b≤2147483647):-4611686018427387904≤a*b∧a*b≤4611686018427387904:=by
 have h1:a*b≤a.natAbs*b.natAbs:=by
  have:a*b≤((a*b).natAbs:Int):=Int.le_natAbs
  rwa [Int.natAbs_mul,qJ]at this
 have h2:-(a*b)≤a.natAbs*b.natAbs:=by
  have:-(a*b)≤((-(a*b)).natAbs:Int):=Int.le_natAbs
  rwa [Int.natAbs_neg,Int.natAbs_mul,qJ]at this
 have h3:a.natAbs*b.natAbs≤2147483648*2147483648:=oz (by omega) (by omega);omega
theorem d7d {a b:Int} (ha:U32 a) (hb:U32 b):c6w N (w.i32 a) (w.i32 b)=some (0,gW.dv (w.u32 (shr .i64 (sg a*sg b) 32)) []):=by
 unfold c6w;have h1:=c6q ha;have h2:=c6q hb;have h3:=e6p h1 h2;rw[d9G,iy,show w.i32 a=sg a from rfl,show w.i32 b=sg b from rfl,wI (x:=sg a) (by omega) (by omega),wI (x:=sg b) (by omega) (by omega),wI (x:=sg a*sg b) (by omega) (by omega)]
theorem e3t {a:Int} (h:U32 a):fS .u64 (shl .u64 (w.u64 0) 32) (w.u64 a)=a:=by
 simp only[U32]at h;have e:w.u64 a=a:=IntWalk.u64_in _ (by omega);rw[e,show shl .u64 (w.u64 0) 32=0 from rfl];show IntKind.u64.wrap (((BitVec.ofInt 64 0 ||| BitVec.ofInt 64 a).toNat:Nat):Int)=a;rw[show BitVec.ofInt 64 0=0#64 from rfl,BitVec.zero_or,BitVec.toNat_ofInt];rw[IntWalk.u64_in _ (by omega)];omega
theorem d1B {a b:Int} (ha:U32 a) (hb:U32 b):U32 (Int.tdiv a b):=by
 simp only[U32]at *;rw[ou ha.1];refine⟨qK ha.1 hb.1,?_⟩;have:=qG (a:=a) b ha.1;omega
theorem d0H {a b:Int} (ha:U32 a) (hb:U32 b) (h0:b≠0):U32 (Int.tmod a b):=by
 simp only[U32]at *;rw[oQ ha.1];have:=ol a h0;have:=oW a (show 0<b by omega);omega
theorem e5Y {a b:Int} (ha:U32 a) (hb:U32 b) (h0:b≠0):a4v N 0 a b=some (0,gW.dv (Int.tdiv a b) (gW.dv (Int.tmod a b) [])):=by
 unfold a4v;have hb2:=hb;simp only[U32]at hb2;have e:w.u64 b=b:=IntWalk.u64_in _ (by omega);have h1:=d1B ha hb;have h2:=d0H ha hb h0;simp only[U32]at h1 h2;have e2:w.u64 (Int.tdiv a b)=Int.tdiv a b:=IntWalk.u64_in _ (by omega);have e3:w.u32 (Int.tdiv a b)=Int.tdiv a b:=IntWalk.u32_in _ (by omega);have e4:w.u32 (Int.tmod a b)=Int.tmod a b:=IntWalk.u32_in _ (by omega);rw[e3t ha,e,e2,e3,e4,show (b != 0)=true from bne_iff_ne.2 h0,ai,df (show ¬b≤0 by omega),d9G,df h0];rfl
theorem e5N {a b:Int} (ha:U32 a) (hb:U32 b) (h0:b≠0):a4r N 0 a b=some (0,gW.dv (Int.tmod a b) []):=by
 unfold a4r;have hb2:=hb;simp only[U32]at hb2;have e:w.u64 b=b:=IntWalk.u64_in _ (by omega);have h2:=d0H ha hb h0;simp only[U32]at h2;have e4:w.u32 (Int.tmod a b)=Int.tmod a b:=IntWalk.u32_in _ (by omega);rw[e3t ha,e,e4,d9G,df h0];rfl
theorem e6Q (x:Int):w.u32 (w.i32 x)=w.u32 x:=by simp only[w.u32,w.i32,IntKind.wrap_u32,IntKind.wrap_i32]; omega
theorem d2K {op a b:Int} (ho:13≤op∧op≤16) (ha:U32 a) (hb:U32 b) (h0:b≠0):b8o N op a b=some (0,gW.dv (opM op a b).1 []):=by
 have hop:op=13∨op=14∨op=15∨op=16:=by omega
 have hz:=e2K hb h0;unfold b8o;rw[e5Y ha hb h0,e5N ha hb h0,show w.i32 a=sg a from rfl,show w.i32 b=sg b from rfl,df hz];simp only[au,ag,aj,iy,e6Q];have key1:sg a=-2147483648→sg b=-1→w.u32 (Int.tdiv (sg a) (sg b))=a:=by
  intro h1 h2;rw[h1,h2];rw[d8w ha]at h1;simp only[U32]at ha;have:a=2147483648:=by split at h1<;>omega
  rw[this]; rfl
 have key2:sg a=-2147483648→sg b=-1→w.u32 (Int.tmod (sg a) (sg b))=0:=by
  intro h1 h2;rw[h1,h2]; rfl
 rcases hop with rfl | rfl | rfl | rfl
 ·
  simp only[opM,show (13:Int)≠1 by decide,show (13:Int)≠2 by decide,show (13:Int)≠3 by decide,show (13:Int)≠4 by decide,show (13:Int)≠5 by decide,show (13:Int)≠6 by decide,show (13:Int)≠7 by decide,show (13:Int)≠8 by decide,show (13:Int)≠9 by decide,show (13:Int)≠10 by decide,show (13:Int)≠11 by decide,show (13:Int)≠12 by decide,h0,if_false,if_true,show ((13:Int)==14)=false from rfl,show ((13:Int)==16)=false from rfl,show ((13:Int)==13)=true from rfl,ai,ah];simp only[cP,beq_iff_eq];split
  ·
   split
   ·rw[key1 (by assumption) (by assumption)]
   ·rfl
  ·rfl
 ·
  simp only[opM,show (14:Int)≠1 by decide,show (14:Int)≠2 by decide,show (14:Int)≠3 by decide,show (14:Int)≠4 by decide,show (14:Int)≠5 by decide,show (14:Int)≠6 by decide,show (14:Int)≠7 by decide,show (14:Int)≠8 by decide,show (14:Int)≠9 by decide,show (14:Int)≠10 by decide,show (14:Int)≠11 by decide,show (14:Int)≠12 by decide,show (14:Int)≠13 by decide,show (14:Int)≠15 by decide,h0,if_false,if_true,show ((14:Int)==14)=true from rfl,ai,ah];cases (sg a==-2147483648)<;>rfl
 ·
  simp only[opM,show (15:Int)≠1 by decide,show (15:Int)≠2 by decide,show (15:Int)≠3 by decide,show (15:Int)≠4 by decide,show (15:Int)≠5 by decide,show (15:Int)≠6 by decide,show (15:Int)≠7 by decide,show (15:Int)≠8 by decide,show (15:Int)≠9 by decide,show (15:Int)≠10 by decide,show (15:Int)≠11 by decide,show (15:Int)≠12 by decide,show (15:Int)≠13 by decide,h0,if_false,if_true,show ((15:Int)==14)=false from rfl,show ((15:Int)==16)=false from rfl,show ((15:Int)==13)=false from rfl,ai,ah];simp only[cP,beq_iff_eq];split
  ·
   split
   ·rw[key2 (by assumption) (by assumption)]
   ·rfl
  ·rfl
 ·
  simp only[opM,show (16:Int)≠1 by decide,show (16:Int)≠2 by decide,show (16:Int)≠3 by decide,show (16:Int)≠4 by decide,show (16:Int)≠5 by decide,show (16:Int)≠6 by decide,show (16:Int)≠7 by decide,show (16:Int)≠8 by decide,show (16:Int)≠9 by decide,show (16:Int)≠10 by decide,show (16:Int)≠11 by decide,show (16:Int)≠12 by decide,show (16:Int)≠13 by decide,show (16:Int)≠14 by decide,show (16:Int)≠15 by decide,h0,if_false,if_true,show ((16:Int)==14)=false from rfl,show ((16:Int)==16)=true from rfl,ai,ah];cases (sg a==-2147483648)<;>rfl
theorem e9q {op a b:Int} (h0:op≤12∨b≠0) (h1:1≤op):(opM op a b).2=true:=by
 unfold opM;by_cases g1:op=1
 ·rw[if_pos g1]
 rw[if_neg g1];by_cases g2:op=2
 ·rw[if_pos g2]
 rw[if_neg g2];by_cases g3:op=3
 ·rw[if_pos g3]
 rw[if_neg g3];by_cases g4:op=4
 ·rw[if_pos g4]
 rw[if_neg g4];by_cases g5:op=5
 ·rw[if_pos g5]
 rw[if_neg g5];by_cases g6:op=6
 ·rw[if_pos g6]
 rw[if_neg g6];by_cases g7:op=7
 ·rw[if_pos g7]
 rw[if_neg g7];by_cases g8:op=8
 ·rw[if_pos g8]
 rw[if_neg g8];by_cases g9:op=9
 ·rw[if_pos g9]
 rw[if_neg g9];by_cases g10:op=10
 ·rw[if_pos g10]
 rw[if_neg g10];by_cases g11:op=11
 ·rw[if_pos g11]
 rw[if_neg g11];by_cases g12:op=12
 ·rw[if_pos g12]
 rw[if_neg g12];rw[if_neg (show ¬b=0 by omega)];by_cases g13:op=13
 ·rw[if_pos g13]
 rw[if_neg g13];by_cases g15:op=15
 ·rw[if_pos g15]
 rw[if_neg g15];by_cases g14:op=14
 ·rw[if_pos g14]
 rw[if_neg g14]
theorem e6h {op a:Int} (h:13≤op):opM op a 0=(0,false):=by
 unfold opM;rw[if_neg (show ¬op=1 by omega),if_neg (show ¬op=2 by omega),if_neg (show ¬op=3 by omega),if_neg (show ¬op=4 by omega),if_neg (show ¬op=5 by omega),if_neg (show ¬op=6 by omega),if_neg (show ¬op=7 by omega),if_neg (show ¬op=8 by omega),if_neg (show ¬op=9 by omega),if_neg (show ¬op=10 by omega),if_neg (show ¬op=11 by omega),if_neg (show ¬op=12 by omega),if_pos rfl]
theorem d4M {op a b:Int} (ho:1≤op∧op≤16) (ha:U32 a) (hb:U32 b):d1q N op a b=some (0,gW.dv (opM op a b).1 (gB.dv (opM op a b).2 [])):=by
 by_cases hd:13≤op∧b≠0
 ·
  have e:=d2K (N:=N) (op:=op) ⟨hd.1,ho.2⟩ ha hb hd.2;rw[e9q (.inr hd.2) ho.1];unfold d1q;rw[bf (show op≠1 by omega),bf (show op≠2 by omega),bf (show op≠3 by omega),bf (show op≠4 by omega),bf (show op≠5 by omega),bf (show op≠6 by omega),bf (show op≠7 by omega),bf (show op≠8 by omega),bf (show op≠9 by omega),bf (show op≠10 by omega),bf (show op≠11 by omega),bf (show op≠12 by omega),bf hd.2,e];rfl
 ·
  unfold d1q;simp only[e1o,d7d ha hb,au,ag,aj,d3O,iy];simp only[cP,beq_iff_eq];by_cases g1:op=1
  ·rw[if_pos g1]; subst g1; rfl
  rw[if_neg g1];by_cases g2:op=2
  ·rw[if_pos g2]; subst g2; rfl
  rw[if_neg g2];by_cases g3:op=3
  ·rw[if_pos g3]; subst g3; rfl
  rw[if_neg g3];by_cases g4:op=4
  ·rw[if_pos g4]; subst g4; rfl
  rw[if_neg g4];by_cases g5:op=5
  ·rw[if_pos g5]; subst g5; rfl
  rw[if_neg g5];by_cases g6:op=6
  ·rw[if_pos g6]; subst g6; rfl
  rw[if_neg g6];by_cases g7:op=7
  ·rw[if_pos g7]; subst g7; rfl
  rw[if_neg g7];by_cases g8:op=8
  ·rw[if_pos g8]; subst g8; rfl
  rw[if_neg g8];by_cases g9:op=9
  ·rw[if_pos g9]; subst g9; rfl
  rw[if_neg g9];by_cases g10:op=10
  ·rw[if_pos g10]; subst g10; rfl
  rw[if_neg g10];by_cases g11:op=11
  ·rw[if_pos g11]; subst g11; rfl
  rw[if_neg g11];by_cases g12:op=12
  ·rw[if_pos g12]; subst g12; rfl
  rw[if_neg g12];have gb:b=0:=by omega
  rw[if_pos gb]; subst gb;rw[e6h (by omega)]
theorem e1v {i:af} (h:ae i.1=1∨ae i.1=2):1≤kF i.1∧kF i.1≤16:=by
 unfold ae at h;unfold kF
 repeat' split
 all_goals first | omega | (split at h<;>omega)
theorem d3k {i:af} (h:bC i=true):ae i.1≠0:=by
 unfold bC at h;simp only[mE,decide_eq_true_eq]at h;exact h.1.1.1.1
theorem d6i (i:af) {a b:Int} (ha:U32 a) (hb:U32 b):d5P N i a b=some (0,gW.dv (doM i a b).1 (gB.dv (doM i a b).2 [])):=by
 unfold d5P doM c2M;simp only[iA,b6S,d5D,au,ag,aj];cases hr:bC i with
 | false=>rfl
 | true =>
  have h0:=d3k hr;have h1:=kQ i.1;simp only[mR,ah,pM,false_or];by_cases h3:ae i.1>3
  ·rw[dt h3,if_pos h3]; rfl
  ·
   rw[df h3,if_neg h3,ah];by_cases h4:ae i.1=3
   ·rw[bt h4,if_pos h4]; rfl
   ·
    have hp:=e1v (i:=i) (by omega);rw[bf h4,if_neg h4,ah,d4M hp ha (dI _),d4M hp ha hb];simp only[au,ag,aj];by_cases h5:ae i.1=2
    ·rw[bt h5,if_pos h5]; rfl
    ·rw[bf h5,if_neg h5]; rfl
end Go.Proofs.Zz
