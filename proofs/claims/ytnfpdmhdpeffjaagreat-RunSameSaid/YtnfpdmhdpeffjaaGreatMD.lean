import Derived.Test.YtnfpdmhdpeffjaaGreatMX
set_option linter.unusedSimpArgs false
set_option linter.unusedVariables false
namespace Go.Proofs.Zz
open Go
variable {N:Nat}
theorem a6J {s:ao} (h:NextOk s) (e:Bool):∀(n:Nat) (p:bc),hasM s p.A7=true→s.A3.length-p.A7.toNat≤n →
  hasM s (bL s e n p).1.A7=true∧(((bL s e n p).2=false∧(bL s e n p).1.B3<len (cu s e (bL s e n p).1.A7))∨((bL s e n p).2=true∧¬(bL s e n p).1.B3<len (cu s e (bL s e n p).1.A7)∧(bz s (bL s e n p).1.A7).2.2.1<0))
 | 0,p,hp,hn=>by
  have:=fq.1 hp;omega
 | n+1,p,hp,hn=>by
  unfold bL;rw[if_neg (by rw[hp]; simp)];split
  ·rename_i h2; exact⟨hp,.inl ⟨rfl,h2⟩⟩
  ·
   split
   ·rename_i h2 h3; exact⟨hp,.inr ⟨rfl,h2,h3⟩⟩
   ·
    rename_i h3;have h4:=(h _ hp).resolve_left h3;have h5:=fq.1 hp;exact a6J h e n _ h4.2 (by simp only; omega)
theorem d4c {s:ao} (h:NextOk s) (e:Bool) (p:bc) (hp:hasM s p.A7=true):kx s e (kx s e p).1=kx s e p:=by
 have h1:=a6J h e s.A3.length p hp (by omega);have h0:=fq.1 hp;obtain⟨k,hk⟩:∃k,s.A3.length=k+1:=⟨s.A3.length-1,by omega⟩
 unfold kx;rw[hk]at h1 ⊢;generalize bL s e (k+1) p=q at *;obtain⟨q,f⟩:=q;obtain⟨h2,h3⟩:=h1;simp only at h2 h3 ⊢;unfold bL;rw[if_neg (by rw[h2]; simp)];rcases h3 with⟨rfl,h4⟩ | ⟨rfl,h4,h5⟩
 ·rw[if_pos h4]
 ·rw[if_neg h4,if_pos h5]
theorem je {s:ao} (h:NextOk s) (e:Bool) (p:bc) (hp:hasM s p.A7=true):aT s e (kx s e p).1=aT s e p:=by
 unfold aT;rw[d4c h e p hp]
theorem c1H {s:ao} {e:Bool} {p:bc} (h:(kx s e p).2=true):(aT s e p).2.2=false:=by
 unfold aT;rw[if_pos (.inl h)]
theorem d8k {s:ao} {x:aa} (h:x.E.A4=true∨x.E.C3>x.A1):atE s x=(ak.z,0,false,x):=if_pos h
theorem d8m {s:ao} {x:aa} (hn:NextOk s) (hb:hasM s x.E.A6.A7=true) (h:¬(x.E.A4=true∨x.E.C3>x.A1)) (hf:(kx s true x.E.A6).2=true) :
  (atE s x).2.2.1=false∧(atE s x).2.2.2=bG {x with E:={x.E with A6:=(kx s true x.E.A6).1}} 4 (aT s true x.E.A6).2.1 (bz s (kx s true x.E.A6).1.A7).2.1:=by
 unfold atE;rw[if_neg h];simp only[je hn true _ hb,c1H hf,hf,if_true,mZ,and_self]
theorem at_cell {s:ao} {x:aa} (hn:NextOk s) (hb:hasM s x.E.A6.A7=true) (h:¬(x.E.A4=true∨x.E.C3>x.A1)) (hf:(kx s true x.E.A6).2=false) :
  atE s x=((aT s true x.E.A6).1,(aT s true x.E.A6).2.1,(aT s true x.E.A6).2.2&&!dk x (aT s true x.E.A6).2.1,{x with E:={x.E with A6:=(kx s true x.E.A6).1}}):=by
 unfold atE;rw[if_neg h];simp only[je hn true _ hb,hf];rfl
theorem h0K (c:ay) (s:ao) (k:ak) (st:Int) (x:aa):(actE c s k st x).A9=x.A9∨(actE c s k st x).A9=(bG x 3 st k.2.2.2.1).A9:=by
 unfold actE;split
 ·
  split
  ·exact .inl rfl
  ·exact .inr rfl
 split
 ·split<;>exact .inl rfl
 split
 ·split<;>exact .inl rfl
 split
 ·split<;>exact .inl rfl
 split
 ·split<;>exact .inl rfl
 split
 ·split<;>exact .inl rfl
 split
 ·exact .inl rfl
 split<;>exact .inl rfl
variable {N:Nat}
theorem h8Y (b:Int):(cG .u32 b 31).toNat≤31:=by
 unfold cG;have h:((BitVec.ofInt IntKind.u32.bits b &&& BitVec.ofInt IntKind.u32.bits 31).toNat)≤31:=by
  rw[qU];exact qV
 rw[show IntKind.u32.wrap (((BitVec.ofInt IntKind.u32.bits b &&& BitVec.ofInt IntKind.u32.bits 31).toNat:Nat):Int)=(((BitVec.ofInt IntKind.u32.bits b &&& BitVec.ofInt IntKind.u32.bits 31).toNat:Nat):Int) from IntWalk.u32_in _ (by omega)];omega
theorem e8m (x b:Int):shr .i64 x (cG .u32 b 31)=shr .i32 x (cG .u32 b 31):=by
 have:=h8Y b;unfold shr;rw[show min (cG .u32 b 31).toNat IntKind.i64.bits=(cG .u32 b 31).toNat from pg (show _≤64 by omega),show min (cG .u32 b 31).toNat IntKind.i32.bits=(cG .u32 b 31).toNat from pg (show _≤32 by omega)]
theorem e2W (x:Int):w.u32 (w.i64 x)=w.u32 x:=by simp only[w.u32,w.i64,IntKind.wrap_u32,IntKind.wrap_i64]; omega
theorem e6t (x:Int):w.u32 x=x % 4294967296:=by simp only[w.u32,IntKind.wrap_u32]
theorem e6q {a:Int} (h:U32 a):sg a % 4294967296=a % 4294967296:=by
 rw[d8w h]; split<;>omega
theorem e8Z {a b:Int} (ha:U32 a) (hb:U32 b):w.u32 (sg a*sg b)=w.u32 (a*b):=by
 rw[e6t,e6t,Int.mul_emod,e6q ha,e6q hb,← Int.mul_emod]
theorem e9b {a b:Int} (h:b≠0):d1P N a b=some (0,gI.dv (w.i64 (Int.tdiv a b)) (gI.dv (Int.tmod a b) [])):=by
 unfold d1P;rw[df h]; rfl
theorem e6C {op a b im : Int} (ha : U32 a) (hb : U32 b) (h1 : 1 ≤ op) (h2 : op ≤ 16) : ( 
 bi (op == 1) (
  some (0, gW.dv (w.u32 (a + b)) (gB.dv true []))) <|
 bi (op == 2) (
  some (0, gW.dv (w.u32 (a - b)) (gB.dv true []))) <|
 bi (op == 3) (
  some (0, gW.dv (cG .u32 a b) (gB.dv true []))) <|
 bi (op == 4) (
  some (0, gW.dv (fS .u32 a b) (gB.dv true []))) <|
 bi (op == 5) (
  some (0, gW.dv (kM .u32 a b) (gB.dv true []))) <|
 bi (op == 6) (
  gf (decide ((cG .u32 b 31) < 0)) <|
  some (0, gW.dv (shl .u32 a (cG .u32 b 31)) (gB.dv true []))) <|
 bi (op == 7) (
  gf (decide ((cG .u32 b 31) < 0)) <|
  some (0, gW.dv (shr .u32 a (cG .u32 b 31)) (gB.dv true []))) <|
 bi (op == 8) (
  gf (decide ((cG .u32 b 31) < 0)) <|
  some (0, gW.dv (w.u32 (shr .i64 (sg a) (cG .u32 b 31))) (gB.dv true []))) <|
 bi (op == 9) (
  on1 (kP N (decide ((sg a) < (sg b)))) <| gg [pW] <| fun (x13 : Int) => 
  some (0, gW.dv x13 (gB.dv true []))) <|
 bi (op == 10) (
  on1 (kP N (decide (a < b))) <| gg [pW] <| fun (x14 : Int) => 
  some (0, gW.dv x14 (gB.dv true []))) <|
 bi (op == 11) (
  some (0, gW.dv (w.u32 (w.i64 ((sg a) * (sg b)))) (gB.dv true []))) <|
 bi (op == 12) (
  gf (decide ((32 : Int) < (0 : Int))) <|
  some (0, gW.dv (w.u32 (shr .i64 (w.i64 ((sg a) * (sg b))) 32)) (gB.dv true []))) <|
 bi (op == 25) (
  gf (decide ((18 : Int) < (0 : Int))) <|
  some (0, gW.dv (shl .u32 (w.u32 im) 18) (gB.dv true []))) <|
 bi (b == 0) (
  some (0, gW.dv 0 (gB.dv false []))) <|
 on1 (d1P N (sg a) (sg b)) <| gg [pI, pI] <| fun (x15 : Int) (x16 : Int) => 
 bi (op == 13) (
  some (0, gW.dv (w.u32 x15) (gB.dv true []))) <|
 bi (op == 15) (
  some (0, gW.dv (w.u32 x16) (gB.dv true []))) <|
 bi (op == 14) (
  gf (decide (b = 0)) <|
  some (0, gW.dv (w.u32 (Int.tdiv a b)) (gB.dv true []))) <|
 gf (decide (b = 0)) <|
 some (0, gW.dv (Int.tmod a b) (gB.dv true [])) : Option Rs) = some (0, gW.dv (opM op a b).1 (gB.dv (opM op a b).2 [])) := by
  have hm : w.i64 (sg a * sg b) = sg a * sg b := by
    have := e6p (c6q ha) (c6q hb)
    exact wI (by omega) (by omega)
  simp only [d3O, iy, d9G, e2v, au, ag, aj, e8m, e2W, e8Z ha hb]
  by_cases hz : b = 0
  · rw [bt hz, ai]
    have hop : op = 1 ∨ op = 2 ∨ op = 3 ∨ op = 4 ∨ op = 5 ∨ op = 6 ∨ op = 7 ∨ op = 8 ∨ op = 9 ∨ op = 10 ∨ op = 11 ∨ op = 12 ∨ 12 < op := by omega
    rcases hop with rfl | rfl | rfl | rfl | rfl | rfl | rfl | rfl | rfl | rfl | rfl | rfl | hop
    all_goals first
      | rfl
      | (rw [hm]; rfl)
      | (rw [bf (show op ≠ 1 by omega), bf (show op ≠ 2 by omega), bf (show op ≠ 3 by omega), bf (show op ≠ 4 by omega), bf (show op ≠ 5 by omega), bf (show op ≠ 6 by omega), bf (show op ≠ 7 by omega), bf (show op ≠ 8 by omega), bf (show op ≠ 9 by omega), bf (show op ≠ 10 by omega), bf (show op ≠ 11 by omega), bf (show op ≠ 12 by omega), bf (show op ≠ 25 by omega)]
         simp only [ah]
         unfold opM
         rw [if_neg (show op ≠ 1 by omega), if_neg (show op ≠ 2 by omega), if_neg (show op ≠ 3 by omega), if_neg (show op ≠ 4 by omega), if_neg (show op ≠ 5 by omega), if_neg (show op ≠ 6 by omega), if_neg (show op ≠ 7 by omega), if_neg (show op ≠ 8 by omega), if_neg (show op ≠ 9 by omega), if_neg (show op ≠ 10 by omega), if_neg (show op ≠ 11 by omega), if_neg (show op ≠ 12 by omega), if_pos hz])
  · have hs := e2K hb hz
    rw [bf hz, ah, df hz, e9b hs]
    simp only [au, ag, aj, iy, e2W]
    have hop : op = 1 ∨ op = 2 ∨ op = 3 ∨ op = 4 ∨ op = 5 ∨ op = 6 ∨ op = 7 ∨ op = 8 ∨ op = 9 ∨ op = 10 ∨ op = 11 ∨ op = 12 ∨ op = 13 ∨ op = 14 ∨ op = 15 ∨ op = 16 := by omega
    have e1 : w.u32 (Int.tdiv a b) = Int.tdiv a b := by
      have := d1B ha hb
      simp only [U32] at this
      exact IntWalk.u32_in _ (by omega)
    have ho : ∀ k : Int, 13 ≤ k → k ≤ 16 → opM k a b = (if k = 13 then (w.u32 (Int.tdiv (sg a) (sg b)), true) else if k = 15 then (w.u32 (Int.tmod (sg a) (sg b)), true) else if k = 14 then (Int.tdiv a b, true) else (Int.tmod a b, true)) := by
      intro op h1 h2
      unfold opM
      rw [if_neg (show op ≠ 1 by omega), if_neg (show op ≠ 2 by omega), if_neg (show op ≠ 3 by omega), if_neg (show op ≠ 4 by omega), if_neg (show op ≠ 5 by omega), if_neg (show op ≠ 6 by omega), if_neg (show op ≠ 7 by omega), if_neg (show op ≠ 8 by omega), if_neg (show op ≠ 9 by omega), if_neg (show op ≠ 10 by omega), if_neg (show op ≠ 11 by omega), if_neg (show op ≠ 12 by omega), if_neg hz]
    rcases hop with rfl | rfl | rfl | rfl | rfl | rfl | rfl | rfl | rfl | rfl | rfl | rfl | rfl | rfl | rfl | rfl
    all_goals first
      | (rw [hm]; rfl)
      | (rw [ho 13 (by decide) (by decide)]; rfl)
      | (rw [ho 14 (by decide) (by decide), e1]; rfl)
      | (rw [ho 15 (by decide) (by decide)]; rfl)
      | (rw [ho 16 (by decide) (by decide)]; rfl)
      | rfl
theorem d8b {op:Int} (h1:17≤op) (h2:op≤24):1≤kF op∧kF op≤16:=by
 have h:op=17∨op=18∨op=19∨op=20∨op=21∨op=22∨op=23∨op=24:=by omega
 rcases h with rfl | rfl | rfl | rfl | rfl | rfl | rfl | rfl<;>exact⟨by decide,by decide⟩
theorem d0T {op:Int} (h1:17≤op) (h2:op≤24):List.getD [(1:Int),3,4,5,9,6,7,8] (Int.toNat (w.i64 (op-17))) 0=kF op∧idx (w.i64 (op-17)) (List.length [(1:Int),3,4,5,9,6,7,8])=true:=by
 have h:op=17∨op=18∨op=19∨op=20∨op=21∨op=22∨op=23∨op=24:=by omega
 rcases h with rfl | rfl | rfl | rfl | rfl | rfl | rfl | rfl<;>exact⟨rfl,rfl⟩
theorem d9I (op:Int):(ae op=1→1≤op∧op≤16)∧(ae op=2→17≤op∧op≤24)∧(ae op=3→op=25)∧0≤ae op:=by
 unfold ae
 repeat' split
 all_goals omega
theorem e8d (im:Int):shl .u32 (w.u32 im) 18=w.u32 (shl .i64 im 18):=by
 show IntKind.u32.wrap (IntKind.u32.wrap im*2 ^ 18)=IntKind.u32.wrap (IntKind.i64.wrap (im*2 ^ 18));simp only[IntKind.wrap_u32,IntKind.wrap_i64];omega
theorem d9l (i:af) {a b:Int} (ha:U32 a) (hb:U32 b):kC N i a b=some (0,gW.dv (doM i a b).1 (gB.dv (doM i a b).2 [])):=by
 unfold kC;simp only[jg,a5D,au,ag,aj,b0P ha,b0P hb,b0P (dI _)];obtain⟨f1,f2,f3,f4⟩:=d9I i.1;cases hr:bC i with
 | false =>
  have e:doM i a b=(0,true):=if_pos (.inl hr);rw[e]; rfl
 | true =>
  rw[mR,ah];have hf:ae i.1≠0:=by
   intro h;unfold bC at hr;rw[h]at hr;simp at hr
  rw[df (show ¬ae i.1<1 by omega),ah];by_cases h3:ae i.1>3
  ·
   have e:doM i a b=(0,true):=if_pos (.inr h3);rw[e,dt h3,ai]
  rw[df h3,ah];have e0:doM i a b=(if ae i.1=3 then (w.u32 (shl .i64 i.2.2.2.2.1 18),true) else opM (kF i.1) a (if ae i.1=2 then w.u32 i.2.2.2.2.1 else b)):=if_neg (by rw[hr]; simp; omega);rw[e0];by_cases h2:ae i.1=2
  ·
   obtain⟨g1,g2⟩:=f2 h2;rw[bt h2,ai,(d0T g1 g2).2,aH,(d0T g1 g2).1,if_neg (show ¬ae i.1=3 by omega),if_pos h2];obtain⟨g3,g4⟩:=d8b g1 g2;exact e6C (N:=N) (im:=i.2.2.2.2.1) ha (dI i.2.2.2.2.1) g3 g4
  ·
   rw[bf h2,ah];by_cases h1:ae i.1=1
   ·
    obtain⟨g1,g2⟩:=f1 h1;have e1:kF i.1=i.1:=by
     unfold kF;rw[if_neg (show i.1≠17 by omega),if_neg (show i.1≠18 by omega),if_neg (show i.1≠19 by omega),if_neg (show i.1≠20 by omega),if_neg (show i.1≠21 by omega),if_neg (show i.1≠22 by omega),if_neg (show i.1≠23 by omega),if_neg (show i.1≠24 by omega)]
    rw[if_neg (show ¬ae i.1=3 by omega),if_neg h2,e1];exact e6C (N:=N) (im:=i.2.2.2.2.1) ha hb g1 g2
   ·
    have h3:ae i.1=3:=by omega
    rw[if_pos h3,f3 h3,← e8d];rfl
variable {N:Nat}
theorem Wf.pos {x:aa} (h:Wf x) (p:bc):Wf {x with E:={x.E with A6:=p}} :=
 {rA:=h.rA,rE:=h.rE,mem:=h.mem,saq:=h.saq,tab:=h.tab,ldq:=h.ldq,sdq:=h.sdq,aeq:=h.aeq,abq:=h.abq,ebq:=h.ebq,wri:=h.wri,gA:=h.gA,gE:=h.gE}
variable {N:Nat}
end Go.Proofs.Zz
