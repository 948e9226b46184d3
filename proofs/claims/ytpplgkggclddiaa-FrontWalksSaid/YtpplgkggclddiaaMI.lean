import Derived.Test.YtpplgkggclddiaaMG
import Derived.Test.YtpplgkggclddiaaMH
import Derived.Test.YtpplgkggclddiaaF2
set_option linter.unusedSimpArgs false
set_option linter.unusedVariables false
/- Loads and stores that end, word for word: the program's and the document's. -/
set_option maxRecDepth 100000
namespace Go.Proofs.Zz
open Go
variable {N:Nat}
/-! Words read -/
def rdB (a:Int) (m:List Int):Nat→Int
 | 0=>0
 | n+1=>bitOr .u32 (rdB a m n) (shl .u32 (w.u32 (m.getD (a+(n:Int)).toNat 0)) (8*(n:Int)))
def loadV (m:List Int) (op a:Int):Int:=if 26≤op∧op≤30 then (if checkM (sizeM op) a (len m) = 0 then signM op (rdB a m (sizeM op).toNat) else 0) else 0
theorem loadR_loop (m:List Int) (op a:Int) (sz:Nat) (hs:sz≤4) (ha:U32 a) (hn:a+sz≤m.length) (hm:m.length≤100000):∀ (n j:Nat),j≤sz→sz - j < n →
  r1_Load_l0 N n m op a (sz:Int) (rdB a m j) (j:Int) = some (1,gI.dv op (gW.dv (rdB a m sz) [])):=by
 intro n;induction n with
 | zero=>intro j h1 h2; omega
 | succ n ih =>
  intro j h1 h2;show r1_Load_r0 N (r1_Load_l0 N n) m op a (sz:Int) (rdB a m j) (j:Int) = _;unfold r1_Load_r0;simp only [U32] at ha;by_cases hj:j < sz
  ·
   have e0:w.i64 a = a:=wI (by omega) (by omega);have e1:w.i64 (8*(j:Int)) = 8*(j:Int):=wI (by omega) (by omega);have e2:w.i64 (a+(j:Int)) = a+(j:Int):=wI (by omega) (by omega);have e3:w.u64 (8*(j:Int)) = 8*(j:Int):=by simp only [w.u64,IntKind.wrap_u64]; omega
   rw [dt (show (j:Int) < (sz:Int) by omega),bi_true,e0,e2,idx_t (by omega) (by omega),gd_true,e1,e3,df (show ¬ (8*(j:Int) < 0) by omega),gf_false,wS (show j≤100000000 by omega)];exact ih (j+1) (by omega) (by omega)
  ·
   have:j = sz:=by omega
   subst this;rw [df (by omega),bi_false]
theorem size_ld {op:Int} (h:26≤op∧op≤30):sizeM op = 1∨sizeM op = 2∨sizeM op = 4:=by
 have:op = 26∨op = 27∨op = 28∨op = 29∨op = 30:=by omega
 rcases this with rfl | rfl | rfl | rfl | rfl <;> decide
theorem check_le {size a n:Int} (hc:checkM size a n = 0):a+size≤n:=by
 unfold checkM at hc;split at hc
 · omega
 ·
  split at hc
  · omega
  · rename_i h; omega
theorem form4 (op:Int):formM op = 4↔26≤op∧op≤30:=by
 unfold formM; repeat' split
 all_goals omega
theorem LoadR_is (m:List Int) (op:Int) {a:Int} (ha:U32 a) (hm:m.length≤100000) (hN:10 < N):r1_Load N m op a = some (0,gW.dv (loadV m op a) []):=by
 unfold r1_Load loadV;rw [r1_Size_is,on1_some,gg_dv,gg_nil,r1_Form_is,on1_some,gg_dv,gg_nil];by_cases h1:26≤op∧op≤30
 ·
  rw [if_pos h1,(form4 op).2 h1,show ((4:Int) != 4) = false from rfl,bi_false];have hs:=size_ld h1;rw [show r1_Check N (sizeM op) a (len m) = _ from Check_is (N:=N) hs ha (by simp only [len]; omega),on1_some,gg_dv,gg_nil];by_cases hc:checkM (sizeM op) a (len m) = 0
  ·
   rw [if_pos hc,hc,show ((0:Int) != 0) = false from rfl,bi_false];have hle:=check_le hc;have e:sizeM op = (((sizeM op).toNat:Nat):Int):=by omega
   have hv:=loadR_loop (N:=N) m op a (sizeM op).toNat (by omega) ha (by simp only [len] at hle; omega) hm N 0 (by omega) (by omega);rw [← e] at hv;rw [show r1_Load_l0 N N m op a (sizeM op) 0 0 = _ from hv,onA_some,gg_dv,gg_dv,gg_nil,ExtendR_is,on1_some,gg_dv,gg_nil]
  · rw [if_neg hc,show (checkM (sizeM op) a (len m) != 0) = true by simp [hc],bi_true]
 · rw [if_neg h1,show (formM op != 4) = true by simp [form4]; omega,bi_true]
/-! Words written -/
theorem storeR_loop (q:api_Write) (m:List Int) (sz:Nat) (hq:q.2.1 = (sz:Int)) (hs:sz≤4) (ha:0≤q.1) (hn:q.1+sz≤len m) (hm:len m≤65536):∀ n j:Nat,j≤sz→sz - j < n →
  r1_Store_l0 N n (wrB q.1 q.2.2.1 m j) (j:Int) q = some (1,(gD (.sl tU)).dv (wrB q.1 q.2.2.1 m sz) []):=by
 intro n;induction n with
 | zero=>intro j h1 h2; omega
 | succ n ih =>
  intro j h1 h2;show r1_Store_r0 N (r1_Store_l0 N n) (wrB q.1 q.2.2.1 m j) (j:Int) q = _;unfold r1_Store_r0;simp only [len] at hn hm;by_cases hj:j < sz
  ·
   have e1:w.i64 (8*(j:Int)) = 8*(j:Int):=wI (by omega) (by omega);have e3:w.u64 (8*(j:Int)) = 8*(j:Int):=by simp only [w.u64,IntKind.wrap_u64]; omega
   have e2:w.i64 (q.1+(j:Int)) = q.1+(j:Int):=wI (by omega) (by omega);rw [dt (show (j:Int) < q.2.1 by omega),bi_true,e1,e3,df (show ¬ (8*(j:Int) < 0) by omega),gf_false,e2,idx_t (by omega) (by rw [wrB_len]; omega),gd_true,wS (show j≤100000000 by omega)];exact ih (j+1) (by omega) (by omega)
  ·
   have:j = sz:=by omega
   subst this;rw [df (by omega),bi_false]
theorem StoreR_is (q:api_Write) (m:List Int) (h:LieW q (len m)) (hm:len m≤65536) (hN:10 < N):r1_Store N m q = some (0,(gD (.sl tU)).dv (wrOf m q) []):=by
 obtain ⟨h1,h2,h3,h4⟩:=h;have hu:w.u32 q.1 = q.1:=by simp only [w.u32,IntKind.wrap_u32]; omega
 have hc:r1_Check N q.2.1 (w.u32 q.1) (len m) = some (0,gI.dv 0 []):=by
  rw [hu,show r1_Check N q.2.1 q.1 (len m) = _ from Check_is (N:=N) h1 (by unfold U32; omega) (by simp only [len] at hm ⊢; omega)];unfold checkM;rw [if_neg (by omega),if_neg (by omega)]
 have hl:r1_Store_l0 N N m 0 q = some (1,(gD (.sl tU)).dv (wrOf m q) []):=storeR_loop (N:=N) q m q.2.1.toNat (by omega) (by omega) h2 (by omega) hm N 0 (by omega) (by omega);unfold r1_Store;simp only [List.nil_append,hc,hl,on1_some,gg_dv,gg_nil,onA_some];rw [df (show ¬ (q.1 < 0) by omega),df (show ¬ (q.1 > 4294967295) by omega),rmT (by simp only [len] at hm; simp; omega)];rcases h1 with h | h | h <;> rw [h] <;> rfl
/-! A request that ends -/
end Go.Proofs.Zz

/- The requests that end: the program's and the document's, alike. -/
set_option maxRecDepth 100000
namespace Go.Proofs.Zz
open Go
variable {N:Nat}
/-! All requests -/
end Go.Proofs.Zz

/- The requests that begin: the program's and the document's, alike; the memory's cycle. -/
set_option maxRecDepth 100000
namespace Go.Proofs.Zz
open Go
variable {N:Nat}
/-! What waits at a bank -/
end Go.Proofs.Zz

/- The memory's cycle: the program's and the document's, alike. -/
set_option maxRecDepth 100000
namespace Go.Proofs.Zz
open Go
variable {N:Nat}
end Go.Proofs.Zz
