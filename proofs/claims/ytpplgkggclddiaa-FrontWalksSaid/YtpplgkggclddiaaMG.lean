import Derived.Test.YtpplgkggclddiaaME
import Derived.Test.YtpplgkggclddiaaF2
import Derived.KernelRfl
set_option linter.unusedSimpArgs false
set_option linter.unusedVariables false
/- Steps are small; how far A is ahead; what A's cycle does then. -/
namespace Go.Proofs.Zz
open Go
variable {N:Nat}
end Go.Proofs.Zz

/- A that is far ahead waits: the reference law's answer. -/
namespace Go.Proofs.Zz
open Go
variable {N:Nat}
end Go.Proofs.Zz

/- What waits in E's cycle, and what does not: the model's law. -/
namespace Go.Proofs.Zz
open Go
variable {N:Nat}
end Go.Proofs.Zz

/- What waits in E's cycle stays: the reference law's answer. -/
namespace Go.Proofs.Zz
open Go
variable {N:Nat}
end Go.Proofs.Zz

/- Programs of a load or a store, and a halt: how they are split. -/
set_option maxRecDepth 100000
namespace Go.Proofs.Zz
open Go
section
variable {op d imm size:Int} {ext:Bool} {data:List Int}
end
end Go.Proofs.Zz

/- A load or store of a wrong address is a trap: the reference law's answer. -/
set_option maxRecDepth 100000
namespace Go.Proofs.Zz
open Go
section
variable {op d imm size:Int} {ext:Bool} {data:List Int}
end
end Go.Proofs.Zz

/- Loads behind stores: the reference's search and its bypass. -/
set_option maxRecDepth 100000
namespace Go.Proofs.Zz
open Go
variable {N:Nat}
theorem ExtendR_is (op v:Int):r1_Extend N op v = some (0,gW.dv (signM op v) []):=by
 unfold r1_Extend signM;have e:∀ k:Int,U32 (shl .u32 v k):=fun k=>w_U32 _
 have e1:decide ((16:Int) < (0:Int)) = false:=rfl;have e2:decide ((24:Int) < (0:Int)) = false:=rfl;simp only [e1,e2,gf_false,r1_Int_is (e 16),r1_Int_is (e 24),on1_some,gg_dv,gg_nil,bi_if,beq_iff_eq];have w16:∀ v:Int,w.i16 v = (v+32768) % 65536 - 32768:=by
  intro v;simp only [w.i16,IntKind.wrap,IntKind.bits,IntKind.signed];simp;omega
 have w8:∀ v:Int,w.i8 v = (v+128) % 256 - 128:=by
  intro v;simp only [w.i8,IntKind.wrap,IntKind.bits,IntKind.signed];simp;omega
 have s1:shl .u32 v 16 = (v*65536) % 4294967296:=by
  unfold shl;rw [show (2:Int) ^ (min (Int.toNat 16) IntKind.u32.bits) = 65536 from rfl,IntKind.wrap_u32]
 have s2:shl .u32 v 24 = (v*16777216) % 4294967296:=by
  unfold shl;rw [show (2:Int) ^ (min (Int.toNat 24) IntKind.u32.bits) = 16777216 from rfl,IntKind.wrap_u32]
 have k1:w.u32 (shr .i64 (sg (shl .u32 v 16)) 16) = w.u32 (w.i32 (w.i16 v)):=by
  rw [sg_is (e 16),s1,w16];unfold shr;rw [show (2:Int) ^ (min (Int.toNat 16) IntKind.i64.bits) = 65536 from rfl,Int.fdiv_eq_ediv_of_nonneg _ (by omega)];simp only [w.u32,w.i32,IntKind.wrap_u32,IntKind.wrap_i32];split <;> omega
 have k2:w.u32 (shr .i64 (sg (shl .u32 v 24)) 24) = w.u32 (w.i32 (w.i8 v)):=by
  rw [sg_is (e 24),s2,w8];unfold shr;rw [show (2:Int) ^ (min (Int.toNat 24) IntKind.i64.bits) = 16777216 from rfl,Int.fdiv_eq_ediv_of_nonneg _ (by omega)];simp only [w.u32,w.i32,IntKind.wrap_u32,IntKind.wrap_i32];split <;> omega
 rw [k1,k2];by_cases h1:op = 27
 · rw [if_pos h1,if_pos h1]
 ·
  rw [if_neg h1,if_neg h1];by_cases h2:op = 29
  · rw [if_pos h2,if_pos h2]
  · rw [if_neg h2,if_neg h2]
end Go.Proofs.Zz

/- The memory's cycle: what it leaves. -/
set_option maxRecDepth 100000
namespace Go.Proofs.Zz
open Go
variable {N:Nat}
/-! Bytes written -/
def wrB (a v:Int) (m:List Int):Nat→List Int
 | 0=>m
 | n+1=>(wrB a v m n).set (a+(n:Int)).toNat (w.u8 (shr .u32 v (8*(n:Int))))
theorem wrB_len (a v:Int) (m:List Int):∀ n,(wrB a v m n).length = m.length
 | 0=>rfl
 | n+1=>by rw [wrB,List.length_set,wrB_len a v m n]
def LieW (q:api_Write) (n:Int):Prop:=(q.2.1 = 1∨q.2.1 = 2∨q.2.1 = 4)∧0≤q.1∧q.1+q.2.1≤n∧q.1 % q.2.1 = 0
def wrOf (m:List Int) (q:api_Write):List Int:=wrB q.1 q.2.2.1 m q.2.1.toNat
/-! A store that ends -/
def wrQ (q:api_Request):api_Write:=(q.2.2.1,(q.2.2.2.1,(q.2.2.2.2.1,())))
/-! A load that ends -/
theorem sign_U32 (op:Int) {v:Int} (h:U32 v):U32 (signM op v):=by
 unfold signM;split
 · exact w_U32 _
 ·
  split
  · exact w_U32 _
  · exact h
/-! All requests -/
end Go.Proofs.Zz

/- The memory's cycle, and the sending of stores: what they leave. -/
set_option maxRecDepth 100000
namespace Go.Proofs.Zz
open Go
variable {N:Nat}
/-! Stores that are sent -/
end Go.Proofs.Zz

/- Words stay words in E's and A's cycles. -/
set_option maxRecDepth 100000
namespace Go.Proofs.Zz
open Go
variable {N:Nat}
theorem shr_U32 {a n:Int} (h:U32 a):U32 (shr .u32 a n):=by
 unfold shr;have hp:(1:Int)≤2 ^ (min n.toNat IntKind.u32.bits):=by
  have:(0:Int) < 2 ^ (min n.toNat IntKind.u32.bits):=Int.pow_pos (by omega);omega
 generalize (2:Int) ^ (min n.toNat IntKind.u32.bits) = p at hp;rw [Int.fdiv_eq_ediv_of_nonneg _ (by omega)];have h1:0≤a / p:=Int.ediv_nonneg h.1 (by omega);have h2:a / p≤a:=Int.ediv_le_self _ h.1;have:=h.2;exact ⟨h1,by omega⟩
theorem opM_U32 (op:Int) {a b:Int} (ha:U32 a) (hb:U32 b):U32 (opM op a b).1:=by
 have hz:U32 0:=⟨by omega,by omega⟩
 have h01:∀ c:Bool,U32 (one01 c):=by intro c; cases c <;> exact ⟨by decide,by decide⟩
 unfold opM;by_cases h1:op = 1
 · rw [if_pos h1]; exact w_U32 _
 rw [if_neg h1];by_cases h2:op = 2
 · rw [if_pos h2]; exact w_U32 _
 rw [if_neg h2];by_cases h3:op = 3
 · rw [if_pos h3]; exact w_U32 _
 rw [if_neg h3];by_cases h4:op = 4
 · rw [if_pos h4]; exact w_U32 _
 rw [if_neg h4];by_cases h5:op = 5
 · rw [if_pos h5]; exact w_U32 _
 rw [if_neg h5];by_cases h6:op = 6
 · rw [if_pos h6]; exact w_U32 _
 rw [if_neg h6];by_cases h7:op = 7
 · rw [if_pos h7]; exact shr_U32 ha
 rw [if_neg h7];by_cases h8:op = 8
 · rw [if_pos h8]; exact w_U32 _
 rw [if_neg h8];by_cases h9:op = 9
 · rw [if_pos h9]; exact h01 _
 rw [if_neg h9];by_cases h10:op = 10
 · rw [if_pos h10]; exact h01 _
 rw [if_neg h10];by_cases h11:op = 11
 · rw [if_pos h11]; exact w_U32 _
 rw [if_neg h11];by_cases h12:op = 12
 · rw [if_pos h12]; exact w_U32 _
 rw [if_neg h12];by_cases hb0:b = 0
 · rw [if_pos hb0]; exact hz
 rw [if_neg hb0];by_cases h13:op = 13
 · rw [if_pos h13]; exact w_U32 _
 rw [if_neg h13];by_cases h15:op = 15
 · rw [if_pos h15]; exact w_U32 _
 rw [if_neg h15];have k1:=ha.1; have k2:=hb.1; have k3:=ha.2; have k4:=hb.2;by_cases h14:op = 14
 ·
  rw [if_pos h14];show U32 (Int.tdiv a b);rw [Int.tdiv_eq_ediv_of_nonneg k1];exact ⟨Int.ediv_nonneg k1 k2,by have:=Int.ediv_le_self b k1; omega⟩
 ·
  rw [if_neg h14];show U32 (Int.tmod a b);rw [Int.tmod_eq_emod_of_nonneg k1];exact ⟨Int.emod_nonneg _ hb0,by have:=Int.emod_lt_of_pos a (show 0 < b by omega); omega⟩
theorem doM_U32 (i:api_Ins) {a b:Int} (ha:U32 a) (hb:U32 b):U32 (doM i a b).1:=by
 unfold doM;split
 · exact ⟨by simp,by simp⟩
 ·
  split
  · exact w_U32 _
  ·
   refine opM_U32 _ ha ?_;split
   · exact w_U32 _
   · exact hb
end Go.Proofs.Zz

/- A cycle of the core: what it leaves. -/
set_option maxRecDepth 100000
namespace Go.Proofs.Zz
open Go
variable {N:Nat}
end Go.Proofs.Zz

/- Memory is what it was at first, with all that was written: the reference law's answer. -/
set_option maxRecDepth 100000
namespace Go.Proofs.Zz
open Go
variable {N:Nat}
section
variable (cy:Int) (s:api_Split)
end
end Go.Proofs.Zz
