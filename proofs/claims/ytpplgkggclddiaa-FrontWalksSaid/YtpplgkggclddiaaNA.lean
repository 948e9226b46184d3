import Derived.Test.YtpplgkggclddiaaMB
import Derived.Test.YtpplgkggclddiaaEnhK
set_option linter.unusedSimpArgs false
set_option linter.unusedVariables false
/- The reference's targets, programs that may be, owners: what their plain functions answer. -/
namespace Go.Proofs.Zz
open Go
variable {N:Nat}
def RegsOk (i:api_Ins):Prop:=(0≤i.2.1∧i.2.1≤15)∧(0≤i.2.2.1∧i.2.2.1≤15)∧(0≤i.2.2.2.1∧i.2.2.2.1≤15)
theorem fieldM_reg {n:Int} {h:Bool} (hf:fieldM n h 0 15 = true):0≤n∧n≤15:=by
 unfold fieldM at hf;split at hf <;> simp only [decide_eq_true_eq] at hf <;> omega
theorem rightIns_regs {i:api_Ins} (h:rightIns i = true):RegsOk i:=by
 unfold rightIns at h;simp only [Bool.and_eq_true] at h;exact ⟨fieldM_reg h.1.1.1.2,fieldM_reg h.1.1.2,fieldM_reg h.1.2⟩
theorem readsM_regs (i:api_Ins):∀ x∈readsM i,1≤x∧x≤15:=by
 intro x hx;unfold readsM at hx;split at hx
 ·
  obtain ⟨_,⟨a0,a1⟩,b0,b1⟩:=rightIns_regs (by assumption);rw [List.mem_append] at hx;rcases hx with hx | hx
  ·
   split at hx
   ·
    rename_i h;simp only [List.mem_singleton] at hx;have:=h.2; omega
   · simp at hx
  ·
   split at hx
   ·
    rename_i h;simp only [List.mem_singleton] at hx;have:=h.2; omega
   · simp at hx
 · simp at hx
def Right (p:api_Program):Prop:=1≤p.Code.length∧p.Code.length≤2000∧∀ j:Nat,j < p.Code.length→rightIns (p.Code.getD j api_Ins.z) = true
end Go.Proofs.Zz

/- The reference's least owner, closed owners: what their plain functions answer. -/
namespace Go.Proofs.Zz
open Go
variable {N:Nat}
theorem wS' {i:Int} (h0:0≤i) (h:i≤100000000):w.i64 (i+1) = i+1:=wI (by omega) (by omega)
end Go.Proofs.Zz

/- The reference's leaders: what their plain functions answer. -/
namespace Go.Proofs.Zz
open Go
variable {N:Nat}
theorem set_len (l:List Bool) (i:Nat):(l.set i true).length = l.length:=by simp
structure Lead (l:List Int) (n:Int):Prop where
 lo:∀ k:Nat,k < l.length→0≤l.getD k 0∧l.getD k 0 < n
 up:∀ j k:Nat,j < k→k < l.length→l.getD j 0 < l.getD k 0
 len:(l.length:Int)≤n
theorem Lead.next {l:List Int} {i:Int} (h:Lead l i):Lead l (i+1):=⟨fun k hk=>by have:=h.lo k hk; omega,h.up,by have:=h.len; omega⟩
theorem reach_is:reach = 35184372088832:=by kernel_rfl
end Go.Proofs.Zz

/- The reference's blocks: what their plain function answers. -/
namespace Go.Proofs.Zz
open Go
variable {N:Nat}
abbrev D0:=Int × (Int × (Int × (Int × (Unit × (Unit × Unit)))))
abbrev tB0:Ty:=B4 .nl
end Go.Proofs.Zz

/- The reference's cells: what their plain functions answer. -/
namespace Go.Proofs.Zz
open Go
variable {N:Nat}
def InsK (kd:Int) (i:api_Ins):Prop:=(kd = 2∨kd = 3→26≤i.1∧i.1≤30∧0≤i.2.1∧i.2.1≤15)∧(kd = 4→31≤i.1∧i.1≤33)
theorem insK_no {kd:Int} {i:api_Ins} (h2:kd≠2) (h3:kd≠3) (h4:kd≠4):InsK kd i:=⟨fun h=>by omega,fun h=>by omega⟩
theorem insK_ld {kd:Int} {i:api_Ins} (hd:0≤i.2.1∧i.2.1≤15) (h:(formM i.1 == 4) = true) (h4:kd≠4):InsK kd i:=by
 have h:=beq_iff_eq.1 h;refine ⟨fun _=>?_,fun h=>by omega⟩
 have:26≤i.1∧i.1≤30:=by
  unfold formM at h
  repeat' split at h
  all_goals omega
 omega
theorem insK_st {kd:Int} {i:api_Ins} (h:(formM i.1 == 5) = true) (h2:kd≠2) (h3:kd≠3):InsK kd i:=by
 have h:=beq_iff_eq.1 h;refine ⟨fun h=>by omega,fun _=>?_⟩
 unfold formM at h
 repeat' split at h
 all_goals omega
structure CellsOk (ks:List Int) (pc off:Int) (l:List api_Cell) (m:Nat):Prop where
 len:l.length≤m
 all:∀ c∈l,c.2.2.2.1 = pc∧c.2.2.2.2.1 = off
 kin:∀ c∈l,c.1∈ks
 ins:∀ c∈l,InsK c.1 c.2.1
theorem CellsOk.nil (pc off:Int) (ks:List Int):CellsOk ks pc off [] 0:=⟨Nat.le_refl _,by simp,by simp,by simp⟩
theorem CellsOk.mono {ks:List Int} {pc off:Int} {l:List api_Cell} {m m':Nat} (h:CellsOk ks pc off l m) (hm:m≤m'):CellsOk ks pc off l m':=⟨Nat.le_trans h.len hm,h.all,h.kin,h.ins⟩
theorem CellsOk.sub {ks ks':List Int} {pc off:Int} {l:List api_Cell} {m:Nat} (h:CellsOk ks pc off l m) (hm:∀ x∈ks,x∈ks'):CellsOk ks' pc off l m:=⟨h.len,h.all,fun c hc=>hm _ (h.kin c hc),h.ins⟩
def KA:List Int:=[1,2,3,4,5,9,10,11,12]
def KE:List Int:=[1,6,7,8,9,10,11,12]
def MkOk (ks:List Int) (pc off:Int) (m:r10_maker) (k:Nat):Prop:=m.Pc = pc∧m.Off = off∧CellsOk ks pc off m.L k
theorem MkOk.cons {ks:List Int} {pc off:Int} {m:r10_maker} {k:Nat} (h:MkOk ks pc off m k) (kd:Int):MkOk (kd::ks) pc off m k:=⟨h.1,h.2.1,h.2.2.sub fun x hx=>List.mem_cons_of_mem _ hx⟩
section
variable {ks:List Int} {pc off:Int} {m:r10_maker} {k:Nat}
end
theorem MkOk.mono {ks:List Int} {pc off:Int} {m:r10_maker} {k k':Nat} (h:MkOk ks pc off m k) (hk:k≤k'):MkOk ks pc off m k':=⟨h.1,h.2.1,h.2.2.mono hk⟩
section
variable {ks:List Int} {pc off:Int} {m:r10_maker} {k:Nat}
end
end Go.Proofs.Zz

/- The reference's splits: what their plain functions answer. -/
set_option maxRecDepth 100000
namespace Go.Proofs.Zz
open Go
variable {N:Nat}
structure SpanOk (ks:List Int) (f k:Int) (l:List api_Cell):Prop where
 len:(l.length:Int)≤8*(k - f)
 all:∀ c∈l,f≤c.2.2.2.1∧c.2.2.2.1 < k∧c.2.2.2.2.1 = c.2.2.2.1 - f
 kin:∀ c∈l,c.1∈ks
 ins:∀ c∈l,InsK c.1 c.2.1
structure SplitOk (zs:List api_Block):Prop where
 ne:zs≠[]
 len:zs.length≤2000
 blk:∀ k:Nat,k < zs.length→0≤(zs.getD k api_Block.z).1∧(zs.getD k api_Block.z).1 < (zs.getD k api_Block.z).2.1∧(zs.getD k api_Block.z).2.1≤2000∧((zs.getD k api_Block.z).2.2.1 = -1∨((k:Int) < (zs.getD k api_Block.z).2.2.1∧(zs.getD k api_Block.z).2.2.1 < zs.length)) ∧
  SpanOk KA (zs.getD k api_Block.z).1 (zs.getD k api_Block.z).2.1 (zs.getD k api_Block.z).2.2.2.2.1∧SpanOk KE (zs.getD k api_Block.z).1 (zs.getD k api_Block.z).2.1 (zs.getD k api_Block.z).2.2.2.2.2.1
theorem Few_is (p:api_Program):l4_Few N p = some (0,gB.dv (decide (p.Code.length≤200∧p.Data.length≤500)) []):=by
 unfold l4_Few;simp only [bi_if,decide_eq_true_eq,len];split
 · refine retB ?_; rw [Bool.eq_iff_iff]; simp only [decide_eq_true_eq]; omega
 · refine retB ?_; rw [df (by omega)]
end Go.Proofs.Zz
