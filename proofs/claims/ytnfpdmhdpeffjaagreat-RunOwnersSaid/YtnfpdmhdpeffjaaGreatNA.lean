import Derived.Test.YtnfpdmhdpeffjaaGreatMB
import Derived.Test.YtnfpdmhdpeffjaaGreatEnhK
set_option linter.unusedSimpArgs false
set_option linter.unusedVariables false
/- The reference's targets, programs that may be, owners: what their plain functions answer. -/
namespace Go.Proofs.Zz
open Go
variable {N:Nat}
def RegsOk (i:a0o):Prop:=(0≤i.2.1∧i.2.1≤15)∧(0≤i.2.2.1∧i.2.2.1≤15)∧(0≤i.2.2.2.1∧i.2.2.2.1≤15)
theorem c2U {n:Int} {h:Bool} (hf:fieldM n h 0 15 = true):0≤n∧n≤15:=by
 unfold fieldM at hf;split at hf <;> simp only [decide_eq_true_eq] at hf <;> omega
theorem a9Q {i:a0o} (h:rightIns i = true):RegsOk i:=by
 unfold rightIns at h;simp only [Bool.and_eq_true] at h;exact ⟨c2U h.1.1.1.2,c2U h.1.1.2,c2U h.1.2⟩
theorem b4s (i:a0o):∀ x∈readsM i,1≤x∧x≤15:=by
 intro x hx;unfold readsM at hx;split at hx
 ·
  obtain ⟨_,⟨a0,a1⟩,b0,b1⟩:=a9Q (by assumption);rw [List.mem_append] at hx;rcases hx with hx | hx
  ·
   split at hx
   ·
    rename_i h;simp only [List.mem_singleton] at hx;have:=h.2; omega
   · simp at hx
  ·
   split at hx
   ·
    rename_i h;simp only [List.mem_singleton] at hx;have:=h.2; omega
   · simp at hx
 · simp at hx
def Right (p:a0s):Prop:=1≤p.Code.length∧p.Code.length≤2000∧∀ j:Nat,j < p.Code.length→rightIns (p.Code.getD j a0o.z) = true
end Go.Proofs.Zz

/- The reference's least owner, closed owners: what their plain functions answer. -/
namespace Go.Proofs.Zz
open Go
variable {N:Nat}
theorem wS' {i:Int} (h0:0≤i) (h:i≤100000000):w.i64 (i+1) = i+1:=wI (by omega) (by omega)
end Go.Proofs.Zz

/- The reference's leaders: what their plain functions answer. -/
namespace Go.Proofs.Zz
open Go
variable {N:Nat}
theorem c3y (l:List Bool) (i:Nat):(l.set i true).length = l.length:=by simp
structure Lead (l:List Int) (n:Int):Prop where
 lo:∀ k:Nat,k < l.length→0≤l.getD k 0∧l.getD k 0 < n
 up:∀ j k:Nat,j < k→k < l.length→l.getD j 0 < l.getD k 0
 len:(l.length:Int)≤n
theorem b8n {α:Type} {l:List α} {x d:α} (k:Nat):(l++[x]).getD k d = if k < l.length then l.getD k d else if k = l.length then x else d:=by
 simp only [List.getD_eq_getElem?_getD];by_cases h:k < l.length
 · rw [List.getElem?_append_left h,if_pos h]
 ·
  rw [if_neg h,List.getElem?_append_right (by omega)];by_cases e:k = l.length
  · subst e; simp
  · rw [if_neg e,List.getElem?_eq_none (by simp; omega)]; rfl
theorem Lead.snoc {l:List Int} {i:Int} (h:Lead l i) (h0:0≤i):Lead (l++[i]) (i+1):=by
 refine ⟨fun k hk=>?_,fun j k hj hk=>?_,by have:=h.len; simp; omega⟩
 ·
  simp only [List.length_append,List.length_singleton] at hk;rw [b8n];by_cases e:k < l.length
  · rw [if_pos e]; have:=h.lo k e; omega
  · rw [if_neg e,if_pos (by omega)]; omega
 ·
  simp only [List.length_append,List.length_singleton] at hk;rw [b8n,b8n,if_pos (show j < l.length by omega)];by_cases e:k < l.length
  · rw [if_pos e]; exact h.up j k hj e
  · rw [if_neg e,if_pos (by omega)]; exact (h.lo j (by omega)).2
theorem Lead.next {l:List Int} {i:Int} (h:Lead l i):Lead l (i+1):=⟨fun k hk=>by have:=h.lo k hk; omega,h.up,by have:=h.len; omega⟩
theorem e6a:reach = 35184372088832:=by kernel_rfl
end Go.Proofs.Zz

/- The reference's blocks: what their plain function answers. -/
namespace Go.Proofs.Zz
open Go
variable {N:Nat}
abbrev D0:=Int × (Int × (Int × (Int × (Unit × (Unit × Unit)))))
abbrev tB0:Ty:=B4 .nl
end Go.Proofs.Zz

/- The reference's cells: what their plain functions answer. -/
namespace Go.Proofs.Zz
open Go
variable {N:Nat}
def InsK (kd:Int) (i:a0o):Prop:=(kd = 2∨kd = 3→26≤i.1∧i.1≤30∧0≤i.2.1∧i.2.1≤15)∧(kd = 4→31≤i.1∧i.1≤33)
theorem d7F {kd:Int} {i:a0o} (h2:kd≠2) (h3:kd≠3) (h4:kd≠4):InsK kd i:=⟨fun h=>by omega,fun h=>by omega⟩
theorem e7b {kd:Int} {i:a0o} (hd:0≤i.2.1∧i.2.1≤15) (h:(formM i.1 == 4) = true) (h4:kd≠4):InsK kd i:=by
 have h:=beq_iff_eq.1 h;refine ⟨fun _=>?_,fun h=>by omega⟩
 have:26≤i.1∧i.1≤30:=by
  unfold formM at h
  repeat' split at h
  all_goals omega
 omega
theorem e7q {kd:Int} {i:a0o} (h:(formM i.1 == 5) = true) (h2:kd≠2) (h3:kd≠3):InsK kd i:=by
 have h:=beq_iff_eq.1 h;refine ⟨fun h=>by omega,fun _=>?_⟩
 unfold formM at h
 repeat' split at h
 all_goals omega
structure CellsOk (ks:List Int) (pc off:Int) (l:List a0h) (m:Nat):Prop where
 len:l.length≤m
 all:∀ c∈l,c.2.2.2.1 = pc∧c.2.2.2.2.1 = off
 kin:∀ c∈l,c.1∈ks
 ins:∀ c∈l,InsK c.1 c.2.1
theorem CellsOk.nil (pc off:Int) (ks:List Int):CellsOk ks pc off [] 0:=⟨Nat.le_refl _,by simp,by simp,by simp⟩
theorem CellsOk.mono {ks:List Int} {pc off:Int} {l:List a0h} {m m':Nat} (h:CellsOk ks pc off l m) (hm:m≤m'):CellsOk ks pc off l m':=⟨Nat.le_trans h.len hm,h.all,h.kin,h.ins⟩
theorem CellsOk.sub {ks ks':List Int} {pc off:Int} {l:List a0h} {m:Nat} (h:CellsOk ks pc off l m) (hm:∀ x∈ks,x∈ks'):CellsOk ks' pc off l m:=⟨h.len,h.all,fun c hc=>hm _ (h.kin c hc),h.ins⟩
theorem CellsOk.snoc {ks:List Int} {pc off:Int} {l:List a0h} {m:Nat} (h:CellsOk ks pc off l m) (k:Int) (i:a0o) (r:Int) (hk:k∈ks) (hx:InsK k i):CellsOk ks pc off (l++[(k,(i,(r,(pc,(off,())))))]) (m+1):=by
 refine ⟨by have:=h.len; simp; omega,fun c hc=>?_,fun c hc=>?_,fun c hc=>?_⟩
 ·
  rcases List.mem_append.1 hc with hc | hc
  · exact h.all c hc
  · simp only [List.mem_singleton] at hc; subst hc; exact ⟨rfl,rfl⟩
 ·
  rcases List.mem_append.1 hc with hc | hc
  · exact h.kin c hc
  · simp only [List.mem_singleton] at hc; subst hc; exact hk
 ·
  rcases List.mem_append.1 hc with hc | hc
  · exact h.ins c hc
  · simp only [List.mem_singleton] at hc; subst hc; exact hx
def KA:List Int:=[1,2,3,4,5,9,10,11,12]
def KE:List Int:=[1,6,7,8,9,10,11,12]
def MkOk (ks:List Int) (pc off:Int) (m:a0u) (k:Nat):Prop:=m.Pc = pc∧m.Off = off∧CellsOk ks pc off m.L k
theorem MkOk.cons {ks:List Int} {pc off:Int} {m:a0u} {k:Nat} (h:MkOk ks pc off m k) (kd:Int):MkOk (kd::ks) pc off m k:=⟨h.1,h.2.1,h.2.2.sub fun x hx=>List.mem_cons_of_mem _ hx⟩
section
variable {ks:List Int} {pc off:Int} {m:a0u} {k:Nat}
end
theorem MkOk.mono {ks:List Int} {pc off:Int} {m:a0u} {k k':Nat} (h:MkOk ks pc off m k) (hk:k≤k'):MkOk ks pc off m k':=⟨h.1,h.2.1,h.2.2.mono hk⟩
section
variable {ks:List Int} {pc off:Int} {m:a0u} {k:Nat}
end
end Go.Proofs.Zz

/- The reference's splits: what their plain functions answer. -/
set_option maxRecDepth 100000
namespace Go.Proofs.Zz
open Go
variable {N:Nat}
structure SpanOk (ks:List Int) (f k:Int) (l:List a0h):Prop where
 len:(l.length:Int)≤8*(k - f)
 all:∀ c∈l,f≤c.2.2.2.1∧c.2.2.2.1 < k∧c.2.2.2.2.1 = c.2.2.2.1 - f
 kin:∀ c∈l,c.1∈ks
 ins:∀ c∈l,InsK c.1 c.2.1
structure SplitOk (zs:List a0x):Prop where
 ne:zs≠[]
 len:zs.length≤2000
 blk:∀ k:Nat,k < zs.length→0≤(zs.getD k a0x.z).1∧(zs.getD k a0x.z).1 < (zs.getD k a0x.z).2.1∧(zs.getD k a0x.z).2.1≤2000∧((zs.getD k a0x.z).2.2.1 = -1∨((k:Int) < (zs.getD k a0x.z).2.2.1∧(zs.getD k a0x.z).2.2.1 < zs.length)) ∧
  SpanOk KA (zs.getD k a0x.z).1 (zs.getD k a0x.z).2.1 (zs.getD k a0x.z).2.2.2.2.1∧SpanOk KE (zs.getD k a0x.z).1 (zs.getD k a0x.z).2.1 (zs.getD k a0x.z).2.2.2.2.2.1
theorem e6F (p:a0s):d6y N p = some (0,gB.dv (decide (p.Code.length≤200∧p.Data.length≤500)) []):=by
 unfold d6y;simp only [a1u,decide_eq_true_eq,len];split
 · refine retB ?_; rw [Bool.eq_iff_iff]; simp only [decide_eq_true_eq]; omega
 · refine retB ?_; rw [df (by omega)]
end Go.Proofs.Zz
