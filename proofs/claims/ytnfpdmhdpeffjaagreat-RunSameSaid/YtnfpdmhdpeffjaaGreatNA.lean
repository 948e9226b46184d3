import Derived.Test.YtnfpdmhdpeffjaaGreatMB
import Derived.Test.YtnfpdmhdpeffjaaGreatEnhK
set_option linter.unusedSimpArgs false
set_option linter.unusedVariables false
set_option maxRecDepth 100000
namespace Go.Proofs.Zz
open Go
variable {N:Nat}
def h8S (i:af):Prop:=(0≤i.2.1∧i.2.1≤15)∧(0≤i.2.2.1∧i.2.2.1≤15)∧(0≤i.2.2.2.1∧i.2.2.2.1≤15)
theorem c2U {n:Int} {h:Bool} (hf:ew n h 0 15=true):0≤n∧n≤15:=by
 unfold ew at hf;split at hf<;>simp only[decide_eq_true_eq]at hf<;>omega
theorem iZ {i:af} (h:bC i=true):h8S i:=by
 unfold bC at h;simp only[mE]at h;exact⟨c2U h.1.1.1.2,c2U h.1.1.2,c2U h.1.2⟩
theorem eF (i:af):∀x∈aY i,1≤x∧x≤15:=by
 intro x hx;unfold aY at hx;split at hx
 ·
  obtain⟨_,⟨a0,a1⟩,b0,b1⟩:=iZ (by assumption);rw[mM]at hx;rcases hx with hx | hx
  ·
   split at hx
   ·
    rename_i h;simp only[mI]at hx;have:=h.2; omega
   ·simp at hx
  ·
   split at hx
   ·
    rename_i h;simp only[mI]at hx;have:=h.2; omega
   ·simp at hx
 ·simp at hx
def iM (p:aw):Prop:=1≤p.Code.length∧p.Code.length≤2000∧∀j:Nat,j<p.Code.length→bC (p.Code.getD j af.z)=true
variable {N:Nat}
theorem wS' {i:Int} (h0:0≤i) (h:i≤100000000):w.i64 (i+1)=i+1:=wI (by omega) (by omega)
variable {N:Nat}
theorem c3y (l:List Bool) (i:Nat):(l.set i true).length=l.length:=by simp
structure Lead (l:List Int) (n:Int):Prop where
 lo:∀k:Nat,k<l.length→0≤l.getD k 0∧l.getD k 0<n
 up:∀j k:Nat,j<k→k<l.length→l.getD j 0<l.getD k 0
 len:(l.length:Int)≤n
theorem b8n {α:Type} {l:List α} {x d:α} (k:Nat):(l++[x]).getD k d=if k<l.length then l.getD k d else if k=l.length then x else d:=by
 simp only[mA];by_cases h:k<l.length
 ·rw[mW h,if_pos h]
 ·
  rw[if_neg h,mU (by omega)];by_cases e:k=l.length
  ·subst e; simp
  ·rw[if_neg e,mg (by simp; omega)]; rfl
theorem Lead.snoc {l:List Int} {i:Int} (h:Lead l i) (h0:0≤i):Lead (l++[i]) (i+1):=by
 refine⟨λk hk=>?_,λj k hj hk=>?_,by have:=h.len; simp; omega⟩
 ·
  simp only[mD,oU]at hk;rw[b8n];by_cases e:k<l.length
  ·rw[if_pos e]; have:=h.lo k e; omega
  ·rw[if_neg e,if_pos (by omega)]; omega
 ·
  simp only[mD,oU]at hk;rw[b8n,b8n,if_pos (show j<l.length by omega)];by_cases e:k<l.length
  ·rw[if_pos e]; exact h.up j k hj e
  ·rw[if_neg e,if_pos (by omega)]; exact (h.lo j (by omega)).2
theorem Lead.next {l:List Int} {i:Int} (h:Lead l i):Lead l (i+1):=⟨λk hk=>by have:=h.lo k hk; omega,h.up,by have:=h.len; omega⟩
theorem e6a:dQ=35184372088832:=by kernel_rfl
variable {N:Nat}
abbrev D0:=Int × (Int × (Int × (Int × (Unit × (Unit × Unit)))))
abbrev tB0:Ty:=B4 .nl
variable {N:Nat}
def InsK (kd:Int) (i:af):Prop:=(kd=2∨kd=3→26≤i.1∧i.1≤30∧0≤i.2.1∧i.2.1≤15)∧(kd=4→31≤i.1∧i.1≤33)
theorem d7F {kd:Int} {i:af} (h2:kd≠2) (h3:kd≠3) (h4:kd≠4):InsK kd i:=⟨λh=>by omega,λh=>by omega⟩
theorem e7b {kd:Int} {i:af} (hd:0≤i.2.1∧i.2.1≤15) (h:(ae i.1==4)=true) (h4:kd≠4):InsK kd i:=by
 have h:=beq_iff_eq.1 h;refine⟨λ_=>?_,λh=>by omega⟩
 have:26≤i.1∧i.1≤30:=by
  unfold ae at h
  repeat' split at h
  all_goals omega
 omega
theorem e7q {kd:Int} {i:af} (h:(ae i.1==5)=true) (h2:kd≠2) (h3:kd≠3):InsK kd i:=by
 have h:=beq_iff_eq.1 h;refine⟨λh=>by omega,λ_=>?_⟩
 unfold ae at h
 repeat' split at h
 all_goals omega
structure CellsOk (ks:List Int) (pc off:Int) (l:List ak) (m:Nat):Prop where
 len:l.length≤m
 all:∀c∈l,c.2.2.2.1=pc∧c.2.2.2.2.1=off
 kin:∀c∈l,c.1∈ks
 ins:∀c∈l,InsK c.1 c.2.1
theorem CellsOk.nil (pc off:Int) (ks:List Int):CellsOk ks pc off [] 0:=⟨mG _,by simp,by simp,by simp⟩
theorem CellsOk.mono {ks:List Int} {pc off:Int} {l:List ak} {m m':Nat} (h:CellsOk ks pc off l m) (hm:m≤m'):CellsOk ks pc off l m':=⟨nO h.len hm,h.all,h.kin,h.ins⟩
theorem CellsOk.sub {ks ks':List Int} {pc off:Int} {l:List ak} {m:Nat} (h:CellsOk ks pc off l m) (hm:∀x∈ks,x∈ks'):CellsOk ks' pc off l m:=⟨h.len,h.all,λc hc=>hm _ (h.kin c hc),h.ins⟩
theorem CellsOk.snoc {ks:List Int} {pc off:Int} {l:List ak} {m:Nat} (h:CellsOk ks pc off l m) (k:Int) (i:af) (r:Int) (hk:k∈ks) (hx:InsK k i):CellsOk ks pc off (l++[(k,(i,(r,(pc,(off,())))))]) (m+1):=by
 refine⟨by have:=h.len; simp; omega,λc hc=>?_,λc hc=>?_,λc hc=>?_⟩
 ·
  rcases mM.1 hc with hc | hc
  ·exact h.all c hc
  ·simp only[mI]at hc; subst hc; exact⟨rfl,rfl⟩
 ·
  rcases mM.1 hc with hc | hc
  ·exact h.kin c hc
  ·simp only[mI]at hc; subst hc; exact hk
 ·
  rcases mM.1 hc with hc | hc
  ·exact h.ins c hc
  ·simp only[mI]at hc; subst hc; exact hx
def KA:List Int:=[1,2,3,4,5,9,10,11,12]
def KE:List Int:=[1,6,7,8,9,10,11,12]
def MkOk (ks:List Int) (pc off:Int) (m:aU) (k:Nat):Prop:=m.Pc=pc∧m.D9=off∧CellsOk ks pc off m.L k
theorem MkOk.cons {ks:List Int} {pc off:Int} {m:aU} {k:Nat} (h:MkOk ks pc off m k) (kd:Int):MkOk (kd::ks) pc off m k:=⟨h.1,h.2.1,h.2.2.sub λx hx=>nG _ hx⟩
section
variable {ks:List Int} {pc off:Int} {m:aU} {k:Nat}
end
theorem MkOk.mono {ks:List Int} {pc off:Int} {m:aU} {k k':Nat} (h:MkOk ks pc off m k) (hk:k≤k'):MkOk ks pc off m k':=⟨h.1,h.2.1,h.2.2.mono hk⟩
section
variable {ks:List Int} {pc off:Int} {m:aU} {k:Nat}
end
variable {N:Nat}
structure jm (ks:List Int) (f k:Int) (l:List ak):Prop where
 len:(l.length:Int)≤8*(k-f)
 all:∀c∈l,f≤c.2.2.2.1∧c.2.2.2.1<k∧c.2.2.2.2.1=c.2.2.2.1-f
 kin:∀c∈l,c.1∈ks
 ins:∀c∈l,InsK c.1 c.2.1
structure dx (zs:List aW):Prop where
 ne:zs≠[]
 len:zs.length≤2000
 blk:∀k:Nat,k<zs.length→0≤(zs.getD k aW.z).1∧(zs.getD k aW.z).1<(zs.getD k aW.z).2.1∧(zs.getD k aW.z).2.1≤2000∧((zs.getD k aW.z).2.2.1=-1∨((k:Int)<(zs.getD k aW.z).2.2.1∧(zs.getD k aW.z).2.2.1<zs.length)) ∧
  jm KA (zs.getD k aW.z).1 (zs.getD k aW.z).2.1 (zs.getD k aW.z).2.2.2.2.1∧jm KE (zs.getD k aW.z).1 (zs.getD k aW.z).2.1 (zs.getD k aW.z).2.2.2.2.2.1
theorem e6F (p:aw):d6y N p=some (0,gB.dv (decide (p.Code.length≤200∧p.D1.length≤500)) []):=by
 unfold d6y;simp only[cP,decide_eq_true_eq,len];split
 ·refine retB ?_; rw[md]; simp only[decide_eq_true_eq]; omega
 ·refine retB ?_; rw[df (by omega)]
end Go.Proofs.Zz
