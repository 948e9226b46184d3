import Derived.Test.YtpplgkggclddiaaYS
import Derived.Test.YtpplgkggclddiaaPB
set_option linter.unusedSimpArgs false
set_option linter.unusedVariables false
/- What the core leaves when it is over is what the program's way leaves where it stops. -/
set_option maxRecDepth 100000
namespace Go.Proofs.Zz
open Go
section
variable {p:api_Program} {o:List Int} {s:api_Split} {m0:List Int} {n j m i k ka ke t u:Nat} {R R':List api_Request} {e hal:Bool} {pos:api_Pos} {dn:Int}
def regsG (g:GS):List Int:=(List.range 16).map fun (r:Nat)=>gv g (r:Int)
def wrG (p:api_Program) (m0:List Int) (t:Nat):List api_Write:=(evq (qst p m0) t).map (·.2)
theorem trS_or (e:Bool) (t:Nat):trS p o m0 e t = gTrap (runG p m0 t) (insG p m0 t)∨trS p o m0 e t = 0:=by
 unfold trS;split
 ·
  split
  · exact .inl rfl
  · exact .inr rfl
 ·
  split
  · exact .inr rfl
  · exact .inl rfl
/-! Stores, split at a step -/
/-! Registers that are told -/
theorem list_getD_ext {a b:List Int} (hl:a.length = b.length) (h:∀ r,r < a.length→a.getD r 0 = b.getD r 0):a = b:=by
 refine List.ext_getElem hl fun r h1 h2=>?_
 have:=h r h1;rw [List.getD_eq_getElem?_getD,List.getElem?_eq_getElem h1,List.getD_eq_getElem?_getD,List.getElem?_eq_getElem h2] at this;exact this
end
end Go.Proofs.Zz

/- What the core leaves when it is over. -/
set_option maxRecDepth 100000
namespace Go.Proofs.Zz
open Go
section
variable {p:api_Program} {o:List Int} {s:api_Split} {m0:List Int} {n j m i k ka ke t u:Nat} {R R':List api_Request} {e hal:Bool} {pos:api_Pos} {dn:Int}
theorem no_snd (hp:rightP p = true) (hpc:(runG p m0 n).pc < p.Code.length) (h8:formM (insG p m0 n).1 = 8):sndR o (insG p m0 n) = []:=by
 unfold sndR;rw [insG_right hp hpc,if_neg (by simp),if_neg (by omega),if_neg (by omega),if_neg (by omega)]
end
end Go.Proofs.Zz
