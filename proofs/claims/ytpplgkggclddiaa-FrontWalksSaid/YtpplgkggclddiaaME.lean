import Derived.Test.YtpplgkggclddiaaMD
import Derived.KernelRfl
set_option linter.unusedSimpArgs false
set_option linter.unusedVariables false
/- What A comes to in a cycle: the program's place, how far ahead it is, its plain cells. -/
namespace Go.Proofs.Zz
open Go
variable {N:Nat}
end Go.Proofs.Zz

/- A's queues: reserving, pushing, searching, bypassing. -/
namespace Go.Proofs.Zz
open Go
variable {N:Nat}
end Go.Proofs.Zz

/- A's loads and stores: bypassing, filling. -/
namespace Go.Proofs.Zz
open Go
variable {N:Nat}
def signM (op v:Int):Int:=if op = 27 then w.u32 (w.i32 (w.i16 v)) else if op = 29 then w.u32 (w.i32 (w.i8 v)) else v
def findM (l:List api_Slot) (t:Int):Nat→Nat→Int
 | 0,_=>-1
 | n+1,i=>if ((l.getD i api_Slot.z).1 == t && !(l.getD i api_Slot.z).2.1) = true then i else findM l t n (i+1)
def fillM (l:List api_Slot) (t v:Int):List api_Slot :=
 if findM l t l.length 0 < 0 then l else l.set (findM l t l.length 0).toNat ((l.getD (findM l t l.length 0).toNat api_Slot.z).1,(true,(v,())))
end Go.Proofs.Zz

/- A's loads and stores: the program's steps. -/
namespace Go.Proofs.Zz
open Go
variable {N:Nat}
def checkX (s a n:Int):Int:=if s = 0 then (if a > n then 2 else 0) else checkM s a n
end Go.Proofs.Zz

/- A's turn: the program. -/
namespace Go.Proofs.Zz
open Go
variable {N:Nat}
end Go.Proofs.Zz

/- A's turn and cycle: the program. -/
namespace Go.Proofs.Zz
open Go
variable {N:Nat}
end Go.Proofs.Zz

/- In a cycle A does one cell at most: the model's law. -/
namespace Go.Proofs.Zz
open Go
variable {N:Nat}
end Go.Proofs.Zz

/- In a cycle A does one cell at most: the reference law's answer. -/
namespace Go.Proofs.Zz
open Go
variable {N:Nat}
end Go.Proofs.Zz

/- ApipeOne: the reference law's answer. -/
namespace Go.Proofs.Zz
open Go
variable {N:Nat}
end Go.Proofs.Zz
