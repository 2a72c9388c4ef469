/- The code of data: every leaf in turn. -/
import Derived.Test.YtdnafbfmaphhhaaGreatDoorQE3
import Derived.Test.YtdnafbfmaphhhaaGreatDoorQENumP
set_option linter.unusedSimpArgs false
set_option linter.unusedVariables false
namespace Go.Proofs.YtdnafbfmaphhhaaGreatDoor
open Go.RowKit
mutual
def codeF:Lf → List UInt8
  | .int _ n=>sK (zz n)
  | .str s=>sK (zz (s.size:Int)) ++ s.data.toList
  | .bool b=>[if b then 1 else 0]
  | .rows _ l=>sK (zz (l.length:Int)) ++ sV l
def sV:List (List Lf) → List UInt8
  | []=>[]
  | r :: q=>kD r ++ sV q
def kD:List Lf → List UInt8
  | []=>[]
  | x :: r=>codeF x ++ kD r
end
theorem qU (r s:List Lf) : kD (r ++ s) = kD r ++ kD s := by
  induction r with
  | nil=>simp [kD]
  | cons x r ih=>simp only [List.cons_append,kD,ih,List.append_assoc]
end Go.Proofs.YtdnafbfmaphhhaaGreatDoor
