/- The code of data: every leaf in turn. -/
import Derived.Test.YtdnafbfmaphhhaaGreatDoorQV3
import Derived.Test.YtdnafbfmaphhhaaGreatDoorQVNumP
set_option linter.unusedSimpArgs false
set_option linter.unusedVariables false
namespace Go.Proofs.YtdnafbfmaphhhaaGreatDoor
open Go.RowKit
mutual
def codeF:Lf → List UInt8
  | .int _ n=>uJ (zz n)
  | .str s=>uJ (zz (s.size:Int)) ++ s.data.toList
  | .bool b=>[if b then 1 else 0]
  | .rows _ l=>uJ (zz (l.length:Int)) ++ uT l
def uT:List (List Lf) → List UInt8
  | []=>[]
  | r :: q=>kL r ++ uT q
def kL:List Lf → List UInt8
  | []=>[]
  | x :: r=>codeF x ++ kL r
end
theorem rZ (r s:List Lf) : kL (r ++ s) = kL r ++ kL s := by
  induction r with
  | nil=>simp [kL]
  | cons x r ih=>simp only [List.cons_append,kL,ih,List.append_assoc]
end Go.Proofs.YtdnafbfmaphhhaaGreatDoor
