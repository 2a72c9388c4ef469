/- The code of data: every leaf in turn. -/
import Derived.Test.YtdnafbfmaphhhaaGreatDoorQS3
import Derived.Test.YtdnafbfmaphhhaaGreatDoorQSNumP
set_option linter.unusedSimpArgs false
set_option linter.unusedVariables false
namespace Go.Proofs.YtdnafbfmaphhhaaGreatDoor
open Go.RowKit
mutual
def codeF:Lf → List UInt8
  | .int _ n=>pF (zz n)
  | .str s=>pF (zz (s.size:Int)) ++ s.data.toList
  | .bool b=>[if b then 1 else 0]
  | .rows _ l=>pF (zz (l.length:Int)) ++ pO l
def pO:List (List Lf) → List UInt8
  | []=>[]
  | r :: q=>jA r ++ pO q
def jA:List Lf → List UInt8
  | []=>[]
  | x :: r=>codeF x ++ jA r
end
theorem oQ (r s:List Lf) : jA (r ++ s) = jA r ++ jA s := by
  induction r with
  | nil=>simp [jA]
  | cons x r ih=>simp only [List.cons_append,jA,ih,List.append_assoc]
end Go.Proofs.YtdnafbfmaphhhaaGreatDoor
