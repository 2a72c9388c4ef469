/- The code of data: every leaf in turn. -/
import Derived.Test.YtdnafbfmaphhhaaGreatDoorQK3
import Derived.Test.YtdnafbfmaphhhaaGreatDoorQKNumP
set_option linter.unusedSimpArgs false
set_option linter.unusedVariables false
namespace Go.Proofs.YtdnafbfmaphhhaaGreatDoor
open Go.RowKit
mutual
def codeF:Lf → List UInt8
  | .int _ n=>rW (zz n)
  | .str s=>rW (zz (s.size:Int)) ++ s.data.toList
  | .bool b=>[if b then 1 else 0]
  | .rows _ l=>rW (zz (l.length:Int)) ++ sD l
def sD:List (List Lf) → List UInt8
  | []=>[]
  | r :: q=>jY r ++ sD q
def jY:List Lf → List UInt8
  | []=>[]
  | x :: r=>codeF x ++ jY r
end
theorem qL (r s:List Lf) : jY (r ++ s) = jY r ++ jY s := by
  induction r with
  | nil=>simp [jY]
  | cons x r ih=>simp only [List.cons_append,jY,ih,List.append_assoc]
end Go.Proofs.YtdnafbfmaphhhaaGreatDoor
