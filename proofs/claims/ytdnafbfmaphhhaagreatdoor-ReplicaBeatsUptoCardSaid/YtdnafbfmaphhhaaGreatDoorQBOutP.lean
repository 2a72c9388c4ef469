/- The code of data: every leaf in turn. -/
import Derived.Test.YtdnafbfmaphhhaaGreatDoorQB4
import Derived.Test.YtdnafbfmaphhhaaGreatDoorQBNumP
set_option linter.unusedSimpArgs false
set_option linter.unusedVariables false
namespace Go.Proofs.YtdnafbfmaphhhaaGreatDoor
open Go.RowKit
mutual
def codeF : Lf → List UInt8
  | .int _ n => numL (zz n)
  | .str s => numL (zz (s.size : Int)) ++ s.data.toList
  | .bool b => [if b then 1 else 0]
  | .rows _ l => numL (zz (l.length : Int)) ++ codeQ l
def codeQ : List (List Lf) → List UInt8
  | [] => []
  | r :: q => codeL r ++ codeQ q
def codeL : List Lf → List UInt8
  | [] => []
  | x :: r => codeF x ++ codeL r
end
theorem codeL_app (r s : List Lf) : codeL (r ++ s) = codeL r ++ codeL s := by
  induction r with
  | nil => simp [codeL]
  | cons x r ih => simp only [List.cons_append, codeL, ih, List.append_assoc]
end Go.Proofs.YtdnafbfmaphhhaaGreatDoor
