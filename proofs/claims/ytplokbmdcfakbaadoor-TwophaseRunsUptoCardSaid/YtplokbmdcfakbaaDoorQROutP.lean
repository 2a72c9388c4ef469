/- The code of data: every leaf in turn. -/
import Derived.Test.YtplokbmdcfakbaaDoorQR3
import Derived.Test.YtplokbmdcfakbaaDoorQRNumP
set_option linter.unusedSimpArgs false
set_option linter.unusedVariables false
namespace Go.Proofs.YtplokbmdcfakbaaDoor
open Go.RowKit
mutual
def codeF : Lf → List UInt8
  | .int _ n => numL (zz n)
  | .str s => numL (zz (s.size : Int)) ++ s.data.toList
  | .bool b => [if b then 1 else 0]
  | .rows _ l => numL (zz (l.length : Int)) ++ codeQ l
def codeQ : List (List Lf) → List UInt8
  | [] => []
  | r :: q => codeL r ++ codeQ q
def codeL : List Lf → List UInt8
  | [] => []
  | x :: r => codeF x ++ codeL r
end
theorem codeL_app (r s : List Lf) : codeL (r ++ s) = codeL r ++ codeL s := by
  induction r with
  | nil => simp [codeL]
  | cons x r ih => simp only [List.cons_append, codeL, ih, List.append_assoc]
theorem codeQ_snoc (l : List (List Lf)) (r : List Lf) : codeQ (l ++ [r]) = codeQ l ++ codeL r := by
  induction l with
  | nil => simp [codeQ]
  | cons x q ih => simp only [List.cons_append, codeQ, ih, List.append_assoc]
theorem codeQ_take_le (l : List (List Lf)) (j : Nat) : (codeQ (l.take j)).length ≤ (codeQ l).length := by
  induction l generalizing j with
  | nil => simp [codeQ]
  | cons x q ih =>
    cases j with
    | zero => simp [codeQ]
    | succ j => simp only [List.take_succ_cons, codeQ, List.length_append]; have := ih j; omega
theorem numL_any (n : Int) : (numL (zz n)).length ≤ 10 ∨ ¬ I64 n := by
  by_cases h : I64 n
  · exact .inl (numL_10 _ (zz_lt n h))
  · exact .inr h
end Go.Proofs.YtplokbmdcfakbaaDoor
