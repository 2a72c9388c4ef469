/- How many values, how many levels: plain. -/
import Derived.Test.YtdnafbfmaphhhaaGreatDoorQK1
set_option linter.unusedSimpArgs false
set_option linter.unusedVariables false
namespace Go.Proofs.YtdnafbfmaphhhaaGreatDoor
namespace Tr
/-- the parts of a value -/
def parts:Tr → List Tr | .mk k _ _ l _ ds=>if k = 6 then l else if k = 5 then ds else []
mutual
def cnt:Tr → Nat | .mk k _ _ l _ ds=>1 + if k = 6 then ada l else if k = 5 then ada ds else 0
def ada:List Tr → Nat | []=>0 | t :: r=>cnt t + ada r
end
mutual
def dep:Tr → Nat | .mk k _ _ l _ ds=>1 + if k = 6 then agy l else if k = 5 then agy ds else 0
def agy:List Tr → Nat | []=>0 | t :: r=>max (dep t) (agy r)
end
end Tr
end Go.Proofs.YtdnafbfmaphhhaaGreatDoor
