/- How many values, how many levels: plain. -/
import Derived.Test.YtdnafbfmaphhhaaGreatDoorQE1
set_option linter.unusedSimpArgs false
set_option linter.unusedVariables false
namespace Go.Proofs.YtdnafbfmaphhhaaGreatDoor
namespace Tr
/-- the parts of a value -/
def parts:Tr → List Tr | .mk k _ _ l _ ds=>if k = 6 then l else if k = 5 then ds else []
mutual
def cnt:Tr → Nat | .mk k _ _ l _ ds=>1 + if k = 6 then aeJ l else if k = 5 then aeJ ds else 0
def aeJ:List Tr → Nat | []=>0 | t :: r=>cnt t + aeJ r
end
mutual
def dep:Tr → Nat | .mk k _ _ l _ ds=>1 + if k = 6 then ah4 l else if k = 5 then ah4 ds else 0
def ah4:List Tr → Nat | []=>0 | t :: r=>max (dep t) (ah4 r)
end
end Tr
end Go.Proofs.YtdnafbfmaphhhaaGreatDoor
