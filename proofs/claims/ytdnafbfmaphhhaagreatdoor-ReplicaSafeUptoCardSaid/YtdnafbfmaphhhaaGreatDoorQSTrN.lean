/- How many values, how many levels: plain. -/
import Derived.Test.YtdnafbfmaphhhaaGreatDoorQS1
set_option linter.unusedSimpArgs false
set_option linter.unusedVariables false
namespace Go.Proofs.YtdnafbfmaphhhaaGreatDoor
namespace Tr
/-- the parts of a value -/
def parts:Tr → List Tr | .mk k _ _ l _ ds=>if k = 6 then l else if k = 5 then ds else []
mutual
def cnt:Tr → Nat | .mk k _ _ l _ ds=>1 + if k = 6 then TB l else if k = 5 then TB ds else 0
def TB:List Tr → Nat | []=>0 | t :: r=>cnt t + TB r
end
mutual
def dep:Tr → Nat | .mk k _ _ l _ ds=>1 + if k = 6 then WY l else if k = 5 then WY ds else 0
def WY:List Tr → Nat | []=>0 | t :: r=>max (dep t) (WY r)
end
end Tr
end Go.Proofs.YtdnafbfmaphhhaaGreatDoor
