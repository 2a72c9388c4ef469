/- How many values, how many levels: plain. -/
import Derived.Test.YtflpefkohpjjpaaGreatDoorQN1
set_option linter.unusedSimpArgs false
set_option linter.unusedVariables false
namespace Go.Proofs.YtflpefkohpjjpaaGreatDoor
namespace Tr
def parts:Tr→List Tr|.mk k _ _ l _ ds=>if k=6 then l else if k=5 then ds else []
mutual
def cnt:Tr→Nat|.mk k _ _ l _ ds=>1+if k=6 then Ul l else if k=5 then Ul ds else 0
def Ul:List Tr→Nat|[]=>0|t::r=>cnt t+Ul r
end
mutual
def dep:Tr→Nat|.mk k _ _ l _ ds=>1+if k=6 then Um l else if k=5 then Um ds else 0
def Um:List Tr→Nat|[]=>0|t::r=>max (dep t) (Um r)
end
end Tr
end Go.Proofs.YtflpefkohpjjpaaGreatDoor
