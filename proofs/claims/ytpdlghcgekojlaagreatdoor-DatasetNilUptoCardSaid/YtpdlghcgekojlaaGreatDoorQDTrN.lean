/- How many values, how many levels: plain. -/
import Derived.Test.YtpdlghcgekojlaaGreatDoorQD1
set_option linter.unusedSimpArgs false
set_option linter.unusedVariables false
namespace Go.Proofs.YtpdlghcgekojlaaGreatDoor
namespace Tr
def parts:Tr→List Tr|.mk k _ _ l _ ds=>if k=6 then l else if k=5 then ds else []
mutual
def cnt:Tr→Nat|.mk k _ _ l _ ds=>1+if k=6 then acQ l else if k=5 then acQ ds else 0
def acQ:List Tr→Nat|[]=>0|t::r=>cnt t+acQ r
end
mutual
def dep:Tr→Nat|.mk k _ _ l _ ds=>1+if k=6 then acR l else if k=5 then acR ds else 0
def acR:List Tr→Nat|[]=>0|t::r=>max (dep t) (acR r)
end
end Tr
end Go.Proofs.YtpdlghcgekojlaaGreatDoor
