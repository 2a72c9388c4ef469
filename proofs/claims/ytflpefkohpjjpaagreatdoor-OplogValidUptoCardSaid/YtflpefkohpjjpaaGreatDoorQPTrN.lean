/- How many values, how many levels: plain. -/
import Derived.Test.YtflpefkohpjjpaaGreatDoorQP1
set_option linter.unusedSimpArgs false
set_option linter.unusedVariables false
namespace Go.Proofs.YtflpefkohpjjpaaGreatDoor
namespace Tr
def parts:Tr→List Tr|.mk k _ _ l _ ds=>if k=6 then l else if k=5 then ds else []
mutual
def cnt:Tr→Nat|.mk k _ _ l _ ds=>1+if k=6 then MV l else if k=5 then MV ds else 0
def MV:List Tr→Nat|[]=>0|t::r=>cnt t+MV r
end
mutual
def dep:Tr→Nat|.mk k _ _ l _ ds=>1+if k=6 then ahP l else if k=5 then ahP ds else 0
def ahP:List Tr→Nat|[]=>0|t::r=>max (dep t) (ahP r)
end
theorem aqz(t:Tr):t.cnt=1+MV t.parts:=by
 cases t with
 |mk k i s l ns ds=>
  simp only[cnt,parts]
  split
  ·rfl
  ·split<;>simp[MV]
theorem aqA(t:Tr):t.dep=1+ahP t.parts:=by
 cases t with
 |mk k i s l ns ds=>
  simp only[dep,parts]
  split
  ·rfl
  ·split<;>simp[ahP]
theorem adr(t:Tr):1≤t.cnt:=by rw[aqz];omega
theorem ads(t:Tr):1≤t.dep:=by rw[aqA];omega
end Tr
end Go.Proofs.YtflpefkohpjjpaaGreatDoor
