/- How many values, how many levels: plain. -/
import Derived.Test.YtflpefkohpjjpaaGreatDoorQX1
set_option linter.unusedSimpArgs false
set_option linter.unusedVariables false
namespace Go.Proofs.YtflpefkohpjjpaaGreatDoor
namespace Tr
def parts:Tr→List Tr|.mk k _ _ l _ ds=>if k=6 then l else if k=5 then ds else []
mutual
def cnt:Tr→Nat|.mk k _ _ l _ ds=>1+if k=6 then Pg l else if k=5 then Pg ds else 0
def Pg:List Tr→Nat|[]=>0|t::r=>cnt t+Pg r
end
mutual
def dep:Tr→Nat|.mk k _ _ l _ ds=>1+if k=6 then ajU l else if k=5 then ajU ds else 0
def ajU:List Tr→Nat|[]=>0|t::r=>max (dep t) (ajU r)
end
theorem as6(t:Tr):t.cnt=1+Pg t.parts:=by
 cases t with
 |mk k i s l ns ds=>
  simp only[cnt,parts]
  split
  ·rfl
  ·split<;>simp[Pg]
theorem as7(t:Tr):t.dep=1+ajU t.parts:=by
 cases t with
 |mk k i s l ns ds=>
  simp only[dep,parts]
  split
  ·rfl
  ·split<;>simp[ajU]
theorem afx(t:Tr):1≤t.cnt:=by rw[as6];omega
theorem afy(t:Tr):1≤t.dep:=by rw[as7];omega
end Tr
end Go.Proofs.YtflpefkohpjjpaaGreatDoor
