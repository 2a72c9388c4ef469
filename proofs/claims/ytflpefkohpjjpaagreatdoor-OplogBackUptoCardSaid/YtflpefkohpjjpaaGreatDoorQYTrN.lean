/- How many values, how many levels: plain. -/
import Derived.Test.YtflpefkohpjjpaaGreatDoorQY1
set_option linter.unusedSimpArgs false
set_option linter.unusedVariables false
namespace Go.Proofs.YtflpefkohpjjpaaGreatDoor
namespace Tr
def parts:Tr→List Tr|.mk k _ _ l _ ds=>if k=6 then l else if k=5 then ds else []
mutual
def cnt:Tr→Nat|.mk k _ _ l _ ds=>1+if k=6 then Ih l else if k=5 then Ih ds else 0
def Ih:List Tr→Nat|[]=>0|t::r=>cnt t+Ih r
end
mutual
def dep:Tr→Nat|.mk k _ _ l _ ds=>1+if k=6 then abp l else if k=5 then abp ds else 0
def abp:List Tr→Nat|[]=>0|t::r=>max (dep t) (abp r)
end
theorem akl(t:Tr):t.cnt=1+Ih t.parts:=by
 cases t with
 |mk k i s l ns ds=>
  simp only[cnt,parts]
  split
  ·rfl
  ·split<;>simp[Ih]
theorem akm(t:Tr):t.dep=1+abp t.parts:=by
 cases t with
 |mk k i s l ns ds=>
  simp only[dep,parts]
  split
  ·rfl
  ·split<;>simp[abp]
theorem MS(t:Tr):1≤t.cnt:=by rw[akl];omega
theorem MV(t:Tr):1≤t.dep:=by rw[akm];omega
end Tr
end Go.Proofs.YtflpefkohpjjpaaGreatDoor
