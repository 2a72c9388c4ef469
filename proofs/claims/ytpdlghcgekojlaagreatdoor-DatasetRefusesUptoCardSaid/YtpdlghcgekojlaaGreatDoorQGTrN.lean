/- How many values, how many levels: plain. -/
import Derived.Test.YtpdlghcgekojlaaGreatDoorQG1
set_option linter.unusedSimpArgs false
set_option linter.unusedVariables false
namespace Go.Proofs.YtpdlghcgekojlaaGreatDoor
namespace Tr
def parts:Tr→List Tr|.mk k _ _ l _ ds=>if k=6 then l else if k=5 then ds else []
mutual
def cnt:Tr→Nat|.mk k _ _ l _ ds=>1+if k=6 then GZ l else if k=5 then GZ ds else 0
def GZ:List Tr→Nat|[]=>0|t::r=>cnt t+GZ r
end
mutual
def dep:Tr→Nat|.mk k _ _ l _ ds=>1+if k=6 then abB l else if k=5 then abB ds else 0
def abB:List Tr→Nat|[]=>0|t::r=>max (dep t) (abB r)
end
theorem ajL(t:Tr):t.cnt=1+GZ t.parts:=by
 cases t with
 |mk k i s l ns ds=>
  simp only[cnt,parts]
  split
  ·rfl
  split<;>simp[GZ]
theorem ajM(t:Tr):t.dep=1+abB t.parts:=by
 cases t with
 |mk k i s l ns ds=>
  simp only[dep,parts]
  split
  ·rfl
  split<;>simp[abB]
theorem WY(t:Tr):1≤t.cnt:=by rw[ajL];omega
theorem WZ(t:Tr):1≤t.dep:=by rw[ajM];omega
end Tr
end Go.Proofs.YtpdlghcgekojlaaGreatDoor
