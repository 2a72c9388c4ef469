/- How many values, how many levels: plain. -/
import Derived.Test.YtflpefkohpjjpaaGreatDoorQJ1
set_option linter.unusedSimpArgs false
set_option linter.unusedVariables false
namespace Go.Proofs.YtflpefkohpjjpaaGreatDoor
namespace Tr
def parts:Tr→List Tr|.mk k _ _ l _ ds=>if k=6 then l else if k=5 then ds else []
mutual
def cnt:Tr→Nat|.mk k _ _ l _ ds=>1+if k=6 then Xg l else if k=5 then Xg ds else 0
def Xg:List Tr→Nat|[]=>0|t::r=>cnt t+Xg r
end
mutual
def dep:Tr→Nat|.mk k _ _ l _ ds=>1+if k=6 then abl l else if k=5 then abl ds else 0
def abl:List Tr→Nat|[]=>0|t::r=>max (dep t) (abl r)
end
theorem akn(t:Tr):t.cnt=1+Xg t.parts:=by
 cases t with
 |mk k i s l ns ds=>
  simp only[cnt,parts]
  split
  ·rfl
  ·split<;>simp[Xg]
theorem ako(t:Tr):t.dep=1+abl t.parts:=by
 cases t with
 |mk k i s l ns ds=>
  simp only[dep,parts]
  split
  ·rfl
  ·split<;>simp[abl]
theorem UF(t:Tr):1≤t.cnt:=by rw[akn];omega
theorem UG(t:Tr):1≤t.dep:=by rw[ako];omega
end Tr
end Go.Proofs.YtflpefkohpjjpaaGreatDoor
