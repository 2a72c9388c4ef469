/- How many values, how many levels: plain. -/
import Derived.Test.YtpdlghcgekojlaaGreatDoorQI1
set_option linter.unusedSimpArgs false
set_option linter.unusedVariables false
namespace Go.Proofs.YtpdlghcgekojlaaGreatDoor
namespace Tr
def parts:Tr→List Tr|.mk k _ _ l _ ds=>if k=6 then l else if k=5 then ds else []
mutual
def cnt:Tr→Nat|.mk k _ _ l _ ds=>1+if k=6 then Ho l else if k=5 then Ho ds else 0
def Ho:List Tr→Nat|[]=>0|t::r=>cnt t+Ho r
end
mutual
def dep:Tr→Nat|.mk k _ _ l _ ds=>1+if k=6 then abb l else if k=5 then abb ds else 0
def abb:List Tr→Nat|[]=>0|t::r=>max (dep t) (abb r)
end
theorem ai8(t:Tr):t.cnt=1+Ho t.parts:=by
 cases t with
 |mk k i s l ns ds=>
  simp only[cnt,parts]
  split
  ·rfl
  split<;>simp[Ho]
theorem ai9(t:Tr):t.dep=1+abb t.parts:=by
 cases t with
 |mk k i s l ns ds=>
  simp only[dep,parts]
  split
  ·rfl
  split<;>simp[abb]
theorem Wj(t:Tr):1≤t.cnt:=by rw[ai8];omega
theorem Wn(t:Tr):1≤t.dep:=by rw[ai9];omega
end Tr
end Go.Proofs.YtpdlghcgekojlaaGreatDoor
