/- How many values, how many levels: plain. -/
import Derived.Test.YtbdcaeahocbkbaaGreatDoorQA1
set_option linter.unusedSimpArgs false
set_option linter.unusedVariables false
namespace Go.Proofs.YtbdcaeahocbkbaaGreatDoor
namespace Tr
def parts:Tr→List Tr|.mk k _ _ l _ ds=>if k=6 then l else if k=5 then ds else []
mutual
def cnt:Tr→Nat|.mk k _ _ l _ ds=>1+if k=6 then NZ l else if k=5 then NZ ds else 0
def NZ:List Tr→Nat|[]=>0|t::r=>cnt t+NZ r
end
mutual
def dep:Tr→Nat|.mk k _ _ l _ ds=>1+if k=6 then aiQ l else if k=5 then aiQ ds else 0
def aiQ:List Tr→Nat|[]=>0|t::r=>max (dep t) (aiQ r)
end
theorem arT(t:Tr):t.cnt=1+NZ t.parts:=by
 cases t with
 |mk k i s l ns ds=>
  simp only[cnt,parts]
  split
  ·rfl
  ·split<;>simp[NZ]
theorem arU(t:Tr):t.dep=1+aiQ t.parts:=by
 cases t with
 |mk k i s l ns ds=>
  simp only[dep,parts]
  split
  ·rfl
  ·split<;>simp[aiQ]
theorem aeJ(t:Tr):1≤t.cnt:=by rw[arT];omega
theorem aeK(t:Tr):1≤t.dep:=by rw[arU];omega
end Tr
end Go.Proofs.YtbdcaeahocbkbaaGreatDoor
