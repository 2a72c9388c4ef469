/- How many values, how many levels: plain. -/
import Derived.Test.YtflpefkohpjjpaaGreatDoorQO1
set_option linter.unusedSimpArgs false
set_option linter.unusedVariables false
namespace Go.Proofs.YtflpefkohpjjpaaGreatDoor
namespace Tr
/-- the parts of a value -/
def parts:Tr → List Tr | .mk k _ _ l _ ds=>if k = 6 then l else if k = 5 then ds else []
mutual
def cnt:Tr → Nat | .mk k _ _ l _ ds=>1 + if k = 6 then Ja l else if k = 5 then Ja ds else 0
def Ja:List Tr → Nat | []=>0 | t :: r=>cnt t + Ja r
end
mutual
def dep:Tr → Nat | .mk k _ _ l _ ds=>1 + if k = 6 then ac8 l else if k = 5 then ac8 ds else 0
def ac8:List Tr → Nat | []=>0 | t :: r=>max (dep t) (ac8 r)
end
theorem al1 (t:Tr) : t.cnt = 1 + Ja t.parts := by
  cases t with
  | mk k i s l ns ds =>
    simp only [cnt,parts]
    split
    · rfl
    · split <;> simp [Ja]
theorem al2 (t:Tr) : t.dep = 1 + ac8 t.parts := by
  cases t with
  | mk k i s l ns ds =>
    simp only [dep,parts]
    split
    · rfl
    · split <;> simp [ac8]
theorem XT (t:Tr) : 1 ≤ t.cnt := by rw [al1]; omega
theorem XU (t:Tr) : 1 ≤ t.dep := by rw [al2]; omega
end Tr
end Go.Proofs.YtflpefkohpjjpaaGreatDoor
