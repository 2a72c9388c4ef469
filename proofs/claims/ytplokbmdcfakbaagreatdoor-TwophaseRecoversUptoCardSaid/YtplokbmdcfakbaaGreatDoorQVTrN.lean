/- How many values, how many levels: plain. -/
import Derived.Test.YtplokbmdcfakbaaGreatDoorQV1
set_option linter.unusedSimpArgs false
set_option linter.unusedVariables false
namespace Go.Proofs.YtplokbmdcfakbaaGreatDoor
namespace Tr
/-- the parts of a value -/
def parts : Tr → List Tr | .mk k _ _ l _ ds => if k = 6 then l else if k = 5 then ds else []
mutual
def cnt : Tr → Nat | .mk k _ _ l _ ds => 1 + if k = 6 then cntL l else if k = 5 then cntL ds else 0
def cntL : List Tr → Nat | [] => 0 | t :: r => cnt t + cntL r
end
mutual
def dep : Tr → Nat | .mk k _ _ l _ ds => 1 + if k = 6 then depL l else if k = 5 then depL ds else 0
def depL : List Tr → Nat | [] => 0 | t :: r => max (dep t) (depL r)
end
theorem cnt_eq (t : Tr) : t.cnt = 1 + cntL t.parts := by
  cases t with
  | mk k i s l ns ds =>
    simp only [cnt, parts]
    split
    · rfl
    · split <;> simp [cntL]
theorem dep_eq (t : Tr) : t.dep = 1 + depL t.parts := by
  cases t with
  | mk k i s l ns ds =>
    simp only [dep, parts]
    split
    · rfl
    · split <;> simp [depL]
theorem cnt_pos (t : Tr) : 1 ≤ t.cnt := by rw [cnt_eq]; omega
theorem dep_pos (t : Tr) : 1 ≤ t.dep := by rw [dep_eq]; omega
theorem sz_parts {p t : Tr} (h : p ∈ t.parts) : p.sz < t.sz := by
  cases t with
  | mk k i s l ns ds =>
    simp only [parts] at h
    split at h
    · exact sz_list h
    · split at h
      · exact sz_docs h
      · cases h
end Tr
/-- a walk over the parts that may stop -/
def eachF (step : Int → Tr → Int) (goes : Int → Bool) : List Tr → Int → Int
  | [], x => x
  | t :: r, x => if goes (step x t) then eachF step goes r (step x t) else step x t
theorem each_nodes (most : Int) (l : List Tr) (x : Int) (h0 : 1 ≤ x) (h1 : x < most) : eachF (fun x t => x + min (t.cnt : Int) (most - x)) (fun y => decide (y < most)) l x = min (x + Tr.cntL l) most := by
  induction l generalizing x with
  | nil => simp [eachF, Tr.cntL]; omega
  | cons t r ih =>
    have hp := t.cnt_pos
    simp only [eachF, Tr.cntL]
    by_cases hc : x + min (t.cnt : Int) (most - x) < most
    · rw [if_pos (by simpa using hc), ih _ (by omega) hc]; omega
    · rw [if_neg (by simpa using hc)]; omega
theorem each_depth (most : Int) (l : List Tr) (x : Int) (h0 : 0 ≤ x) (h1 : x < most - 1) : eachF (fun x t => max x (min (t.dep : Int) (most - 1))) (fun y => decide (y < most - 1)) l x = min (max x (Tr.depL l)) (most - 1) := by
  induction l generalizing x with
  | nil => simp [eachF, Tr.depL]; omega
  | cons t r ih =>
    have hp := t.dep_pos
    simp only [eachF, Tr.depL]
    by_cases hc : max x (min (t.dep : Int) (most - 1)) < most - 1
    · rw [if_pos (by simpa using hc), ih _ (by omega) hc]; omega
    · rw [if_neg (by simpa using hc)]; omega
end Go.Proofs.YtplokbmdcfakbaaGreatDoor
