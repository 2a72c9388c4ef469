/- Integers in groups of seven bits, plain. -/
import Derived.Test.YtdnafbfmaphhhaaGreatDoorQKBuf
import Derived.Test.YtdnafbfmaphhhaaGreatDoorQK1
import Derived.Laws.BitsAllLaws
import Derived.Laws.Bits64
import Derived.Laws.Bits64b
import Derived.Laws.DeepNot64
set_option linter.unusedSimpArgs false
set_option linter.unusedVariables false
namespace Go.Proofs.YtdnafbfmaphhhaaGreatDoor
open Go.RowKit
/-- an integer as a natural number -/
def zz (n:Int) : Nat := if 0 ≤ n then (2 * n).toNat else (-2 * n - 1).toNat
def rW (u:Nat) : List UInt8 := if u < 128 then [UInt8.ofNat u] else UInt8.ofNat (u % 128 + 128) :: rW (u / 128)
termination_by u
theorem UG {u:Nat} (h:u < 128) : rW u = [UInt8.ofNat u] := by rw [rW,if_pos h]
theorem adf {u:Nat} (h:¬ u < 128) : rW u = UInt8.ofNat (u % 128 + 128) :: rW (u / 128) := by rw [rW,if_neg h]
theorem UH:∀ (k u:Nat),u < 128 ^ (k + 1) → (rW u).length ≤ k + 1
  | 0,u,h=>by rw [UG (by simpa using h)]; simp
  | k + 1,u,h=>by
    by_cases hu:u < 128
    · rw [UG hu]; simp
    · rw [adf hu]
      have := UH k (u / 128) (by rw [Nat.pow_succ] at h; omega)
      simp; omega
end Go.Proofs.YtdnafbfmaphhhaaGreatDoor
