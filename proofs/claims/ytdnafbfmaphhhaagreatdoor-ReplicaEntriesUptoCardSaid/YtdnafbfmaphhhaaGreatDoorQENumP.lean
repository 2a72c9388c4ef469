/- Integers in groups of seven bits, plain. -/
import Derived.Test.YtdnafbfmaphhhaaGreatDoorQEBuf
import Derived.Test.YtdnafbfmaphhhaaGreatDoorQE1
import Derived.Laws.BitsAllLaws
import Derived.Laws.Bits64
import Derived.Laws.Bits64b
import Derived.Laws.DeepNot64
set_option linter.unusedSimpArgs false
set_option linter.unusedVariables false
namespace Go.Proofs.YtdnafbfmaphhhaaGreatDoor
open Go.RowKit
/-- an integer as a natural number -/
def zz (n:Int) : Nat := if 0 ≤ n then (2 * n).toNat else (-2 * n - 1).toNat
def sK (u:Nat) : List UInt8 := if u < 128 then [UInt8.ofNat u] else UInt8.ofNat (u % 128 + 128) :: sK (u / 128)
termination_by u
theorem Wu {u:Nat} (h:u < 128) : sK u = [UInt8.ofNat u] := by rw [sK,if_pos h]
theorem aeM {u:Nat} (h:¬ u < 128) : sK u = UInt8.ofNat (u % 128 + 128) :: sK (u / 128) := by rw [sK,if_neg h]
theorem Wv:∀ (k u:Nat),u < 128 ^ (k + 1) → (sK u).length ≤ k + 1
  | 0,u,h=>by rw [Wu (by simpa using h)]; simp
  | k + 1,u,h=>by
    by_cases hu:u < 128
    · rw [Wu hu]; simp
    · rw [aeM hu]
      have := Wv k (u / 128) (by rw [Nat.pow_succ] at h; omega)
      simp; omega
end Go.Proofs.YtdnafbfmaphhhaaGreatDoor
