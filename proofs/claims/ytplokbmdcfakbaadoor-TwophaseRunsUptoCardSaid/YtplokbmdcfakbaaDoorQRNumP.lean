/- Integers in groups of seven bits, plain. -/
import Derived.Test.YtplokbmdcfakbaaDoorQRBuf
import Derived.Test.YtplokbmdcfakbaaDoorQR1
import Derived.Laws.BitsAllLaws
import Derived.Laws.Bits64
import Derived.Laws.Bits64b
import Derived.Laws.DeepNot64
set_option linter.unusedSimpArgs false
set_option linter.unusedVariables false
namespace Go.Proofs.YtplokbmdcfakbaaDoor
open Go.RowKit
/-- an integer as a natural number -/
def zz (n : Int) : Nat := if 0 ≤ n then (2 * n).toNat else (-2 * n - 1).toNat
def unzz (u : Nat) : Int := if u % 2 = 0 then ((u / 2 : Nat) : Int) else -1 - ((u / 2 : Nat) : Int)
theorem unzz_zz (n : Int) : unzz (zz n) = n := by
  unfold unzz zz
  split <;> split <;> omega
theorem zz_unzz (u : Nat) : zz (unzz u) = u := by
  unfold unzz zz
  split <;> split <;> omega
def U64 (u : Nat) : Prop := u < 18446744073709551616
theorem zz_lt (n : Int) (h : I64 n) : U64 (zz n) := by
  unfold I64 at h; unfold U64 zz; split <;> omega
theorem unzz_in (u : Nat) (h : U64 u) : I64 (unzz u) := by
  unfold U64 at h; unfold I64 unzz; split <;> omega
def numL (u : Nat) : List UInt8 := if u < 128 then [UInt8.ofNat u] else UInt8.ofNat (u % 128 + 128) :: numL (u / 128)
termination_by u
theorem numL_lo {u : Nat} (h : u < 128) : numL u = [UInt8.ofNat u] := by rw [numL, if_pos h]
theorem numL_hi {u : Nat} (h : ¬ u < 128) : numL u = UInt8.ofNat (u % 128 + 128) :: numL (u / 128) := by rw [numL, if_neg h]
theorem numL_pos (u : Nat) : 1 ≤ (numL u).length := by
  by_cases h : u < 128
  · rw [numL_lo h]; simp
  · rw [numL_hi h]; simp
theorem numL_le : ∀ (k u : Nat), u < 128 ^ (k + 1) → (numL u).length ≤ k + 1
  | 0, u, h => by rw [numL_lo (by simpa using h)]; simp
  | k + 1, u, h => by
    by_cases hu : u < 128
    · rw [numL_lo hu]; simp
    · rw [numL_hi hu]
      have := numL_le k (u / 128) (by rw [Nat.pow_succ] at h; omega)
      simp; omega
theorem numL_10 (u : Nat) (h : U64 u) : (numL u).length ≤ 10 := numL_le 9 u (by unfold U64 at h; omega)
theorem ofNat_lo (u : Nat) (h : u < 128) : ((UInt8.ofNat u).toNat : Int) = u := by
  rw [UInt8.toNat_ofNat']; omega
theorem byte_or (u : Nat) : bits .or .u8 ((u : Int) % 256) 128 = ((UInt8.ofNat (u % 128 + 128)).toNat : Int) := by
  have h : ∀ x : Fin 256, bits .or .u8 (x.1 : Int) 128 = ((UInt8.ofNat (x.1 % 128 + 128)).toNat : Int) := by decide +kernel
  have := h ⟨u % 256, by omega⟩
  simp only at this
  rw [show ((u % 256 : Nat) : Int) = (u : Int) % 256 by omega, show u % 256 % 128 = u % 128 by omega] at this
  exact this
theorem byte_or7 (u : Nat) (h : u < 128) : bits .or .u8 (u : Int) 128 = ((UInt8.ofNat (u + 128)).toNat : Int) := by
  have := byte_or u
  rw [show (u : Int) % 256 = u by omega, show u % 128 = u by omega] at this; exact this
theorem zz_xor_pos (n : Int) (h : I64 n) (h0 : 0 ≤ n) : bits .xor .u64 (n * 2) (n / 9223372036854775808) = (zz n : Int) := by
  unfold I64 at h
  obtain ⟨m, rfl⟩ := Int.eq_ofNat_of_zero_le h0
  rw [show ((m : Int) / 9223372036854775808) = ((0 : Nat) : Int) by omega, show (m : Int) * 2 = ((m * 2 : Nat) : Int) by omega, bits_xor_u64_nat _ _ (by omega) (by omega)]
  simp only [Nat.xor_zero, zz]
  rw [if_pos (by omega)]; omega
theorem not_u64 (x : Nat) (h : x < 18446744073709551616) : 18446744073709551615 ^^^ x = 18446744073709551615 - x := by
  have h1 : (BitVec.allOnes 64 ^^^ BitVec.ofNat 64 x).toNat = (~~~ BitVec.ofNat 64 x).toNat := by rw [BitVec.allOnes_xor]
  rw [BitVec.toNat_xor, BitVec.toNat_not, BitVec.toNat_allOnes, BitVec.toNat_ofNat, Nat.mod_eq_of_lt h] at h1
  exact h1
theorem wrap_u64_eq (x : Int) : IntKind.u64.wrap x = x % 18446744073709551616 := by
  simp [IntKind.wrap, IntKind.bits, IntKind.signed]
theorem shl_neg (n : Int) (h : I64 n) (h0 : n < 0) : IntKind.u64.wrap (IntKind.u64.wrap n * 2) = (((2 * n + 18446744073709551616).toNat : Nat) : Int) := by
  unfold I64 at h
  rw [wrap_u64_eq, wrap_u64_eq]; omega
theorem zz_not_neg (n : Int) (h : I64 n) (h0 : n < 0) : bits .xor .u64 IntKind.u64.max (IntKind.u64.wrap (IntKind.u64.wrap n * 2)) = (zz n : Int) := by
  rw [shl_neg n h h0]
  unfold I64 at h
  rw [show IntKind.u64.max = ((18446744073709551615 : Nat) : Int) by decide, bits_xor_u64_nat _ _ (by omega) (by omega), not_u64 _ (by omega)]
  unfold zz
  rw [if_neg (by omega)]; omega
theorem zz_xor_neg (n : Int) (h : I64 n) (h0 : n < 0) : bits .xor .u64 (IntKind.u64.wrap (IntKind.u64.wrap n * 2)) (IntKind.u64.wrap (n / 9223372036854775808)) = (zz n : Int) := by
  rw [shl_neg n h h0]
  unfold I64 at h
  rw [show IntKind.u64.wrap (n / 9223372036854775808) = ((18446744073709551615 : Nat) : Int) by rw [wrap_u64_eq]; omega, bits_xor_u64_nat _ _ (by omega) (by omega), Nat.xor_comm, not_u64 _ (by omega)]
  unfold zz
  rw [if_neg (by omega)]; omega
/-- int(u>>1) ^ -int(u&1) -/
theorem unzz_xor (u : Nat) (h : U64 u) : bits .xor .i64 ((u / 2 : Nat) : Int) (-((u % 2 : Nat) : Int)) = unzz u := by
  unfold U64 at h
  unfold unzz
  rcases Nat.mod_two_eq_zero_or_one u with e | e
  · rw [e, if_pos rfl]
    show IntKind.i64.wrap ((BitVec.ofInt 64 ((u / 2 : Nat) : Int) ^^^ BitVec.ofInt 64 0).toNat : Int) = _
    have h1 : BitVec.ofInt 64 0 = 0#64 := by decide
    rw [h1, BitVec.xor_zero, ofInt_u64 _ (by omega)]
    simp [IntKind.wrap, IntKind.bits, IntKind.signed]
    omega
  · rw [e, if_neg (by decide)]
    have h2 := i64_not (u / 2) (by omega)
    rw [← h2]
    show IntKind.i64.wrap ((BitVec.ofInt 64 ((u / 2 : Nat) : Int) ^^^ BitVec.ofInt 64 (-1)).toNat : Int) = IntKind.i64.wrap ((BitVec.ofInt 64 (-1) ^^^ BitVec.ofInt 64 ((u / 2 : Nat) : Int)).toNat : Int)
    rw [BitVec.xor_comm]
end Go.Proofs.YtplokbmdcfakbaaDoor
