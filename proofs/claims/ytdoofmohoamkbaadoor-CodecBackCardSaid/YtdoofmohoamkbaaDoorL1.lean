/- CodecReadsNums and CodecNums: the walks. -/
import Derived.Test.YtdoofmohoamkbaaDoorAw
import Derived.Test.YtdoofmohoamkbaaDoorStr
set_option linter.unusedSimpArgs false
set_option linter.unusedVariables false
namespace Go.Proofs.YtdoofmohoamkbaaDoor
open Go.RowKit
set_option maxRecDepth 20000 in
set_option maxHeartbeats 1000000 in
theorem readsNums_walk (s : ByteArray) (x : Int) (w : World) (hs : s.size ≤ maxLen) (hT : Tabs w) : Calls Tryd.prog 4 #[.string s, .int .i64 x] w fun e w' => e = .returned (.bool true) ∧ Ext w w' := by
  have HT := Lib.hid hT
  clear hT
  obtain ⟨r, hr⟩ : ∃ r, rdV s x = r := ⟨_, rfl⟩
  have HR := Lib.hid hr
  clear hr
  obtain ⟨a, b, c⟩ := r
  go_enter Tryd.func4, Tryd.ntmps4
  go_wp2_with fail
  refine (ReadNum_ok s x _ hs).mono ?_
  rw [HR.out]
  rintro e w1 ⟨rfl, rfl⟩
  go_wp2_with fail
  refine (RReadNum_ok s x _ hs).mono ?_
  rw [HR.out]
  rintro e w1 ⟨rfl, rfl⟩
  go_wp2_with fail
  refine (awake_ok _ HT.out).mono ?_
  rintro e w2 ⟨rfl, h2⟩
  go_wp2_with fail
  go_ret
  exact ⟨rfl, h2⟩
/-- The groups of a number are read as the number. -/
theorem rdN_numL : ∀ (u k acc : Nat) (r : List UInt8), k ≤ 9 → (0 < k → 0 < u) → u * 128 ^ k < 18446744073709551616 → rdN k acc (numL u ++ r) = .ok (acc + u * 128 ^ k, k + (numL u).length) := by
  intro u
  induction u using Nat.strongRecOn with
  | _ u ih =>
    intro k acc r hk h0 hu
    have h9 : k = 9 → u ≤ 1 := fun e => by
      subst e
      rcases Nat.lt_or_ge 1 u with h | h
      · have h2 : 2 * 128 ^ 9 ≤ u * 128 ^ 9 := Nat.mul_le_mul_right _ h
        exact absurd (Nat.lt_of_le_of_lt h2 hu) (by decide)
      · exact h
    by_cases hlt : u < 128
    · rw [numL_lo hlt]
      have hb : (UInt8.ofNat u).toNat = u := by rw [UInt8.toNat_ofNat']; omega
      simp only [List.cons_append, List.nil_append, rdN, hb, List.length_singleton]
      rw [if_neg (by omega), if_pos hlt, Nat.mod_eq_of_lt hlt]
    · rw [numL_hi hlt]
      have hb : (UInt8.ofNat (u % 128 + 128)).toNat = u % 128 + 128 := by rw [UInt8.toNat_ofNat']; omega
      simp only [List.cons_append, rdN, hb, List.length_cons]
      have hu2 : u / 128 * 128 ^ (k + 1) < 18446744073709551616 := by
        have e : u / 128 * 128 ^ (k + 1) ≤ u * 128 ^ k := by
          rw [Nat.pow_succ, Nat.mul_comm (128 ^ k) 128, ← Nat.mul_assoc]
          exact Nat.mul_le_mul_right _ (by omega)
        omega
      rw [if_neg (by omega), if_neg (by omega), ih (u / 128) (by omega) (k + 1) _ r (by omega) (by omega) hu2]
      have e1 : (u % 128 + 128) % 128 = u % 128 := by omega
      rw [e1, Nat.pow_succ]
      have e2 : acc + u % 128 * 128 ^ k + u / 128 * (128 ^ k * 128) = acc + u * 128 ^ k := by
        have : u = u % 128 + u / 128 * 128 := by omega
        conv => rhs; rw [this, Nat.add_mul]
        rw [Nat.add_assoc, Nat.mul_comm (128 ^ k) 128, ← Nat.mul_assoc]
      rw [e2]
      congr 2
      omega
theorem rest_app (a b : ByteArray) : rest (a ++ b) a.size = b.data.toList := by
  unfold rest
  rw [ByteArray.data_append]
  simp
theorem rdV_num_at (n : Int) (h : I64 n) (a b : ByteArray) : rdV (a ++ ⟨(numL (zz n)).toArray⟩ ++ b) a.size = (n, (a.size : Int) + ((numL (zz n)).length : Nat), 0) := by
  have e : rest (a ++ ⟨(numL (zz n)).toArray⟩ ++ b) a.size = numL (zz n) ++ b.data.toList := by
    rw [ByteArray.append_assoc, rest_app, ByteArray.data_append]; simp
  rw [rdV_in _ _ (by simp; omega), e, rdN_numL (zz n) 0 0 _ (by omega) (by omega) (by have h1 := zz_lt n h; unfold U64 at h1; simpa using h1)]
  simp [rdR, unzz_zz]
set_option maxRecDepth 20000 in
set_option maxHeartbeats 1000000 in
theorem nums_walk (n : Int) (a b : ByteArray) (w : World) (hn : I64 n) (ha : a.size ≤ 140737488355328) (hb : b.size ≤ 140737488355328) (hT : Tabs w) : Calls Tryd.prog 3 #[.int .i64 n, .string a, .string b] w fun e w' => e = .returned (.bool true) ∧ Ext w w' := by
  have HT := Lib.hid hT
  have HN := Lib.hid hn
  have HV := Lib.hid (rdV_num_at n hn a b)
  have hl := numL_10 _ (zz_lt n hn)
  obtain ⟨q, hq⟩ : ∃ q : ByteArray, (⟨(numL (zz n)).toArray⟩ : ByteArray) = q := ⟨_, rfl⟩
  have hqs : q.size = (numL (zz n)).length := by rw [← hq]; rfl
  have hq10 : q.size ≤ 10 := by omega
  rw [hq, ← hqs] at HV
  have HQ := Lib.hid hq
  clear hT hn hl hq hqs
  go_enter Tryd.func3, Tryd.ntmps3
  go_wp2_with fail
  refine (Num_ok n _ HN.out).mono ?_
  rintro e w1 ⟨rfl, h1⟩
  rw [HQ.out]
  go_wp2_with fail
  refine (RNum_ok n _ HN.out).mono ?_
  rintro e w2 ⟨rfl, h2⟩
  rw [HQ.out]
  have HE2 := Lib.hid (h1.trans h2)
  clear h1 h2
  have z1 : a.size + q.size ≤ 9223372036854775807 := by omega
  go_wp2_with fail
  refine (ReadNum_ok _ _ _ (by unfold maxLen; simp; omega)).mono ?_
  rw [HV.out]
  rintro e w3 ⟨rfl, rfl⟩
  go_wp2_with fail
  refine (awake_ok _ (HT.out.ext HE2.out)).mono ?_
  rintro e w4 ⟨rfl, h4⟩
  go_wp2_with fail
  go_ret
  exact ⟨rfl, HE2.out.trans h4⟩
end Go.Proofs.YtdoofmohoamkbaaDoor
