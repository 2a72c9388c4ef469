/- R.Split. -/
import Derived.Test.YtmgdgbnbikgmkaaDoorS1
import Derived.Lib.Strings
namespace Go.Proofs.YtmgdgbnbikgmkaaDoor
open Go.RowKit
theorem or_mul (m y k p : Nat) (x : Int) (z : Int) (hp : 2 ^ k = p) (hx : p * m < 4294967296) (hy : y < p) (hp32 : p < 4294967296) (ex : x = (p : Int) * (m : Int)) (ez : z = (y : Int)) : bits .or .i64 x z = x + z := by
  subst ez
  have ex' : x = ((p * m : Nat) : Int) := by rw [ex, Int.natCast_mul]
  rw [ex']
  show IntKind.i64.wrap ((BitVec.ofInt 64 ((p * m : Nat) : Int) ||| BitVec.ofInt 64 (y : Int)).toNat : Int) = _
  rw [BitVec.toNat_or, BitVec.ofInt_natCast, BitVec.ofInt_natCast, BitVec.toNat_ofNat, BitVec.toNat_ofNat, Nat.mod_eq_of_lt (by omega), Nat.mod_eq_of_lt (by omega)]
  have e : p * m ||| y = p * m + y := by subst hp; exact (Nat.two_pow_add_eq_or_of_lt hy m).symm
  rw [e, IntKind.wrap_i64]
  omega
theorem or_1 (a b : Nat) (ha : a < 256) (hb : b < 256) : bits .or .i64 ((a : Int) * 16777216) ((b : Int) * 65536) = (a : Int) * 16777216 + (b : Int) * 65536 :=
  or_mul a (b * 65536) 24 16777216 _ _ rfl (by omega) (by omega) (by omega) (by omega) (by omega)
theorem or_2 (a b c : Nat) (ha : a < 256) (hb : b < 256) (hc : c < 256) : bits .or .i64 ((a : Int) * 16777216 + (b : Int) * 65536) ((c : Int) * 256) = (a : Int) * 16777216 + (b : Int) * 65536 + (c : Int) * 256 :=
  or_mul (a * 256 + b) (c * 256) 16 65536 _ _ rfl (by omega) (by omega) (by omega) (by omega) (by omega)
theorem or_3 (a b c d : Nat) (ha : a < 256) (hb : b < 256) (hc : c < 256) (hd : d < 256) : bits .or .i64 ((a : Int) * 16777216 + (b : Int) * 65536 + (c : Int) * 256) (d : Int) = (a : Int) * 16777216 + (b : Int) * 65536 + (c : Int) * 256 + (d : Int) :=
  or_mul (a * 65536 + b * 256 + c) d 8 256 _ _ rfl (by omega) (by omega) (by omega) (by omega) rfl
set_option maxHeartbeats 400000 in
theorem number_ok (s : ByteArray) (hs : s.size = 4) (w : World) :
    Calls Tryd.prog 30 #[.string s] w fun e w' => e = .returned (.int .i64 (num s.data.toList)) ∧ Ext w w' := by
  obtain ⟨n0, h0⟩ : ∃ n, (s[0]'(by omega)).toNat = n := ⟨_, rfl⟩
  obtain ⟨n1, h1⟩ : ∃ n, (s[1]'(by omega)).toNat = n := ⟨_, rfl⟩
  obtain ⟨n2, h2⟩ : ∃ n, (s[2]'(by omega)).toNat = n := ⟨_, rfl⟩
  obtain ⟨n3, h3⟩ : ∃ n, (s[3]'(by omega)).toNat = n := ⟨_, rfl⟩
  have b0 : n0 < 256 := by rw [← h0]; exact UInt8.toNat_lt _
  have b1 : n1 < 256 := by rw [← h1]; exact UInt8.toNat_lt _
  have b2 : n2 < 256 := by rw [← h2]; exact UInt8.toNat_lt _
  have b3 : n3 < 256 := by rw [← h3]; exact UInt8.toNat_lt _
  have hnum : num s.data.toList = (n0 : Int) * 16777216 + n1 * 65536 + n2 * 256 + n3 := by
    obtain ⟨⟨l⟩⟩ := s
    match l, hs with
    | [a, b, c, d], _ =>
      change a.toNat = n0 at h0
      change b.toNat = n1 at h1
      change c.toNat = n2 at h2
      change d.toNat = n3 at h3
      simp only [num, List.foldl, h0, h1, h2, h3]; omega
  rw [hnum]
  have HN := Lib.hid hnum
  clear hnum
  have q0 := wrap_i64_in (n0 : Int) (by omega) (by omega)
  have q1 := wrap_i64_in (n1 : Int) (by omega) (by omega)
  have q2 := wrap_i64_in (n2 : Int) (by omega) (by omega)
  have q3 := wrap_i64_in (n3 : Int) (by omega) (by omega)
  have p0 := wrap_i64_in ((n0 : Int) * 16777216) (by omega) (by omega)
  have p1 := wrap_i64_in ((n1 : Int) * 65536) (by omega) (by omega)
  have p2 := wrap_i64_in ((n2 : Int) * 256) (by omega) (by omega)
  have o1 := or_1 n0 n1 b0 b1
  have o2 := or_2 n0 n1 n2 b0 b1 b2
  have o3 := or_3 n0 n1 n2 n3 b0 b1 b2 b3
  have HS := Lib.hid hs
  go_enter Tryd.func30, Tryd.ntmps30
  go_wp2_with fail
  refine wp_region_mix (fun w' => True) [(true, 0), (true, 1), (true, 2), (true, 3), (true, 4), (true, 5), (true, 6), (true, 7), (true, 8), (true, 9), (true, 10), (true, 11), (true, 12), (true, 13), (true, 14), (true, 15), (true, 16), (true, 17), (true, 18)] (by kernel_rfl) (by kernel_rfl) (by kernel_rfl) (by kernel_rfl) ?hS ?_
  case hS => exact trivial
  repeat (first | (refine wpMix_q (v := ?_) rfl rfl ?_ ?_; rotate_left; (· intro wq hSq; go_simp; try (with_reducible rfl)); simp only [Act.put, List.setIfInBounds_toArray, List.set_cons_zero, List.set_cons_succ, List.getElem_toArray, List.getElem_cons_zero, List.getElem_cons_succ]) | (refine wpMix_u rfl rfl ?_; simp only [Act.put, List.setIfInBounds_toArray, List.set_cons_zero, List.set_cons_succ, List.getElem_toArray, List.getElem_cons_zero, List.getElem_cons_succ]))
  refine wpMix_nil ?_
  go_wp2
  go_ret
  exact ⟨rfl, (Ext.refl w).drew⟩
theorem part0 (s : ByteArray) (hs : s.size = 12) : num (s.data.toList.take 4) = part s 0 12 := by
  unfold part; rw [List.take_of_length_le (l := s.data.toList) (i := 12) (by simp; omega)]; rfl
theorem part1 (s : ByteArray) (hs : s.size = 12) : num ((s.data.toList.drop 4).take 4) = part s 1 12 := by
  unfold part; rw [List.take_of_length_le (l := s.data.toList) (i := 12) (by simp; omega)]
theorem part2 (s : ByteArray) (hs : s.size = 12) : num ((s.data.toList.drop 8).take (s.size - 8)) = part s 2 12 := by
  unfold part; rw [List.take_of_length_le (l := s.data.toList) (i := 12) (by simp; omega), hs]
set_option maxHeartbeats 400000 in
theorem rsplit_ok (s : ByteArray) (hs : s.size = 12) (la da : Option Addr) (lc dc : Nat) (w : World) :
    Calls Tryd.prog 14 #[.agg #[.int .i64 8, .int .i64 0, .string s, .slice la 0 lc, .slice da 0 dc]] w fun e w' => e = .returned (.tuple #[.int .i64 (part s 0 12), .int .i64 (part s 1 12), .int .i64 (part s 2 12), .int .i64 0]) ∧ Ext w w' := by
  have hid : idOk 0 s 0 0 = true := by simp [idOk, hs]
  have HS := Lib.hid hs
  have z4 : 4 ≤ s.size := by omega
  have z8 : 8 ≤ s.size := by omega
  have y4 : (4 : Int) ≤ (s.size : Int) := by omega
  have y8 : (8 : Int) ≤ (s.size : Int) := by omega
  clear hs
  go_enter Tryd.func14, Tryd.ntmps14
  go_wp2_with fail
  refine (RValid_id _ _ _ _ _ _ _ _ _).mono ?_
  rintro e w1 ⟨rfl, h1⟩
  rw [hid]
  clear hid
  have k1 := h1.ownc
  have hz := h1.lt
  go_wp2_with fail
  refine wp_region_mix (Ext w1) [(true, 0), (true, 1), (true, 2), (true, 4), (true, 5), (true, 6), (true, 8), (true, 9), (true, 10), (false, 3), (false, 7), (false, 11), (true, 12), (true, 13), (true, 14), (true, 15)] (by kernel_rfl) (by kernel_rfl) (by kernel_rfl) (by kernel_rfl) ?hS ?_
  case hS => exact (Ext.refl w1).drew
  repeat (first | (refine wpMix_q (v := ?_) rfl rfl ?_ ?_; rotate_left; (· intro wq hSq; have cq := hSq.cells; go_simp; try (with_reducible rfl)); simp only [Act.put, List.setIfInBounds_toArray, List.set_cons_zero, List.set_cons_succ, List.getElem_toArray, List.getElem_cons_zero, List.getElem_cons_succ]) | (refine wpMix_u rfl rfl ?_; simp only [Act.put, List.setIfInBounds_toArray, List.set_cons_zero, List.set_cons_succ, List.getElem_toArray, List.getElem_cons_zero, List.getElem_cons_succ]))
  refine wpMix_l rfl rfl (fun K hK => ?_)
  go_simp
  refine (number_ok _ (by simp [HS.out]) _).mono ?_
  rintro e w2 ⟨rfl, h2⟩
  refine hK _ _ ((Ext.refl w1).drew.trans h2) ?_
  clear hK K
  refine wpMix_l rfl rfl (fun K hK => ?_)
  go_simp
  refine (number_ok _ (by simp [HS.out]) _).mono ?_
  rintro e w3 ⟨rfl, h3⟩
  refine hK _ _ ((Ext.refl w1).drew.trans (h2.trans h3)) ?_
  clear hK K
  refine wpMix_l rfl rfl (fun K hK => ?_)
  go_simp
  refine (number_ok _ (by simp [HS.out]) _).mono ?_
  rintro e w4 ⟨rfl, h4⟩
  refine hK _ _ ((Ext.refl w1).drew.trans (h2.trans (h3.trans h4))) ?_
  clear hK K
  (try simp only [Act.put, List.setIfInBounds_toArray, List.set_cons_zero, List.set_cons_succ, List.getElem_toArray, List.getElem_cons_zero, List.getElem_cons_succ])
  repeat (first | (refine wpMix_q (v := ?_) rfl rfl ?_ ?_; rotate_left; (· intro wq hSq; have cq := hSq.cells; go_simp; try (with_reducible rfl)); simp only [Act.put, List.setIfInBounds_toArray, List.set_cons_zero, List.set_cons_succ, List.getElem_toArray, List.getElem_cons_zero, List.getElem_cons_succ]) | (refine wpMix_u rfl rfl ?_; simp only [Act.put, List.setIfInBounds_toArray, List.set_cons_zero, List.set_cons_succ, List.getElem_toArray, List.getElem_cons_zero, List.getElem_cons_succ]))
  refine wpMix_nil ?_
  go_wp2
  refine bodyPost_ret (results_tmp4 rfl _ _ _) rfl ?_
  refine ⟨?_, h1.of_alloc.trans ((Ext.refl w1).drew.trans (h2.trans (h3.trans h4)))⟩
  rw [← part0 s HS.out, ← part1 s HS.out, ← part2 s HS.out]
  rfl
end Go.Proofs.YtmgdgbnbikgmkaaDoor
