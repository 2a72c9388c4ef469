/- Split and R.Split. -/
import Derived.Test.YtmgdgbnbikgmkaaDoorT2
namespace Go.Proofs.YtmgdgbnbikgmkaaDoor
open Go.RowKit
/-- the number of some bytes -/
def num (l : List UInt8) : Int := l.foldl (fun a c => a * 256 + (c.toNat : Int)) 0
theorem num_snoc (l : List UInt8) (c : UInt8) : num (l ++ [c]) = num l * 256 + (c.toNat : Int) := by simp [num]
theorem snoc_ind {α : Type} {p : List α → Prop} (h0 : p []) (h1 : ∀ l a, p l → p (l ++ [a])) (l : List α) : p l := by
  have h : ∀ r : List α, p r.reverse := by
    intro r
    induction r with
    | nil => exact h0
    | cons a r ih => rw [List.reverse_cons]; exact h1 _ _ ih
  simpa using h l.reverse
theorem num_bd (l : List UInt8) : 0 ≤ num l ∧ num l < (256 : Int) ^ l.length := by
  refine snoc_ind (p := fun l => 0 ≤ num l ∧ num l < (256 : Int) ^ l.length) ?_ ?_ l
  · simp [num]
  · intro l c ih
    rw [num_snoc, List.length_append, List.length_singleton, Int.pow_succ]
    have := c.toNat_lt
    generalize (256 : Int) ^ l.length = p at *
    omega
def part (s : ByteArray) (j k : Nat) : Int := num (((s.data.toList.take k).drop (4 * j)).take 4)
theorem part_zero (s : ByteArray) (j : Nat) : part s j 0 = 0 := by simp [part, num]
theorem part_same (s : ByteArray) (j k : Nat) (hk : k < s.size) (hj : k / 4 ≠ j) : part s j (k + 1) = part s j k := by
  unfold part
  rw [take_snoc s k hk]
  have hl : (s.data.toList.take k).length = k := List.length_take_of_le (by simp; omega)
  rcases Nat.lt_or_ge k (4 * j) with h | h
  · rw [List.drop_eq_nil_of_le (by simp; omega), List.drop_eq_nil_of_le (by omega)]
  · rw [List.drop_append_of_le_length (by omega), List.take_append_of_le_length (by rw [List.length_drop]; omega)]
theorem part_step (s : ByteArray) (j k : Nat) (hk : k < s.size) (hj : k / 4 = j) : part s j (k + 1) = part s j k * 256 + (s[k].toNat : Int) := by
  unfold part
  rw [take_snoc s k hk]
  have hl : (s.data.toList.take k).length = k := List.length_take_of_le (by simp; omega)
  rw [List.drop_append_of_le_length (by omega)]
  generalize hx : (s.data.toList.take k).drop (4 * j) = x
  have hxl : x.length = k - 4 * j := by rw [← hx, List.length_drop, hl]
  rw [List.take_of_length_le (by rw [List.length_append, List.length_singleton]; omega), List.take_of_length_le (by omega), num_snoc]
theorem part_bd (s : ByteArray) (j k : Nat) (hk : k < s.size) (hj : k / 4 = j) : 0 ≤ part s j k ∧ part s j k < 16777216 := by
  unfold part
  have hl : (s.data.toList.take k).length = k := List.length_take_of_le (by simp; omega)
  generalize hx : ((s.data.toList.take k).drop (4 * j)).take 4 = x
  have hlen : x.length ≤ 3 := by rw [← hx, List.length_take, List.length_drop]; omega
  have hb := num_bd x
  refine ⟨hb.1, Int.lt_of_lt_of_le hb.2 ?_⟩
  have : x.length = 0 ∨ x.length = 1 ∨ x.length = 2 ∨ x.length = 3 := by omega
  rcases this with h | h | h | h <;> rw [h] <;> decide
theorem or_byte (x : Int) (n : Nat) (h0 : 0 ≤ x) (h1 : x < 16777216) (hn : n < 256) : bits .or .i64 (x * 256) (n : Int) = x * 256 + n := by
  obtain ⟨m, rfl⟩ := Int.eq_ofNat_of_zero_le h0
  have e : (m : Int) * 256 = ((m * 256 : Nat) : Int) := by simp
  rw [e]
  show IntKind.i64.wrap ((BitVec.ofInt 64 ((m * 256 : Nat) : Int) ||| BitVec.ofInt 64 (n : Int)).toNat : Int) = _
  rw [BitVec.toNat_or, BitVec.ofInt_natCast, BitVec.ofInt_natCast, BitVec.toNat_ofNat, BitVec.toNat_ofNat, Nat.mod_eq_of_lt (by omega), Nat.mod_eq_of_lt (by omega)]
  have : m * 256 ||| n = m * 256 + n := by
    rw [show m * 256 = 2 ^ 8 * m by omega, Nat.two_pow_add_eq_or_of_lt (by omega)]
  rw [this, IntKind.wrap_i64]
  omega
theorem wrap_i64_in (x : Int) (h0 : -9223372036854775808 ≤ x) (h1 : x < 9223372036854775808) : IntKind.i64.wrap x = x := by
  rw [IntKind.wrap_i64]; omega
theorem tdiv4 (k j : Nat) (h : k / 4 = j) : (k : Int).tdiv 4 = (j : Int) := by
  rw [Int.tdiv_eq_ediv_of_nonneg (by omega)]; omega
set_option maxHeartbeats 400000 in
theorem split_ok (s : ByteArray) (hs : s.size = 12) (la da : Option Addr) (lc dc : Nat) (w : World) :
    Calls Tryd.prog 13 #[.agg #[.int .i64 8, .int .i64 0, .string s, .slice la 0 lc, .slice da 0 dc]] w fun e w' => e = .returned (.tuple #[.int .i64 (part s 0 12), .int .i64 (part s 1 12), .int .i64 (part s 2 12), .int .i64 0]) ∧ Ext w w' := by
  have hid : idOk 0 s 0 0 = true := by simp [idOk, hs]
  have HS := Lib.hid hs
  clear hs
  go_enter Tryd.func13, Tryd.ntmps13
  go_wp2_with fail
  refine (isID_id _ _ _ _ _ _ _ _ _).mono ?_
  rintro e w1 ⟨rfl, h1⟩
  rw [hid]
  clear hid
  have k1 := h1.ownc
  have hz := h1.lt
  go_wp2_with fail
  go_loopw [11] (fun i wr => ∃ k : Nat, k ≤ 12 ∧ i = .int .i64 k ∧ wr.heap[w1.heap.size]? = some (.cells #[.int .i64 (part s 0 k), .int .i64 (part s 1 k), .int .i64 (part s 2 k)] 59 (0, 0)) ∧ Ext w1 wr) (fun i _ => 12 - (intOf i).toNat)
  case atStart => exact ⟨0, by omega, rfl, by rw [part_zero, part_zero, part_zero]; exact heap_alloc_new w1 _, (Ext.refl w1).alloc _⟩
  case round =>
    obtain ⟨k, hk, rfl, hB, hE⟩ := hrel
    by_cases hlt : k < 12
    · have hks : k < s.size := by rw [HS.out]; exact hlt
      obtain ⟨n, hn⟩ : ∃ n, s[k].toNat = n := ⟨_, rfl⟩
      have hn16 : n < 256 := by rw [← hn]; exact s[k].toNat_lt
      go_wp2_with fail
      have hc0 := blk_cell hB
      have hf0 := blk_free hB
      have HB := Lib.hid hB
      clear hB
      have hwn := wrap_i64_in (n : Int) (by omega) (by omega)
      rcases (show k / 4 = 0 ∨ k / 4 = 1 ∨ k / 4 = 2 by omega) with hj | hj | hj
      · have hj' := tdiv4 k _ hj
        have hw0 := wrap_i64_in 0 (by omega) (by omega)
        have HJ := Lib.hid hj
        clear hj
        have hb := part_bd s 0 k hks HJ.out
        have ho := or_byte (part s 0 k) n hb.1 hb.2 hn16
        have hw1 := wrap_i64_in (part s 0 k * 256) (by omega) (by omega)
        refine wp_region_mix (Ext w1) [(true, 0), (true, 1), (true, 2), (true, 3), (true, 4), (true, 7), (true, 8), (true, 9), (true, 10), (true, 11), (false, 5), (true, 6), (true, 12), (true, 13), (false, 14)] (by kernel_rfl) (by kernel_rfl) (by kernel_rfl) (by kernel_rfl) ?hS ?_
        case hS => exact hE.drew
        repeat (first | (refine wpMix_q (v := ?_) rfl rfl ?_ ?_; rotate_left; (· intro wq hSq; have cq := hSq.cells; go_simp; try (with_reducible rfl)); simp only [Act.put, List.setIfInBounds_toArray, List.set_cons_zero, List.set_cons_succ, List.getElem_toArray, List.getElem_cons_zero, List.getElem_cons_succ]) | (refine wpMix_u rfl rfl ?_; simp only [Act.put, List.setIfInBounds_toArray, List.set_cons_zero, List.set_cons_succ, List.getElem_toArray, List.getElem_cons_zero, List.getElem_cons_succ]))
        refine wpMix_l rfl rfl (fun K hK => ?_)
        go_simp
        refine hK _ _ hE.drew ?_
        clear hK K
        repeat (first | (refine wpMix_q (v := ?_) rfl rfl ?_ ?_; rotate_left; (· intro wq hSq; have cq := hSq.cells; go_simp; try (with_reducible rfl)); simp only [Act.put, List.setIfInBounds_toArray, List.set_cons_zero, List.set_cons_succ, List.getElem_toArray, List.getElem_cons_zero, List.getElem_cons_succ]) | (refine wpMix_u rfl rfl ?_; simp only [Act.put, List.setIfInBounds_toArray, List.set_cons_zero, List.set_cons_succ, List.getElem_toArray, List.getElem_cons_zero, List.getElem_cons_succ]))
        refine wpMix_l rfl rfl (fun K hK => ?_)
        go_simp
        have hE2 := (hE.drew.setCell (p := ⟨w1.heap.size, 0, none⟩) (Nat.le_refl _) (Value.int IntKind.i64 (part s 0 k * 256 + (n : Int))))
        refine hK _ _ hE2 ?_
        clear hK K
        refine wpMix_nil ?_
        have hB2 := blk_set HB.out 0 (Value.int IntKind.i64 (part s 0 k * 256 + (n : Int)))
        rw [← hn, ← part_step s 0 k hks HJ.out, ← part_same s 1 k hks (by rw [HJ.out]; decide), ← part_same s 2 k hks (by rw [HJ.out]; decide)] at hB2
        have HB2 := Lib.hid hB2
        rw [← hn, ← part_step s 0 k hks HJ.out] at hE2 ⊢
        clear hB2 hj' hw0 hb ho hw1 hwn hc0 hf0 hn
        go_wp2
        exact ⟨⟨k + 1, by omega, by go_num, HB2.out, hE2⟩, by simp [intOf]; omega⟩
      · have hj' := tdiv4 k _ hj
        have hw0 := wrap_i64_in 1 (by omega) (by omega)
        have HJ := Lib.hid hj
        clear hj
        have hb := part_bd s 1 k hks HJ.out
        have ho := or_byte (part s 1 k) n hb.1 hb.2 hn16
        have hw1 := wrap_i64_in (part s 1 k * 256) (by omega) (by omega)
        refine wp_region_mix (Ext w1) [(true, 0), (true, 1), (true, 2), (true, 3), (true, 4), (true, 7), (true, 8), (true, 9), (true, 10), (true, 11), (false, 5), (true, 6), (true, 12), (true, 13), (false, 14)] (by kernel_rfl) (by kernel_rfl) (by kernel_rfl) (by kernel_rfl) ?hS ?_
        case hS => exact hE.drew
        repeat (first | (refine wpMix_q (v := ?_) rfl rfl ?_ ?_; rotate_left; (· intro wq hSq; have cq := hSq.cells; go_simp; try (with_reducible rfl)); simp only [Act.put, List.setIfInBounds_toArray, List.set_cons_zero, List.set_cons_succ, List.getElem_toArray, List.getElem_cons_zero, List.getElem_cons_succ]) | (refine wpMix_u rfl rfl ?_; simp only [Act.put, List.setIfInBounds_toArray, List.set_cons_zero, List.set_cons_succ, List.getElem_toArray, List.getElem_cons_zero, List.getElem_cons_succ]))
        refine wpMix_l rfl rfl (fun K hK => ?_)
        go_simp
        refine hK _ _ hE.drew ?_
        clear hK K
        repeat (first | (refine wpMix_q (v := ?_) rfl rfl ?_ ?_; rotate_left; (· intro wq hSq; have cq := hSq.cells; go_simp; try (with_reducible rfl)); simp only [Act.put, List.setIfInBounds_toArray, List.set_cons_zero, List.set_cons_succ, List.getElem_toArray, List.getElem_cons_zero, List.getElem_cons_succ]) | (refine wpMix_u rfl rfl ?_; simp only [Act.put, List.setIfInBounds_toArray, List.set_cons_zero, List.set_cons_succ, List.getElem_toArray, List.getElem_cons_zero, List.getElem_cons_succ]))
        refine wpMix_l rfl rfl (fun K hK => ?_)
        go_simp
        have hE2 := (hE.drew.setCell (p := ⟨w1.heap.size, 1, none⟩) (Nat.le_refl _) (Value.int IntKind.i64 (part s 1 k * 256 + (n : Int))))
        refine hK _ _ hE2 ?_
        clear hK K
        refine wpMix_nil ?_
        have hB2 := blk_set HB.out 1 (Value.int IntKind.i64 (part s 1 k * 256 + (n : Int)))
        rw [← hn, ← part_step s 1 k hks HJ.out, ← part_same s 0 k hks (by rw [HJ.out]; decide), ← part_same s 2 k hks (by rw [HJ.out]; decide)] at hB2
        have HB2 := Lib.hid hB2
        rw [← hn, ← part_step s 1 k hks HJ.out] at hE2 ⊢
        clear hB2 hj' hw0 hb ho hw1 hwn hc0 hf0 hn
        go_wp2
        exact ⟨⟨k + 1, by omega, by go_num, HB2.out, hE2⟩, by simp [intOf]; omega⟩
      · have hj' := tdiv4 k _ hj
        have hw0 := wrap_i64_in 2 (by omega) (by omega)
        have HJ := Lib.hid hj
        clear hj
        have hb := part_bd s 2 k hks HJ.out
        have ho := or_byte (part s 2 k) n hb.1 hb.2 hn16
        have hw1 := wrap_i64_in (part s 2 k * 256) (by omega) (by omega)
        refine wp_region_mix (Ext w1) [(true, 0), (true, 1), (true, 2), (true, 3), (true, 4), (true, 7), (true, 8), (true, 9), (true, 10), (true, 11), (false, 5), (true, 6), (true, 12), (true, 13), (false, 14)] (by kernel_rfl) (by kernel_rfl) (by kernel_rfl) (by kernel_rfl) ?hS ?_
        case hS => exact hE.drew
        repeat (first | (refine wpMix_q (v := ?_) rfl rfl ?_ ?_; rotate_left; (· intro wq hSq; have cq := hSq.cells; go_simp; try (with_reducible rfl)); simp only [Act.put, List.setIfInBounds_toArray, List.set_cons_zero, List.set_cons_succ, List.getElem_toArray, List.getElem_cons_zero, List.getElem_cons_succ]) | (refine wpMix_u rfl rfl ?_; simp only [Act.put, List.setIfInBounds_toArray, List.set_cons_zero, List.set_cons_succ, List.getElem_toArray, List.getElem_cons_zero, List.getElem_cons_succ]))
        refine wpMix_l rfl rfl (fun K hK => ?_)
        go_simp
        refine hK _ _ hE.drew ?_
        clear hK K
        repeat (first | (refine wpMix_q (v := ?_) rfl rfl ?_ ?_; rotate_left; (· intro wq hSq; have cq := hSq.cells; go_simp; try (with_reducible rfl)); simp only [Act.put, List.setIfInBounds_toArray, List.set_cons_zero, List.set_cons_succ, List.getElem_toArray, List.getElem_cons_zero, List.getElem_cons_succ]) | (refine wpMix_u rfl rfl ?_; simp only [Act.put, List.setIfInBounds_toArray, List.set_cons_zero, List.set_cons_succ, List.getElem_toArray, List.getElem_cons_zero, List.getElem_cons_succ]))
        refine wpMix_l rfl rfl (fun K hK => ?_)
        go_simp
        have hE2 := (hE.drew.setCell (p := ⟨w1.heap.size, 2, none⟩) (Nat.le_refl _) (Value.int IntKind.i64 (part s 2 k * 256 + (n : Int))))
        refine hK _ _ hE2 ?_
        clear hK K
        refine wpMix_nil ?_
        have hB2 := blk_set HB.out 2 (Value.int IntKind.i64 (part s 2 k * 256 + (n : Int)))
        rw [← hn, ← part_step s 2 k hks HJ.out, ← part_same s 0 k hks (by rw [HJ.out]; decide), ← part_same s 1 k hks (by rw [HJ.out]; decide)] at hB2
        have HB2 := Lib.hid hB2
        rw [← hn, ← part_step s 2 k hks HJ.out] at hE2 ⊢
        clear hB2 hj' hw0 hb ho hw1 hwn hc0 hf0 hn
        go_wp2
        exact ⟨⟨k + 1, by omega, by go_num, HB2.out, hE2⟩, by simp [intOf]; omega⟩
    · have hk12 : k = 12 := by omega
      subst hk12
      have hc0 := blk_cell hB
      clear hB
      go_wp2_with fail
      refine wp_region_mix (fun w' => ∀ j, w'.cell? ⟨w1.heap.size, j, none⟩ = #[.int .i64 (part s 0 12), .int .i64 (part s 1 12), .int .i64 (part s 2 12)][j]?) [(true, 0), (true, 1), (true, 2), (true, 3), (true, 4), (true, 5), (true, 6), (true, 7), (true, 8), (true, 9)] (by kernel_rfl) (by kernel_rfl) (by kernel_rfl) (by kernel_rfl) ?hS ?_
      case hS => exact hc0
      repeat (first | (refine wpMix_q (v := ?_) rfl rfl ?_ ?_; rotate_left; (· intro wq hSq; go_simp; try (with_reducible rfl)); simp only [Act.put, List.setIfInBounds_toArray, List.set_cons_zero, List.set_cons_succ, List.getElem_toArray, List.getElem_cons_zero, List.getElem_cons_succ]) | (refine wpMix_u rfl rfl ?_; simp only [Act.put, List.setIfInBounds_toArray, List.set_cons_zero, List.set_cons_succ, List.getElem_toArray, List.getElem_cons_zero, List.getElem_cons_succ]))
      refine wpMix_nil ?_
      go_wp2
      refine bodyPost_ret (results_tmp4 rfl _ _ _) rfl ?_
      exact ⟨rfl, h1.of_alloc.trans hE.drew⟩
end Go.Proofs.YtmgdgbnbikgmkaaDoor
