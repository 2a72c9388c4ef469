/- R.Text. -/
import Derived.Test.YtmgdgbnbikgmkaaDoorT1
namespace Go.Proofs.YtmgdgbnbikgmkaaDoor
open Go.RowKit
theorem slc_dig (x : Nat) (hx : x < 16) (w : World) : (Instr.slice 9 (.string ⟨#[48, 49, 50, 51, 52, 53, 54, 55, 56, 57, 97, 98, 99, 100, 101, 102]⟩) (some (.int .u8 (x : Int))) (some (.int .u8 ((x : Int) + 1))) none).run Tryd.prog w = .ok (.string (strOfNums [hexD x])) w := by
  rcases x with _|_|_|_|_|_|_|_|_|_|_|_|_|_|_|_|x
  all_goals first | (exfalso; omega) | kernel_rfl
theorem str_cat (a b : List Int) : strOfNums a ++ strOfNums b = strOfNums (a ++ b) := by apply ByteArray.ext; simp [strOfNums]
theorem wrap_u8 (x : Int) (h0 : 0 ≤ x) (h1 : x < 256) : IntKind.u8.wrap x = x := by
  simp [IntKind.wrap, IntKind.bits, IntKind.signed]; omega
set_option maxHeartbeats 400000 in
theorem rtext_ok (s : ByteArray) (hs : s.size = 12) (la da : Option Addr) (lc dc : Nat) (w : World) :
    Calls Tryd.prog 16 #[.agg #[.int .i64 8, .int .i64 0, .string s, .slice la 0 lc, .slice da 0 dc]] w fun e w' => e = .returned (.tuple #[.string (strOfNums (hexL s.data.toList)), .int .i64 0]) ∧ Ext w w' := by
  have hid : idOk 0 s 0 0 = true := by simp [idOk, hs]
  have HS := Lib.hid hs
  clear hs
  go_enter Tryd.func16, Tryd.ntmps16
  go_wp2_with fail
  refine (RValid_id _ _ _ _ _ _ _ _ _).mono ?_
  rintro e w1 ⟨rfl, h1⟩
  rw [hid]
  clear hid
  have k1 := h1.ownc
  have hz := h1.lt
  go_wp2_with fail
  go_loopw [4, 5] (fun t i wr => ∃ k : Nat, k ≤ 12 ∧ i = .int .i64 k ∧ t = .string (strOfNums (hexL (s.data.toList.take k))) ∧ Ext w1 wr) (fun _ i _ => 12 - (intOf i).toNat)
  case atStart => exact ⟨0, by omega, rfl, rfl, Ext.refl w1⟩
  case round =>
    obtain ⟨k, hk, rfl, rfl, hE⟩ := hrel
    have kE := hE.cells
    by_cases hlt : k < 12
    · have hks : k < s.size := by rw [HS.out]; exact hlt
      obtain ⟨n, hn⟩ : ∃ n, s[k].toNat = n := ⟨_, rfl⟩
      have hn16 : n < 256 := by rw [← hn]; exact s[k].toNat_lt
      go_wp2_with fail
      have hd1 : ∀ W, (Instr.slice 9 (.string ⟨#[48, 49, 50, 51, 52, 53, 54, 55, 56, 57, 97, 98, 99, 100, 101, 102]⟩) (some (.int .u8 ((n : Int) / 16))) (some (.int .u8 ((n : Int) / 16 + 1))) none).run Tryd.prog W = .ok (.string (strOfNums [hexD (n / 16)])) W := fun W => slc_dig (n / 16) (by omega) W
      have hd2 : ∀ W, (Instr.slice 9 (.string ⟨#[48, 49, 50, 51, 52, 53, 54, 55, 56, 57, 97, 98, 99, 100, 101, 102]⟩) (some (.int .u8 ((n : Int) % 16))) (some (.int .u8 ((n : Int) % 16 + 1))) none).run Tryd.prog W = .ok (.string (strOfNums [hexD (n % 16)])) W := fun W => slc_dig (n % 16) (by omega) W
      have hlen : (hexL (s.data.toList.take k)).length = 2 * k := by rw [hexL_len, List.length_take_of_le (by simp; omega)]
      have hzs := strOfNums_size
      have q0 : (n : Int).tmod 16 = (n : Int) % 16 := Int.tmod_eq_emod_of_nonneg (by omega)
      have q1 := wrap_u8 ((n : Int) / 16) (by omega) (by omega)
      have q2 := wrap_u8 ((n : Int) / 16 + 1) (by omega) (by omega)
      have q4 := wrap_u8 ((n : Int) % 16 + 1) (by omega) (by omega)
      have hcat := str_cat
      have hq : ¬ 9223372036854775807 < 2 * k + 2 := by omega
      refine wp_region_mix (Ext w1) [(true, 0), (true, 1), (true, 2), (true, 3), (true, 4), (true, 5), (true, 6), (true, 7), (true, 8), (true, 9), (true, 10), (true, 11), (true, 12), (true, 13), (true, 14), (true, 15)] (by kernel_rfl) (by kernel_rfl) (by kernel_rfl) (by kernel_rfl) ?hS ?_
      case hS => exact hE.drew
      repeat (first | (refine wpMix_q (v := ?_) rfl rfl ?_ ?_; rotate_left; (· intro wq hSq; have cq := hSq.cells; go_simp; try (with_reducible rfl)); simp only [Act.put, List.setIfInBounds_toArray, List.set_cons_zero, List.set_cons_succ, List.getElem_toArray, List.getElem_cons_zero, List.getElem_cons_succ]) | (refine wpMix_u rfl rfl ?_; simp only [Act.put, List.setIfInBounds_toArray, List.set_cons_zero, List.set_cons_succ, List.getElem_toArray, List.getElem_cons_zero, List.getElem_cons_succ]))
      refine wpMix_nil ?_
      have hnew : hexL (s.data.toList.take k) ++ [hexD (n / 16), hexD (n % 16)] = hexL (s.data.toList.take (k + 1)) := by
        rw [take_snoc s k hks, hexL_snoc, hn]
      rw [hnew]
      clear hnew hd1 hd2 hq q0 q1 q2 q4 hcat hzs hlen hn
      go_wp2
      exact ⟨⟨k + 1, by omega, by go_num, rfl, hE.drew⟩, by simp [intOf]; omega⟩
    · have hk12 : k = 12 := by omega
      subst hk12
      have hall : s.data.toList.take 12 = s.data.toList := List.take_of_length_le (by simp; rw [HS.out]; omega)
      rw [hall]
      have hnlt : ¬ 12 < s.size := by rw [HS.out]; omega
      clear hall
      go_wp2
      go_ret2
      exact ⟨rfl, h1.of_alloc.trans hE⟩
end Go.Proofs.YtmgdgbnbikgmkaaDoor
