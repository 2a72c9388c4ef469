/- R.Parse. -/
import Derived.Test.YtmgdgbnbikgmkaaDoorPL
namespace Go.Proofs.YtmgdgbnbikgmkaaDoor
open Go.RowKit
theorem idx_dig64 (x : Nat) (hx : x < 16) (w : World) : (Instr.index 9 (.string ⟨#[48, 49, 50, 51, 52, 53, 54, 55, 56, 57, 97, 98, 99, 100, 101, 102]⟩) (.int .i64 (x : Int))).run Tryd.prog w = .ok (.int .u8 (hexD x)) w := by
  rcases x with _|_|_|_|_|_|_|_|_|_|_|_|_|_|_|_|x
  all_goals first | (exfalso; omega) | kernel_rfl
/-- what digit returns -/
def digR (n : Nat) : Int := match hexV n with | some d => (d : Int) | none => -1
theorem digR_hit (n k : Nat) (hk : k < 16) (h : hexD k = (n : Int)) : digR n = k := by
  have hn : n = (hexD k).toNat := by rw [h]; simp
  have : hexV n = some k := by
    have hb : (hexD k).toNat < 256 := by unfold hexD; split <;> omega
    have e := hexV_hexD k hk
    rw [UInt8.toNat_ofNat', Nat.mod_eq_of_lt hb] at e
    rw [hn]; exact e
  simp [digR, this]
theorem digR_miss (n : Nat) (h : ∀ j, j < 16 → hexD j ≠ (n : Int)) : digR n = -1 := by
  have : hexV n = none := by
    unfold hexV
    split
    · rename_i h1
      exact absurd (show hexD (n - 48) = (n : Int) by unfold hexD; rw [if_pos (by omega)]; omega) (h _ (by omega))
    · split
      · rename_i h1 h2
        exact absurd (show hexD (n - 87) = (n : Int) by unfold hexD; rw [if_neg (by omega)]; omega) (h _ (by omega))
      · rfl
  simp [digR, this]
set_option maxHeartbeats 400000 in
theorem digit_ok (n : Nat) (w : World) :
    Calls Tryd.prog 31 #[.int .u8 (n : Int)] w fun e w' => e = .returned (.int .i64 (digR n)) ∧ w = w' := by
  go_enter Tryd.func31, Tryd.ntmps31
  go_wp2_with fail
  go_loop [3] (fun i => ∃ k : Nat, k ≤ 16 ∧ i = .int .i64 k ∧ ∀ j, j < k → hexD j ≠ (n : Int)) (fun i => 16 - (intOf i).toNat)
  case atStart => exact ⟨0, by omega, rfl, fun j hj => absurd hj (by omega)⟩
  case round =>
    obtain ⟨k, hk, rfl, hno⟩ := hrel
    have HNO := Lib.hid hno
    clear hno
    by_cases hlt : k < 16
    · have hd := fun W => idx_dig64 k hlt W
      by_cases he : hexD k = (n : Int)
      · have hb : (hexD k == (n : Int)) = true := by simpa using he
        have HE := Lib.hid he
        clear he
        go_wp2_with fail
        go_ret
        exact ⟨by rw [digR_hit n k hlt HE.out]; rfl, rfl⟩
      · have hb : (hexD k == (n : Int)) = false := by simpa using he
        have HE := Lib.hid he
        clear he
        go_wp2_with fail
        exact ⟨⟨k + 1, by omega, by go_num, fun j hj => by
          rcases Nat.lt_or_ge j k with h | h
          · exact HNO.out j h
          · obtain rfl : j = k := by omega
            exact HE.out⟩, by simp [intOf]; omega⟩
    · have hm := digR_miss n (fun j hj => HNO.out j (by omega))
      have HM := Lib.hid hm
      clear hm
      go_wp2_with fail
      go_ret
      exact ⟨by rw [HM.out]; rfl, rfl⟩
set_option maxHeartbeats 400000 in
theorem rparse_no (s : ByteArray) (hs : ((s.size : Int) == 24) = false) (w : World) :
    Calls Tryd.prog 18 #[.string s] w fun e w' => e = .returned (.tuple #[noVal, .int .i64 4]) ∧ Ext w w' := by
  have hs' : ((s.size : Int) != 24) = true := by simp [bne, hs]
  clear hs
  go_enter Tryd.func18, Tryd.ntmps18
  go_wp2_with fail
  exact bodyPost_ret (v := .tuple #[noVal, .int .i64 4]) (by simp [results, Tryd.results18, go_sem, noVal]) rfl ⟨rfl, (Ext.refl w).alloc _⟩
theorem digR_some {n d : Nat} (h : hexV n = some d) : digR n = d := by simp [digR, h]
theorem digR_none {n : Nat} (h : hexV n = none) : digR n = -1 := by simp [digR, h]
theorem hexV_lt {n d : Nat} (h : hexV n = some d) : d < 16 := by
  unfold hexV at h
  split at h
  · injection h; omega
  · split at h
    · injection h; omega
    · cases h
theorem range_snoc (f : Nat → Int) (j : Nat) : (List.range (j + 1)).map f = (List.range j).map f ++ [f j] := by rw [List.range_succ]; simp
set_option maxHeartbeats 2000000 in
theorem rparse_ok (s : ByteArray) (hs : s.size = 24) (w : World) :
    Calls Tryd.prog 18 #[.string s] w fun e w' => e = .returned (parseRes s) ∧ Ext w w' := by
  have hs' : ((s.size : Int) != 24) = false := by simp [bne, hs]
  have HS := Lib.hid hs
  clear hs
  go_enter Tryd.func18, Tryd.ntmps18
  go_wp2_with fail
  go_loopw [4, 5] (fun t i wr => ∃ j k : Nat, j ≤ 12 ∧ Hid (k = 2 * j) ∧ i = .int .i64 k ∧ t = .string (strOfNums ((List.range j).map (pb s 24))) ∧ wr.heap[w.heap.size]? = some (.cells #[.int .i64 0, .int .i64 0, .string ⟨#[]⟩, .slice none 0 0, .slice none 0 0] 25 (0, 0)) ∧ Ext w wr ∧ ∀ q, q < k → okAt s q) (fun _ i _ => 24 - (intOf i).toNat)
  case atStart => exact ⟨0, 0, by omega, rfl, rfl, rfl, heap_alloc_new w _, (Ext.refl w).alloc _, fun q hq => absurd hq (by omega)⟩
  case round =>
    obtain ⟨j, k, hj, HK, rfl, rfl, hB, hE, hok⟩ := hrel
    have HB := Lib.hid hB
    have HOK := Lib.hid hok
    have hc0 := blk_cell hB
    have hf0 := blk_free hB
    clear hB hok
    by_cases hlt : k < 24
    · have hj12 : j < 12 := by have := HK.out; omega
      have hk22 : k + 1 < 24 := by have := HK.out; omega
      have hk1 : k + 1 < s.size := by rw [HS.out]; omega
      have hk0 : k < s.size := by omega
      obtain ⟨n0, hn0⟩ : ∃ n, (s[k]'hk0).toNat = n := ⟨_, rfl⟩
      obtain ⟨n1, hn1⟩ : ∃ n, (s[k + 1]'hk1).toNat = n := ⟨_, rfl⟩
      have hw1 := wrap_i64_in ((k : Int) + 1) (by omega) (by omega)
      have ht1 : ((k : Int) + 1).toNat = k + 1 := by omega
      have hp1 : (0 : Int) ≤ (k : Int) + 1 := by omega
      have hq1 : (k : Int) + 1 < (s.size : Int) := by omega
      go_wp2_with fail
      refine wp_region_mix (fun w' => True) [(true, 0), (true, 1), (true, 2), (true, 4), (true, 5), (true, 6), (true, 7), (false, 3), (false, 8), (true, 9), (true, 10)] (by kernel_rfl) (by kernel_rfl) (by kernel_rfl) (by kernel_rfl) ?hS ?_
      case hS => exact trivial
      repeat (first | (refine wpMix_q (v := ?_) rfl rfl ?_ ?_; rotate_left; (· intro wq hSq; go_simp; try (with_reducible rfl)); simp only [Act.put, List.setIfInBounds_toArray, List.set_cons_zero, List.set_cons_succ, List.getElem_toArray, List.getElem_cons_zero, List.getElem_cons_succ]) | (refine wpMix_u rfl rfl ?_; simp only [Act.put, List.setIfInBounds_toArray, List.set_cons_zero, List.set_cons_succ, List.getElem_toArray, List.getElem_cons_zero, List.getElem_cons_succ]))
      refine wpMix_l rfl rfl (fun K hK => ?_)
      go_simp
      refine (digit_ok n0 _).mono ?_
      rintro e w2 ⟨rfl, rfl⟩
      refine hK _ _ trivial ?_
      clear hK K
      refine wpMix_l rfl rfl (fun K hK => ?_)
      go_simp
      refine (digit_ok n1 _).mono ?_
      rintro e w2 ⟨rfl, rfl⟩
      refine hK _ _ trivial ?_
      clear hK K
      (try simp only [Act.put, List.setIfInBounds_toArray, List.set_cons_zero, List.set_cons_succ, List.getElem_toArray, List.getElem_cons_zero, List.getElem_cons_succ])
      repeat (first | (refine wpMix_q (v := ?_) rfl rfl ?_ ?_; rotate_left; (· intro wq hSq; go_simp; try (with_reducible rfl)); simp only [Act.put, List.setIfInBounds_toArray, List.set_cons_zero, List.set_cons_succ, List.getElem_toArray, List.getElem_cons_zero, List.getElem_cons_succ]) | (refine wpMix_u rfl rfl ?_; simp only [Act.put, List.setIfInBounds_toArray, List.set_cons_zero, List.set_cons_succ, List.getElem_toArray, List.getElem_cons_zero, List.getElem_cons_succ]))
      refine wpMix_nil ?_
      clear hw1 ht1 hp1 hq1
      cases h0 : hexV n0 with
      | none =>
        have hres : parseRes s = .tuple #[noVal, .int .i64 4] := by simp [parseRes, allHex_no s k hk0 (by rw [hn0]; exact h0)]
        have HRES := Lib.hid hres
        have hd := digR_none h0
        clear hres h0 hn0 hn1
        go_wp2_with fail
        exact bodyPost_ret (v := .tuple #[noVal, .int .i64 4]) (by simp only [results, Tryd.results18, noVal]; go_simp) rfl ⟨by rw [HRES.out], by repeat (first | exact hE | refine Ext.drew ?_ | refine Ext.setCell ?_ (Nat.le_refl _) _)⟩
      | some d0 =>
        have hd0 := digR_some h0
        have hl0 := hexV_lt h0
        have H0 := Lib.hid h0
        clear h0
        cases h1 : hexV n1 with
        | none =>
          have hres : parseRes s = .tuple #[noVal, .int .i64 4] := by simp [parseRes, allHex_no s (k + 1) hk1 (by rw [hn1]; exact h1)]
          have HRES := Lib.hid hres
          have hd := digR_none h1
          clear hres h1 hn0 hn1
          go_wp2_with fail
          exact bodyPost_ret (v := .tuple #[noVal, .int .i64 4]) (by simp only [results, Tryd.results18, noVal]; go_simp) rfl ⟨by rw [HRES.out], by repeat (first | exact hE | refine Ext.drew ?_ | refine Ext.setCell ?_ (Nat.le_refl _) _)⟩
        | some d1 =>
          have hd1 := digR_some h1
          have hl1 := hexV_lt h1
          have H1 := Lib.hid h1
          clear h1
          have ho0 := okAt_of s k d0 hk0 (by rw [hn0]; exact H0.out)
          have ho1 := okAt_of s (k + 1) d1 hk1 (by rw [hn1]; exact H1.out)
          have hv0 := hv_of s k d0 hk0 (by rw [hn0]; exact H0.out)
          have hv1 := hv_of s (k + 1) d1 hk1 (by rw [hn1]; exact H1.out)
          have hpb : pb s 24 j = 16 * (d0 : Int) + d1 := by
            unfold pb; rw [if_pos (by omega), ← HK.out, hv0, hv1]; omega
          have HPB := Lib.hid hpb
          have HO : Hid (∀ q, q < k + 2 → okAt s q) := fun q hq => by
            rcases Nat.lt_or_ge q k with h | h
            · exact HOK.out q h
            · rcases (show q = k ∨ q = k + 1 by omega) with rfl | rfl
              · exact ho0
              · exact ho1
          have hb0 : decide ((d0 : Int) < 0) = false := by simp
          have hb1 : decide ((d1 : Int) < 0) = false := by simp
          clear ho0 ho1 hv0 hv1 hpb hn0 hn1
          have hcv : Sem.run Tryd.prog (convert 58 9 (Value.slice (some { block := wr.heap.size, off := 0 }) 1 1)) (wr.alloc (.cells #[.int .u8 (16 * (d0 : Int) + (d1 : Int))] 5)).drew = .ok (.string (strOfNums [16 * (d0 : Int) + (d1 : Int)])) (wr.alloc (.cells #[.int .u8 (16 * (d0 : Int) + (d1 : Int))] 5)).drew :=
            run_convert_bytes_arg _ 58 5 Tryd.underlying58 Tryd.underlying5 wr.heap.size 0 1 1 [16 * (d0 : Int) + (d1 : Int)] rfl (fun i hi => by
              obtain rfl : i = 0 := by omega
              exact World.cell?_alloc_mark wr _ _ (0, 0) 0) 9 Tryd.underlying9
          have hzs := strOfNums_size
          have hq : ¬ 9223372036854775807 < j + 1 := by omega
          go_wp2_with fail
          refine ⟨⟨j + 1, k + 2, by omega, show k + 2 = 2 * (j + 1) by have := HK.out; omega, by go_num, ?_, blk_alloc HB.out _, (hE.alloc _).drew, HO.out⟩, by simp [intOf]; omega⟩
          rw [range_snoc, HPB.out, ← str_cat]
    · have hk24 : j = 12 := by have := HK.out; omega
      subst hk24
      have hres : parseRes s = .tuple #[idVal (parsed s), .int .i64 0] := by
        unfold parseRes; rw [if_pos (allHex_yes s (fun i hi => HOK.out i (by rw [HS.out] at hi; omega)))]
      have HRES := Lib.hid hres
      clear hres
      have hpd : strOfNums ((List.range 12).map (pb s 24)) = parsed s := rfl
      have HPD := Lib.hid hpd
      clear hpd
      rw [HPD.out]
      go_wp2_with fail
      exact bodyPost_ret (v := .tuple #[idVal (parsed s), .int .i64 0]) (by simp only [results, Tryd.results18, idVal]; go_simp) rfl ⟨by rw [HRES.out], by repeat (first | exact hE | refine Ext.drew ?_ | refine Ext.setCell ?_ (Nat.le_refl _) _)⟩
end Go.Proofs.YtmgdgbnbikgmkaaDoor
