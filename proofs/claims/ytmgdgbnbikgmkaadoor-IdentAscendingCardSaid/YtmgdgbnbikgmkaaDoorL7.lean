/- The law IdentAscending: its walk. -/
import Derived.Test.YtmgdgbnbikgmkaaDoorN2
import Derived.Test.YtmgdgbnbikgmkaaDoorL3
import Derived.Deep.DeepCutAuto
import Derived.Deep.AppendLies
namespace Go.Proofs.YtmgdgbnbikgmkaaDoor
open Go.RowKit
theorem valinfo : (Tryd.prog.info? 25).map (fun i => (i.zero, i.size, i.bytes)) = some (some (.agg #[.int .i64 0, .int .i64 0, .string ⟨#[]⟩, .slice none 0 0, .slice none 0 0]), 5, 80) := by kernel_rfl
/-- the cells of the identifiers so far -/
def idCells (n : Int) (zs : List Int) : Nat → List Value
  | 0 => []
  | k + 1 => idCells n zs k ++ [.int .i64 8, .int .i64 0, .string (idStr (zs.getD k 0) n k), .slice none 0 0, .slice none 0 0]
theorem idCells_len (n : Int) (zs : List Int) (k : Nat) : (idCells n zs k).length = k * 5 := by
  induction k with
  | zero => rfl
  | succ k ih => simp [idCells, ih]; omega
theorem idCells_at (n : Int) (zs : List Int) (k j r : Nat) (hj : j < k) (hr : r < 5) : (idCells n zs k)[j * 5 + r]? = ([.int .i64 8, .int .i64 0, .string (idStr (zs.getD j 0) n j), .slice none 0 0, .slice none 0 0] : List Value)[r]? := by
  induction k with
  | zero => omega
  | succ k ih =>
    rcases Nat.lt_or_ge j k with h | h
    · rw [idCells, List.getElem?_append_left (by rw [idCells_len]; omega)]
      exact ih h
    · obtain rfl : j = k := by omega
      rw [idCells, List.getElem?_append_right (by rw [idCells_len]; omega), idCells_len]
      congr 1
      omega
theorem cmp_ne (z n t : Int) (j k : Nat) (hjk : j < k) (hk : k < 100) (hz : inR z = true) (hn : inR n = true) (ht : inR t = true) :
    (cmpL (idStr z n j).data.toList (idStr t n k).data.toList == 0) = false ∧ (z ≤ t → decide (0 < cmpL (idStr z n j).data.toList (idStr t n k).data.toList) = false) := by
  rw [cmp_id z n j t n k hz hn (inR_of (by omega) (by omega)) ht hn (inR_of (by omega) (by omega))]
  have h2 : lex1 n n (lex1 j k 0) = -1 := by
    unfold lex1
    rw [if_neg (by omega), if_neg (by omega), if_pos (by omega)]
  rw [h2]
  unfold lex1
  by_cases h : z < t
  · rw [if_pos h]; exact ⟨rfl, fun _ => rfl⟩
  · by_cases h' : t < z
    · rw [if_neg h, if_pos h']; exact ⟨rfl, fun h3 => absurd h3 (by omega)⟩
    · rw [if_neg h, if_neg h']; exact ⟨rfl, fun _ => rfl⟩
set_option maxHeartbeats 1000000 in
theorem identAsc_long (n : Int) (A : Option Addr) (m c : Nat) (w : World) (hm : 100 < m) (hm2 : m ≤ 9223372036854775807) : Calls Tryd.prog 8 #[.int .u32 n, .slice A m c] w fun e w' => e = .returned (.bool true) ∧ Ext w w' := by
  have hd : decide (100 < m) = true := by simpa using hm
  go_enter Tryd.func8, Tryd.ntmps8
  go_wp2_with (go_at_call 12; refine (awake_ok _).mono ?_; rintro e w1 ⟨rfl, h1⟩)
  go_ret
  exact ⟨rfl, h1⟩
set_option maxHeartbeats 1000000 in
theorem identAsc_in (n : Int) (A : Option Addr) (b off : Nat) (zs : List Int) (m c : Nat) (w : World) (hm : m ≤ 100) (hA : 0 < m → A = some ⟨b, off, none⟩ ∧ b < w.heap.size) (hcell : ∀ j, j < m → w.cell? ⟨b, off + j, none⟩ = some (.int .u32 (zs.getD j 0)) ∧ inR (zs.getD j 0) = true) (hn : inR n = true) :
    Calls Tryd.prog 8 #[.int .u32 n, .slice A m c] w fun e w' => e = .returned (.bool true) ∧ Ext w w' := by
  have hd : decide (100 < m) = false := by simp; omega
  have hn' := inR_true hn
  have HC := Lib.hid hcell
  have HA := Lib.hid hA
  clear hcell hA
  obtain ⟨i0, hi, hz0, hz1, hz2⟩ := info_parts valinfo
  go_enter Tryd.func8, Tryd.ntmps8
  go_wp2_with fail
  refine (newSource_ok n _ hn).mono ?_
  rintro e w1 ⟨rfl, rfl⟩
  go_wp2_with fail
  go_loopw [7, 26] (fun v i wr => ∃ (k : Nat) (S : Option Addr) (cp : Nat), k ≤ m ∧ i = .int .i64 k ∧ v = .slice S k cp ∧ wr.heap[w.heap.size]? = some (.cells #[.int .i64 n, .int .i64 k] 70 (0, 0)) ∧ wr.ownsRow (w.heap.size + 1) 25 5 (.slice S k cp) k (idCells n zs k) ∧ Ext w wr) (fun _ i _ => m - (intOf i).toNat)
  case atStart => exact ⟨0, none, 0, by omega, rfl, rfl, heap_alloc_new w _, World.ownsRow_nil _ _ _ _, (Ext.refl w).alloc _⟩
  case round =>
    obtain ⟨k, S, cp, hk, rfl, rfl, hB, hown, hE⟩ := hrel
    by_cases hlt : k < m
    · obtain ⟨rfl, hb⟩ := HA.out (by omega)
      obtain ⟨t, ht⟩ : ∃ t, zs.getD k 0 = t := ⟨_, rfl⟩
      have hl := HC.out k hlt
      rw [ht] at hl
      have hkr : inR (k : Int) = true := inR_of (by omega) (by omega)
      have htr := inR_true hl.2
      have hlr : wr.cell? ⟨b, off + k, none⟩ = some (.int .u32 t) := by rw [hE.cells b _ hb]; exact hl.1
      have HL := Lib.hid hl
      have HT := Lib.hid ht
      have HB := Lib.hid hB
      have HO := Lib.hid hown
      clear hl ht hB hown
      go_wp2_with fail
      refine (next_ok _ n k t _ HB.out hn hkr HL.out.2).mono ?_
      rintro e w3 ⟨rfl, g3, hB3⟩
      unfold idVal
      have hE3 : Ext w w3 := hE.of_only g3 (Nat.le_refl _)
      have HB3 := Lib.hid hB3
      have hsz : (idStr t n (k : Int)).size = 12 := idStr_size _ _ _
      clear hB3 hlr
      have hown3 : w3.ownsRow (w.heap.size + 1) 25 5 (.slice S k cp) k (idCells n zs k) := HO.out.kept g3 (by
        rcases HO.out.2 with ⟨h, _⟩ | ⟨g, cap, cur, h, hg, _⟩
        · left; rw [h]; rfl
        · right; rw [h]; simp [Value.ownBlock]; omega)
      have HO3 := Lib.hid hown3
      clear hown3
      have hBs := blk_alloc HB3.out (.cells #[.int .i64 8, .int .i64 0, .string (idStr t n k), .slice none 0 0, .slice none 0 0] 25)
      have HBs := Lib.hid hBs
      have y3 : b < w3.heap.size := by have := hE3.size; omega
      clear hBs
      go_wp2_with fail
      obtain ⟨wo, rfl⟩ : ∃ wo : World, wo = wr := ⟨_, rfl⟩
      go_loopw [54] (fun i wi => ∃ j : Nat, j ≤ k ∧ i = .int .i64 j ∧ Ext (w3.alloc (.cells #[.int .i64 8, .int .i64 0, .string (idStr t n k), .slice none 0 0, .slice none 0 0] 25)) wi) (fun i _ => k - (intOf i).toNat)
      case atStart => exact ⟨0, by omega, rfl, Ext.refl _⟩
      case round =>
        obtain ⟨j, hj, rfl, hEi⟩ := hrel
        by_cases hjk : j < k
        · obtain ⟨g, cap, hv, hgb, hgl⟩ := World.ownsRow.form HO3.out (by omega)
          injection hv with hv1 hv2 hv3
          subst hv1 hv3
          obtain ⟨z, hz⟩ : ∃ z, zs.getD j 0 = z := ⟨_, rfl⟩
          have hcz := HC.out j (by omega)
          rw [hz] at hcz
          have hg1 : g < w3.heap.size + 1 := by omega
          have hcj : ∀ r, r < 5 → wr.cell? ⟨g, j * 5 + r, none⟩ = ([.int .i64 8, .int .i64 0, .string (idStr z n j), .slice none 0 0, .slice none 0 0] : List Value)[r]? := fun r hr => by
            rw [hEi.cells g _ (by simp; omega)]
            rw [World.cell?_alloc_past _ _ _ (by omega)]
            have h1 := idCells_at n zs k j r hjk hr
            rw [hz] at h1
            have h2 := World.ownsRow.cellAt HO3.out (j * 5 + r) (by omega)
            rw [h2, h1]
          have s0 := hcj 0 (by omega)
          have s1 := hcj 1 (by omega)
          have s2 := hcj 2 (by omega)
          have s3 := hcj 3 (by omega)
          have s4 := hcj 4 (by omega)
          simp at s0 s1 s2 s3 s4
          have HCZ := Lib.hid hcz
          have HZ := Lib.hid hz
          clear hcj hcz hz
          have cv := hEi.ownc
          have zv := hEi.lt
          have zg : g < wr.heap.size := by omega
          have zb : b < wr.heap.size := by omega
          have hEw : Ext w wr := hE3.trans hEi.of_alloc
          have lj : wr.cell? ⟨b, off + j, none⟩ = some (.int .u32 z) := by rw [hEw.cells b _ hb]; exact HCZ.out.1
          have lk : wr.cell? ⟨b, off + k, none⟩ = some (.int .u32 t) := by rw [hEw.cells b _ hb]; exact HL.out.1
          have hcm := cmp_ne z n t j k hjk (by omega) HCZ.out.2 hn HL.out.2
          have ij : (j : Int) < (k : Int) := by omega
          have im : (j : Int) < (m : Int) := by omega
          have ik : (k : Int) < (m : Int) := by omega
          have ij0 : (0 : Int) ≤ (j : Int) := by omega
          have ik0 : (0 : Int) ≤ (k : Int) := by omega
          obtain ⟨hc0, hc1⟩ := hcm
          generalize hcg : cmpL (idStr z n j).data.toList (idStr t n k).data.toList = cc at hc0 hc1
          have HCG := Lib.hid hcg
          clear hcg
          by_cases hzt : z ≤ t
          · have hc2 := hc1 hzt
            have hzd : decide (z ≤ t) = true := by simpa using hzt
            clear hc1
            go_wp2_with fail
            refine wp_region_mix (Ext wr) [(true, 0), (true, 1), (true, 2), (true, 3), (true, 4), (false, 5), (true, 6), (true, 7), (true, 8), (true, 9), (true, 10), (true, 11), (true, 12), (true, 13), (true, 14), (true, 15), (true, 16), (true, 17), (true, 18), (true, 19), (true, 20), (true, 21), (true, 22), (false, 23), (true, 24), (true, 25), (true, 26)] (by kernel_rfl) (by kernel_rfl) (by kernel_rfl) (by kernel_rfl) ?hS ?_
            case hS => exact (Ext.refl _).drew
            repeat (first | (refine wpMix_q (v := ?_) rfl rfl ?_ ?_; rotate_left; (· intro wq hSq; have cq := hSq.cells; go_simp; try (with_reducible rfl)); simp only [Act.put, List.setIfInBounds_toArray, List.set_cons_zero, List.set_cons_succ, List.getElem_toArray, List.getElem_cons_zero, List.getElem_cons_succ]) | (refine wpMix_u rfl rfl ?_; simp only [Act.put, List.setIfInBounds_toArray, List.set_cons_zero, List.set_cons_succ, List.getElem_toArray, List.getElem_cons_zero, List.getElem_cons_succ]))
            refine wpMix_l rfl rfl (fun K hK => ?_)
            go_simp
            refine (compare_id _ _ (by rw [idStr_size]; omega) (by rw [idStr_size]; omega) _ _ _ _ _ _ _ _ _ _ _ _ _ _ _).mono ?_
            rintro e w6 ⟨rfl, h6⟩
            rw [HCG.out]
            have hX6 : Ext wr w6 := (Ext.refl _).drew.trans h6
            refine hK _ _ hX6 ?_
            clear hK K
            repeat (first | (refine wpMix_q (v := ?_) rfl rfl ?_ ?_; rotate_left; (· intro wq hSq; have cq := hSq.cells; go_simp; try (with_reducible rfl)); simp only [Act.put, List.setIfInBounds_toArray, List.set_cons_zero, List.set_cons_succ, List.getElem_toArray, List.getElem_cons_zero, List.getElem_cons_succ]) | (refine wpMix_u rfl rfl ?_; simp only [Act.put, List.setIfInBounds_toArray, List.set_cons_zero, List.set_cons_succ, List.getElem_toArray, List.getElem_cons_zero, List.getElem_cons_succ]))
            refine wpMix_l rfl rfl (fun K hK => ?_)
            go_simp
            refine (compare_id _ _ (by rw [idStr_size]; omega) (by rw [idStr_size]; omega) _ _ _ _ _ _ _ _ _ _ _ _ _ _ _).mono ?_
            rintro e w7 ⟨rfl, h7⟩
            rw [HCG.out]
            refine hK _ _ (hX6.trans h7) ?_
            clear hK K
            repeat (first | (refine wpMix_q (v := ?_) rfl rfl ?_ ?_; rotate_left; (· intro wq hSq; have cq := hSq.cells; go_simp; try (with_reducible rfl)); simp only [Act.put, List.setIfInBounds_toArray, List.set_cons_zero, List.set_cons_succ, List.getElem_toArray, List.getElem_cons_zero, List.getElem_cons_succ]) | (refine wpMix_u rfl rfl ?_; simp only [Act.put, List.setIfInBounds_toArray, List.set_cons_zero, List.set_cons_succ, List.getElem_toArray, List.getElem_cons_zero, List.getElem_cons_succ]))
            refine wpMix_nil ?_
            have hE7 := hEi.trans (hX6.trans h7)
            clear cv lj lk s0 s1 s2 s3 s4
            go_wp2_with fail
            exact ⟨⟨j + 1, by omega, by go_num, hE7⟩, by simp [intOf]; omega⟩
          · have hzd : decide (z ≤ t) = false := by simpa using hzt
            clear hc1
            go_wp2_with fail
            refine wp_region_mix (Ext wr) [(true, 0), (true, 1), (true, 2), (true, 3), (true, 4), (false, 5), (true, 6), (true, 7), (true, 8), (true, 9), (true, 10), (true, 11), (true, 12), (true, 13), (true, 14), (true, 15), (true, 16), (true, 17), (true, 18), (true, 19), (true, 20), (true, 21), (true, 22), (false, 23), (true, 24), (true, 25), (true, 26)] (by kernel_rfl) (by kernel_rfl) (by kernel_rfl) (by kernel_rfl) ?hS ?_
            case hS => exact (Ext.refl _).drew
            repeat (first | (refine wpMix_q (v := ?_) rfl rfl ?_ ?_; rotate_left; (· intro wq hSq; have cq := hSq.cells; go_simp; try (with_reducible rfl)); simp only [Act.put, List.setIfInBounds_toArray, List.set_cons_zero, List.set_cons_succ, List.getElem_toArray, List.getElem_cons_zero, List.getElem_cons_succ]) | (refine wpMix_u rfl rfl ?_; simp only [Act.put, List.setIfInBounds_toArray, List.set_cons_zero, List.set_cons_succ, List.getElem_toArray, List.getElem_cons_zero, List.getElem_cons_succ]))
            refine wpMix_l rfl rfl (fun K hK => ?_)
            go_simp
            refine (compare_id _ _ (by rw [idStr_size]; omega) (by rw [idStr_size]; omega) _ _ _ _ _ _ _ _ _ _ _ _ _ _ _).mono ?_
            rintro e w6 ⟨rfl, h6⟩
            rw [HCG.out]
            have hX6 : Ext wr w6 := (Ext.refl _).drew.trans h6
            refine hK _ _ hX6 ?_
            clear hK K
            repeat (first | (refine wpMix_q (v := ?_) rfl rfl ?_ ?_; rotate_left; (· intro wq hSq; have cq := hSq.cells; go_simp; try (with_reducible rfl)); simp only [Act.put, List.setIfInBounds_toArray, List.set_cons_zero, List.set_cons_succ, List.getElem_toArray, List.getElem_cons_zero, List.getElem_cons_succ]) | (refine wpMix_u rfl rfl ?_; simp only [Act.put, List.setIfInBounds_toArray, List.set_cons_zero, List.set_cons_succ, List.getElem_toArray, List.getElem_cons_zero, List.getElem_cons_succ]))
            refine wpMix_n rfl rfl hX6 ?_
            (try simp only [Act.put, List.setIfInBounds_toArray, List.set_cons_zero, List.set_cons_succ, List.getElem_toArray, List.getElem_cons_zero, List.getElem_cons_succ])
            repeat (first | (refine wpMix_q (v := ?_) rfl rfl ?_ ?_; rotate_left; (· intro wq hSq; have cq := hSq.cells; go_simp; try (with_reducible rfl)); simp only [Act.put, List.setIfInBounds_toArray, List.set_cons_zero, List.set_cons_succ, List.getElem_toArray, List.getElem_cons_zero, List.getElem_cons_succ]) | (refine wpMix_u rfl rfl ?_; simp only [Act.put, List.setIfInBounds_toArray, List.set_cons_zero, List.set_cons_succ, List.getElem_toArray, List.getElem_cons_zero, List.getElem_cons_succ]))
            refine wpMix_nil ?_
            have hE7 := hEi.trans hX6
            clear cv lj lk s0 s1 s2 s3 s4
            go_wp2_with fail
            exact ⟨⟨j + 1, by omega, by go_num, hE7⟩, by simp [intOf]; omega⟩
        · have hjk2 : j = k := by omega
          subst hjk2
          have cv := hEi.ownc
          have zv := hEi.lt
          have hEw : Ext w wr := hE3.trans hEi.of_alloc
          have hownr : wr.ownsRow (w.heap.size + 1) 25 5 (.slice S j cp) j (idCells n zs j) := (HO3.out.alloc _).kept (hEi.only (some w.heap.size)) (by
            rcases HO3.out.2 with ⟨h, _⟩ | ⟨g, cap, cur, h, hg, _⟩
            · left; rw [h]; rfl
            · right; rw [h]; simp [Value.ownBlock]; omega)
          have HOR := Lib.hid hownr
          clear hownr
          have HBr := Lib.hid (blk_ext HBs.out hEi)
          have hzs := hEw.size
          go_wp2_with (at_builtin; refine wpList_append_own _ rfl _ _ 22 rfl (w.heap.size + 1) 25 i0 _ 5 80 Tryd.underlying22 hi hz0 hz1 hz2 rfl (by decide) _ _ _ rfl (HOR.out.alloc _) ⟨wr.heap.size, 0, none⟩ 1 1 [.int .i64 8, .int .i64 0, .string (idStr t n j), .slice none 0 0, .slice none 0 0] rfl rfl ?c1 ?c2 ?c3 ?c4 ?c5 ?_)
          case c1 => exact cells_new wr [.int .i64 8, .int .i64 0, .string (idStr t n j), .slice none 0 0, .slice none 0 0] 25
          case c2 => simp [Value.oneCell']
          case c3 => unfold maxLen; omega
          case c4 => omega
          case c5 => simp; omega
          intro v' w8 hown8 hgrow8 _
          obtain ⟨g8, cap8, hv8, _, _⟩ := World.ownsRow.form hown8 (by omega)
          have hne : some w.heap.size ≠ (Value.slice S j cp).ownBlock := by
            rcases HOR.out.2 with ⟨h, _⟩ | ⟨g, cap, cur, h, hg, _⟩
            · rw [h]; simp [Value.ownBlock]
            · rw [h]; simp [Value.ownBlock]; omega
          have hB8 : w8.heap[w.heap.size]? = some (.cells #[.int .i64 n, .int .i64 ((j + 1 : Nat) : Int)] 70 (0, 0)) :=
            (hgrow8.block _ (by simp; omega) hne).trans (blk_alloc HBr.out _)
          have hE8 : Ext w w8 := (hEw.alloc _).grown hgrow8 (fun q hq => by have := (HOR.out.lt q hq).1; omega)
          have hO8 : w8.ownsRow (w.heap.size + 1) 25 5 (.slice (some ⟨g8, 0, none⟩) (j + 1) cap8) (j + 1) (idCells n zs (j + 1)) := by
            rw [← hv8]
            show w8.ownsRow _ _ _ _ _ (idCells n zs j ++ _)
            rw [HT.out]
            exact hown8
          have HV8 := Lib.hid hv8
          have HB8 := Lib.hid hB8
          have HO8 := Lib.hid hO8
          clear hown8 hgrow8 hv8 hB8 hO8 hne cv
          go_wp2_with fail
          exact ⟨⟨j + 1, some ⟨g8, 0, none⟩, cap8, by omega, by go_num, HV8.out, HB8.out, HO8.out, hE8⟩, by simp [intOf]; omega⟩
    · go_wp2_with fail
      refine (awake_ok _).mono ?_
      rintro e w5 ⟨rfl, h5⟩
      go_wp2_with fail
      go_ret
      exact ⟨rfl, hE.trans h5⟩
end Go.Proofs.YtmgdgbnbikgmkaaDoor
