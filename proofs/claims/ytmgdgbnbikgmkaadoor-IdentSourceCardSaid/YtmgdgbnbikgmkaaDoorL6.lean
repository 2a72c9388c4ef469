/- The law IdentSource: its walk, a node out of range. -/
import Derived.Test.YtmgdgbnbikgmkaaDoorL5
import Derived.Deep.DeepCutAuto
namespace Go.Proofs.YtmgdgbnbikgmkaaDoor
open Go.RowKit
set_option maxHeartbeats 1000000 in
theorem identSource_out (n : Int) (A : Option Addr) (b off : Nat) (zs : List Int) (m c : Nat) (w : World) (hm : m ≤ 100) (hA : 0 < m → A = some ⟨b, off, none⟩ ∧ b < w.heap.size) (hcell : ∀ j, j < m → w.cell? ⟨b, off + j, none⟩ = some (.int .i64 (zs.getD j 0))) (hn : inR n = false) :
    Calls Tryd.prog 5 #[.int .i64 n, .slice A m c] w fun e w' => e = .returned (.bool true) ∧ Ext w w' := by
  have hd : decide (100 < m) = false := by simp; omega
  have HC := Lib.hid hcell
  have HA := Lib.hid hA
  clear hcell hA
  go_enter Tryd.func5, Tryd.ntmps5
  go_wp2_with fail
  refine (newSource_no n _ hn).mono ?_
  rintro e w1 ⟨rfl, rfl⟩
  go_wp2_with fail
  refine (rnewSource_no n _ hn).mono ?_
  rintro e w2 ⟨rfl, h2⟩
  go_wp2_with fail
  go_loopw [41] (fun i wr => ∃ (k : Nat), k ≤ m ∧ i = .int .i64 k ∧ wr.heap[w2.heap.size]? = some (.cells #[.int .i64 0, .int .i64 0] 43 (0, 0)) ∧ Ext w wr) (fun i _ => m - (intOf i).toNat)
  case atStart => exact ⟨0, by omega, rfl, heap_alloc_new w2 _, (h2.alloc _)⟩
  case round =>
    obtain ⟨k, hk, rfl, hB2, hE⟩ := hrel
    by_cases hlt : k < m
    · obtain ⟨rfl, hb⟩ := HA.out (by omega)
      obtain ⟨t, ht⟩ : ∃ t, zs.getD k 0 = t := ⟨_, rfl⟩
      have hl := HC.out k hlt
      rw [ht] at hl
      have hlr : wr.cell? ⟨b, off + k, none⟩ = some (.int .i64 t) := by rw [hE.cells b _ hb]; exact hl
      have HT := Lib.hid ht
      have HB2 := Lib.hid hB2
      clear hl ht hB2
      go_wp2_with fail
      refine (next_nil t _).mono ?_
      rintro e w3 ⟨rfl, g3⟩
      unfold noVal
      have hE3 : Ext w w3 := hE.trans g3
      have hBt := blk_alloc (blk_ext HB2.out g3) (.cells #[.int .i64 0, .int .i64 0, .string ⟨#[]⟩, .slice none 0 0, .slice none 0 0] 25)
      have z3 := blk_lt (blk_ext HB2.out g3)
      have y3 : b < w3.heap.size := by have := hE3.size; omega
      have z2 := h2.size
      have ct := blk_cell hBt
      have ft := blk_free hBt
      have hl3 : w3.cell? ⟨b, off + k, none⟩ = some (.int .i64 t) := by rw [hE3.cells b _ hb]; exact (by rw [← HT.out]; exact HC.out k hlt)
      have HBt := Lib.hid hBt
      have r0 : inR 0 = true := rfl
      clear hlr hBt
      go_upto_region 11 with (fail)
      have q1 : w3.heap.size + 1 < w3.heap.size + 1 + 1 := by omega
      have q2 : w3.heap.size + 1 < w3.heap.size + 1 + 1 + 1 := by omega
      have q3 : w3.heap.size + 1 + 1 < w3.heap.size + 1 + 1 + 1 := by omega
      go_cut [12, 13, 14] (fun x12 x13 x14 wx => ∃ (g12 g13 : Nat) (er : Int), x12 = .pointer (some ⟨g12, 0, none⟩) ∧ x13 = .pointer (some ⟨g13, 0, none⟩) ∧ x14 = .int .i64 er ∧ w3.heap.size + 1 ≤ g12 ∧ w3.heap.size + 1 ≤ g13 ∧ g12 ≠ g13 ∧ (∀ j, wx.cell? ⟨g12, j, none⟩ = #[Value.int .i64 0, .int .i64 (nxC 0 t)][j]?) ∧ (∀ j, wx.cell? ⟨g13, j, none⟩ = #[Value.int .i64 (nxK t), .int .i64 0, .string (nxS 0 0 t), .slice none 0 0, .slice none 0 0][j]?) ∧ (∀ j, wx.frozen? ⟨g12, j, none⟩ = false) ∧ (∀ j, wx.frozen? ⟨g13, j, none⟩ = false) ∧ Ext (w3.alloc (.cells #[.int .i64 0, .int .i64 0, .string ⟨#[]⟩, .slice none 0 0, .slice none 0 0] 25)) wx)
      case first =>
        refine wp_region_seg (Ext (w3.alloc (.cells #[.int .i64 0, .int .i64 0, .string ⟨#[]⟩, .slice none 0 0, .slice none 0 0] 25))) [(true, 0), (true, 1), (true, 2), (true, 3), (true, 4)] 10 #[true, true, true, true, true, false, false, false, false, false, false, false, false, false, false] (by kernel_rfl) (by kernel_rfl) (by kernel_rfl) (by kernel_rfl) ?_ ?_
        · exact (Ext.refl _).drew
        repeat (first | (refine wpSeg_q (v := ?_) rfl rfl ?_ ?_; rotate_left; (· intro wq hSq; have cq := hSq.cells; go_simp; try (with_reducible rfl)); simp only [Act.put, List.setIfInBounds_toArray, List.set_cons_zero, List.set_cons_succ, List.getElem_toArray, List.getElem_cons_zero, List.getElem_cons_succ]) | (refine wpSeg_u rfl rfl ?_; simp only [Act.put, List.setIfInBounds_toArray, List.set_cons_zero, List.set_cons_succ, List.getElem_toArray, List.getElem_cons_zero, List.getElem_cons_succ]))
        refine wpSeg_nil ?_
        refine wpAnyH_many [5, 10, 11] (by kernel_rfl) rfl ?_
        refine wpAnyL_cons rfl rfl (fun K hK => ?_) ?_
        · skip
          go_simp
          refine (rnext_any _ _ _ _ r0 r0).mono ?_
          rintro e w4 ⟨rfl, h4⟩
          have k4 := h4.cells
          have f4 := h4.froz
          have z4 := h4.size
          simp only [World.size_alloc, World.size_drew] at k4 f4 z4
          try (have q5 : w3.heap.size + 1 < w4.heap.size := by omega)
          try (have q6 : w3.heap.size + 1 + 1 < w4.heap.size := by omega)
          try (have q7 : ¬ w3.heap.size + 1 = w4.heap.size := by omega)
          try (have q8 : ¬ w3.heap.size + 1 + 1 = w4.heap.size := by omega)
          refine hK _ _ (by refine Ext.trans ?_ h4; repeat (first | with_reducible assumption | with_reducible exact Ext.refl _ | with_reducible refine Ext.drew ?_ | with_reducible refine Ext.alloc ?_ _ | ((with_reducible refine Ext.setCell ?_ ?_ _); rotate_left; (· first | exact Nat.le_refl _ | (simp; done) | omega | (simp; omega))))) (fun hX1 => ?_)
          clear hK K
          refine wpAnyH_seg [(true, 6), (true, 7), (true, 8), (true, 9)] 5 _ #[true, true, true, true, true, true, true, true, true, true, false, false, false, false, false] _ (by kernel_rfl) (by kernel_rfl) (by kernel_rfl) (by repeat (first | with_reducible assumption | with_reducible exact Ext.refl _ | with_reducible refine Ext.drew ?_ | with_reducible refine Ext.alloc ?_ _ | ((with_reducible refine Ext.setCell ?_ ?_ _); rotate_left; (· first | exact Nat.le_refl _ | (simp; done) | omega | (simp; omega))))) ?_
          repeat (first | (refine wpSeg_q (v := ?_) rfl rfl ?_ ?_; rotate_left; (· intro wq hSq; have cq := hSq.cells; go_simp; try (with_reducible rfl)); simp only [Act.put, List.setIfInBounds_toArray, List.set_cons_zero, List.set_cons_succ, List.getElem_toArray, List.getElem_cons_zero, List.getElem_cons_succ]) | (refine wpSeg_u rfl rfl ?_; simp only [Act.put, List.setIfInBounds_toArray, List.set_cons_zero, List.set_cons_succ, List.getElem_toArray, List.getElem_cons_zero, List.getElem_cons_succ]))
          refine wpSeg_nil ?_
          refine wpAnyH_many [10, 11] (by kernel_rfl) rfl ?_
          refine wpAnyL_cons rfl rfl (fun K hK => ?_) ?_
          · skip
            go_simp
            refine hK _ _ (by repeat (first | with_reducible assumption | with_reducible exact Ext.refl _ | with_reducible refine Ext.drew ?_ | with_reducible refine Ext.alloc ?_ _ | ((with_reducible refine Ext.setCell ?_ ?_ _); rotate_left; (· first | exact Nat.le_refl _ | (simp; done) | omega | (simp; omega))))) (fun hX2 => ?_)
            clear hK K
            refine wpAnyH_seg [(false, 11), (false, 12), (false, 13), (true, 14)] 0 _ #[true, true, true, true, true, true, true, true, true, true, true, true, true, true, true] _ (by kernel_rfl) (by kernel_rfl) (by kernel_rfl) (by repeat (first | with_reducible assumption | with_reducible exact Ext.refl _ | with_reducible refine Ext.drew ?_ | with_reducible refine Ext.alloc ?_ _ | ((with_reducible refine Ext.setCell ?_ ?_ _); rotate_left; (· first | exact Nat.le_refl _ | (simp; done) | omega | (simp; omega))))) ?_
            refine wpSeg_s rfl rfl (fun K hK => ?_)
            go_simp
            refine hK _ _ (by repeat (first | with_reducible assumption | with_reducible exact Ext.refl _ | with_reducible refine Ext.drew ?_ | with_reducible refine Ext.alloc ?_ _ | ((with_reducible refine Ext.setCell ?_ ?_ _); rotate_left; (· first | exact Nat.le_refl _ | (simp; done) | omega | (simp; omega))))) (fun hX3 => ?_)
            clear hK K
            refine wpSeg_s rfl rfl (fun K hK => ?_)
            go_simp
            refine hK _ _ (by repeat (first | with_reducible assumption | with_reducible exact Ext.refl _ | with_reducible refine Ext.drew ?_ | with_reducible refine Ext.alloc ?_ _ | ((with_reducible refine Ext.setCell ?_ ?_ _); rotate_left; (· first | exact Nat.le_refl _ | (simp; done) | omega | (simp; omega))))) (fun hX4 => ?_)
            clear hK K
            refine wpSeg_s rfl rfl (fun K hK => ?_)
            go_simp
            refine hK _ _ (by repeat (first | with_reducible assumption | with_reducible exact Ext.refl _ | with_reducible refine Ext.drew ?_ | with_reducible refine Ext.alloc ?_ _ | ((with_reducible refine Ext.setCell ?_ ?_ _); rotate_left; (· first | exact Nat.le_refl _ | (simp; done) | omega | (simp; omega))))) (fun hX5 => ?_)
            clear hK K
            repeat (first | (refine wpSeg_q (v := ?_) rfl rfl ?_ ?_; rotate_left; (· intro wq hSq; have cq := hSq.cells; go_simp; try (with_reducible rfl)); simp only [Act.put, List.setIfInBounds_toArray, List.set_cons_zero, List.set_cons_succ, List.getElem_toArray, List.getElem_cons_zero, List.getElem_cons_succ]) | (refine wpSeg_u rfl rfl ?_; simp only [Act.put, List.setIfInBounds_toArray, List.set_cons_zero, List.set_cons_succ, List.getElem_toArray, List.getElem_cons_zero, List.getElem_cons_succ]))
            refine wpSeg_end (by kernel_rfl) ?_
            go_wp2_with fail
            go_meet
            refine ⟨_, _, _, rfl, rfl, rfl, by omega, by omega, by omega, fun j => ?_, fun j => ?_, fun j => ?_, fun j => ?_, ?_⟩
            · rcases j with _ | _ | j <;> go_simp
            · rcases j with _ | _ | _ | _ | _ | j <;> go_simp
            · go_simp
            · go_simp
            · repeat (first | with_reducible assumption | with_reducible exact Ext.refl _ | with_reducible refine Ext.drew ?_ | with_reducible refine Ext.alloc ?_ _ | ((with_reducible refine Ext.setCell ?_ ?_ _); rotate_left; (· first | exact Nat.le_refl _ | (simp; done) | omega | (simp; omega))))
          refine wpAnyL_cons rfl rfl (fun K hK => ?_) ?_
          · skip
            go_simp
            refine hK _ _ (by repeat (first | with_reducible assumption | with_reducible exact Ext.refl _ | with_reducible refine Ext.drew ?_ | with_reducible refine Ext.alloc ?_ _ | ((with_reducible refine Ext.setCell ?_ ?_ _); rotate_left; (· first | exact Nat.le_refl _ | (simp; done) | omega | (simp; omega))))) (fun hX6 => ?_)
            clear hK K
            refine wpAnyH_seg [(false, 10), (false, 12), (false, 13), (true, 14)] 0 _ #[true, true, true, true, true, true, true, true, true, true, true, true, true, true, true] _ (by kernel_rfl) (by kernel_rfl) (by kernel_rfl) (by repeat (first | with_reducible assumption | with_reducible exact Ext.refl _ | with_reducible refine Ext.drew ?_ | with_reducible refine Ext.alloc ?_ _ | ((with_reducible refine Ext.setCell ?_ ?_ _); rotate_left; (· first | exact Nat.le_refl _ | (simp; done) | omega | (simp; omega))))) ?_
            refine wpSeg_s rfl rfl (fun K hK => ?_)
            go_simp
            refine hK _ _ (by repeat (first | with_reducible assumption | with_reducible exact Ext.refl _ | with_reducible refine Ext.drew ?_ | with_reducible refine Ext.alloc ?_ _ | ((with_reducible refine Ext.setCell ?_ ?_ _); rotate_left; (· first | exact Nat.le_refl _ | (simp; done) | omega | (simp; omega))))) (fun hX7 => ?_)
            clear hK K
            refine wpSeg_s rfl rfl (fun K hK => ?_)
            go_simp
            refine hK _ _ (by repeat (first | with_reducible assumption | with_reducible exact Ext.refl _ | with_reducible refine Ext.drew ?_ | with_reducible refine Ext.alloc ?_ _ | ((with_reducible refine Ext.setCell ?_ ?_ _); rotate_left; (· first | exact Nat.le_refl _ | (simp; done) | omega | (simp; omega))))) (fun hX8 => ?_)
            clear hK K
            refine wpSeg_s rfl rfl (fun K hK => ?_)
            go_simp
            refine hK _ _ (by repeat (first | with_reducible assumption | with_reducible exact Ext.refl _ | with_reducible refine Ext.drew ?_ | with_reducible refine Ext.alloc ?_ _ | ((with_reducible refine Ext.setCell ?_ ?_ _); rotate_left; (· first | exact Nat.le_refl _ | (simp; done) | omega | (simp; omega))))) (fun hX9 => ?_)
            clear hK K
            repeat (first | (refine wpSeg_q (v := ?_) rfl rfl ?_ ?_; rotate_left; (· intro wq hSq; have cq := hSq.cells; go_simp; try (with_reducible rfl)); simp only [Act.put, List.setIfInBounds_toArray, List.set_cons_zero, List.set_cons_succ, List.getElem_toArray, List.getElem_cons_zero, List.getElem_cons_succ]) | (refine wpSeg_u rfl rfl ?_; simp only [Act.put, List.setIfInBounds_toArray, List.set_cons_zero, List.set_cons_succ, List.getElem_toArray, List.getElem_cons_zero, List.getElem_cons_succ]))
            refine wpSeg_end (by kernel_rfl) ?_
            go_wp2_with fail
            go_meet
            refine ⟨_, _, _, rfl, rfl, rfl, by omega, by omega, by omega, fun j => ?_, fun j => ?_, fun j => ?_, fun j => ?_, ?_⟩
            · rcases j with _ | _ | j <;> go_simp
            · rcases j with _ | _ | _ | _ | _ | j <;> go_simp
            · go_simp
            · go_simp
            · repeat (first | with_reducible assumption | with_reducible exact Ext.refl _ | with_reducible refine Ext.drew ?_ | with_reducible refine Ext.alloc ?_ _ | ((with_reducible refine Ext.setCell ?_ ?_ _); rotate_left; (· first | exact Nat.le_refl _ | (simp; done) | omega | (simp; omega))))
          exact wpAnyL_nil
        refine wpAnyL_cons rfl rfl (fun K hK => ?_) ?_
        · skip
          go_simp
          refine hK _ _ (by repeat (first | with_reducible assumption | with_reducible exact Ext.refl _ | with_reducible refine Ext.drew ?_ | with_reducible refine Ext.alloc ?_ _ | ((with_reducible refine Ext.setCell ?_ ?_ _); rotate_left; (· first | exact Nat.le_refl _ | (simp; done) | omega | (simp; omega))))) (fun hX10 => ?_)
          clear hK K
          refine wpAnyH_seg [] 9 _ #[true, true, true, true, true, false, false, false, false, false, true, false, false, false, false] _ (by kernel_rfl) (by kernel_rfl) (by kernel_rfl) (by repeat (first | with_reducible assumption | with_reducible exact Ext.refl _ | with_reducible refine Ext.drew ?_ | with_reducible refine Ext.alloc ?_ _ | ((with_reducible refine Ext.setCell ?_ ?_ _); rotate_left; (· first | exact Nat.le_refl _ | (simp; done) | omega | (simp; omega))))) ?_
          refine wpSeg_nil ?_
          refine wpAnyH_many [5, 11] (by kernel_rfl) rfl ?_
          refine wpAnyL_cons rfl rfl (fun K hK => ?_) ?_
          · skip
            go_simp
            refine (rnext_any _ _ _ _ r0 r0).mono ?_
            rintro e w4 ⟨rfl, h4⟩
            have k4 := h4.cells
            have f4 := h4.froz
            have z4 := h4.size
            simp only [World.size_alloc, World.size_drew] at k4 f4 z4
            try (have q5 : w3.heap.size + 1 < w4.heap.size := by omega)
            try (have q6 : w3.heap.size + 1 + 1 < w4.heap.size := by omega)
            try (have q7 : ¬ w3.heap.size + 1 = w4.heap.size := by omega)
            try (have q8 : ¬ w3.heap.size + 1 + 1 = w4.heap.size := by omega)
            refine hK _ _ (by refine Ext.trans ?_ h4; repeat (first | with_reducible assumption | with_reducible exact Ext.refl _ | with_reducible refine Ext.drew ?_ | with_reducible refine Ext.alloc ?_ _ | ((with_reducible refine Ext.setCell ?_ ?_ _); rotate_left; (· first | exact Nat.le_refl _ | (simp; done) | omega | (simp; omega))))) (fun hX11 => ?_)
            clear hK K
            refine wpAnyH_seg [(true, 6), (true, 7), (true, 8), (true, 9), (false, 11), (false, 12), (false, 13), (true, 14)] 0 _ #[true, true, true, true, true, true, true, true, true, true, true, true, true, true, true] _ (by kernel_rfl) (by kernel_rfl) (by kernel_rfl) (by repeat (first | with_reducible assumption | with_reducible exact Ext.refl _ | with_reducible refine Ext.drew ?_ | with_reducible refine Ext.alloc ?_ _ | ((with_reducible refine Ext.setCell ?_ ?_ _); rotate_left; (· first | exact Nat.le_refl _ | (simp; done) | omega | (simp; omega))))) ?_
            repeat (first | (refine wpSeg_q (v := ?_) rfl rfl ?_ ?_; rotate_left; (· intro wq hSq; have cq := hSq.cells; go_simp; try (with_reducible rfl)); simp only [Act.put, List.setIfInBounds_toArray, List.set_cons_zero, List.set_cons_succ, List.getElem_toArray, List.getElem_cons_zero, List.getElem_cons_succ]) | (refine wpSeg_u rfl rfl ?_; simp only [Act.put, List.setIfInBounds_toArray, List.set_cons_zero, List.set_cons_succ, List.getElem_toArray, List.getElem_cons_zero, List.getElem_cons_succ]))
            refine wpSeg_s rfl rfl (fun K hK => ?_)
            go_simp
            refine hK _ _ (by repeat (first | with_reducible assumption | with_reducible exact Ext.refl _ | with_reducible refine Ext.drew ?_ | with_reducible refine Ext.alloc ?_ _ | ((with_reducible refine Ext.setCell ?_ ?_ _); rotate_left; (· first | exact Nat.le_refl _ | (simp; done) | omega | (simp; omega))))) (fun hX12 => ?_)
            clear hK K
            refine wpSeg_s rfl rfl (fun K hK => ?_)
            go_simp
            refine hK _ _ (by repeat (first | with_reducible assumption | with_reducible exact Ext.refl _ | with_reducible refine Ext.drew ?_ | with_reducible refine Ext.alloc ?_ _ | ((with_reducible refine Ext.setCell ?_ ?_ _); rotate_left; (· first | exact Nat.le_refl _ | (simp; done) | omega | (simp; omega))))) (fun hX13 => ?_)
            clear hK K
            refine wpSeg_s rfl rfl (fun K hK => ?_)
            go_simp
            refine hK _ _ (by repeat (first | with_reducible assumption | with_reducible exact Ext.refl _ | with_reducible refine Ext.drew ?_ | with_reducible refine Ext.alloc ?_ _ | ((with_reducible refine Ext.setCell ?_ ?_ _); rotate_left; (· first | exact Nat.le_refl _ | (simp; done) | omega | (simp; omega))))) (fun hX14 => ?_)
            clear hK K
            repeat (first | (refine wpSeg_q (v := ?_) rfl rfl ?_ ?_; rotate_left; (· intro wq hSq; have cq := hSq.cells; go_simp; try (with_reducible rfl)); simp only [Act.put, List.setIfInBounds_toArray, List.set_cons_zero, List.set_cons_succ, List.getElem_toArray, List.getElem_cons_zero, List.getElem_cons_succ]) | (refine wpSeg_u rfl rfl ?_; simp only [Act.put, List.setIfInBounds_toArray, List.set_cons_zero, List.set_cons_succ, List.getElem_toArray, List.getElem_cons_zero, List.getElem_cons_succ]))
            refine wpSeg_end (by kernel_rfl) ?_
            go_wp2_with fail
            go_meet
            refine ⟨_, _, _, rfl, rfl, rfl, by omega, by omega, by omega, fun j => ?_, fun j => ?_, fun j => ?_, fun j => ?_, ?_⟩
            · rcases j with _ | _ | j <;> go_simp
            · rcases j with _ | _ | _ | _ | _ | j <;> go_simp
            · go_simp
            · go_simp
            · repeat (first | with_reducible assumption | with_reducible exact Ext.refl _ | with_reducible refine Ext.drew ?_ | with_reducible refine Ext.alloc ?_ _ | ((with_reducible refine Ext.setCell ?_ ?_ _); rotate_left; (· first | exact Nat.le_refl _ | (simp; done) | omega | (simp; omega))))
          refine wpAnyL_cons rfl rfl (fun K hK => ?_) ?_
          · skip
            go_simp
            refine hK _ _ (by repeat (first | with_reducible assumption | with_reducible exact Ext.refl _ | with_reducible refine Ext.drew ?_ | with_reducible refine Ext.alloc ?_ _ | ((with_reducible refine Ext.setCell ?_ ?_ _); rotate_left; (· first | exact Nat.le_refl _ | (simp; done) | omega | (simp; omega))))) (fun hX15 => ?_)
            clear hK K
            refine wpAnyH_seg [(false, 5), (true, 6), (true, 7), (true, 8), (true, 9), (false, 12), (false, 13), (true, 14)] 0 _ #[true, true, true, true, true, true, true, true, true, true, true, true, true, true, true] _ (by kernel_rfl) (by kernel_rfl) (by kernel_rfl) (by repeat (first | with_reducible assumption | with_reducible exact Ext.refl _ | with_reducible refine Ext.drew ?_ | with_reducible refine Ext.alloc ?_ _ | ((with_reducible refine Ext.setCell ?_ ?_ _); rotate_left; (· first | exact Nat.le_refl _ | (simp; done) | omega | (simp; omega))))) ?_
            refine wpSeg_s rfl rfl (fun K hK => ?_)
            go_simp
            refine (rnext_any _ _ _ _ r0 r0).mono ?_
            rintro e w4 ⟨rfl, h4⟩
            have k4 := h4.cells
            have f4 := h4.froz
            have z4 := h4.size
            simp only [World.size_alloc, World.size_drew] at k4 f4 z4
            try (have q5 : w3.heap.size + 1 < w4.heap.size := by omega)
            try (have q6 : w3.heap.size + 1 + 1 < w4.heap.size := by omega)
            try (have q7 : ¬ w3.heap.size + 1 = w4.heap.size := by omega)
            try (have q8 : ¬ w3.heap.size + 1 + 1 = w4.heap.size := by omega)
            refine hK _ _ (by refine Ext.trans ?_ h4; repeat (first | with_reducible assumption | with_reducible exact Ext.refl _ | with_reducible refine Ext.drew ?_ | with_reducible refine Ext.alloc ?_ _ | ((with_reducible refine Ext.setCell ?_ ?_ _); rotate_left; (· first | exact Nat.le_refl _ | (simp; done) | omega | (simp; omega))))) (fun hX16 => ?_)
            clear hK K
            repeat (first | (refine wpSeg_q (v := ?_) rfl rfl ?_ ?_; rotate_left; (· intro wq hSq; have cq := hSq.cells; go_simp; try (with_reducible rfl)); simp only [Act.put, List.setIfInBounds_toArray, List.set_cons_zero, List.set_cons_succ, List.getElem_toArray, List.getElem_cons_zero, List.getElem_cons_succ]) | (refine wpSeg_u rfl rfl ?_; simp only [Act.put, List.setIfInBounds_toArray, List.set_cons_zero, List.set_cons_succ, List.getElem_toArray, List.getElem_cons_zero, List.getElem_cons_succ]))
            refine wpSeg_s rfl rfl (fun K hK => ?_)
            go_simp
            refine hK _ _ (by repeat (first | with_reducible assumption | with_reducible exact Ext.refl _ | with_reducible refine Ext.drew ?_ | with_reducible refine Ext.alloc ?_ _ | ((with_reducible refine Ext.setCell ?_ ?_ _); rotate_left; (· first | exact Nat.le_refl _ | (simp; done) | omega | (simp; omega))))) (fun hX17 => ?_)
            clear hK K
            refine wpSeg_s rfl rfl (fun K hK => ?_)
            go_simp
            refine hK _ _ (by repeat (first | with_reducible assumption | with_reducible exact Ext.refl _ | with_reducible refine Ext.drew ?_ | with_reducible refine Ext.alloc ?_ _ | ((with_reducible refine Ext.setCell ?_ ?_ _); rotate_left; (· first | exact Nat.le_refl _ | (simp; done) | omega | (simp; omega))))) (fun hX18 => ?_)
            clear hK K
            repeat (first | (refine wpSeg_q (v := ?_) rfl rfl ?_ ?_; rotate_left; (· intro wq hSq; have cq := hSq.cells; go_simp; try (with_reducible rfl)); simp only [Act.put, List.setIfInBounds_toArray, List.set_cons_zero, List.set_cons_succ, List.getElem_toArray, List.getElem_cons_zero, List.getElem_cons_succ]) | (refine wpSeg_u rfl rfl ?_; simp only [Act.put, List.setIfInBounds_toArray, List.set_cons_zero, List.set_cons_succ, List.getElem_toArray, List.getElem_cons_zero, List.getElem_cons_succ]))
            refine wpSeg_end (by kernel_rfl) ?_
            go_wp2_with fail
            go_meet
            refine ⟨_, _, _, rfl, rfl, rfl, by omega, by omega, by omega, fun j => ?_, fun j => ?_, fun j => ?_, fun j => ?_, ?_⟩
            · rcases j with _ | _ | j <;> go_simp
            · rcases j with _ | _ | _ | _ | _ | j <;> go_simp
            · go_simp
            · go_simp
            · repeat (first | with_reducible assumption | with_reducible exact Ext.refl _ | with_reducible refine Ext.drew ?_ | with_reducible refine Ext.alloc ?_ _ | ((with_reducible refine Ext.setCell ?_ ?_ _); rotate_left; (· first | exact Nat.le_refl _ | (simp; done) | omega | (simp; omega))))
          exact wpAnyL_nil
        refine wpAnyL_cons rfl rfl (fun K hK => ?_) ?_
        · skip
          go_simp
          refine hK _ _ (by repeat (first | with_reducible assumption | with_reducible exact Ext.refl _ | with_reducible refine Ext.drew ?_ | with_reducible refine Ext.alloc ?_ _ | ((with_reducible refine Ext.setCell ?_ ?_ _); rotate_left; (· first | exact Nat.le_refl _ | (simp; done) | omega | (simp; omega))))) (fun hX19 => ?_)
          clear hK K
          refine wpAnyH_seg [] 9 _ #[true, true, true, true, true, false, false, false, false, false, false, true, false, false, false] _ (by kernel_rfl) (by kernel_rfl) (by kernel_rfl) (by repeat (first | with_reducible assumption | with_reducible exact Ext.refl _ | with_reducible refine Ext.drew ?_ | with_reducible refine Ext.alloc ?_ _ | ((with_reducible refine Ext.setCell ?_ ?_ _); rotate_left; (· first | exact Nat.le_refl _ | (simp; done) | omega | (simp; omega))))) ?_
          refine wpSeg_nil ?_
          refine wpAnyH_many [5, 10] (by kernel_rfl) rfl ?_
          refine wpAnyL_cons rfl rfl (fun K hK => ?_) ?_
          · skip
            go_simp
            refine (rnext_any _ _ _ _ r0 r0).mono ?_
            rintro e w4 ⟨rfl, h4⟩
            have k4 := h4.cells
            have f4 := h4.froz
            have z4 := h4.size
            simp only [World.size_alloc, World.size_drew] at k4 f4 z4
            try (have q5 : w3.heap.size + 1 < w4.heap.size := by omega)
            try (have q6 : w3.heap.size + 1 + 1 < w4.heap.size := by omega)
            try (have q7 : ¬ w3.heap.size + 1 = w4.heap.size := by omega)
            try (have q8 : ¬ w3.heap.size + 1 + 1 = w4.heap.size := by omega)
            refine hK _ _ (by refine Ext.trans ?_ h4; repeat (first | with_reducible assumption | with_reducible exact Ext.refl _ | with_reducible refine Ext.drew ?_ | with_reducible refine Ext.alloc ?_ _ | ((with_reducible refine Ext.setCell ?_ ?_ _); rotate_left; (· first | exact Nat.le_refl _ | (simp; done) | omega | (simp; omega))))) (fun hX20 => ?_)
            clear hK K
            refine wpAnyH_seg [(true, 6), (true, 7), (true, 8), (true, 9), (false, 10), (false, 12), (false, 13), (true, 14)] 0 _ #[true, true, true, true, true, true, true, true, true, true, true, true, true, true, true] _ (by kernel_rfl) (by kernel_rfl) (by kernel_rfl) (by repeat (first | with_reducible assumption | with_reducible exact Ext.refl _ | with_reducible refine Ext.drew ?_ | with_reducible refine Ext.alloc ?_ _ | ((with_reducible refine Ext.setCell ?_ ?_ _); rotate_left; (· first | exact Nat.le_refl _ | (simp; done) | omega | (simp; omega))))) ?_
            repeat (first | (refine wpSeg_q (v := ?_) rfl rfl ?_ ?_; rotate_left; (· intro wq hSq; have cq := hSq.cells; go_simp; try (with_reducible rfl)); simp only [Act.put, List.setIfInBounds_toArray, List.set_cons_zero, List.set_cons_succ, List.getElem_toArray, List.getElem_cons_zero, List.getElem_cons_succ]) | (refine wpSeg_u rfl rfl ?_; simp only [Act.put, List.setIfInBounds_toArray, List.set_cons_zero, List.set_cons_succ, List.getElem_toArray, List.getElem_cons_zero, List.getElem_cons_succ]))
            refine wpSeg_s rfl rfl (fun K hK => ?_)
            go_simp
            refine hK _ _ (by repeat (first | with_reducible assumption | with_reducible exact Ext.refl _ | with_reducible refine Ext.drew ?_ | with_reducible refine Ext.alloc ?_ _ | ((with_reducible refine Ext.setCell ?_ ?_ _); rotate_left; (· first | exact Nat.le_refl _ | (simp; done) | omega | (simp; omega))))) (fun hX21 => ?_)
            clear hK K
            refine wpSeg_s rfl rfl (fun K hK => ?_)
            go_simp
            refine hK _ _ (by repeat (first | with_reducible assumption | with_reducible exact Ext.refl _ | with_reducible refine Ext.drew ?_ | with_reducible refine Ext.alloc ?_ _ | ((with_reducible refine Ext.setCell ?_ ?_ _); rotate_left; (· first | exact Nat.le_refl _ | (simp; done) | omega | (simp; omega))))) (fun hX22 => ?_)
            clear hK K
            refine wpSeg_s rfl rfl (fun K hK => ?_)
            go_simp
            refine hK _ _ (by repeat (first | with_reducible assumption | with_reducible exact Ext.refl _ | with_reducible refine Ext.drew ?_ | with_reducible refine Ext.alloc ?_ _ | ((with_reducible refine Ext.setCell ?_ ?_ _); rotate_left; (· first | exact Nat.le_refl _ | (simp; done) | omega | (simp; omega))))) (fun hX23 => ?_)
            clear hK K
            repeat (first | (refine wpSeg_q (v := ?_) rfl rfl ?_ ?_; rotate_left; (· intro wq hSq; have cq := hSq.cells; go_simp; try (with_reducible rfl)); simp only [Act.put, List.setIfInBounds_toArray, List.set_cons_zero, List.set_cons_succ, List.getElem_toArray, List.getElem_cons_zero, List.getElem_cons_succ]) | (refine wpSeg_u rfl rfl ?_; simp only [Act.put, List.setIfInBounds_toArray, List.set_cons_zero, List.set_cons_succ, List.getElem_toArray, List.getElem_cons_zero, List.getElem_cons_succ]))
            refine wpSeg_end (by kernel_rfl) ?_
            go_wp2_with fail
            go_meet
            refine ⟨_, _, _, rfl, rfl, rfl, by omega, by omega, by omega, fun j => ?_, fun j => ?_, fun j => ?_, fun j => ?_, ?_⟩
            · rcases j with _ | _ | j <;> go_simp
            · rcases j with _ | _ | _ | _ | _ | j <;> go_simp
            · go_simp
            · go_simp
            · repeat (first | with_reducible assumption | with_reducible exact Ext.refl _ | with_reducible refine Ext.drew ?_ | with_reducible refine Ext.alloc ?_ _ | ((with_reducible refine Ext.setCell ?_ ?_ _); rotate_left; (· first | exact Nat.le_refl _ | (simp; done) | omega | (simp; omega))))
          refine wpAnyL_cons rfl rfl (fun K hK => ?_) ?_
          · skip
            go_simp
            refine hK _ _ (by repeat (first | with_reducible assumption | with_reducible exact Ext.refl _ | with_reducible refine Ext.drew ?_ | with_reducible refine Ext.alloc ?_ _ | ((with_reducible refine Ext.setCell ?_ ?_ _); rotate_left; (· first | exact Nat.le_refl _ | (simp; done) | omega | (simp; omega))))) (fun hX24 => ?_)
            clear hK K
            refine wpAnyH_seg [(false, 5), (true, 6), (true, 7), (true, 8), (true, 9), (false, 12), (false, 13), (true, 14)] 0 _ #[true, true, true, true, true, true, true, true, true, true, true, true, true, true, true] _ (by kernel_rfl) (by kernel_rfl) (by kernel_rfl) (by repeat (first | with_reducible assumption | with_reducible exact Ext.refl _ | with_reducible refine Ext.drew ?_ | with_reducible refine Ext.alloc ?_ _ | ((with_reducible refine Ext.setCell ?_ ?_ _); rotate_left; (· first | exact Nat.le_refl _ | (simp; done) | omega | (simp; omega))))) ?_
            refine wpSeg_s rfl rfl (fun K hK => ?_)
            go_simp
            refine (rnext_any _ _ _ _ r0 r0).mono ?_
            rintro e w4 ⟨rfl, h4⟩
            have k4 := h4.cells
            have f4 := h4.froz
            have z4 := h4.size
            simp only [World.size_alloc, World.size_drew] at k4 f4 z4
            try (have q5 : w3.heap.size + 1 < w4.heap.size := by omega)
            try (have q6 : w3.heap.size + 1 + 1 < w4.heap.size := by omega)
            try (have q7 : ¬ w3.heap.size + 1 = w4.heap.size := by omega)
            try (have q8 : ¬ w3.heap.size + 1 + 1 = w4.heap.size := by omega)
            refine hK _ _ (by refine Ext.trans ?_ h4; repeat (first | with_reducible assumption | with_reducible exact Ext.refl _ | with_reducible refine Ext.drew ?_ | with_reducible refine Ext.alloc ?_ _ | ((with_reducible refine Ext.setCell ?_ ?_ _); rotate_left; (· first | exact Nat.le_refl _ | (simp; done) | omega | (simp; omega))))) (fun hX25 => ?_)
            clear hK K
            repeat (first | (refine wpSeg_q (v := ?_) rfl rfl ?_ ?_; rotate_left; (· intro wq hSq; have cq := hSq.cells; go_simp; try (with_reducible rfl)); simp only [Act.put, List.setIfInBounds_toArray, List.set_cons_zero, List.set_cons_succ, List.getElem_toArray, List.getElem_cons_zero, List.getElem_cons_succ]) | (refine wpSeg_u rfl rfl ?_; simp only [Act.put, List.setIfInBounds_toArray, List.set_cons_zero, List.set_cons_succ, List.getElem_toArray, List.getElem_cons_zero, List.getElem_cons_succ]))
            refine wpSeg_s rfl rfl (fun K hK => ?_)
            go_simp
            refine hK _ _ (by repeat (first | with_reducible assumption | with_reducible exact Ext.refl _ | with_reducible refine Ext.drew ?_ | with_reducible refine Ext.alloc ?_ _ | ((with_reducible refine Ext.setCell ?_ ?_ _); rotate_left; (· first | exact Nat.le_refl _ | (simp; done) | omega | (simp; omega))))) (fun hX26 => ?_)
            clear hK K
            refine wpSeg_s rfl rfl (fun K hK => ?_)
            go_simp
            refine hK _ _ (by repeat (first | with_reducible assumption | with_reducible exact Ext.refl _ | with_reducible refine Ext.drew ?_ | with_reducible refine Ext.alloc ?_ _ | ((with_reducible refine Ext.setCell ?_ ?_ _); rotate_left; (· first | exact Nat.le_refl _ | (simp; done) | omega | (simp; omega))))) (fun hX27 => ?_)
            clear hK K
            repeat (first | (refine wpSeg_q (v := ?_) rfl rfl ?_ ?_; rotate_left; (· intro wq hSq; have cq := hSq.cells; go_simp; try (with_reducible rfl)); simp only [Act.put, List.setIfInBounds_toArray, List.set_cons_zero, List.set_cons_succ, List.getElem_toArray, List.getElem_cons_zero, List.getElem_cons_succ]) | (refine wpSeg_u rfl rfl ?_; simp only [Act.put, List.setIfInBounds_toArray, List.set_cons_zero, List.set_cons_succ, List.getElem_toArray, List.getElem_cons_zero, List.getElem_cons_succ]))
            refine wpSeg_end (by kernel_rfl) ?_
            go_wp2_with fail
            go_meet
            refine ⟨_, _, _, rfl, rfl, rfl, by omega, by omega, by omega, fun j => ?_, fun j => ?_, fun j => ?_, fun j => ?_, ?_⟩
            · rcases j with _ | _ | j <;> go_simp
            · rcases j with _ | _ | _ | _ | _ | j <;> go_simp
            · go_simp
            · go_simp
            · repeat (first | with_reducible assumption | with_reducible exact Ext.refl _ | with_reducible refine Ext.drew ?_ | with_reducible refine Ext.alloc ?_ _ | ((with_reducible refine Ext.setCell ?_ ?_ _); rotate_left; (· first | exact Nat.le_refl _ | (simp; done) | omega | (simp; omega))))
          exact wpAnyL_nil
        exact wpAnyL_nil
      case rest =>
        obtain ⟨g12, g13, er, rfl, rfl, rfl, y12, y13, y14, c12, c13, f12, f13, hEx⟩ := hcut
        have hBx := blk_ext HBt.out hEx
        have cx := blk_cell hBx
        have fx := blk_free hBx
        have cv := hEx.ownc
        have n12 : ¬ w2.heap.size = g12 := by omega
        have n13 : ¬ w2.heap.size = g13 := by omega
        have m12 : ¬ g12 = w2.heap.size := by omega
        have m13 : ¬ g13 = w2.heap.size := by omega
        have nv : ¬ w2.heap.size = w3.heap.size := by omega
        have nw : ¬ g12 = w3.heap.size := by omega
        have nx : ¬ g13 = w3.heap.size := by omega
        have ny : ¬ g13 = g12 := by omega
        have nz : ¬ g12 = g13 := by omega
        have HBx := Lib.hid hBx
        clear hBx ct ft hl3 y14
        go_wp2_with fail
        refine (same_refl _ _ _ _).mono ?_
        rintro e w5 ⟨rfl, h5⟩
        have hE6 : Ext w wc := hE3.trans hEx.of_alloc
        have b12 : w.heap.size ≤ g12 := by omega
        have b13 : w.heap.size ≤ g13 := by omega
        clear cx fx cv c12 c13 f12 f13
        go_wp2_with fail
        refine ⟨⟨k + 1, by omega, by go_num, blk_ext (blk_set2 (blk_far (blk_far (blk_far (blk_far (blk_far (blk_far (blk_far HBx.out n12 _) n12 _) n13 _) n13 _) n13 _) n13 _) n13 _) _ _) h5, ?_⟩, by simp [intOf]; omega⟩
        refine Ext.trans ?_ h5
        exact ((((((((hE6.setCell b12 _).setCell b12 _).setCell b13 _).setCell b13 _).setCell b13 _).setCell b13 _).setCell b13 _).setCell z2 _).setCell z2 _
    · go_wp2_with fail
      refine (awake_ok _).mono ?_
      rintro e w5 ⟨rfl, h5⟩
      go_wp2_with fail
      go_ret
      exact ⟨rfl, hE.trans h5⟩
end Go.Proofs.YtmgdgbnbikgmkaaDoor
