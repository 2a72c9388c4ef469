/- The law IdentSource: its walk. -/
import Derived.Test.YtmgdgbnbikgmkaaDoorN2
import Derived.Test.YtmgdgbnbikgmkaaDoorA1
import Derived.Deep.DeepCutAuto
namespace Go.Proofs.YtmgdgbnbikgmkaaDoor
open Go.RowKit
theorem nxC_bd (x t : Int) (k : Int) (h0 : 0 ≤ x) (h1 : x ≤ k) : 0 ≤ nxC x t ∧ nxC x t ≤ k + 1 := by unfold nxC; split <;> omega
theorem blk_set2 {w : World} {g : Nat} {t : TypeId} {a b : Value} (h : w.heap[g]? = some (.cells #[a, b] t (0, 0))) (u v : Value) : ((w.setCell ⟨g, 0, none⟩ u).setCell ⟨g, 1, none⟩ v).heap[g]? = some (.cells #[u, v] t (0, 0)) := blk_set (blk_set h 0 u) 1 v
set_option maxHeartbeats 1000000 in
theorem identSource_long (n : Int) (A : Option Addr) (m c : Nat) (w : World) (hm : 100 < m) (hm2 : m ≤ 9223372036854775807) : Calls Tryd.prog 5 #[.int .i64 n, .slice A m c] w fun e w' => e = .returned (.bool true) ∧ Ext w w' := by
  have hd : decide (100 < m) = true := by simpa using hm
  go_enter Tryd.func5, Tryd.ntmps5
  go_wp2_with (go_at_call 12; refine (awake_ok _).mono ?_; rintro e w1 ⟨rfl, h1⟩)
  go_ret
  exact ⟨rfl, h1⟩
set_option maxHeartbeats 1000000 in
theorem identSource_in (n : Int) (A : Option Addr) (b off : Nat) (zs : List Int) (m c : Nat) (w : World) (hm : m ≤ 100) (hA : 0 < m → A = some ⟨b, off, none⟩ ∧ b < w.heap.size) (hcell : ∀ j, j < m → w.cell? ⟨b, off + j, none⟩ = some (.int .i64 (zs.getD j 0))) (hn : inR n = true) :
    Calls Tryd.prog 5 #[.int .i64 n, .slice A m c] w fun e w' => e = .returned (.bool true) ∧ Ext w w' := by
  have hd : decide (100 < m) = false := by simp; omega
  have HC := Lib.hid hcell
  have HA := Lib.hid hA
  clear hcell hA
  go_enter Tryd.func5, Tryd.ntmps5
  go_wp2_with fail
  refine (newSource_ok n _ hn).mono ?_
  rintro e w1 ⟨rfl, rfl⟩
  go_wp2_with fail
  refine (rnewSource_ok n _ hn).mono ?_
  rintro e w2 ⟨rfl, h2⟩
  have hz2 := h2.lt
  go_wp2_with fail
  go_loopw [41] (fun i wr => ∃ (k : Nat) (x : Int), k ≤ m ∧ i = .int .i64 k ∧ 0 ≤ x ∧ x ≤ k ∧ wr.heap[w.heap.size]? = some (.cells #[.int .i64 n, .int .i64 x] 70 (0, 0)) ∧ wr.heap[w2.heap.size]? = some (.cells #[.int .i64 n, .int .i64 x] 43 (0, 0)) ∧ Ext w wr) (fun i _ => m - (intOf i).toNat)
  case atStart => exact ⟨0, 0, by omega, rfl, by omega, by omega, blk_alloc (blk_ext (heap_alloc_new w _) h2) _, heap_alloc_new w2 _, (h2.of_alloc.alloc _)⟩
  case round =>
    obtain ⟨k, x, hk, rfl, hx0, hx1, hB, hB2, hE⟩ := hrel
    by_cases hlt : k < m
    · obtain ⟨rfl, hb⟩ := HA.out (by omega)
      have hx : inR x = true := inR_of hx0 (by omega)
      obtain ⟨t, ht⟩ : ∃ t, zs.getD k 0 = t := ⟨_, rfl⟩
      have hl := HC.out k hlt
      rw [ht] at hl
      have hlr : wr.cell? ⟨b, off + k, none⟩ = some (.int .i64 t) := by rw [hE.cells b _ hb]; exact hl
      have HT := Lib.hid ht
      have HB := Lib.hid hB
      have HB2 := Lib.hid hB2
      clear hl ht hB hB2
      go_wp2_with fail
      refine (next_any _ n x t _ HB.out hn hx).mono ?_
      rintro e w3 ⟨rfl, g3, hB3⟩
      have HB3 := Lib.hid hB3
      have hE3 : Ext w w3 := hE.of_only g3 (Nat.le_refl _)
      have hBt := blk_alloc (blk_only HB2.out g3 (by omega)) (.cells #[.int .i64 (nxK t), .int .i64 0, .string (nxS n x t), .slice none 0 0, .slice none 0 0] 25)
      have z3 := blk_lt (blk_only HB2.out g3 (by omega))
      have y3 : b < w3.heap.size := by have := hE3.size; omega
      have ct := blk_cell hBt
      have ft := blk_free hBt
      have hl3 : w3.cell? ⟨b, off + k, none⟩ = some (.int .i64 t) := by rw [hE3.cells b _ hb]; exact (by rw [← HT.out]; exact HC.out k hlt)
      have HBt := Lib.hid hBt
      clear hB3 hlr hBt
      go_upto_region 11 with (fail)
      have q1 : w3.heap.size + 1 < w3.heap.size + 1 + 1 := by omega
      have q2 : w3.heap.size + 1 < w3.heap.size + 1 + 1 + 1 := by omega
      have q3 : w3.heap.size + 1 + 1 < w3.heap.size + 1 + 1 + 1 := by omega
      go_cut [12, 13, 14] (fun x12 x13 x14 wx => ∃ g12 g13 : Nat, x12 = .pointer (some ⟨g12, 0, none⟩) ∧ x13 = .pointer (some ⟨g13, 0, none⟩) ∧ x14 = .int .i64 (nxE t) ∧ w3.heap.size + 1 ≤ g12 ∧ w3.heap.size + 1 ≤ g13 ∧ (∀ j, wx.cell? ⟨g12, j, none⟩ = #[Value.int .i64 n, .int .i64 (nxC x t)][j]?) ∧ (∀ j, wx.cell? ⟨g13, j, none⟩ = #[Value.int .i64 (nxK t), .int .i64 0, .string (nxS n x t), .slice none 0 0, .slice none 0 0][j]?) ∧ Ext (w3.alloc (.cells #[.int .i64 (nxK t), .int .i64 0, .string (nxS n x t), .slice none 0 0, .slice none 0 0] 25)) wx)
      case first =>
        refine wp_region_seg (Ext (w3.alloc (.cells #[.int .i64 (nxK t), .int .i64 0, .string (nxS n x t), .slice none 0 0, .slice none 0 0] 25))) [(true, 0), (true, 1), (true, 2), (true, 3), (true, 4)] 10 #[true, true, true, true, true, false, false, false, false, false, false, false, false, false, false] (by kernel_rfl) (by kernel_rfl) (by kernel_rfl) (by kernel_rfl) ?_ ?_
        · exact (Ext.refl _).drew
        repeat (first | (refine wpSeg_q (v := ?_) rfl rfl ?_ ?_; rotate_left; (· intro wq hSq; have cq := hSq.cells; go_simp; try (with_reducible rfl)); simp only [Act.put, List.setIfInBounds_toArray, List.set_cons_zero, List.set_cons_succ, List.getElem_toArray, List.getElem_cons_zero, List.getElem_cons_succ]) | (refine wpSeg_u rfl rfl ?_; simp only [Act.put, List.setIfInBounds_toArray, List.set_cons_zero, List.set_cons_succ, List.getElem_toArray, List.getElem_cons_zero, List.getElem_cons_succ]))
        refine wpSeg_nil ?_
        refine wpAnyH_many [5, 10, 11] (by kernel_rfl) rfl ?_
        refine wpAnyL_cons rfl rfl (fun K hK => ?_) ?_
        · skip
          go_simp
          refine (rnext_any _ _ _ _ hn hx).mono ?_
          rintro e w4 ⟨rfl, h4⟩
          have k4 := h4.cells
          have f4 := h4.froz
          have z4 := h4.size
          simp only [World.size_alloc, World.size_drew] at k4 f4 z4
          try (have q5 : w3.heap.size + 1 < w4.heap.size := by omega)
          try (have q6 : w3.heap.size + 1 + 1 < w4.heap.size := by omega)
          try (have q7 : ¬ w3.heap.size + 1 = w4.heap.size := by omega)
          try (have q8 : ¬ w3.heap.size + 1 + 1 = w4.heap.size := by omega)
          refine hK _ _ (by refine Ext.trans ?_ h4; repeat (first | with_reducible assumption | with_reducible exact Ext.refl _ | with_reducible refine Ext.drew ?_ | with_reducible refine Ext.alloc ?_ _ | ((with_reducible refine Ext.setCell ?_ ?_ _); rotate_left; (· first | exact Nat.le_refl _ | (simp; done) | omega | (simp; omega))))) (fun hX1 => ?_)
          clear hK K
          refine wpAnyH_seg [(true, 6), (true, 7), (true, 8), (true, 9)] 5 _ #[true, true, true, true, true, true, true, true, true, true, false, false, false, false, false] _ (by kernel_rfl) (by kernel_rfl) (by kernel_rfl) (by repeat (first | with_reducible assumption | with_reducible exact Ext.refl _ | with_reducible refine Ext.drew ?_ | with_reducible refine Ext.alloc ?_ _ | ((with_reducible refine Ext.setCell ?_ ?_ _); rotate_left; (· first | exact Nat.le_refl _ | (simp; done) | omega | (simp; omega))))) ?_
          repeat (first | (refine wpSeg_q (v := ?_) rfl rfl ?_ ?_; rotate_left; (· intro wq hSq; have cq := hSq.cells; go_simp; try (with_reducible rfl)); simp only [Act.put, List.setIfInBounds_toArray, List.set_cons_zero, List.set_cons_succ, List.getElem_toArray, List.getElem_cons_zero, List.getElem_cons_succ]) | (refine wpSeg_u rfl rfl ?_; simp only [Act.put, List.setIfInBounds_toArray, List.set_cons_zero, List.set_cons_succ, List.getElem_toArray, List.getElem_cons_zero, List.getElem_cons_succ]))
          refine wpSeg_nil ?_
          refine wpAnyH_many [10, 11] (by kernel_rfl) rfl ?_
          refine wpAnyL_cons rfl rfl (fun K hK => ?_) ?_
          · skip
            go_simp
            refine hK _ _ (by repeat (first | with_reducible assumption | with_reducible exact Ext.refl _ | with_reducible refine Ext.drew ?_ | with_reducible refine Ext.alloc ?_ _ | ((with_reducible refine Ext.setCell ?_ ?_ _); rotate_left; (· first | exact Nat.le_refl _ | (simp; done) | omega | (simp; omega))))) (fun hX2 => ?_)
            clear hK K
            refine wpAnyH_seg [(false, 11), (false, 12), (false, 13), (true, 14)] 0 _ #[true, true, true, true, true, true, true, true, true, true, true, true, true, true, true] _ (by kernel_rfl) (by kernel_rfl) (by kernel_rfl) (by repeat (first | with_reducible assumption | with_reducible exact Ext.refl _ | with_reducible refine Ext.drew ?_ | with_reducible refine Ext.alloc ?_ _ | ((with_reducible refine Ext.setCell ?_ ?_ _); rotate_left; (· first | exact Nat.le_refl _ | (simp; done) | omega | (simp; omega))))) ?_
            refine wpSeg_s rfl rfl (fun K hK => ?_)
            go_simp
            refine hK _ _ (by repeat (first | with_reducible assumption | with_reducible exact Ext.refl _ | with_reducible refine Ext.drew ?_ | with_reducible refine Ext.alloc ?_ _ | ((with_reducible refine Ext.setCell ?_ ?_ _); rotate_left; (· first | exact Nat.le_refl _ | (simp; done) | omega | (simp; omega))))) (fun hX3 => ?_)
            clear hK K
            refine wpSeg_s rfl rfl (fun K hK => ?_)
            go_simp
            refine hK _ _ (by repeat (first | with_reducible assumption | with_reducible exact Ext.refl _ | with_reducible refine Ext.drew ?_ | with_reducible refine Ext.alloc ?_ _ | ((with_reducible refine Ext.setCell ?_ ?_ _); rotate_left; (· first | exact Nat.le_refl _ | (simp; done) | omega | (simp; omega))))) (fun hX4 => ?_)
            clear hK K
            refine wpSeg_s rfl rfl (fun K hK => ?_)
            go_simp
            refine hK _ _ (by repeat (first | with_reducible assumption | with_reducible exact Ext.refl _ | with_reducible refine Ext.drew ?_ | with_reducible refine Ext.alloc ?_ _ | ((with_reducible refine Ext.setCell ?_ ?_ _); rotate_left; (· first | exact Nat.le_refl _ | (simp; done) | omega | (simp; omega))))) (fun hX5 => ?_)
            clear hK K
            repeat (first | (refine wpSeg_q (v := ?_) rfl rfl ?_ ?_; rotate_left; (· intro wq hSq; have cq := hSq.cells; go_simp; try (with_reducible rfl)); simp only [Act.put, List.setIfInBounds_toArray, List.set_cons_zero, List.set_cons_succ, List.getElem_toArray, List.getElem_cons_zero, List.getElem_cons_succ]) | (refine wpSeg_u rfl rfl ?_; simp only [Act.put, List.setIfInBounds_toArray, List.set_cons_zero, List.set_cons_succ, List.getElem_toArray, List.getElem_cons_zero, List.getElem_cons_succ]))
            refine wpSeg_end (by kernel_rfl) ?_
            go_wp2_with fail
            go_meet
            refine ⟨_, _, rfl, rfl, rfl, by omega, by omega, fun j => ?_, fun j => ?_, ?_⟩
            · rcases j with _ | _ | j <;> go_simp
            · rcases j with _ | _ | _ | _ | _ | j <;> go_simp
            · repeat (first | with_reducible assumption | with_reducible exact Ext.refl _ | with_reducible refine Ext.drew ?_ | with_reducible refine Ext.alloc ?_ _ | ((with_reducible refine Ext.setCell ?_ ?_ _); rotate_left; (· first | exact Nat.le_refl _ | (simp; done) | omega | (simp; omega))))
          refine wpAnyL_cons rfl rfl (fun K hK => ?_) ?_
          · skip
            go_simp
            refine hK _ _ (by repeat (first | with_reducible assumption | with_reducible exact Ext.refl _ | with_reducible refine Ext.drew ?_ | with_reducible refine Ext.alloc ?_ _ | ((with_reducible refine Ext.setCell ?_ ?_ _); rotate_left; (· first | exact Nat.le_refl _ | (simp; done) | omega | (simp; omega))))) (fun hX6 => ?_)
            clear hK K
            refine wpAnyH_seg [(false, 10), (false, 12), (false, 13), (true, 14)] 0 _ #[true, true, true, true, true, true, true, true, true, true, true, true, true, true, true] _ (by kernel_rfl) (by kernel_rfl) (by kernel_rfl) (by repeat (first | with_reducible assumption | with_reducible exact Ext.refl _ | with_reducible refine Ext.drew ?_ | with_reducible refine Ext.alloc ?_ _ | ((with_reducible refine Ext.setCell ?_ ?_ _); rotate_left; (· first | exact Nat.le_refl _ | (simp; done) | omega | (simp; omega))))) ?_
            refine wpSeg_s rfl rfl (fun K hK => ?_)
            go_simp
            refine hK _ _ (by repeat (first | with_reducible assumption | with_reducible exact Ext.refl _ | with_reducible refine Ext.drew ?_ | with_reducible refine Ext.alloc ?_ _ | ((with_reducible refine Ext.setCell ?_ ?_ _); rotate_left; (· first | exact Nat.le_refl _ | (simp; done) | omega | (simp; omega))))) (fun hX7 => ?_)
            clear hK K
            refine wpSeg_s rfl rfl (fun K hK => ?_)
            go_simp
            refine hK _ _ (by repeat (first | with_reducible assumption | with_reducible exact Ext.refl _ | with_reducible refine Ext.drew ?_ | with_reducible refine Ext.alloc ?_ _ | ((with_reducible refine Ext.setCell ?_ ?_ _); rotate_left; (· first | exact Nat.le_refl _ | (simp; done) | omega | (simp; omega))))) (fun hX8 => ?_)
            clear hK K
            refine wpSeg_s rfl rfl (fun K hK => ?_)
            go_simp
            refine hK _ _ (by repeat (first | with_reducible assumption | with_reducible exact Ext.refl _ | with_reducible refine Ext.drew ?_ | with_reducible refine Ext.alloc ?_ _ | ((with_reducible refine Ext.setCell ?_ ?_ _); rotate_left; (· first | exact Nat.le_refl _ | (simp; done) | omega | (simp; omega))))) (fun hX9 => ?_)
            clear hK K
            repeat (first | (refine wpSeg_q (v := ?_) rfl rfl ?_ ?_; rotate_left; (· intro wq hSq; have cq := hSq.cells; go_simp; try (with_reducible rfl)); simp only [Act.put, List.setIfInBounds_toArray, List.set_cons_zero, List.set_cons_succ, List.getElem_toArray, List.getElem_cons_zero, List.getElem_cons_succ]) | (refine wpSeg_u rfl rfl ?_; simp only [Act.put, List.setIfInBounds_toArray, List.set_cons_zero, List.set_cons_succ, List.getElem_toArray, List.getElem_cons_zero, List.getElem_cons_succ]))
            refine wpSeg_end (by kernel_rfl) ?_
            go_wp2_with fail
            go_meet
            refine ⟨_, _, rfl, rfl, rfl, by omega, by omega, fun j => ?_, fun j => ?_, ?_⟩
            · rcases j with _ | _ | j <;> go_simp
            · rcases j with _ | _ | _ | _ | _ | j <;> go_simp
            · repeat (first | with_reducible assumption | with_reducible exact Ext.refl _ | with_reducible refine Ext.drew ?_ | with_reducible refine Ext.alloc ?_ _ | ((with_reducible refine Ext.setCell ?_ ?_ _); rotate_left; (· first | exact Nat.le_refl _ | (simp; done) | omega | (simp; omega))))
          exact wpAnyL_nil
        refine wpAnyL_cons rfl rfl (fun K hK => ?_) ?_
        · skip
          go_simp
          refine hK _ _ (by repeat (first | with_reducible assumption | with_reducible exact Ext.refl _ | with_reducible refine Ext.drew ?_ | with_reducible refine Ext.alloc ?_ _ | ((with_reducible refine Ext.setCell ?_ ?_ _); rotate_left; (· first | exact Nat.le_refl _ | (simp; done) | omega | (simp; omega))))) (fun hX10 => ?_)
          clear hK K
          refine wpAnyH_seg [] 9 _ #[true, true, true, true, true, false, false, false, false, false, true, false, false, false, false] _ (by kernel_rfl) (by kernel_rfl) (by kernel_rfl) (by repeat (first | with_reducible assumption | with_reducible exact Ext.refl _ | with_reducible refine Ext.drew ?_ | with_reducible refine Ext.alloc ?_ _ | ((with_reducible refine Ext.setCell ?_ ?_ _); rotate_left; (· first | exact Nat.le_refl _ | (simp; done) | omega | (simp; omega))))) ?_
          refine wpSeg_nil ?_
          refine wpAnyH_many [5, 11] (by kernel_rfl) rfl ?_
          refine wpAnyL_cons rfl rfl (fun K hK => ?_) ?_
          · skip
            go_simp
            refine (rnext_any _ _ _ _ hn hx).mono ?_
            rintro e w4 ⟨rfl, h4⟩
            have k4 := h4.cells
            have f4 := h4.froz
            have z4 := h4.size
            simp only [World.size_alloc, World.size_drew] at k4 f4 z4
            try (have q5 : w3.heap.size + 1 < w4.heap.size := by omega)
            try (have q6 : w3.heap.size + 1 + 1 < w4.heap.size := by omega)
            try (have q7 : ¬ w3.heap.size + 1 = w4.heap.size := by omega)
            try (have q8 : ¬ w3.heap.size + 1 + 1 = w4.heap.size := by omega)
            refine hK _ _ (by refine Ext.trans ?_ h4; repeat (first | with_reducible assumption | with_reducible exact Ext.refl _ | with_reducible refine Ext.drew ?_ | with_reducible refine Ext.alloc ?_ _ | ((with_reducible refine Ext.setCell ?_ ?_ _); rotate_left; (· first | exact Nat.le_refl _ | (simp; done) | omega | (simp; omega))))) (fun hX11 => ?_)
            clear hK K
            refine wpAnyH_seg [(true, 6), (true, 7), (true, 8), (true, 9), (false, 11), (false, 12), (false, 13), (true, 14)] 0 _ #[true, true, true, true, true, true, true, true, true, true, true, true, true, true, true] _ (by kernel_rfl) (by kernel_rfl) (by kernel_rfl) (by repeat (first | with_reducible assumption | with_reducible exact Ext.refl _ | with_reducible refine Ext.drew ?_ | with_reducible refine Ext.alloc ?_ _ | ((with_reducible refine Ext.setCell ?_ ?_ _); rotate_left; (· first | exact Nat.le_refl _ | (simp; done) | omega | (simp; omega))))) ?_
            repeat (first | (refine wpSeg_q (v := ?_) rfl rfl ?_ ?_; rotate_left; (· intro wq hSq; have cq := hSq.cells; go_simp; try (with_reducible rfl)); simp only [Act.put, List.setIfInBounds_toArray, List.set_cons_zero, List.set_cons_succ, List.getElem_toArray, List.getElem_cons_zero, List.getElem_cons_succ]) | (refine wpSeg_u rfl rfl ?_; simp only [Act.put, List.setIfInBounds_toArray, List.set_cons_zero, List.set_cons_succ, List.getElem_toArray, List.getElem_cons_zero, List.getElem_cons_succ]))
            refine wpSeg_s rfl rfl (fun K hK => ?_)
            go_simp
            refine hK _ _ (by repeat (first | with_reducible assumption | with_reducible exact Ext.refl _ | with_reducible refine Ext.drew ?_ | with_reducible refine Ext.alloc ?_ _ | ((with_reducible refine Ext.setCell ?_ ?_ _); rotate_left; (· first | exact Nat.le_refl _ | (simp; done) | omega | (simp; omega))))) (fun hX12 => ?_)
            clear hK K
            refine wpSeg_s rfl rfl (fun K hK => ?_)
            go_simp
            refine hK _ _ (by repeat (first | with_reducible assumption | with_reducible exact Ext.refl _ | with_reducible refine Ext.drew ?_ | with_reducible refine Ext.alloc ?_ _ | ((with_reducible refine Ext.setCell ?_ ?_ _); rotate_left; (· first | exact Nat.le_refl _ | (simp; done) | omega | (simp; omega))))) (fun hX13 => ?_)
            clear hK K
            refine wpSeg_s rfl rfl (fun K hK => ?_)
            go_simp
            refine hK _ _ (by repeat (first | with_reducible assumption | with_reducible exact Ext.refl _ | with_reducible refine Ext.drew ?_ | with_reducible refine Ext.alloc ?_ _ | ((with_reducible refine Ext.setCell ?_ ?_ _); rotate_left; (· first | exact Nat.le_refl _ | (simp; done) | omega | (simp; omega))))) (fun hX14 => ?_)
            clear hK K
            repeat (first | (refine wpSeg_q (v := ?_) rfl rfl ?_ ?_; rotate_left; (· intro wq hSq; have cq := hSq.cells; go_simp; try (with_reducible rfl)); simp only [Act.put, List.setIfInBounds_toArray, List.set_cons_zero, List.set_cons_succ, List.getElem_toArray, List.getElem_cons_zero, List.getElem_cons_succ]) | (refine wpSeg_u rfl rfl ?_; simp only [Act.put, List.setIfInBounds_toArray, List.set_cons_zero, List.set_cons_succ, List.getElem_toArray, List.getElem_cons_zero, List.getElem_cons_succ]))
            refine wpSeg_end (by kernel_rfl) ?_
            go_wp2_with fail
            go_meet
            refine ⟨_, _, rfl, rfl, rfl, by omega, by omega, fun j => ?_, fun j => ?_, ?_⟩
            · rcases j with _ | _ | j <;> go_simp
            · rcases j with _ | _ | _ | _ | _ | j <;> go_simp
            · repeat (first | with_reducible assumption | with_reducible exact Ext.refl _ | with_reducible refine Ext.drew ?_ | with_reducible refine Ext.alloc ?_ _ | ((with_reducible refine Ext.setCell ?_ ?_ _); rotate_left; (· first | exact Nat.le_refl _ | (simp; done) | omega | (simp; omega))))
          refine wpAnyL_cons rfl rfl (fun K hK => ?_) ?_
          · skip
            go_simp
            refine hK _ _ (by repeat (first | with_reducible assumption | with_reducible exact Ext.refl _ | with_reducible refine Ext.drew ?_ | with_reducible refine Ext.alloc ?_ _ | ((with_reducible refine Ext.setCell ?_ ?_ _); rotate_left; (· first | exact Nat.le_refl _ | (simp; done) | omega | (simp; omega))))) (fun hX15 => ?_)
            clear hK K
            refine wpAnyH_seg [(false, 5), (true, 6), (true, 7), (true, 8), (true, 9), (false, 12), (false, 13), (true, 14)] 0 _ #[true, true, true, true, true, true, true, true, true, true, true, true, true, true, true] _ (by kernel_rfl) (by kernel_rfl) (by kernel_rfl) (by repeat (first | with_reducible assumption | with_reducible exact Ext.refl _ | with_reducible refine Ext.drew ?_ | with_reducible refine Ext.alloc ?_ _ | ((with_reducible refine Ext.setCell ?_ ?_ _); rotate_left; (· first | exact Nat.le_refl _ | (simp; done) | omega | (simp; omega))))) ?_
            refine wpSeg_s rfl rfl (fun K hK => ?_)
            go_simp
            refine (rnext_any _ _ _ _ hn hx).mono ?_
            rintro e w4 ⟨rfl, h4⟩
            have k4 := h4.cells
            have f4 := h4.froz
            have z4 := h4.size
            simp only [World.size_alloc, World.size_drew] at k4 f4 z4
            try (have q5 : w3.heap.size + 1 < w4.heap.size := by omega)
            try (have q6 : w3.heap.size + 1 + 1 < w4.heap.size := by omega)
            try (have q7 : ¬ w3.heap.size + 1 = w4.heap.size := by omega)
            try (have q8 : ¬ w3.heap.size + 1 + 1 = w4.heap.size := by omega)
            refine hK _ _ (by refine Ext.trans ?_ h4; repeat (first | with_reducible assumption | with_reducible exact Ext.refl _ | with_reducible refine Ext.drew ?_ | with_reducible refine Ext.alloc ?_ _ | ((with_reducible refine Ext.setCell ?_ ?_ _); rotate_left; (· first | exact Nat.le_refl _ | (simp; done) | omega | (simp; omega))))) (fun hX16 => ?_)
            clear hK K
            repeat (first | (refine wpSeg_q (v := ?_) rfl rfl ?_ ?_; rotate_left; (· intro wq hSq; have cq := hSq.cells; go_simp; try (with_reducible rfl)); simp only [Act.put, List.setIfInBounds_toArray, List.set_cons_zero, List.set_cons_succ, List.getElem_toArray, List.getElem_cons_zero, List.getElem_cons_succ]) | (refine wpSeg_u rfl rfl ?_; simp only [Act.put, List.setIfInBounds_toArray, List.set_cons_zero, List.set_cons_succ, List.getElem_toArray, List.getElem_cons_zero, List.getElem_cons_succ]))
            refine wpSeg_s rfl rfl (fun K hK => ?_)
            go_simp
            refine hK _ _ (by repeat (first | with_reducible assumption | with_reducible exact Ext.refl _ | with_reducible refine Ext.drew ?_ | with_reducible refine Ext.alloc ?_ _ | ((with_reducible refine Ext.setCell ?_ ?_ _); rotate_left; (· first | exact Nat.le_refl _ | (simp; done) | omega | (simp; omega))))) (fun hX17 => ?_)
            clear hK K
            refine wpSeg_s rfl rfl (fun K hK => ?_)
            go_simp
            refine hK _ _ (by repeat (first | with_reducible assumption | with_reducible exact Ext.refl _ | with_reducible refine Ext.drew ?_ | with_reducible refine Ext.alloc ?_ _ | ((with_reducible refine Ext.setCell ?_ ?_ _); rotate_left; (· first | exact Nat.le_refl _ | (simp; done) | omega | (simp; omega))))) (fun hX18 => ?_)
            clear hK K
            repeat (first | (refine wpSeg_q (v := ?_) rfl rfl ?_ ?_; rotate_left; (· intro wq hSq; have cq := hSq.cells; go_simp; try (with_reducible rfl)); simp only [Act.put, List.setIfInBounds_toArray, List.set_cons_zero, List.set_cons_succ, List.getElem_toArray, List.getElem_cons_zero, List.getElem_cons_succ]) | (refine wpSeg_u rfl rfl ?_; simp only [Act.put, List.setIfInBounds_toArray, List.set_cons_zero, List.set_cons_succ, List.getElem_toArray, List.getElem_cons_zero, List.getElem_cons_succ]))
            refine wpSeg_end (by kernel_rfl) ?_
            go_wp2_with fail
            go_meet
            refine ⟨_, _, rfl, rfl, rfl, by omega, by omega, fun j => ?_, fun j => ?_, ?_⟩
            · rcases j with _ | _ | j <;> go_simp
            · rcases j with _ | _ | _ | _ | _ | j <;> go_simp
            · repeat (first | with_reducible assumption | with_reducible exact Ext.refl _ | with_reducible refine Ext.drew ?_ | with_reducible refine Ext.alloc ?_ _ | ((with_reducible refine Ext.setCell ?_ ?_ _); rotate_left; (· first | exact Nat.le_refl _ | (simp; done) | omega | (simp; omega))))
          exact wpAnyL_nil
        refine wpAnyL_cons rfl rfl (fun K hK => ?_) ?_
        · skip
          go_simp
          refine hK _ _ (by repeat (first | with_reducible assumption | with_reducible exact Ext.refl _ | with_reducible refine Ext.drew ?_ | with_reducible refine Ext.alloc ?_ _ | ((with_reducible refine Ext.setCell ?_ ?_ _); rotate_left; (· first | exact Nat.le_refl _ | (simp; done) | omega | (simp; omega))))) (fun hX19 => ?_)
          clear hK K
          refine wpAnyH_seg [] 9 _ #[true, true, true, true, true, false, false, false, false, false, false, true, false, false, false] _ (by kernel_rfl) (by kernel_rfl) (by kernel_rfl) (by repeat (first | with_reducible assumption | with_reducible exact Ext.refl _ | with_reducible refine Ext.drew ?_ | with_reducible refine Ext.alloc ?_ _ | ((with_reducible refine Ext.setCell ?_ ?_ _); rotate_left; (· first | exact Nat.le_refl _ | (simp; done) | omega | (simp; omega))))) ?_
          refine wpSeg_nil ?_
          refine wpAnyH_many [5, 10] (by kernel_rfl) rfl ?_
          refine wpAnyL_cons rfl rfl (fun K hK => ?_) ?_
          · skip
            go_simp
            refine (rnext_any _ _ _ _ hn hx).mono ?_
            rintro e w4 ⟨rfl, h4⟩
            have k4 := h4.cells
            have f4 := h4.froz
            have z4 := h4.size
            simp only [World.size_alloc, World.size_drew] at k4 f4 z4
            try (have q5 : w3.heap.size + 1 < w4.heap.size := by omega)
            try (have q6 : w3.heap.size + 1 + 1 < w4.heap.size := by omega)
            try (have q7 : ¬ w3.heap.size + 1 = w4.heap.size := by omega)
            try (have q8 : ¬ w3.heap.size + 1 + 1 = w4.heap.size := by omega)
            refine hK _ _ (by refine Ext.trans ?_ h4; repeat (first | with_reducible assumption | with_reducible exact Ext.refl _ | with_reducible refine Ext.drew ?_ | with_reducible refine Ext.alloc ?_ _ | ((with_reducible refine Ext.setCell ?_ ?_ _); rotate_left; (· first | exact Nat.le_refl _ | (simp; done) | omega | (simp; omega))))) (fun hX20 => ?_)
            clear hK K
            refine wpAnyH_seg [(true, 6), (true, 7), (true, 8), (true, 9), (false, 10), (false, 12), (false, 13), (true, 14)] 0 _ #[true, true, true, true, true, true, true, true, true, true, true, true, true, true, true] _ (by kernel_rfl) (by kernel_rfl) (by kernel_rfl) (by repeat (first | with_reducible assumption | with_reducible exact Ext.refl _ | with_reducible refine Ext.drew ?_ | with_reducible refine Ext.alloc ?_ _ | ((with_reducible refine Ext.setCell ?_ ?_ _); rotate_left; (· first | exact Nat.le_refl _ | (simp; done) | omega | (simp; omega))))) ?_
            repeat (first | (refine wpSeg_q (v := ?_) rfl rfl ?_ ?_; rotate_left; (· intro wq hSq; have cq := hSq.cells; go_simp; try (with_reducible rfl)); simp only [Act.put, List.setIfInBounds_toArray, List.set_cons_zero, List.set_cons_succ, List.getElem_toArray, List.getElem_cons_zero, List.getElem_cons_succ]) | (refine wpSeg_u rfl rfl ?_; simp only [Act.put, List.setIfInBounds_toArray, List.set_cons_zero, List.set_cons_succ, List.getElem_toArray, List.getElem_cons_zero, List.getElem_cons_succ]))
            refine wpSeg_s rfl rfl (fun K hK => ?_)
            go_simp
            refine hK _ _ (by repeat (first | with_reducible assumption | with_reducible exact Ext.refl _ | with_reducible refine Ext.drew ?_ | with_reducible refine Ext.alloc ?_ _ | ((with_reducible refine Ext.setCell ?_ ?_ _); rotate_left; (· first | exact Nat.le_refl _ | (simp; done) | omega | (simp; omega))))) (fun hX21 => ?_)
            clear hK K
            refine wpSeg_s rfl rfl (fun K hK => ?_)
            go_simp
            refine hK _ _ (by repeat (first | with_reducible assumption | with_reducible exact Ext.refl _ | with_reducible refine Ext.drew ?_ | with_reducible refine Ext.alloc ?_ _ | ((with_reducible refine Ext.setCell ?_ ?_ _); rotate_left; (· first | exact Nat.le_refl _ | (simp; done) | omega | (simp; omega))))) (fun hX22 => ?_)
            clear hK K
            refine wpSeg_s rfl rfl (fun K hK => ?_)
            go_simp
            refine hK _ _ (by repeat (first | with_reducible assumption | with_reducible exact Ext.refl _ | with_reducible refine Ext.drew ?_ | with_reducible refine Ext.alloc ?_ _ | ((with_reducible refine Ext.setCell ?_ ?_ _); rotate_left; (· first | exact Nat.le_refl _ | (simp; done) | omega | (simp; omega))))) (fun hX23 => ?_)
            clear hK K
            repeat (first | (refine wpSeg_q (v := ?_) rfl rfl ?_ ?_; rotate_left; (· intro wq hSq; have cq := hSq.cells; go_simp; try (with_reducible rfl)); simp only [Act.put, List.setIfInBounds_toArray, List.set_cons_zero, List.set_cons_succ, List.getElem_toArray, List.getElem_cons_zero, List.getElem_cons_succ]) | (refine wpSeg_u rfl rfl ?_; simp only [Act.put, List.setIfInBounds_toArray, List.set_cons_zero, List.set_cons_succ, List.getElem_toArray, List.getElem_cons_zero, List.getElem_cons_succ]))
            refine wpSeg_end (by kernel_rfl) ?_
            go_wp2_with fail
            go_meet
            refine ⟨_, _, rfl, rfl, rfl, by omega, by omega, fun j => ?_, fun j => ?_, ?_⟩
            · rcases j with _ | _ | j <;> go_simp
            · rcases j with _ | _ | _ | _ | _ | j <;> go_simp
            · repeat (first | with_reducible assumption | with_reducible exact Ext.refl _ | with_reducible refine Ext.drew ?_ | with_reducible refine Ext.alloc ?_ _ | ((with_reducible refine Ext.setCell ?_ ?_ _); rotate_left; (· first | exact Nat.le_refl _ | (simp; done) | omega | (simp; omega))))
          refine wpAnyL_cons rfl rfl (fun K hK => ?_) ?_
          · skip
            go_simp
            refine hK _ _ (by repeat (first | with_reducible assumption | with_reducible exact Ext.refl _ | with_reducible refine Ext.drew ?_ | with_reducible refine Ext.alloc ?_ _ | ((with_reducible refine Ext.setCell ?_ ?_ _); rotate_left; (· first | exact Nat.le_refl _ | (simp; done) | omega | (simp; omega))))) (fun hX24 => ?_)
            clear hK K
            refine wpAnyH_seg [(false, 5), (true, 6), (true, 7), (true, 8), (true, 9), (false, 12), (false, 13), (true, 14)] 0 _ #[true, true, true, true, true, true, true, true, true, true, true, true, true, true, true] _ (by kernel_rfl) (by kernel_rfl) (by kernel_rfl) (by repeat (first | with_reducible assumption | with_reducible exact Ext.refl _ | with_reducible refine Ext.drew ?_ | with_reducible refine Ext.alloc ?_ _ | ((with_reducible refine Ext.setCell ?_ ?_ _); rotate_left; (· first | exact Nat.le_refl _ | (simp; done) | omega | (simp; omega))))) ?_
            refine wpSeg_s rfl rfl (fun K hK => ?_)
            go_simp
            refine (rnext_any _ _ _ _ hn hx).mono ?_
            rintro e w4 ⟨rfl, h4⟩
            have k4 := h4.cells
            have f4 := h4.froz
            have z4 := h4.size
            simp only [World.size_alloc, World.size_drew] at k4 f4 z4
            try (have q5 : w3.heap.size + 1 < w4.heap.size := by omega)
            try (have q6 : w3.heap.size + 1 + 1 < w4.heap.size := by omega)
            try (have q7 : ¬ w3.heap.size + 1 = w4.heap.size := by omega)
            try (have q8 : ¬ w3.heap.size + 1 + 1 = w4.heap.size := by omega)
            refine hK _ _ (by refine Ext.trans ?_ h4; repeat (first | with_reducible assumption | with_reducible exact Ext.refl _ | with_reducible refine Ext.drew ?_ | with_reducible refine Ext.alloc ?_ _ | ((with_reducible refine Ext.setCell ?_ ?_ _); rotate_left; (· first | exact Nat.le_refl _ | (simp; done) | omega | (simp; omega))))) (fun hX25 => ?_)
            clear hK K
            repeat (first | (refine wpSeg_q (v := ?_) rfl rfl ?_ ?_; rotate_left; (· intro wq hSq; have cq := hSq.cells; go_simp; try (with_reducible rfl)); simp only [Act.put, List.setIfInBounds_toArray, List.set_cons_zero, List.set_cons_succ, List.getElem_toArray, List.getElem_cons_zero, List.getElem_cons_succ]) | (refine wpSeg_u rfl rfl ?_; simp only [Act.put, List.setIfInBounds_toArray, List.set_cons_zero, List.set_cons_succ, List.getElem_toArray, List.getElem_cons_zero, List.getElem_cons_succ]))
            refine wpSeg_s rfl rfl (fun K hK => ?_)
            go_simp
            refine hK _ _ (by repeat (first | with_reducible assumption | with_reducible exact Ext.refl _ | with_reducible refine Ext.drew ?_ | with_reducible refine Ext.alloc ?_ _ | ((with_reducible refine Ext.setCell ?_ ?_ _); rotate_left; (· first | exact Nat.le_refl _ | (simp; done) | omega | (simp; omega))))) (fun hX26 => ?_)
            clear hK K
            refine wpSeg_s rfl rfl (fun K hK => ?_)
            go_simp
            refine hK _ _ (by repeat (first | with_reducible assumption | with_reducible exact Ext.refl _ | with_reducible refine Ext.drew ?_ | with_reducible refine Ext.alloc ?_ _ | ((with_reducible refine Ext.setCell ?_ ?_ _); rotate_left; (· first | exact Nat.le_refl _ | (simp; done) | omega | (simp; omega))))) (fun hX27 => ?_)
            clear hK K
            repeat (first | (refine wpSeg_q (v := ?_) rfl rfl ?_ ?_; rotate_left; (· intro wq hSq; have cq := hSq.cells; go_simp; try (with_reducible rfl)); simp only [Act.put, List.setIfInBounds_toArray, List.set_cons_zero, List.set_cons_succ, List.getElem_toArray, List.getElem_cons_zero, List.getElem_cons_succ]) | (refine wpSeg_u rfl rfl ?_; simp only [Act.put, List.setIfInBounds_toArray, List.set_cons_zero, List.set_cons_succ, List.getElem_toArray, List.getElem_cons_zero, List.getElem_cons_succ]))
            refine wpSeg_end (by kernel_rfl) ?_
            go_wp2_with fail
            go_meet
            refine ⟨_, _, rfl, rfl, rfl, by omega, by omega, fun j => ?_, fun j => ?_, ?_⟩
            · rcases j with _ | _ | j <;> go_simp
            · rcases j with _ | _ | _ | _ | _ | j <;> go_simp
            · repeat (first | with_reducible assumption | with_reducible exact Ext.refl _ | with_reducible refine Ext.drew ?_ | with_reducible refine Ext.alloc ?_ _ | ((with_reducible refine Ext.setCell ?_ ?_ _); rotate_left; (· first | exact Nat.le_refl _ | (simp; done) | omega | (simp; omega))))
          exact wpAnyL_nil
        exact wpAnyL_nil
      case rest =>
        obtain ⟨g12, g13, rfl, rfl, rfl, y12, y13, c12, c13, hEx⟩ := hcut
        have hBx := blk_ext HBt.out hEx
        have cx := blk_cell hBx
        have fx := blk_free hBx
        have hBs := blk_ext (blk_alloc HB3.out (.cells #[.int .i64 (nxK t), .int .i64 0, .string (nxS n x t), .slice none 0 0, .slice none 0 0] 25)) hEx
        have cv := hEx.ownc
        have n12 : ¬ w2.heap.size = g12 := by omega
        have n13 : ¬ w2.heap.size = g13 := by omega
        have nv : ¬ w2.heap.size = w3.heap.size := by omega
        have ns : w.heap.size ≠ w2.heap.size := by omega
        have HBx := Lib.hid hBx
        have HBs := Lib.hid hBs
        have HN := Lib.hid (nxC_bd x t k hx0 hx1)
        clear hBx hBs ct ft hl3
        go_wp2_with fail
        refine (same_refl _ _ _ _).mono ?_
        rintro e w5 ⟨rfl, h5⟩
        go_wp2_with fail
        refine ⟨⟨k + 1, nxC x t, by omega, by go_num, HN.out.1, by have := HN.out.2; omega, blk_ext (blk_far (blk_far HBs.out ns _) ns _) h5, blk_ext (blk_set2 HBx.out _ _) h5, ?_⟩, by simp [intOf]; omega⟩
        refine Ext.trans ?_ h5
        have hE6 : Ext w wc := hE3.trans hEx.of_alloc
        clear h5
        exact (hE6.setCell (by simp; omega) _).setCell (by simp; omega) _
    · go_wp2_with fail
      refine (awake_ok _).mono ?_
      rintro e w5 ⟨rfl, h5⟩
      go_wp2_with fail
      go_ret
      exact ⟨rfl, hE.trans h5⟩
end Go.Proofs.YtmgdgbnbikgmkaaDoor
