/- NewSource and Next. -/
import Derived.Test.YtmgdgbnbikgmkaaDoorW2
import Derived.Test.YtmgdgbnbikgmkaaDoorMix2
import Derived.Test.YtmgdgbnbikgmkaaDoorKit2
namespace Go.Proofs.YtmgdgbnbikgmkaaDoor
open Go.RowKit
set_option maxHeartbeats 400000 in
theorem newSource_ok (n : Int) (w : World) (hn : inR n = true) :
    Calls Tryd.prog 19 #[.int .i64 n] w fun e w' => e = .returned (.tuple #[.pointer (some ⟨w.heap.size, 0, none⟩), .int .i64 0]) ∧ w.alloc (.cells #[.int .i64 n, .int .i64 0] 70) = w' := by
  go_enter Tryd.func19, Tryd.ntmps19
  go_wp2_with (go_at_call 24; refine (inRange_any _ _).mono ?_; rintro e w' ⟨rfl, rfl⟩)
  go_ret2
  exact ⟨rfl, rfl⟩
set_option maxHeartbeats 400000 in
theorem newSource_no (n : Int) (w : World) (hn : inR n = false) :
    Calls Tryd.prog 19 #[.int .i64 n] w fun e w' => e = .returned (.tuple #[.pointer none, .int .i64 1]) ∧ w = w' := by
  go_enter Tryd.func19, Tryd.ntmps19
  go_wp2_with (go_at_call 24; refine (inRange_any _ _).mono ?_; rintro e w' ⟨rfl, rfl⟩)
  go_ret2
  exact ⟨rfl, rfl⟩
set_option maxHeartbeats 400000 in
theorem next_nil (t : Int) (w : World) :
    Calls Tryd.prog 21 #[.pointer none, .int .i64 t] w fun e w' => e = .returned (.tuple #[noVal, .int .i64 3]) ∧ Ext w w' := by
  go_enter Tryd.func21, Tryd.ntmps21
  go_wp2_with fail
  exact bodyPost_ret (v := .tuple #[noVal, .int .i64 3]) (by simp [results, Tryd.results21, go_sem, noVal]) rfl ⟨rfl, (Ext.refl w).alloc _⟩
set_option maxHeartbeats 1000000 in
theorem next_ok (g : Nat) (n c t : Int) (w : World) (hB : w.heap[g]? = some (.cells #[.int .i64 n, .int .i64 c] 70 (0, 0))) (hn : inR n = true) (hc : inR c = true) (ht : inR t = true) :
    Calls Tryd.prog 21 #[.pointer (some ⟨g, 0, none⟩), .int .i64 t] w fun e w' => e = .returned (.tuple #[idVal (idStr t n c), .int .i64 0]) ∧ w.grownBy w' (some g) ∧ w'.heap[g]? = some (.cells #[.int .i64 n, .int .i64 (c + 1)] 70 (0, 0)) := by
  have hg := blk_lt hB
  have hc0 := blk_cell hB
  have hf0 := blk_free hB
  have HB := Lib.hid hB
  clear hB
  have hcr := inR_true hc
  have hce : (c == 4294967296) = false := by simp; omega
  go_enter Tryd.func21, Tryd.ntmps21
  go_wp2_with (go_at_call 24; refine (inRange_any _ _).mono ?_; rintro e w' ⟨rfl, rfl⟩)
  refine wp_region_seg (Ext (w.alloc (.cells #[.int .i64 0, .int .i64 0, .string ⟨#[]⟩, .slice none 0 0, .slice none 0 0] 25))) [(true, 0), (true, 1), (true, 2), (true, 3), (true, 4), (true, 5), (true, 6), (true, 7), (true, 8)] 7 #[true, true, true, true, true, true, true, true, true, false, false, false, false, false, false, false] (by kernel_rfl) (by kernel_rfl) (by kernel_rfl) (by kernel_rfl) ?hS ?_
  case hS => exact (Ext.refl _).drew
  repeat (first | (refine wpSeg_q (v := ?_) rfl rfl ?_ ?_; rotate_left; (· intro wq hSq; have cq := hSq.cells; go_simp; try (with_reducible rfl)); simp only [Act.put, List.setIfInBounds_toArray, List.set_cons_zero, List.set_cons_succ, List.getElem_toArray, List.getElem_cons_zero, List.getElem_cons_succ]) | (refine wpSeg_u rfl rfl ?_; simp only [Act.put, List.setIfInBounds_toArray, List.set_cons_zero, List.set_cons_succ, List.getElem_toArray, List.getElem_cons_zero, List.getElem_cons_succ]))
  refine wpSeg_nil ?_
  refine wpAnyH_two 9 13 (by kernel_rfl) rfl rfl rfl rfl (fun K hK => ?_) (fun K hK => ?_)
  · go_simp
    refine (new_ok _ _ _ _ ht hn hc).mono ?_
    rintro e w2 ⟨rfl, h2⟩
    refine hK _ _ ((Ext.refl _).drew.trans h2) ?_
    clear hK K
    unfold idVal
    have hX := (Ext.refl _).drew.trans h2
    refine wpAnyH_seg [(true, 10), (true, 11), (true, 12), (false, 13), (false, 14), (true, 15)] 0 _ #[true, true, true, true, true, true, true, true, true, true, true, true, true, true, true, true] _ (by kernel_rfl) (by kernel_rfl) (by kernel_rfl) hX ?_
    (try simp only [Act.put, List.setIfInBounds_toArray, List.set_cons_zero, List.set_cons_succ, List.getElem_toArray, List.getElem_cons_zero, List.getElem_cons_succ])
    repeat (first | (refine wpSeg_q (v := ?_) rfl rfl ?_ ?_; rotate_left; (· intro wq hSq; have cq := hSq.cells; go_simp; try (with_reducible rfl)); simp only [Act.put, List.setIfInBounds_toArray, List.set_cons_zero, List.set_cons_succ, List.getElem_toArray, List.getElem_cons_zero, List.getElem_cons_succ]) | (refine wpSeg_u rfl rfl ?_; simp only [Act.put, List.setIfInBounds_toArray, List.set_cons_zero, List.set_cons_succ, List.getElem_toArray, List.getElem_cons_zero, List.getElem_cons_succ]))
    refine wpSeg_l rfl rfl (fun K hK => ?_)
    go_simp
    refine hK _ _ (hX.alloc _) ?_
    clear hK K
    refine wpSeg_l rfl rfl (fun K hK => ?_)
    go_simp
    refine hK _ _ (hX.alloc _) ?_
    clear hK K
    repeat (first | (refine wpSeg_q (v := ?_) rfl rfl ?_ ?_; rotate_left; (· intro wq hSq; have cq := hSq.cells; go_simp; try (with_reducible rfl)); simp only [Act.put, List.setIfInBounds_toArray, List.set_cons_zero, List.set_cons_succ, List.getElem_toArray, List.getElem_cons_zero, List.getElem_cons_succ]) | (refine wpSeg_u rfl rfl ?_; simp only [Act.put, List.setIfInBounds_toArray, List.set_cons_zero, List.set_cons_succ, List.getElem_toArray, List.getElem_cons_zero, List.getElem_cons_succ]))
    refine wpSeg_end (by kernel_rfl) ?_
    have hE := hX.of_alloc
    have kc := hX.cells
    have kf := hX.froz
    have ho := hX.ownc
    have hof := hX.ownf
    have hz := hX.lt
    have hg1 : g < w.heap.size + 1 := by omega
    have hg2 : g < w2.heap.size := by omega
    have hgn : ¬ g = w.heap.size := by omega
    go_wp2
    refine bodyPost_ret (v := .tuple #[idVal (idStr t n c), .int .i64 0]) (by simp only [results, Tryd.results21, idVal]; go_simp) rfl ⟨rfl, ?_, ?_⟩
    · exact only_alloc (only_setCell (only_setCell (only_setCell (only_setCell (only_setCell (only_setCell (hE.only _) (.inl rfl) _) (.inr (Nat.le_refl _)) _) (.inr (Nat.le_refl _)) _) (.inr (Nat.le_refl _)) _) (.inr (Nat.le_refl _)) _) (.inr (Nat.le_refl _)) _) _
    · exact blk_alloc (blk_far (blk_far (blk_far (blk_far (blk_far (blk_set (blk_ext HB.out hE) 1 _) hgn _) hgn _) hgn _) hgn _) hgn _) _
  · go_simp
    refine hK _ _ ((Ext.refl _).alloc _).drew ?_
    clear hK K
    have hX0 := ((Ext.refl (w.alloc (.cells #[.int .i64 0, .int .i64 0, .string ⟨#[]⟩, .slice none 0 0, .slice none 0 0] 25))).alloc (.cells #[.int .i64 0, .int .i64 0, .string ⟨#[]⟩, .slice none 0 0, .slice none 0 0] 25)).drew
    refine wpAnyH_seg [(false, 9), (true, 10), (true, 11), (true, 12), (false, 14), (true, 15)] 0 _ #[true, true, true, true, true, true, true, true, true, true, true, true, true, true, true, true] _ (by kernel_rfl) (by kernel_rfl) (by kernel_rfl) hX0 ?_
    (try simp only [Act.put, List.setIfInBounds_toArray, List.set_cons_zero, List.set_cons_succ, List.getElem_toArray, List.getElem_cons_zero, List.getElem_cons_succ])
    refine wpSeg_l rfl rfl (fun K hK => ?_)
    go_simp
    refine (new_ok _ _ _ _ ht hn hc).mono ?_
    rintro e w2 ⟨rfl, h2⟩
    refine hK _ _ (hX0.trans h2) ?_
    clear hK K
    unfold idVal
    have hX := hX0.trans h2
    have hX1 : Ext ((w.alloc (.cells #[.int .i64 0, .int .i64 0, .string ⟨#[]⟩, .slice none 0 0, .slice none 0 0] 25)).alloc (.cells #[.int .i64 0, .int .i64 0, .string ⟨#[]⟩, .slice none 0 0, .slice none 0 0] 25)) w2 := (Ext.refl _).drew.trans h2
    have ho1 := hX1.ownc
    have hof1 := hX1.ownf
    simp only [World.size_alloc] at ho1 hof1
    (try simp only [Act.put, List.setIfInBounds_toArray, List.set_cons_zero, List.set_cons_succ, List.getElem_toArray, List.getElem_cons_zero, List.getElem_cons_succ])
    repeat (first | (refine wpSeg_q (v := ?_) rfl rfl ?_ ?_; rotate_left; (· intro wq hSq; have cq := hSq.cells; go_simp; try (with_reducible rfl)); simp only [Act.put, List.setIfInBounds_toArray, List.set_cons_zero, List.set_cons_succ, List.getElem_toArray, List.getElem_cons_zero, List.getElem_cons_succ]) | (refine wpSeg_u rfl rfl ?_; simp only [Act.put, List.setIfInBounds_toArray, List.set_cons_zero, List.set_cons_succ, List.getElem_toArray, List.getElem_cons_zero, List.getElem_cons_succ]))
    refine wpSeg_l rfl rfl (fun K hK => ?_)
    go_simp
    refine hK _ _ (((((hX.setCell (by simp) _).setCell (by simp) _).setCell (by simp) _).setCell (by simp) _).setCell (by simp) _) ?_
    clear hK K
    repeat (first | (refine wpSeg_q (v := ?_) rfl rfl ?_ ?_; rotate_left; (· intro wq hSq; have cq := hSq.cells; go_simp; try (with_reducible rfl)); simp only [Act.put, List.setIfInBounds_toArray, List.set_cons_zero, List.set_cons_succ, List.getElem_toArray, List.getElem_cons_zero, List.getElem_cons_succ]) | (refine wpSeg_u rfl rfl ?_; simp only [Act.put, List.setIfInBounds_toArray, List.set_cons_zero, List.set_cons_succ, List.getElem_toArray, List.getElem_cons_zero, List.getElem_cons_succ]))
    refine wpSeg_end (by kernel_rfl) ?_
    have hE := hX.of_alloc
    have kc := hX.cells
    have kf := hX.froz
    have ho := hX.ownc
    have hof := hX.ownf
    have hz := hX.lt
    have hg1 : g < w.heap.size + 1 := by omega
    have hg2 : g < w2.heap.size := by omega
    have hgn : ¬ g = w.heap.size := by omega
    have hgn1 : ¬ g = w.heap.size + 1 := by omega
    go_wp2
    refine bodyPost_ret (v := .tuple #[idVal (idStr t n c), .int .i64 0]) (by simp only [results, Tryd.results21, idVal]; go_simp) rfl ⟨rfl, ?_, ?_⟩
    · exact only_setCell (only_setCell (only_setCell (only_setCell (only_setCell (only_setCell (only_setCell (only_setCell (only_setCell (only_setCell (only_setCell (hE.only _) (.inr (by simp)) _) (.inr (by simp)) _) (.inr (by simp)) _) (.inr (by simp)) _) (.inr (by simp)) _) (.inl rfl) _) (.inr (Nat.le_refl _)) _) (.inr (Nat.le_refl _)) _) (.inr (Nat.le_refl _)) _) (.inr (Nat.le_refl _)) _) (.inr (Nat.le_refl _)) _
    · exact blk_far (blk_far (blk_far (blk_far (blk_far (blk_set (blk_far (blk_far (blk_far (blk_far (blk_far (blk_ext HB.out hE) hgn1 _) hgn1 _) hgn1 _) hgn1 _) hgn1 _) 1 _) hgn _) hgn _) hgn _) hgn _) hgn _
set_option maxHeartbeats 400000 in
theorem next_arg (g : Nat) (t : Int) (w : World) (ht : inR t = false) :
    Calls Tryd.prog 21 #[.pointer (some ⟨g, 0, none⟩), .int .i64 t] w fun e w' => e = .returned (.tuple #[noVal, .int .i64 1]) ∧ Ext w w' := by
  go_enter Tryd.func21, Tryd.ntmps21
  go_wp2_with (go_at_call 24; refine (inRange_any _ _).mono ?_; rintro e w' ⟨rfl, rfl⟩)
  exact bodyPost_ret (v := .tuple #[noVal, .int .i64 1]) (by simp [results, Tryd.results21, go_sem, noVal]) rfl ⟨rfl, (Ext.refl w).alloc _⟩
end Go.Proofs.YtmgdgbnbikgmkaaDoor
