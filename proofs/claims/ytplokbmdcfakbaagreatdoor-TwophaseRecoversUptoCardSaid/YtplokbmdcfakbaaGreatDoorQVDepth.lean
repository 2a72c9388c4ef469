/- value.depth. -/
import Derived.Test.YtplokbmdcfakbaaGreatDoorQVNodes2
set_option linter.unusedSimpArgs false
set_option linter.unusedVariables false
namespace Go.Proofs.YtplokbmdcfakbaaGreatDoor
open Go.RowKit
/-- what depth returns -/
def DepthOk (t : Tr) : Prop := ∀ (v : Value) (w : World) (most : Int), VRep w t v → 1 ≤ most → most ≤ 100000 →
  Calls Tryz.prog 69 #[v, .int .i64 most] w fun e w' => e = .returned (.int .i64 (min (t.dep : Int) most)) ∧ Ext w w'
set_option maxHeartbeats 1000000 in
theorem depthC_ok (g gm : Nat) (most : Int) (h1 : 2 ≤ most) (h2 : most ≤ 100000) (hne : gm ≠ g) (t : Tr) (ht : DepthOk t) :
    CloOk 96 g gm most (fun x t => max x (min (t.dep : Int) (most - 1))) (fun y => decide (y < most - 1)) (fun x => decide (0 ≤ x) && decide (x < most - 1)) t := by
  intro v W x hV hp hB hM
  have hp' : 0 ≤ x ∧ x < most - 1 := by simpa using hp
  clear hp
  obtain ⟨k, i, s, la, ln, lc, da, dn, dc, rfl⟩ := hV.shape
  have HV := Lib.hid hV
  have HT := Lib.hid ht
  have lg := blk_lt hB
  have lm := blk_lt hM
  have cg := blk_cell hB
  have fg := blk_free hB
  have cm := blk_cell hM
  have HB := Lib.hid hB
  have HM := Lib.hid hM
  clear hV ht hB hM
  obtain ⟨m, hm⟩ : ∃ m : Int, min (t.dep : Int) (most - 1) = m := ⟨_, rfl⟩
  have hmb : 1 ≤ m ∧ m ≤ most - 1 := by rw [← hm]; have := t.dep_pos; omega
  have HMM := Lib.hid hm
  clear hm
  have w1 := wrap_i64_val (most - 1) (by omega) (by omega)
  go_enter Tryz.func96, Tryz.ntmps96
  go_wp2_with fail
  refine wp_region_mixz (Ext (W.alloc (.cells #[.int .i64 k, .int .i64 i, .string s, .slice la ln lc, .slice da dn dc] 29))) 6 [(true, 0), (true, 1), (true, 2), (true, 3), (false, 4), (true, 5), (false, 6)] (by kernel_rfl) (by kernel_rfl) (by kernel_rfl) (by kernel_rfl) (by kernel_rfl) (by kernel_rfl) ?hS ?_
  case hS => exact (Ext.refl _).drew
  have y1 : g < W.heap.size + 1 := by omega
  have y2 : gm < W.heap.size + 1 := by omega
  repeat (first | (refine wpMixZ_q (v := ?_) rfl rfl ?_ ?_; rotate_left; (· intro wq hSq; have cq := hSq.cells; go_simp; try (with_reducible rfl)); simp only [Act.put, List.setIfInBounds_toArray, List.set_cons_zero, List.set_cons_succ, List.getElem_toArray, List.getElem_cons_zero, List.getElem_cons_succ]) | (refine wpMixZ_u rfl rfl ?_; simp only [Act.put, List.setIfInBounds_toArray, List.set_cons_zero, List.set_cons_succ, List.getElem_toArray, List.getElem_cons_zero, List.getElem_cons_succ]))
  refine wpMixZ_l rfl rfl (fun K hK => ?_)
  go_simp
  refine (HT.out _ _ _ (VRep.ext (((Ext.refl W).alloc _).drew) _ _ HV.out) (by omega) (by omega)).mono ?_
  rintro e w3 ⟨rfl, h3⟩
  rw [HMM.out]
  refine hK _ _ ((Ext.refl _).drew.trans h3) ?_
  clear hK K
  repeat (first | (refine wpMixZ_q (v := ?_) rfl rfl ?_ ?_; rotate_left; (· intro wq hSq; have cq := hSq.cells; go_simp; try (with_reducible rfl)); simp only [Act.put, List.setIfInBounds_toArray, List.set_cons_zero, List.set_cons_succ, List.getElem_toArray, List.getElem_cons_zero, List.getElem_cons_succ]) | (refine wpMixZ_u rfl rfl ?_; simp only [Act.put, List.setIfInBounds_toArray, List.set_cons_zero, List.set_cons_succ, List.getElem_toArray, List.getElem_cons_zero, List.getElem_cons_succ]))
  refine wpMixZ_z rfl rfl (fun K hK => ?_)
  have hE3 : Ext W w3 := ((Ext.refl W).alloc _).drew.trans h3
  have cg3 := blk_cell (blk_ext HB.out hE3)
  have fg3 := blk_free (blk_ext HB.out hE3)
  have cm3 := blk_cell (blk_ext HM.out hE3)
  go_simp
  refine hK _ _ ?_
  clear hK K
  refine wpMixZ_nil ?_
  have hgm : ¬ g = gm := fun h => hne h.symm
  have hb3 := fun y => blk_set (blk_ext HB.out hE3) 0 (.int .i64 y)
  have HB3 := Lib.hid hb3
  clear hb3
  go_wp2_with fail
  · have e1 : max x m = m := by omega
    go_ret
    refine ⟨?_, ?_, ?_⟩
    · have e := HMM.out
      simp only [e, e1]
      rfl
    · show _ = some (Obj.cells #[.int .i64 (max x (min (t.dep : Int) (most - 1)))] _ _)
      have e := HMM.out
      simp only [e, e1]; exact HB3.out m
    · exact only_setCell (hE3.only _) (.inl rfl) _
  · have e1 : max x m = x := by omega
    go_ret
    refine ⟨?_, ?_, ?_⟩
    · have e := HMM.out
      have e2 : x < most - 1 := hp'.2
      simp only [e, e1, e2, decide_true]
      rfl
    · show _ = some (Obj.cells #[.int .i64 (max x (min (t.dep : Int) (most - 1)))] _ _)
      have e := HMM.out
      simp only [e, e1]; exact HB3.out x
    · exact only_setCell (hE3.only _) (.inl rfl) _
theorem depthC_cf (a : Array Value) (W : World) : (callFunc 96 a).run Tryz.prog W = .ok (.enter 96 a) W := by kernel_rfl
set_option maxHeartbeats 1000000 in
theorem depth_step (t : Tr) (ih : ∀ p ∈ t.parts, DepthOk p) : DepthOk t := by
  intro v w most hV h1 h2
  obtain ⟨k, i, s, la, ln, lc, da, dn, dc, rfl⟩ := hV.shape
  have HV := Lib.hid hV
  have HI := Lib.hid ih
  clear hV ih
  by_cases hm : most = 1
  · subst hm
    have e1 : min (t.dep : Int) 1 = 1 := by have := t.dep_pos; omega
    rw [e1]
    clear HV HI e1
    go_enter Tryz.func69, Tryz.ntmps69
    go_wp2_with fail
    go_ret
    exact ⟨rfl, by repeat (first | with_reducible assumption | with_reducible exact Ext.refl _ | with_reducible refine Ext.drew ?_ | with_reducible refine Ext.alloc ?_ _ | ((with_reducible refine Ext.setCell ?_ ?_ _); rotate_left; (· first | exact Nat.le_refl _ | (simp; done) | omega | (simp; omega))))⟩
  · have d1 : (most == (1 : Int)) = false := by simpa using hm
    obtain ⟨r, hr⟩ : ∃ r : Int, min (t.dep : Int) most - 1 = r := ⟨_, rfl⟩
    have hr0 : 0 ≤ r ∧ r < 100000 := by have := t.dep_pos; omega
    have hr2 : min (t.dep : Int) most = 1 + r := by omega
    rw [hr2]
    have w1 := wrap_i64_val (1 + r) (by omega) (by omega)
    have HR := Lib.hid hr
    clear hr hr2
    go_enter Tryz.func69, Tryz.ntmps69
    go_wp2_with fail
    refine (each_ok 96 (w.heap.size + 1 + 1) (w.heap.size + 1) depthC_cf most (fun x t => max x (min (t.dep : Int) (most - 1))) (fun y => decide (y < most - 1)) (fun x => decide (0 ≤ x) && decide (x < most - 1))
      (fun x u h1 h2 => by have := u.dep_pos; simp at h1 h2 ⊢; omega) t (fun p hp => depthC_ok _ _ most (by omega) h2 (by omega) p (HI.out p hp)) _ w _ 0 HV.out
      (by repeat (first | with_reducible assumption | with_reducible exact Ext.refl _ | with_reducible refine Ext.drew ?_ | with_reducible refine Ext.alloc ?_ _ | ((with_reducible refine Ext.setCell ?_ ?_ _); rotate_left; (· first | exact Nat.le_refl _ | (simp; done) | omega | (simp; omega))))) (by omega) (by omega) (by simp; omega) (blk_at2 _ _ _ _) (blk_alloc (blk_at1 _ _ _) _)).mono ?_
    rintro e w1 ⟨rfl, hB, g1⟩
    have hE : Ext w w1 := (((Ext.refl w).alloc _).alloc _).alloc _ |>.of_only g1 (by omega)
    rw [each_depth most _ 0 (by omega) (by omega)] at hB
    have hB2 : w1.heap[w.heap.size + 1 + 1]? = some (.cells #[.int .i64 r] 3 (0, 0)) := by
      have e := HR.out
      rw [t.dep_eq] at e
      have e2 : min (max 0 (Tr.depL t.parts : Int)) (most - 1) = r := by omega
      rw [hB, e2]
    clear hB
    have c1 := blk_cell hB2
    clear hB2
    go_wp2_with fail
    go_ret
    exact ⟨rfl, hE⟩
theorem depth_ok (t : Tr) : DepthOk t := by
  have : ∀ n (t : Tr), t.sz = n → DepthOk t := by
    intro n
    induction n using Nat.strongRecOn with
    | _ n ih =>
      intro t ht
      exact depth_step t (fun p hp => ih p.sz (by rw [← ht]; exact Tr.sz_parts hp) p rfl)
  exact this _ t rfl
set_option maxHeartbeats 1000000 in
theorem Nodes_ok (t : Tr) (v : Value) (w : World) (hV : VRep w t v) : Calls Tryz.prog 50 #[v] w fun e w' => e = .returned (.int .i64 (min (t.cnt : Int) 1025)) ∧ Ext w w' := by
  obtain ⟨k, i, s, la, ln, lc, da, dn, dc, rfl⟩ := hV.shape
  have HV := Lib.hid hV
  clear hV
  go_enter Tryz.func50, Tryz.ntmps50
  go_wp2_with fail
  refine (nodes_ok t _ _ _ (VRep.ext ((Ext.refl w).alloc _) _ _ HV.out) (by omega) (by omega)).mono ?_
  rintro e w1 ⟨rfl, h1⟩
  go_wp2_with fail
  go_ret
  exact ⟨rfl, h1.of_alloc⟩
set_option maxHeartbeats 1000000 in
theorem Depth_ok (t : Tr) (v : Value) (w : World) (hV : VRep w t v) : Calls Tryz.prog 51 #[v] w fun e w' => e = .returned (.int .i64 (min (t.dep : Int) 17)) ∧ Ext w w' := by
  obtain ⟨k, i, s, la, ln, lc, da, dn, dc, rfl⟩ := hV.shape
  have HV := Lib.hid hV
  clear hV
  go_enter Tryz.func51, Tryz.ntmps51
  go_wp2_with fail
  refine (depth_ok t _ _ _ (VRep.ext ((Ext.refl w).alloc _) _ _ HV.out) (by omega) (by omega)).mono ?_
  rintro e w1 ⟨rfl, h1⟩
  go_wp2_with fail
  go_ret
  exact ⟨rfl, h1.of_alloc⟩
end Go.Proofs.YtplokbmdcfakbaaGreatDoor
