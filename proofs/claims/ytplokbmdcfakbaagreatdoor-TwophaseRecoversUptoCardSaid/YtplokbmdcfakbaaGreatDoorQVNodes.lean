/- value.nodes and value.depth. -/
import Derived.Test.YtplokbmdcfakbaaGreatDoorQVEach
import Derived.Test.YtplokbmdcfakbaaGreatDoorQV2
set_option linter.unusedSimpArgs false
set_option linter.unusedVariables false
namespace Go.Proofs.YtplokbmdcfakbaaGreatDoor
open Go.RowKit
theorem wrap_i64_val (x : Int) (h0 : -9223372036854775808 ≤ x) (h1 : x < 9223372036854775808) : IntKind.i64.wrap x = x := by
  rw [IntKind.wrap_i64]; omega
/-- what nodes returns -/
def NodesOk (t : Tr) : Prop := ∀ (v : Value) (w : World) (most : Int), VRep w t v → 1 ≤ most → most ≤ 100000 →
  Calls Tryz.prog 68 #[v, .int .i64 most] w fun e w' => e = .returned (.int .i64 (min (t.cnt : Int) most)) ∧ Ext w w'
set_option maxHeartbeats 1000000 in
theorem nodesC_ok (g gm : Nat) (most : Int) (h1 : 1 ≤ most) (h2 : most ≤ 100000) (hne : gm ≠ g) (t : Tr) (ht : NodesOk t) :
    CloOk 95 g gm most (fun x t => x + min (t.cnt : Int) (most - x)) (fun y => decide (y < most)) (fun x => decide (1 ≤ x) && decide (x < most)) t := by
  intro v W x hV hp hB hM
  have hp' : 1 ≤ x ∧ x < most := by simpa using hp
  clear hp
  obtain ⟨k, i, s, la, ln, lc, da, dn, dc, rfl⟩ := hV.shape
  have HV := Lib.hid hV
  have HT := Lib.hid ht
  have lg := blk_lt hB
  have lm := blk_lt hM
  have cg := blk_cell hB
  have fg := blk_free hB
  have cm := blk_cell hM
  have HB := Lib.hid hB
  have HM := Lib.hid hM
  clear hV ht hB hM
  obtain ⟨m, hm⟩ : ∃ m : Int, min (t.cnt : Int) (most - x) = m := ⟨_, rfl⟩
  have hmb : 1 ≤ m ∧ m ≤ most - x := by rw [← hm]; have := t.cnt_pos; omega
  have HMM := Lib.hid hm
  clear hm
  have w1 := wrap_i64_val (most - x) (by omega) (by omega)
  have w2 := wrap_i64_val (x + m) (by omega) (by omega)
  go_enter Tryz.func95, Tryz.ntmps95
  go_wp2_with fail
  refine wp_region_mixz (Ext (W.alloc (.cells #[.int .i64 k, .int .i64 i, .string s, .slice la ln lc, .slice da dn dc] 29))) 7 [(true, 0), (true, 1), (true, 2), (true, 3), (true, 4), (false, 5), (true, 6), (false, 7)] (by kernel_rfl) (by kernel_rfl) (by kernel_rfl) (by kernel_rfl) (by kernel_rfl) (by kernel_rfl) ?hS ?_
  case hS => exact (Ext.refl _).drew
  have y1 : g < W.heap.size + 1 := by omega
  have y2 : gm < W.heap.size + 1 := by omega
  repeat (first | (refine wpMixZ_q (v := ?_) rfl rfl ?_ ?_; rotate_left; (· intro wq hSq; have cq := hSq.cells; go_simp; try (with_reducible rfl)); simp only [Act.put, List.setIfInBounds_toArray, List.set_cons_zero, List.set_cons_succ, List.getElem_toArray, List.getElem_cons_zero, List.getElem_cons_succ]) | (refine wpMixZ_u rfl rfl ?_; simp only [Act.put, List.setIfInBounds_toArray, List.set_cons_zero, List.set_cons_succ, List.getElem_toArray, List.getElem_cons_zero, List.getElem_cons_succ]))
  refine wpMixZ_l rfl rfl (fun K hK => ?_)
  go_simp
  refine (HT.out _ _ _ (VRep.ext (((Ext.refl W).alloc _).drew) _ _ HV.out) (by omega) (by omega)).mono ?_
  rintro e w3 ⟨rfl, h3⟩
  rw [HMM.out]
  refine hK _ _ ((Ext.refl _).drew.trans h3) ?_
  clear hK K
  repeat (first | (refine wpMixZ_q (v := ?_) rfl rfl ?_ ?_; rotate_left; (· intro wq hSq; have cq := hSq.cells; go_simp; try (with_reducible rfl)); simp only [Act.put, List.setIfInBounds_toArray, List.set_cons_zero, List.set_cons_succ, List.getElem_toArray, List.getElem_cons_zero, List.getElem_cons_succ]) | (refine wpMixZ_u rfl rfl ?_; simp only [Act.put, List.setIfInBounds_toArray, List.set_cons_zero, List.set_cons_succ, List.getElem_toArray, List.getElem_cons_zero, List.getElem_cons_succ]))
  refine wpMixZ_z rfl rfl (fun K hK => ?_)
  have hE3 : Ext W w3 := ((Ext.refl W).alloc _).drew.trans h3
  have cg3 := blk_cell (blk_ext HB.out hE3)
  have fg3 := blk_free (blk_ext HB.out hE3)
  have cm3 := blk_cell (blk_ext HM.out hE3)
  go_simp
  refine hK _ _ ?_
  clear hK K
  refine wpMixZ_nil ?_
  have hgm : ¬ g = gm := fun h => hne h.symm
  have hb3 := blk_set (blk_ext HB.out hE3) 0 (.int .i64 (x + m))
  have HB3 := Lib.hid hb3
  clear hb3
  go_wp2_with fail
  go_ret
  refine ⟨?_, ?_, ?_⟩
  · have e := HMM.out
    simp only [e]
    rfl
  · show _ = some (Obj.cells #[.int .i64 (x + min (t.cnt : Int) (most - x))] _ _)
    have e := HMM.out
    simp only [e]; exact HB3.out
  · exact only_setCell (hE3.only _) (.inl rfl) _
end Go.Proofs.YtplokbmdcfakbaaGreatDoor
