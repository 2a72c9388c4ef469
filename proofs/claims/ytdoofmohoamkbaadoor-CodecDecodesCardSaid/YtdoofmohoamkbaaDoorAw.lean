/- awake. -/
import Derived.Test.YtdoofmohoamkbaaDoorAwP
import Derived.Test.YtdoofmohoamkbaaDoorNum
set_option linter.unusedSimpArgs false
set_option linter.unusedVariables false
namespace Go.Proofs.YtdoofmohoamkbaaDoor
open Go.RowKit
theorem awT_rep (w : World) : VRep (w.alloc (.cells #[.int .i64 3, .int .i64 1, .string ⟨#[]⟩, .slice none 0 0, .slice none 0 0] 32)) awT (.agg #[.int .i64 6, .int .i64 0, .string ⟨#[]⟩, .slice (some ⟨w.heap.size, 0, none⟩) 1 1, .slice none 0 0]) := by
  have hc := blk_cell (blk_at0 w (.cells #[.int .i64 3, .int .i64 1, .string ⟨#[]⟩, .slice none 0 0, .slice none 0 0] 32))
  unfold awT VRep
  refine ⟨_, 1, none, 0, rfl, ⟨by unfold maxLen; decide, by unfold I64; omega, by unfold I64; omega⟩, ⟨Nat.le_refl _, by simp⟩, by unfold maxLen; omega, ⟨Nat.le_refl _, by simp⟩, by unfold maxLen; omega, rfl, ?_, by unfold DRep; trivial⟩
  unfold LRep
  refine ⟨⟨w.heap.size, 0, _, _, _, _, _, rfl, hc 0, hc 1, hc 2, hc 3, hc 4, ?_⟩, by unfold LRep; trivial⟩
  exact (VNew.leaf 0 0 _ 3 1 ⟨#[]⟩ (by unfold I64; omega) (by unfold I64; omega) (by unfold maxLen; decide)).rep
set_option maxRecDepth 20000 in
set_option maxHeartbeats 2000000 in
theorem awake_ok (w : World) (hT : Tabs w) : Calls Tryd.prog 14 #[] w fun e w' => e = .returned (.bool true) ∧ Ext w w' := by
  have HT := Lib.hid hT
  clear hT
  go_enter Tryd.func14, Tryd.ntmps14
  go_wp2_with fail
  refine (ReadNum_ok _ 0 _ (by unfold maxLen; decide)).mono ?_
  rw [aw1]
  rintro e w1 ⟨rfl, rfl⟩
  go_wp2_with fail
  refine (ReadNum_ok _ 0 _ (by unfold maxLen; decide)).mono ?_
  rw [aw2]
  rintro e w1 ⟨rfl, rfl⟩
  go_wp2_with fail
  refine (Encode_ok awT _ _ (awT_rep w) (HT.out.ext ((Ext.refl w).alloc _))).mono ?_
  rw [aw3]
  rintro e w2 ⟨rfl, h2⟩
  have HE2 := Lib.hid h2.of_alloc
  clear h2
  go_wp2_with fail
  refine (Decode_ok _ _ (by decide) (HT.out.ext HE2.out)).mono ?_
  rw [aw4]
  rintro e w3 ⟨v3, rfl, hv3, h3⟩
  obtain ⟨k', i', s', la', ln', lc', da', dn', dc', rfl⟩ := hv3.shape
  unfold VRep at hv3
  obtain ⟨_, _, _, _, e3, _⟩ := hv3
  injection e3 with e3
  simp only [Array.mk.injEq, List.cons.injEq, Value.int.injEq, true_and] at e3
  obtain ⟨rfl, rfl, _⟩ := e3
  have HE3 := Lib.hid (HE2.out.trans h3)
  clear h3
  go_wp2_with fail
  refine (Decode_ok _ _ (by decide) (HT.out.ext (HE3.out.alloc _))).mono ?_
  rw [aw5]
  rintro e w4 ⟨v4, rfl, hv4, h4⟩
  obtain ⟨k4, i4, s4, la4, ln4, lc4, da4, dn4, dc4, rfl⟩ := hv4.shape
  have k4 := h4.ownc
  have l4 := h4.lt
  have HE4 := Lib.hid (HE3.out.trans h4.of_alloc)
  clear hv4
  go_wp2_with fail
  refine (Num_ok (-1) _ (by unfold I64; omega)).mono ?_
  rw [aw_n1]
  rintro e w5 ⟨rfl, h5⟩
  have h45 := h4.trans (h5.of_alloc)
  have k5 := h45.ownc
  have l5 := h45.lt
  have HE5 := Lib.hid (HE4.out.trans h5.of_alloc)
  clear k4 h5
  go_wp2_with fail
  refine (Num_ok 64 _ (by unfold I64; omega)).mono ?_
  rw [aw_n64]
  rintro e w6 ⟨rfl, h6⟩
  have h46 := h45.trans h6
  have k6 := h46.ownc
  have l6 := h46.lt
  have HE6 := Lib.hid (HE5.out.trans h6)
  clear k5
  go_wp2_with fail
  go_ret
  exact ⟨rfl, HE6.out⟩
end Go.Proofs.YtdoofmohoamkbaaDoor
