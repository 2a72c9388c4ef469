/- awake. -/
import Derived.Test.YtmgdgbnbikgmkaaDoorN1
import Derived.Test.YtmgdgbnbikgmkaaDoorP1
namespace Go.Proofs.YtmgdgbnbikgmkaaDoor
open Go.RowKit
theorem aw_text : strOfNums (hexL (idStr 1 2 258).data.toList) = ⟨#[48, 48, 48, 48, 48, 48, 48, 49, 48, 48, 48, 48, 48, 48, 48, 50, 48, 48, 48, 48, 48, 49, 48, 50]⟩ := by decide
theorem aw_parse : parseRes ⟨#[48, 48, 48, 48, 48, 48, 48, 49, 48, 48, 48, 48, 48, 48, 48, 50, 48, 48, 48, 48, 48, 49, 48, 50]⟩ = .tuple #[idVal (idStr 1 2 258), .int .i64 0] := by
  have h1 : allHex ⟨#[48, 48, 48, 48, 48, 48, 48, 49, 48, 48, 48, 48, 48, 48, 48, 50, 48, 48, 48, 48, 48, 49, 48, 50]⟩ = true := by decide
  have h2 : parsed ⟨#[48, 48, 48, 48, 48, 48, 48, 49, 48, 48, 48, 48, 48, 48, 48, 50, 48, 48, 48, 48, 48, 49, 48, 50]⟩ = idStr 1 2 258 := by decide
  unfold parseRes; rw [if_pos h1, h2]
theorem aw_part : part (idStr 9 7 1) 2 12 = 1 := by decide
theorem idStr_size (a b c : Int) : (idStr a b c).size = 12 := by simp [idStr, strOfNums_size, b4]
set_option maxHeartbeats 1000000 in
theorem awake_ok (w : World) : Calls Tryd.prog 12 #[] w fun e w' => e = .returned (.bool true) ∧ Ext w w' := by
  go_enter Tryd.func12, Tryd.ntmps12
  go_wp2_with fail
  refine (new_ok 1 2 258 _ rfl rfl rfl).mono ?_
  rintro e w1 ⟨rfl, h1⟩
  unfold idVal
  go_wp2_with fail
  refine (text_ok (idStr 1 2 258) (idStr_size _ _ _) _ _ _ _ _).mono ?_
  rintro e w2 ⟨rfl, h2⟩
  rw [aw_text]
  have k2 := h2.ownc
  have z2 := h2.lt
  go_wp2_with fail
  refine (parse_ok _ rfl _).mono ?_
  rintro e w3 ⟨rfl, h3⟩
  rw [aw_parse]
  unfold idVal
  have h23 := h2.trans h3
  have k3 := h23.ownc
  have z3 := h23.lt
  clear k2 z2
  go_wp2_with fail
  refine (newSource_ok 7 _ rfl).mono ?_
  rintro e w4 ⟨rfl, rfl⟩
  go_wp2_with fail
  refine (same_refl 8 0 (idStr 1 2 258) _).mono ?_
  rintro e w5 ⟨rfl, h5⟩
  have hB := blk_ext (heap_alloc_new _ _) h5
  have e5 := h1.trans ((Ext.of_alloc h23).trans h5.of_alloc.of_alloc)
  simp only [World.size_alloc] at hB
  have HB := Lib.hid hB
  clear hB k3 h5 h23 h3 h2
  go_wp2_with fail
  refine (next_ok _ 7 0 9 _ HB.out rfl rfl rfl).mono ?_
  rintro e w6 ⟨rfl, g6, hB6⟩
  have z6 := blk_lt HB.out
  have e6 := e5.of_only g6 (by have := h1.size; omega)
  unfold idVal
  have HB6 := Lib.hid hB6
  clear hB6
  go_wp2_with fail
  refine (next_ok _ 7 (0 + 1) 9 _ (blk_alloc HB6.out _) rfl rfl rfl).mono ?_
  rintro e w7 ⟨rfl, g7, hB7⟩
  have e7 := (e6.alloc _).of_only g7 (by have := h1.size; omega)
  unfold idVal
  clear hB7
  go_wp2_with fail
  refine (split_ok (idStr 9 7 1) (idStr_size _ _ _) _ _ _ _ _).mono ?_
  rintro e w8 ⟨rfl, h8⟩
  rw [aw_part]
  have e8 := e7.trans h8.of_alloc
  go_wp2_with fail
  refine (next_nil 1 _).mono ?_
  rintro e w9 ⟨rfl, h9⟩
  have e9 := e8.trans h9
  unfold noVal
  go_wp2_with fail
  go_ret
  exact ⟨rfl, e9.alloc _⟩
end Go.Proofs.YtmgdgbnbikgmkaaDoor
