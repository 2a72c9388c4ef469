/- The law IdentBack: its walk. -/
import Derived.Test.YtmgdgbnbikgmkaaDoorPL
namespace Go.Proofs.YtmgdgbnbikgmkaaDoor
open Go.RowKit
set_option maxHeartbeats 1000000 in
theorem identBack_walk (a b c : Int) (w : World) (ha : inR a = true) (hb : inR b = true) (hc : inR c = true) : Calls Tryd.prog 6 #[.agg #[.int .u32 a, .int .u32 b, .int .u32 c]] w fun e w' => e = .returned (.bool true) ∧ Ext w w' := by
  have ha' := inR_true ha
  have hb' := inR_true hb
  have hc' := inR_true hc
  go_enter Tryd.func6, Tryd.ntmps6
  go_wp2_with fail
  refine (new_ok a b c _ ha hb hc).mono ?_
  rintro e w1 ⟨rfl, h1⟩
  unfold idVal
  have m1 := h1.ownc
  have y1 := h1.lt
  go_wp2_with fail
  refine (split_ok (idStr a b c) (idStr_size _ _ _) _ _ _ _ _).mono ?_
  rintro e w2 ⟨rfl, h2⟩
  rw [part_id0 a b c ha, part_id1 a b c hb, part_id2 a b c hc]
  have k2 := h2.ownc
  have z2 := h2.lt
  have m2 := (h1.trans h2.of_alloc).ownc
  have y2 := (h1.trans h2.of_alloc).lt
  clear m1 y1
  go_wp2_with fail
  refine (text_ok (idStr a b c) (idStr_size _ _ _) _ _ _ _ _).mono ?_
  rintro e w3 ⟨rfl, h3⟩
  have h23 := h2.trans h3
  have k3 := h23.ownc
  have z3 := h23.lt
  have m3 := (h1.trans h23.of_alloc).ownc
  have y3 := (h1.trans h23.of_alloc).lt
  have hsz := hex_size (idStr a b c) (idStr_size _ _ _)
  clear k2 z2 m2 y2
  have HSZ := Lib.hid hsz
  clear hsz
  go_wp2_with fail
  refine (parse_ok _ HSZ.out _).mono ?_
  rintro e w4 ⟨rfl, h4⟩
  rw [parse_back _ (idStr_size _ _ _)]
  unfold idVal
  have h24 := h23.trans h4
  have k4 := h24.ownc
  have z4 := h24.lt
  have m4 := (h1.trans h24.of_alloc).ownc
  have y4 := (h1.trans h24.of_alloc).lt
  have hsz := HSZ.out
  clear k3 z3 m3 y3
  go_wp2_with fail
  refine (same_refl _ _ _ _).mono ?_
  rintro e w5 ⟨rfl, h5⟩
  clear k4 z4 m4 y4 hsz
  go_wp2_with fail
  refine (awake_ok _).mono ?_
  rintro e w6 ⟨rfl, h6⟩
  go_wp2_with fail
  go_ret
  exact ⟨rfl, h1.of_alloc.trans (h24.of_alloc.trans (h5.of_alloc.trans h6))⟩
end Go.Proofs.YtmgdgbnbikgmkaaDoor
