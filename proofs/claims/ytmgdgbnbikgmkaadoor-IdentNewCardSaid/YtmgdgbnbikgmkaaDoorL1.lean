/- The law IdentNew: its walk. -/
import Derived.Test.YtmgdgbnbikgmkaaDoorA1
namespace Go.Proofs.YtmgdgbnbikgmkaaDoor
open Go.RowKit
set_option maxHeartbeats 1000000 in
theorem identNew_walk (a b c : Int) (w : World) : Calls Tryd.prog 3 #[.int .i64 a, .int .i64 b, .int .i64 c] w fun e w' => e = .returned (.bool true) ∧ Ext w w' := by
  cases h : (inR a && inR b && inR c)
  · have H := Lib.hid h
    clear h
    go_enter Tryd.func3, Tryd.ntmps3
    go_wp2_with fail
    refine (new_no a b c _ H.out).mono ?_
    rintro e w1 ⟨rfl, h1⟩
    unfold noVal
    go_wp2_with fail
    refine (rnew_no a b c _ H.out).mono ?_
    rintro e w2 ⟨rfl, h2⟩
    unfold noVal
    have k2 := h2.ownc
    have z2 := h2.lt
    go_wp2_with fail
    refine (same_refl _ _ _ _).mono ?_
    rintro e w3 ⟨rfl, h3⟩
    go_wp2_with fail
    refine (awake_ok _).mono ?_
    rintro e w4 ⟨rfl, h4⟩
    go_wp2_with fail
    go_ret
    exact ⟨rfl, h1.trans (h2.of_alloc.trans (h3.of_alloc.trans h4))⟩
  · obtain ⟨⟨ha, hb⟩, hc⟩ : (inR a = true ∧ inR b = true) ∧ inR c = true := by simpa using h
    clear h
    go_enter Tryd.func3, Tryd.ntmps3
    go_wp2_with fail
    refine (new_ok a b c _ ha hb hc).mono ?_
    rintro e w1 ⟨rfl, h1⟩
    unfold idVal
    go_wp2_with fail
    refine (rnew_ok a b c _ ha hb hc).mono ?_
    rintro e w2 ⟨rfl, h2⟩
    unfold idVal
    have k2 := h2.ownc
    have z2 := h2.lt
    go_wp2_with fail
    refine (same_refl _ _ _ _).mono ?_
    rintro e w3 ⟨rfl, h3⟩
    go_wp2_with fail
    refine (awake_ok _).mono ?_
    rintro e w4 ⟨rfl, h4⟩
    go_wp2_with fail
    go_ret
    exact ⟨rfl, h1.trans (h2.of_alloc.trans (h3.of_alloc.trans h4))⟩
end Go.Proofs.YtmgdgbnbikgmkaaDoor
