/- The law IdentText: its walk. -/
import Derived.Test.YtmgdgbnbikgmkaaDoorT3
namespace Go.Proofs.YtmgdgbnbikgmkaaDoor
open Go.RowKit
set_option maxHeartbeats 1000000 in
theorem identText_walk (k i : Int) (s : ByteArray) (la da : Option Addr) (ln lc dn dc : Nat) (t : ByteArray) (w : World) : Calls Tryd.prog 4 #[.agg #[.int .i64 k, .int .i64 i, .string s, .slice la ln lc, .slice da dn dc], .string t] w fun e w' => e = .returned (.bool true) ∧ Ext w w' := by
  go_enter Tryd.func4, Tryd.ntmps4
  go_wp2_with fail
  refine (split_any _ _ _ _ _ _ _ _ _ _).mono ?_
  rintro e w1 ⟨rfl, h1⟩
  have c1 := h1.ownc
  go_wp2_with fail
  refine (rsplit_any _ _ _ _ _ _ _ _ _ _).mono ?_
  rintro e w2 ⟨rfl, h2⟩
  have h12 := h1.trans h2
  have c2 := h12.ownc
  clear c1
  go_wp2_with fail
  refine (text_any _ _ _ _ _ _ _ _ _ _).mono ?_
  rintro e w3 ⟨rfl, h3⟩
  have h13 := h12.trans h3
  have c3 := h13.ownc
  clear c2
  go_wp2_with fail
  refine (rtext_any _ _ _ _ _ _ _ _ _ _).mono ?_
  rintro e w4 ⟨rfl, h4⟩
  have h14 := h13.trans h4
  clear c3
  go_wp2_with fail
  refine (parse_any _ _).mono ?_
  rintro e w5 ⟨rfl, h5⟩
  go_wp2_with fail
  refine (rparse_any _ _).mono ?_
  rintro e w6 ⟨rfl, h6⟩
  have c6 := h6.ownc
  have z6 := h6.lt
  go_wp2_with fail
  refine (same_refl _ _ _ _).mono ?_
  rintro e w7 ⟨rfl, h7⟩
  go_wp2_with fail
  refine (awake_ok _).mono ?_
  rintro e w8 ⟨rfl, h8⟩
  go_wp2_with fail
  go_ret
  exact ⟨rfl, h14.of_alloc.trans (h5.trans (h6.of_alloc.trans (h7.of_alloc.trans h8)))⟩
end Go.Proofs.YtmgdgbnbikgmkaaDoor
