/- R.New; Same on values without lists. -/
import Derived.Test.YtmgdgbnbikgmkaaDoorW1
namespace Go.Proofs.YtmgdgbnbikgmkaaDoor
open Go.RowKit
theorem b4_size (a : Int) : (strOfNums (b4 a)).size = 4 := by simp [strOfNums_size, b4]
theorem idStr_cat (a b c : Int) : strOfNums (b4 a) ++ strOfNums (b4 b) ++ strOfNums (b4 c) = idStr a b c := by
  apply ByteArray.ext; simp [idStr, strOfNums, b4]
set_option maxHeartbeats 400000 in
theorem rnew_ok (a b c : Int) (w : World) (ha : inR a = true) (hb : inR b = true) (hc : inR c = true) :
    Calls Tryd.prog 10 #[.int .i64 a, .int .i64 b, .int .i64 c] w fun e w' => e = .returned (.tuple #[idVal (idStr a b c), .int .i64 0]) ∧ Ext w w' := by
  have za := b4_size a
  have zb := b4_size b
  have zc := b4_size c
  have hcat := idStr_cat a b c
  go_enter Tryd.func10, Tryd.ntmps10
  go_wp2_with (go_at_call 25; refine (fits_any _ _).mono ?_; rintro e w' ⟨rfl, rfl⟩)
  refine (four_ok a _ ha).mono ?_
  rintro e w1 ⟨rfl, h1⟩
  go_wp2_with fail
  refine (four_ok b _ hb).mono ?_
  rintro e w2 ⟨rfl, h2⟩
  go_wp2_with fail
  refine (four_ok c _ hc).mono ?_
  rintro e w3 ⟨rfl, h3⟩
  have h := h1.trans (h2.trans h3)
  clear h1 h2 h3
  have c3 := h.ownc
  have f3 := h.ownf
  have hE := h.of_alloc
  have hz := h.lt
  go_wp2_with fail
  exact bodyPost_ret (v := .tuple #[idVal (idStr a b c), .int .i64 0]) (by simp [results, Tryd.results10, go_sem, idVal, c3]) rfl ⟨rfl, ((((hE.setCell (Nat.le_refl _) _).setCell (Nat.le_refl _) _).setCell (Nat.le_refl _) _).setCell (Nat.le_refl _) _).setCell (Nat.le_refl _) _⟩
set_option maxHeartbeats 400000 in
theorem rnew_no (a b c : Int) (w : World) (h : (inR a && inR b && inR c) = false) :
    Calls Tryd.prog 10 #[.int .i64 a, .int .i64 b, .int .i64 c] w fun e w' => e = .returned (.tuple #[noVal, .int .i64 1]) ∧ Ext w w' := by
  cases ha : inR a
  · go_enter Tryd.func10, Tryd.ntmps10
    go_wp2_with (go_at_call 25; refine (fits_any _ _).mono ?_; rintro e w' ⟨rfl, rfl⟩)
    exact bodyPost_ret (v := .tuple #[noVal, .int .i64 1]) (by simp [results, Tryd.results10, go_sem, noVal]) rfl ⟨rfl, (Ext.refl w).alloc _⟩
  · cases hb : inR b
    · go_enter Tryd.func10, Tryd.ntmps10
      go_wp2_with (go_at_call 25; refine (fits_any _ _).mono ?_; rintro e w' ⟨rfl, rfl⟩)
      exact bodyPost_ret (v := .tuple #[noVal, .int .i64 1]) (by simp [results, Tryd.results10, go_sem, noVal]) rfl ⟨rfl, (Ext.refl w).alloc _⟩
    · have hc : inR c = false := by simpa [ha, hb] using h
      clear h
      go_enter Tryd.func10, Tryd.ntmps10
      go_wp2_with (go_at_call 25; refine (fits_any _ _).mono ?_; rintro e w' ⟨rfl, rfl⟩)
      exact bodyPost_ret (v := .tuple #[noVal, .int .i64 1]) (by simp [results, Tryd.results10, go_sem, noVal]) rfl ⟨rfl, (Ext.refl w).alloc _⟩
set_option maxHeartbeats 400000 in
theorem samelist_nil (w : World) :
    Calls Tryd.prog 27 #[.slice none 0 0, .slice none 0 0] w fun e w' => e = .returned (.bool true) ∧ w = w' := by
  go_enter Tryd.func27, Tryd.ntmps27
  go_wp2_with fail
  refine wp_loop_rounds 1 ?_; rw [rounds_succ]
  go_wp2_with fail
  go_ret
  exact ⟨rfl, rfl⟩
set_option maxHeartbeats 400000 in
theorem same_refl (k i : Int) (s : ByteArray) (w : World) :
    Calls Tryd.prog 11 #[.agg #[.int .i64 k, .int .i64 i, .string s, .slice none 0 0, .slice none 0 0], .agg #[.int .i64 k, .int .i64 i, .string s, .slice none 0 0, .slice none 0 0]] w fun e w' => e = .returned (.bool true) ∧ Ext w w' := by
  go_enter Tryd.func11, Tryd.ntmps11
  go_wp2_with fail
  refine wp_loop_rounds 1 ?_; rw [rounds_succ]
  go_wp2_with (go_at_call 27; refine (samelist_nil _).mono ?_; rintro e w' ⟨rfl, rfl⟩)
  go_ret
  exact ⟨rfl, ((Ext.refl w).alloc _).alloc _⟩
end Go.Proofs.YtmgdgbnbikgmkaaDoor
