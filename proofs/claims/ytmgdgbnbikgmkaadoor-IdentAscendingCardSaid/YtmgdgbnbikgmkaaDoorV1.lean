/- Valid, on values of the kind ID: value.Valid and R1.Valid. -/
import Derived.Test.YtmgdgbnbikgmkaaDoorKit
namespace Go.Proofs.YtmgdgbnbikgmkaaDoor
open Go.RowKit
section
variable (i : Int) (s : ByteArray) (la da : Option Addr) (ln lc dn dc : Nat) (w : World)
set_option maxHeartbeats 400000 in
theorem each_id (f : Value) :
    Calls Tryd.prog 53 #[.agg #[.int .i64 8, .int .i64 i, .string s, .slice la ln lc, .slice da dn dc], f] w fun e w' => e = .returned (.tuple #[]) ∧ Ext w w' := by
  go_enter Tryd.func53, Tryd.ntmps53
  go_wp2_with fail
  go_end0
  exact ⟨rfl, (Ext.refl w).alloc _⟩
set_option maxHeartbeats 400000 in
theorem nodes_id :
    Calls Tryd.prog 45 #[.agg #[.int .i64 8, .int .i64 i, .string s, .slice la ln lc, .slice da dn dc], .int .i64 1025] w fun e w' => e = .returned (.int .i64 1) ∧ Ext w w' := by
  go_enter Tryd.func45, Tryd.ntmps45
  go_wp2_with (go_at_call 53; refine (each_id _ _ _ _ _ _ _ _ _ _).mono ?_; rintro e w' ⟨rfl, h1⟩; have c1 := h1.ownc; simp only [World.size_alloc] at c1)
  go_ret
  exact ⟨rfl, h1.of_alloc.of_alloc.of_alloc⟩
set_option maxHeartbeats 400000 in
theorem depth_id :
    Calls Tryd.prog 46 #[.agg #[.int .i64 8, .int .i64 i, .string s, .slice la ln lc, .slice da dn dc], .int .i64 17] w fun e w' => e = .returned (.int .i64 1) ∧ Ext w w' := by
  go_enter Tryd.func46, Tryd.ntmps46
  go_wp2_with (go_at_call 53; refine (each_id _ _ _ _ _ _ _ _ _ _).mono ?_; rintro e w' ⟨rfl, h1⟩; have c1 := h1.ownc; simp only [World.size_alloc] at c1)
  go_ret
  exact ⟨rfl, h1.of_alloc.of_alloc.of_alloc⟩
set_option maxHeartbeats 400000 in
theorem Nodes_id :
    Calls Tryd.prog 38 #[.agg #[.int .i64 8, .int .i64 i, .string s, .slice la ln lc, .slice da dn dc]] w fun e w' => e = .returned (.int .i64 1) ∧ Ext w w' := by
  go_enter Tryd.func38, Tryd.ntmps38
  go_wp2_with (go_at_call 45; refine (nodes_id _ _ _ _ _ _ _ _ _).mono ?_; rintro e w' ⟨rfl, h1⟩)
  go_ret
  exact ⟨rfl, h1.of_alloc⟩
set_option maxHeartbeats 400000 in
theorem Depth_id :
    Calls Tryd.prog 39 #[.agg #[.int .i64 8, .int .i64 i, .string s, .slice la ln lc, .slice da dn dc]] w fun e w' => e = .returned (.int .i64 1) ∧ Ext w w' := by
  go_enter Tryd.func39, Tryd.ntmps39
  go_wp2_with (go_at_call 46; refine (depth_id _ _ _ _ _ _ _ _ _).mono ?_; rintro e w' ⟨rfl, h1⟩)
  go_ret
  exact ⟨rfl, h1.of_alloc⟩
/-- What makes a value of the kind ID valid. -/
def idOk (i : Int) (s : ByteArray) (ln dn : Nat) : Bool := i == 0 && ln == 0 && dn == 0 && s.size == 12
set_option maxHeartbeats 400000 in
theorem sound_id :
    Calls Tryd.prog 40 #[.agg #[.int .i64 8, .int .i64 i, .string s, .slice la ln lc, .slice da dn dc]] w fun e w' => e = .returned (.bool (idOk i s ln dn)) ∧ Ext w w' := by
  by_cases hi : i = 0
  · subst hi
    by_cases hl : ln = 0
    · subst hl
      by_cases hd : dn = 0
      · subst hd
        go_enter Tryd.func40, Tryd.ntmps40
        go_wp2_with fail
        go_ret
        refine ⟨?_, (Ext.refl w).alloc _⟩
        simp [idOk]; rw [Bool.eq_iff_iff]; simp; omega
      · have hd' : decide (0 < dn) = true := by simp; omega
        have hk : idOk 0 s 0 dn = false := by simp [idOk, hd]
        rw [hk]; clear hk
        go_enter Tryd.func40, Tryd.ntmps40
        go_wp2_with fail
        go_ret
        exact ⟨rfl, (Ext.refl w).alloc _⟩
    · have hl' : decide (0 < ln) = true := by simp; omega
      have hk : idOk 0 s ln dn = false := by simp [idOk, hl]
      rw [hk]; clear hk
      go_enter Tryd.func40, Tryd.ntmps40
      go_wp2_with fail
      go_ret
      exact ⟨rfl, (Ext.refl w).alloc _⟩
  · have hi' : (i != 0) = true := by simpa using hi
    have hk : idOk i s ln dn = false := by simp [idOk, hi]
    rw [hk]; clear hk
    go_enter Tryd.func40, Tryd.ntmps40
    go_wp2_with fail
    go_ret
    exact ⟨rfl, (Ext.refl w).alloc _⟩
set_option maxHeartbeats 400000 in
theorem Valid_id :
    Calls Tryd.prog 34 #[.agg #[.int .i64 8, .int .i64 i, .string s, .slice la ln lc, .slice da dn dc]] w fun e w' => e = .returned (.bool (idOk i s ln dn)) ∧ Ext w w' := by
  go_enter Tryd.func34, Tryd.ntmps34
  go_wp2_with fail
  refine (Nodes_id _ _ _ _ _ _ _ _ _).mono ?_
  rintro e w1 ⟨rfl, h1⟩
  have c1 := h1.ownc
  go_wp2_with fail
  refine (Depth_id _ _ _ _ _ _ _ _ _).mono ?_
  rintro e w2 ⟨rfl, h2⟩
  have c2 := (h1.trans h2).ownc
  go_wp2_with fail
  refine (sound_id _ _ _ _ _ _ _ _ _).mono ?_
  rintro e w3 ⟨rfl, h3⟩
  go_wp2_with fail
  go_ret
  exact ⟨rfl, (h1.trans (h2.trans h3)).of_alloc⟩
set_option maxHeartbeats 400000 in
theorem isID_id :
    Calls Tryd.prog 28 #[.agg #[.int .i64 8, .int .i64 i, .string s, .slice la ln lc, .slice da dn dc]] w fun e w' => e = .returned (.bool (idOk i s ln dn)) ∧ Ext w w' := by
  go_enter Tryd.func28, Tryd.ntmps28
  go_wp2_with (go_at_call 34; refine (Valid_id _ _ _ _ _ _ _ _ _).mono ?_; rintro e w1 ⟨rfl, h1⟩)
  go_ret
  exact ⟨rfl, h1.of_alloc⟩
set_option maxHeartbeats 400000 in
theorem isID_no (k : Int) (hk : (k == 8) = false) :
    Calls Tryd.prog 28 #[.agg #[.int .i64 k, .int .i64 i, .string s, .slice la ln lc, .slice da dn dc]] w fun e w' => e = .returned (.bool false) ∧ Ext w w' := by
  go_enter Tryd.func28, Tryd.ntmps28
  go_wp2_with fail
  go_ret
  exact ⟨rfl, (Ext.refl _).alloc _⟩
set_option maxHeartbeats 400000 in
theorem Parts_id :
    Calls Tryd.prog 49 #[.agg #[.int .i64 8, .int .i64 i, .string s, .slice la ln lc, .slice da dn dc]] w fun e w' => e = .returned (.slice none 0 0) ∧ Ext w w' := by
  go_enter Tryd.func49, Tryd.ntmps49
  go_wp2_with fail
  go_ret
  exact ⟨rfl, (Ext.refl _).alloc _⟩
set_option maxHeartbeats 400000 in
theorem levels_id :
    Calls Tryd.prog 41 #[.agg #[.int .i64 8, .int .i64 i, .string s, .slice la ln lc, .slice da dn dc], .int .i64 17] w fun e w' => e = .returned (.int .i64 1) ∧ Ext w w' := by
  go_enter Tryd.func41, Tryd.ntmps41
  go_wp2_with (go_at_call 49; refine (Parts_id _ _ _ _ _ _ _ _ _).mono ?_; rintro e w1 ⟨rfl, h1⟩)
  go_ret
  exact ⟨rfl, h1.of_alloc⟩
set_option maxHeartbeats 400000 in
theorem RDepth_id :
    Calls Tryd.prog 35 #[.agg #[.int .i64 8, .int .i64 i, .string s, .slice la ln lc, .slice da dn dc]] w fun e w' => e = .returned (.int .i64 1) ∧ Ext w w' := by
  go_enter Tryd.func35, Tryd.ntmps35
  go_wp2_with (go_at_call 41; refine (levels_id _ _ _ _ _ _ _ _ _).mono ?_; rintro e w1 ⟨rfl, h1⟩)
  go_ret
  exact ⟨rfl, h1.of_alloc⟩
set_option maxHeartbeats 400000 in
theorem count_id :
    Calls Tryd.prog 42 #[.agg #[.int .i64 8, .int .i64 i, .string s, .slice la ln lc, .slice da dn dc], .int .i64 1025] w fun e w' => e = .returned (.int .i64 1) ∧ Ext w w' := by
  go_enter Tryd.func42, Tryd.ntmps42
  go_wp2_with (go_at_call 49; refine (Parts_id _ _ _ _ _ _ _ _ _).mono ?_; rintro e w1 ⟨rfl, h1⟩)
  refine wp_loop_rounds 1 ?_; rw [rounds_succ]
  go_wp2_with fail
  go_ret
  exact ⟨rfl, h1.of_alloc⟩
set_option maxHeartbeats 400000 in
theorem RNodes_id :
    Calls Tryd.prog 36 #[.agg #[.int .i64 8, .int .i64 i, .string s, .slice la ln lc, .slice da dn dc]] w fun e w' => e = .returned (.int .i64 1) ∧ Ext w w' := by
  go_enter Tryd.func36, Tryd.ntmps36
  go_wp2_with (go_at_call 42; refine (count_id _ _ _ _ _ _ _ _ _).mono ?_; rintro e w1 ⟨rfl, h1⟩)
  go_ret
  exact ⟨rfl, h1.of_alloc⟩
set_option maxHeartbeats 400000 in
theorem formed_id :
    Calls Tryd.prog 37 #[.agg #[.int .i64 8, .int .i64 i, .string s, .slice la ln lc, .slice da dn dc], .bool true] w fun e w' => e = .returned (.bool (idOk i s ln dn)) ∧ Ext w w' := by
  by_cases hl : ln = 0
  · subst hl
    by_cases hd : dn = 0
    · subst hd
      by_cases hi : i = 0
      · subst hi
        go_enter Tryd.func37, Tryd.ntmps37
        go_wp2_with fail
        go_ret
        refine ⟨?_, (Ext.refl w).alloc _⟩
        simp [idOk]; rw [Bool.eq_iff_iff]; simp; omega
      · have hi' : (i != 0) = true := by simpa using hi
        have hk : idOk i s 0 0 = false := by simp [idOk, hi]
        rw [hk]; clear hk
        go_enter Tryd.func37, Tryd.ntmps37
        go_wp2_with fail
        go_ret
        exact ⟨rfl, (Ext.refl w).alloc _⟩
    · have hd' : decide (0 < dn) = true := by simp; omega
      have hk : idOk i s 0 dn = false := by simp [idOk, hd]
      rw [hk]; clear hk
      go_enter Tryd.func37, Tryd.ntmps37
      go_wp2_with fail
      go_ret
      exact ⟨rfl, (Ext.refl w).alloc _⟩
  · have hl' : decide (0 < ln) = true := by simp; omega
    have hk : idOk i s ln dn = false := by simp [idOk, hl]
    rw [hk]; clear hk
    go_enter Tryd.func37, Tryd.ntmps37
    go_wp2_with fail
    go_ret
    exact ⟨rfl, (Ext.refl w).alloc _⟩
set_option maxHeartbeats 400000 in
theorem RValid_id :
    Calls Tryd.prog 29 #[.agg #[.int .i64 8, .int .i64 i, .string s, .slice la ln lc, .slice da dn dc]] w fun e w' => e = .returned (.bool (idOk i s ln dn)) ∧ Ext w w' := by
  go_enter Tryd.func29, Tryd.ntmps29
  go_wp2_with fail
  refine (RDepth_id _ _ _ _ _ _ _ _ _).mono ?_
  rintro e w1 ⟨rfl, h1⟩
  have c1 := h1.ownc
  go_wp2_with fail
  refine (RNodes_id _ _ _ _ _ _ _ _ _).mono ?_
  rintro e w2 ⟨rfl, h2⟩
  have c2 := (h1.trans h2).ownc
  go_wp2_with fail
  refine (formed_id _ _ _ _ _ _ _ _ _).mono ?_
  rintro e w3 ⟨rfl, h3⟩
  go_wp2_with fail
  go_ret
  exact ⟨rfl, (h1.trans (h2.trans h3)).of_alloc⟩
end
end Go.Proofs.YtmgdgbnbikgmkaaDoor
