/- The law IdentOrder: its walk. -/
import Derived.Test.YtmgdgbnbikgmkaaDoorO1
namespace Go.Proofs.YtmgdgbnbikgmkaaDoor
open Go.RowKit
theorem num_cons (a : UInt8) (l : List UInt8) : num (a :: l) = (a.toNat : Int) * 256 ^ l.length + num l := by
  refine snoc_ind (p := fun l => num (a :: l) = (a.toNat : Int) * 256 ^ l.length + num l) ?_ ?_ l
  · simp [num]
  · intro l c ih
    rw [← List.cons_append, num_snoc, ih, num_snoc, List.length_append, List.length_singleton, Int.pow_succ]
    generalize (256 : Int) ^ l.length = p
    generalize num l = q
    rw [Int.add_mul, Int.mul_assoc, Int.add_assoc]
theorem num_append (l m : List UInt8) : num (l ++ m) = num l * 256 ^ m.length + num m := by
  induction l with
  | nil => simp [num]
  | cons a l ih =>
    rw [List.cons_append, num_cons, ih, num_cons, List.length_append, Int.pow_add]
    generalize (256 : Int) ^ l.length = p
    generalize (256 : Int) ^ m.length = q
    rw [Int.add_mul, Int.mul_assoc, Int.add_assoc]
theorem cmpI_eq {a b : Int} (h : a = b) : cmpI a b = 0 := by unfold cmpI; rw [if_neg (by omega), if_neg (by omega)]
theorem cmpI_lt {a b : Int} (h : a < b) : cmpI a b = -1 := by unfold cmpI; rw [if_pos h]
theorem cmpI_gt {a b : Int} (h : b < a) : cmpI a b = 1 := by unfold cmpI; rw [if_neg (by omega), if_pos h]
theorem cmpL_num (l m : List UInt8) (h : l.length = m.length) : cmpL l m = cmpI (num l) (num m) := by
  induction l generalizing m with
  | nil =>
    match m, h with
    | [], _ => rfl
  | cons a l ih =>
    match m, h with
    | b :: m, h =>
      have hl : l.length = m.length := by simpa using h
      have b1 := num_bd l
      have b2 := num_bd m
      rw [num_cons, num_cons, hl]
      rw [hl] at b1
      simp only [cmpL]
      have hp : (0 : Int) < 256 ^ m.length := Int.lt_of_le_of_lt b2.1 b2.2
      generalize (256 : Int) ^ m.length = p at *
      by_cases hab : a = b
      · subst hab
        rw [if_pos rfl, ih m hl]
        generalize (a.toNat : Int) * p = q
        unfold cmpI
        by_cases h1 : num l < num m
        · rw [if_pos h1, if_pos (by omega)]
        · by_cases h2 : num m < num l
          · rw [if_neg h1, if_pos h2, if_neg (by omega), if_pos (by omega)]
          · rw [if_neg h1, if_neg h2, if_neg (by omega), if_neg (by omega)]
      · rw [if_neg hab]
        have hne : a.toNat ≠ b.toNat := fun e => hab (UInt8.toNat_inj.1 e)
        rcases Nat.lt_or_gt_of_ne hne with h1 | h1
        · rw [cmpI_lt (by omega), cmpI_lt]
          have hx : ((a.toNat : Int) + 1) * p ≤ (b.toNat : Int) * p := Int.mul_le_mul_of_nonneg_right (by omega) (by omega)
          rw [Int.add_mul, Int.one_mul] at hx
          omega
        · rw [cmpI_gt (by omega), cmpI_gt]
          have hx : ((b.toNat : Int) + 1) * p ≤ (a.toNat : Int) * p := Int.mul_le_mul_of_nonneg_right (by omega) (by omega)
          rw [Int.add_mul, Int.one_mul] at hx
          omega
/-- how the numbers of two identifiers compare -/
def lex1 (a x : Int) (r : Int) : Int := if a < x then -1 else if x < a then 1 else r
theorem cmp_id (a b c x y z : Int) (ha : inR a = true) (hb : inR b = true) (hc : inR c = true) (hx : inR x = true) (hy : inR y = true) (hz : inR z = true) :
    cmpL (idStr a b c).data.toList (idStr x y z).data.toList = lex1 a x (lex1 b y (lex1 c z 0)) := by
  rw [cmpL_num _ _ (by rw [idStr_list, idStr_list]; simp [b4]), idStr_list, idStr_list, num_append, num_append, num_append, num_append, num_b4 a ha, num_b4 b hb, num_b4 c hc, num_b4 x hx, num_b4 y hy, num_b4 z hz, b4_len, b4_len, b4_len, b4_len]
  have := inR_true ha
  have := inR_true hb
  have := inR_true hc
  have := inR_true hx
  have := inR_true hy
  have := inR_true hz
  unfold cmpI lex1
  simp only [Int.reducePow]
  repeat' split
  all_goals first | rfl | omega
/-- what 'want' is when the components from j on have been looked at -/
def wantAt (a b c x y z : Int) : Nat → Int
  | 0 => lex1 a x (lex1 b y (lex1 c z 0))
  | 1 => lex1 b y (lex1 c z 0)
  | 2 => lex1 c z 0
  | _ => 0
section
variable {a b c x y z : Int}
theorem wantAt_lt1 (h : a < x) : wantAt a b c x y z 0 = -1 := by simp [wantAt, lex1, h]
theorem wantAt_gt1 (h : x < a) : wantAt a b c x y z 0 = 1 := by simp only [wantAt, lex1]; rw [if_neg (by omega), if_pos h]
theorem wantAt_eq1 (h : a = x) : wantAt a b c x y z 0 = wantAt a b c x y z 1 := by subst h; simp [wantAt, lex1]
theorem wantAt_lt2 (h : b < y) : wantAt a b c x y z 1 = -1 := by simp [wantAt, lex1, h]
theorem wantAt_gt2 (h : y < b) : wantAt a b c x y z 1 = 1 := by simp only [wantAt, lex1]; rw [if_neg (by omega), if_pos h]
theorem wantAt_eq2 (h : b = y) : wantAt a b c x y z 1 = wantAt a b c x y z 2 := by subst h; simp [wantAt, lex1]
theorem wantAt_lt3 (h : c < z) : wantAt a b c x y z 2 = -1 := by simp [wantAt, lex1, h]
theorem wantAt_gt3 (h : z < c) : wantAt a b c x y z 2 = 1 := by simp only [wantAt, lex1]; rw [if_neg (by omega), if_pos h]
theorem wantAt_eq3 (h : c = z) : wantAt a b c x y z 2 = wantAt a b c x y z 3 := by subst h; simp [wantAt, lex1]
end
set_option maxHeartbeats 2000000 in
theorem identOrder_walk (a b c x y z : Int) (w : World) (ha : inR a = true) (hb : inR b = true) (hc : inR c = true) (hx : inR x = true) (hy : inR y = true) (hz : inR z = true) :
    Calls Tryd.prog 7 #[.agg #[.int .u32 a, .int .u32 b, .int .u32 c], .agg #[.int .u32 x, .int .u32 y, .int .u32 z]] w fun e w' => e = .returned (.bool true) ∧ Ext w w' := by
  have ha' := inR_true ha
  have hb' := inR_true hb
  have hc' := inR_true hc
  have hx' := inR_true hx
  have hy' := inR_true hy
  have hz' := inR_true hz
  go_enter Tryd.func7, Tryd.ntmps7
  go_wp2_with fail
  refine (new_ok a b c _ ha hb hc).mono ?_
  rintro e w1 ⟨rfl, h1⟩
  unfold idVal
  have c1 := h1.ownc
  simp only [World.size_alloc] at c1
  have d1 := h1.of_alloc.ownc
  have y1 := h1.lt
  have y0 := h1.of_alloc.lt
  simp only [World.size_alloc] at y1
  go_wp2_with fail
  refine (new_ok x y z _ hx hy hz).mono ?_
  rintro e w2 ⟨rfl, h2⟩
  unfold idVal
  have e2 := h1.trans h2.of_alloc
  have c2 := e2.ownc
  simp only [World.size_alloc] at c2
  have d2 := e2.of_alloc.ownc
  have k2 := h2.ownc
  have z2 := h2.lt
  have x1 := e2.lt
  have x0 := e2.of_alloc.lt
  simp only [World.size_alloc] at x1
  clear c1 d1 y1 y0
  have hE0 : Ext w w2 := e2.of_alloc.of_alloc
  go_wp2_with fail
  go_loopw [9, 10] (fun t i wr => ∃ j : Nat, j ≤ 3 ∧ i = .int .i64 ((j : Int) - 1) ∧ Hid (t = .int .i64 (wantAt a b c x y z j)) ∧ Ext (w2.alloc (.cells #[.int .i64 8, .int .i64 0, .string (idStr x y z), .slice none 0 0, .slice none 0 0] 25)) wr) (fun _ i _ => (intOf i + 1).toNat)
  case atStart => exact ⟨3, by omega, rfl, rfl, Ext.refl _⟩
  case round =>
    obtain ⟨j, hj, rfl, HT, hE⟩ := hrel
    have kE := hE.cells
    have kz := hE.lt
    rcases (show j = 0 ∨ j = 1 ∨ j = 2 ∨ j = 3 by omega) with rfl | rfl | rfl | rfl
    · obtain rfl := HT.out
      have ho := hE.ownc
      have hcmp : cmpL (idStr a b c).data.toList (idStr x y z).data.toList = wantAt a b c x y z 0 := cmp_id a b c x y z ha hb hc hx hy hz
      have HC := Lib.hid hcmp
      clear hcmp
      go_wp2_with fail
      refine (compare_id _ _ (by rw [idStr_size]; omega) (by rw [idStr_size]; omega) _ _ _ _ _ _ _ _ _ _ _ _ _ _ _).mono ?_
      rintro e w4 ⟨rfl, h4⟩
      rw [HC.out]
      go_wp2_with fail
      refine (awake_ok _).mono ?_
      rintro e w5 ⟨rfl, h5⟩
      go_wp2_with fail
      go_ret
      exact ⟨rfl, hE0.trans (hE.of_alloc.trans (h4.trans h5))⟩
    · have e0 : (((1 : Nat) : Int) - 1) = 0 := by decide
      rw [e0]
      rcases Int.lt_trichotomy a x with h | h | h
      · go_wp2_with fail
        refine wp_region_mix (Ext w2) [(true, 0), (true, 1), (true, 2), (true, 3), (true, 4), (true, 5), (true, 6)] (by kernel_rfl) (by kernel_rfl) (by kernel_rfl) (by kernel_rfl) ?hS ?_
        case hS => exact hE.of_alloc.drew
        repeat (first | (refine wpMix_q (v := ?_) rfl rfl ?_ ?_; rotate_left; (· intro wq hSq; have cq := hSq.cells; go_simp; try (with_reducible rfl)); simp only [Act.put, List.setIfInBounds_toArray, List.set_cons_zero, List.set_cons_succ, List.getElem_toArray, List.getElem_cons_zero, List.getElem_cons_succ]) | (refine wpMix_u rfl rfl ?_; simp only [Act.put, List.setIfInBounds_toArray, List.set_cons_zero, List.set_cons_succ, List.getElem_toArray, List.getElem_cons_zero, List.getElem_cons_succ]))
        refine wpMix_nil ?_
        go_wp2_with fail
        refine wp_region_mix (Ext w2) [(true, 0), (true, 1), (true, 2), (true, 3), (true, 4), (true, 5), (true, 6)] (by kernel_rfl) (by kernel_rfl) (by kernel_rfl) (by kernel_rfl) ?hS2 ?_
        case hS2 => exact hE.of_alloc.drew.drew
        repeat (first | (refine wpMix_q (v := ?_) rfl rfl ?_ ?_; rotate_left; (· intro wq hSq; have cq := hSq.cells; go_simp; try (with_reducible rfl)); simp only [Act.put, List.setIfInBounds_toArray, List.set_cons_zero, List.set_cons_succ, List.getElem_toArray, List.getElem_cons_zero, List.getElem_cons_succ]) | (refine wpMix_u rfl rfl ?_; simp only [Act.put, List.setIfInBounds_toArray, List.set_cons_zero, List.set_cons_succ, List.getElem_toArray, List.getElem_cons_zero, List.getElem_cons_succ]))
        refine wpMix_nil ?_
        go_wp2_with fail
        exact ⟨⟨0, by omega, rfl, by show _ = _; rw [wantAt_lt1 (by omega)], hE.drew.drew⟩, by decide⟩
      · subst h
        go_wp2_with fail
        refine wp_region_mix (Ext w2) [(true, 0), (true, 1), (true, 2), (true, 3), (true, 4), (true, 5), (true, 6)] (by kernel_rfl) (by kernel_rfl) (by kernel_rfl) (by kernel_rfl) ?hS ?_
        case hS => exact hE.of_alloc.drew
        repeat (first | (refine wpMix_q (v := ?_) rfl rfl ?_ ?_; rotate_left; (· intro wq hSq; have cq := hSq.cells; go_simp; try (with_reducible rfl)); simp only [Act.put, List.setIfInBounds_toArray, List.set_cons_zero, List.set_cons_succ, List.getElem_toArray, List.getElem_cons_zero, List.getElem_cons_succ]) | (refine wpMix_u rfl rfl ?_; simp only [Act.put, List.setIfInBounds_toArray, List.set_cons_zero, List.set_cons_succ, List.getElem_toArray, List.getElem_cons_zero, List.getElem_cons_succ]))
        refine wpMix_nil ?_
        go_wp2_with fail
        refine wp_region_mix (Ext w2) [(true, 0), (true, 1), (true, 2), (true, 3), (true, 4), (true, 5), (true, 6)] (by kernel_rfl) (by kernel_rfl) (by kernel_rfl) (by kernel_rfl) ?hS2 ?_
        case hS2 => exact hE.of_alloc.drew.drew
        repeat (first | (refine wpMix_q (v := ?_) rfl rfl ?_ ?_; rotate_left; (· intro wq hSq; have cq := hSq.cells; go_simp; try (with_reducible rfl)); simp only [Act.put, List.setIfInBounds_toArray, List.set_cons_zero, List.set_cons_succ, List.getElem_toArray, List.getElem_cons_zero, List.getElem_cons_succ]) | (refine wpMix_u rfl rfl ?_; simp only [Act.put, List.setIfInBounds_toArray, List.set_cons_zero, List.set_cons_succ, List.getElem_toArray, List.getElem_cons_zero, List.getElem_cons_succ]))
        refine wpMix_nil ?_
        go_wp2_with fail
        exact ⟨⟨0, by omega, rfl, by show _ = _; rw [wantAt_eq1 rfl]; exact HT.out, hE.drew.drew⟩, by decide⟩
      · go_wp2_with fail
        refine wp_region_mix (Ext w2) [(true, 0), (true, 1), (true, 2), (true, 3), (true, 4), (true, 5), (true, 6)] (by kernel_rfl) (by kernel_rfl) (by kernel_rfl) (by kernel_rfl) ?hS ?_
        case hS => exact hE.of_alloc.drew
        repeat (first | (refine wpMix_q (v := ?_) rfl rfl ?_ ?_; rotate_left; (· intro wq hSq; have cq := hSq.cells; go_simp; try (with_reducible rfl)); simp only [Act.put, List.setIfInBounds_toArray, List.set_cons_zero, List.set_cons_succ, List.getElem_toArray, List.getElem_cons_zero, List.getElem_cons_succ]) | (refine wpMix_u rfl rfl ?_; simp only [Act.put, List.setIfInBounds_toArray, List.set_cons_zero, List.set_cons_succ, List.getElem_toArray, List.getElem_cons_zero, List.getElem_cons_succ]))
        refine wpMix_nil ?_
        go_wp2_with fail
        refine wp_region_mix (Ext w2) [(true, 0), (true, 1), (true, 2), (true, 3), (true, 4), (true, 5), (true, 6)] (by kernel_rfl) (by kernel_rfl) (by kernel_rfl) (by kernel_rfl) ?hS2 ?_
        case hS2 => exact hE.of_alloc.drew.drew
        repeat (first | (refine wpMix_q (v := ?_) rfl rfl ?_ ?_; rotate_left; (· intro wq hSq; have cq := hSq.cells; go_simp; try (with_reducible rfl)); simp only [Act.put, List.setIfInBounds_toArray, List.set_cons_zero, List.set_cons_succ, List.getElem_toArray, List.getElem_cons_zero, List.getElem_cons_succ]) | (refine wpMix_u rfl rfl ?_; simp only [Act.put, List.setIfInBounds_toArray, List.set_cons_zero, List.set_cons_succ, List.getElem_toArray, List.getElem_cons_zero, List.getElem_cons_succ]))
        refine wpMix_nil ?_
        go_wp2_with fail
        exact ⟨⟨0, by omega, rfl, by show _ = _; rw [wantAt_gt1 (by omega)], hE.drew.drew⟩, by decide⟩
    · have e0 : (((2 : Nat) : Int) - 1) = 1 := by decide
      rw [e0]
      rcases Int.lt_trichotomy b y with h | h | h
      · go_wp2_with fail
        refine wp_region_mix (Ext w2) [(true, 0), (true, 1), (true, 2), (true, 3), (true, 4), (true, 5), (true, 6)] (by kernel_rfl) (by kernel_rfl) (by kernel_rfl) (by kernel_rfl) ?hS ?_
        case hS => exact hE.of_alloc.drew
        repeat (first | (refine wpMix_q (v := ?_) rfl rfl ?_ ?_; rotate_left; (· intro wq hSq; have cq := hSq.cells; go_simp; try (with_reducible rfl)); simp only [Act.put, List.setIfInBounds_toArray, List.set_cons_zero, List.set_cons_succ, List.getElem_toArray, List.getElem_cons_zero, List.getElem_cons_succ]) | (refine wpMix_u rfl rfl ?_; simp only [Act.put, List.setIfInBounds_toArray, List.set_cons_zero, List.set_cons_succ, List.getElem_toArray, List.getElem_cons_zero, List.getElem_cons_succ]))
        refine wpMix_nil ?_
        go_wp2_with fail
        refine wp_region_mix (Ext w2) [(true, 0), (true, 1), (true, 2), (true, 3), (true, 4), (true, 5), (true, 6)] (by kernel_rfl) (by kernel_rfl) (by kernel_rfl) (by kernel_rfl) ?hS2 ?_
        case hS2 => exact hE.of_alloc.drew.drew
        repeat (first | (refine wpMix_q (v := ?_) rfl rfl ?_ ?_; rotate_left; (· intro wq hSq; have cq := hSq.cells; go_simp; try (with_reducible rfl)); simp only [Act.put, List.setIfInBounds_toArray, List.set_cons_zero, List.set_cons_succ, List.getElem_toArray, List.getElem_cons_zero, List.getElem_cons_succ]) | (refine wpMix_u rfl rfl ?_; simp only [Act.put, List.setIfInBounds_toArray, List.set_cons_zero, List.set_cons_succ, List.getElem_toArray, List.getElem_cons_zero, List.getElem_cons_succ]))
        refine wpMix_nil ?_
        go_wp2_with fail
        exact ⟨⟨1, by omega, rfl, by show _ = _; rw [wantAt_lt2 (by omega)], hE.drew.drew⟩, by decide⟩
      · subst h
        go_wp2_with fail
        refine wp_region_mix (Ext w2) [(true, 0), (true, 1), (true, 2), (true, 3), (true, 4), (true, 5), (true, 6)] (by kernel_rfl) (by kernel_rfl) (by kernel_rfl) (by kernel_rfl) ?hS ?_
        case hS => exact hE.of_alloc.drew
        repeat (first | (refine wpMix_q (v := ?_) rfl rfl ?_ ?_; rotate_left; (· intro wq hSq; have cq := hSq.cells; go_simp; try (with_reducible rfl)); simp only [Act.put, List.setIfInBounds_toArray, List.set_cons_zero, List.set_cons_succ, List.getElem_toArray, List.getElem_cons_zero, List.getElem_cons_succ]) | (refine wpMix_u rfl rfl ?_; simp only [Act.put, List.setIfInBounds_toArray, List.set_cons_zero, List.set_cons_succ, List.getElem_toArray, List.getElem_cons_zero, List.getElem_cons_succ]))
        refine wpMix_nil ?_
        go_wp2_with fail
        refine wp_region_mix (Ext w2) [(true, 0), (true, 1), (true, 2), (true, 3), (true, 4), (true, 5), (true, 6)] (by kernel_rfl) (by kernel_rfl) (by kernel_rfl) (by kernel_rfl) ?hS2 ?_
        case hS2 => exact hE.of_alloc.drew.drew
        repeat (first | (refine wpMix_q (v := ?_) rfl rfl ?_ ?_; rotate_left; (· intro wq hSq; have cq := hSq.cells; go_simp; try (with_reducible rfl)); simp only [Act.put, List.setIfInBounds_toArray, List.set_cons_zero, List.set_cons_succ, List.getElem_toArray, List.getElem_cons_zero, List.getElem_cons_succ]) | (refine wpMix_u rfl rfl ?_; simp only [Act.put, List.setIfInBounds_toArray, List.set_cons_zero, List.set_cons_succ, List.getElem_toArray, List.getElem_cons_zero, List.getElem_cons_succ]))
        refine wpMix_nil ?_
        go_wp2_with fail
        exact ⟨⟨1, by omega, rfl, by show _ = _; rw [wantAt_eq2 rfl]; exact HT.out, hE.drew.drew⟩, by decide⟩
      · go_wp2_with fail
        refine wp_region_mix (Ext w2) [(true, 0), (true, 1), (true, 2), (true, 3), (true, 4), (true, 5), (true, 6)] (by kernel_rfl) (by kernel_rfl) (by kernel_rfl) (by kernel_rfl) ?hS ?_
        case hS => exact hE.of_alloc.drew
        repeat (first | (refine wpMix_q (v := ?_) rfl rfl ?_ ?_; rotate_left; (· intro wq hSq; have cq := hSq.cells; go_simp; try (with_reducible rfl)); simp only [Act.put, List.setIfInBounds_toArray, List.set_cons_zero, List.set_cons_succ, List.getElem_toArray, List.getElem_cons_zero, List.getElem_cons_succ]) | (refine wpMix_u rfl rfl ?_; simp only [Act.put, List.setIfInBounds_toArray, List.set_cons_zero, List.set_cons_succ, List.getElem_toArray, List.getElem_cons_zero, List.getElem_cons_succ]))
        refine wpMix_nil ?_
        go_wp2_with fail
        refine wp_region_mix (Ext w2) [(true, 0), (true, 1), (true, 2), (true, 3), (true, 4), (true, 5), (true, 6)] (by kernel_rfl) (by kernel_rfl) (by kernel_rfl) (by kernel_rfl) ?hS2 ?_
        case hS2 => exact hE.of_alloc.drew.drew
        repeat (first | (refine wpMix_q (v := ?_) rfl rfl ?_ ?_; rotate_left; (· intro wq hSq; have cq := hSq.cells; go_simp; try (with_reducible rfl)); simp only [Act.put, List.setIfInBounds_toArray, List.set_cons_zero, List.set_cons_succ, List.getElem_toArray, List.getElem_cons_zero, List.getElem_cons_succ]) | (refine wpMix_u rfl rfl ?_; simp only [Act.put, List.setIfInBounds_toArray, List.set_cons_zero, List.set_cons_succ, List.getElem_toArray, List.getElem_cons_zero, List.getElem_cons_succ]))
        refine wpMix_nil ?_
        go_wp2_with fail
        exact ⟨⟨1, by omega, rfl, by show _ = _; rw [wantAt_gt2 (by omega)], hE.drew.drew⟩, by decide⟩
    · have e0 : (((3 : Nat) : Int) - 1) = 2 := by decide
      rw [e0]
      rcases Int.lt_trichotomy c z with h | h | h
      · go_wp2_with fail
        refine wp_region_mix (Ext w2) [(true, 0), (true, 1), (true, 2), (true, 3), (true, 4), (true, 5), (true, 6)] (by kernel_rfl) (by kernel_rfl) (by kernel_rfl) (by kernel_rfl) ?hS ?_
        case hS => exact hE.of_alloc.drew
        repeat (first | (refine wpMix_q (v := ?_) rfl rfl ?_ ?_; rotate_left; (· intro wq hSq; have cq := hSq.cells; go_simp; try (with_reducible rfl)); simp only [Act.put, List.setIfInBounds_toArray, List.set_cons_zero, List.set_cons_succ, List.getElem_toArray, List.getElem_cons_zero, List.getElem_cons_succ]) | (refine wpMix_u rfl rfl ?_; simp only [Act.put, List.setIfInBounds_toArray, List.set_cons_zero, List.set_cons_succ, List.getElem_toArray, List.getElem_cons_zero, List.getElem_cons_succ]))
        refine wpMix_nil ?_
        go_wp2_with fail
        refine wp_region_mix (Ext w2) [(true, 0), (true, 1), (true, 2), (true, 3), (true, 4), (true, 5), (true, 6)] (by kernel_rfl) (by kernel_rfl) (by kernel_rfl) (by kernel_rfl) ?hS2 ?_
        case hS2 => exact hE.of_alloc.drew.drew
        repeat (first | (refine wpMix_q (v := ?_) rfl rfl ?_ ?_; rotate_left; (· intro wq hSq; have cq := hSq.cells; go_simp; try (with_reducible rfl)); simp only [Act.put, List.setIfInBounds_toArray, List.set_cons_zero, List.set_cons_succ, List.getElem_toArray, List.getElem_cons_zero, List.getElem_cons_succ]) | (refine wpMix_u rfl rfl ?_; simp only [Act.put, List.setIfInBounds_toArray, List.set_cons_zero, List.set_cons_succ, List.getElem_toArray, List.getElem_cons_zero, List.getElem_cons_succ]))
        refine wpMix_nil ?_
        go_wp2_with fail
        exact ⟨⟨2, by omega, rfl, by show _ = _; rw [wantAt_lt3 (by omega)], hE.drew.drew⟩, by decide⟩
      · subst h
        go_wp2_with fail
        refine wp_region_mix (Ext w2) [(true, 0), (true, 1), (true, 2), (true, 3), (true, 4), (true, 5), (true, 6)] (by kernel_rfl) (by kernel_rfl) (by kernel_rfl) (by kernel_rfl) ?hS ?_
        case hS => exact hE.of_alloc.drew
        repeat (first | (refine wpMix_q (v := ?_) rfl rfl ?_ ?_; rotate_left; (· intro wq hSq; have cq := hSq.cells; go_simp; try (with_reducible rfl)); simp only [Act.put, List.setIfInBounds_toArray, List.set_cons_zero, List.set_cons_succ, List.getElem_toArray, List.getElem_cons_zero, List.getElem_cons_succ]) | (refine wpMix_u rfl rfl ?_; simp only [Act.put, List.setIfInBounds_toArray, List.set_cons_zero, List.set_cons_succ, List.getElem_toArray, List.getElem_cons_zero, List.getElem_cons_succ]))
        refine wpMix_nil ?_
        go_wp2_with fail
        refine wp_region_mix (Ext w2) [(true, 0), (true, 1), (true, 2), (true, 3), (true, 4), (true, 5), (true, 6)] (by kernel_rfl) (by kernel_rfl) (by kernel_rfl) (by kernel_rfl) ?hS2 ?_
        case hS2 => exact hE.of_alloc.drew.drew
        repeat (first | (refine wpMix_q (v := ?_) rfl rfl ?_ ?_; rotate_left; (· intro wq hSq; have cq := hSq.cells; go_simp; try (with_reducible rfl)); simp only [Act.put, List.setIfInBounds_toArray, List.set_cons_zero, List.set_cons_succ, List.getElem_toArray, List.getElem_cons_zero, List.getElem_cons_succ]) | (refine wpMix_u rfl rfl ?_; simp only [Act.put, List.setIfInBounds_toArray, List.set_cons_zero, List.set_cons_succ, List.getElem_toArray, List.getElem_cons_zero, List.getElem_cons_succ]))
        refine wpMix_nil ?_
        go_wp2_with fail
        exact ⟨⟨2, by omega, rfl, by show _ = _; rw [wantAt_eq3 rfl]; exact HT.out, hE.drew.drew⟩, by decide⟩
      · go_wp2_with fail
        refine wp_region_mix (Ext w2) [(true, 0), (true, 1), (true, 2), (true, 3), (true, 4), (true, 5), (true, 6)] (by kernel_rfl) (by kernel_rfl) (by kernel_rfl) (by kernel_rfl) ?hS ?_
        case hS => exact hE.of_alloc.drew
        repeat (first | (refine wpMix_q (v := ?_) rfl rfl ?_ ?_; rotate_left; (· intro wq hSq; have cq := hSq.cells; go_simp; try (with_reducible rfl)); simp only [Act.put, List.setIfInBounds_toArray, List.set_cons_zero, List.set_cons_succ, List.getElem_toArray, List.getElem_cons_zero, List.getElem_cons_succ]) | (refine wpMix_u rfl rfl ?_; simp only [Act.put, List.setIfInBounds_toArray, List.set_cons_zero, List.set_cons_succ, List.getElem_toArray, List.getElem_cons_zero, List.getElem_cons_succ]))
        refine wpMix_nil ?_
        go_wp2_with fail
        refine wp_region_mix (Ext w2) [(true, 0), (true, 1), (true, 2), (true, 3), (true, 4), (true, 5), (true, 6)] (by kernel_rfl) (by kernel_rfl) (by kernel_rfl) (by kernel_rfl) ?hS2 ?_
        case hS2 => exact hE.of_alloc.drew.drew
        repeat (first | (refine wpMix_q (v := ?_) rfl rfl ?_ ?_; rotate_left; (· intro wq hSq; have cq := hSq.cells; go_simp; try (with_reducible rfl)); simp only [Act.put, List.setIfInBounds_toArray, List.set_cons_zero, List.set_cons_succ, List.getElem_toArray, List.getElem_cons_zero, List.getElem_cons_succ]) | (refine wpMix_u rfl rfl ?_; simp only [Act.put, List.setIfInBounds_toArray, List.set_cons_zero, List.set_cons_succ, List.getElem_toArray, List.getElem_cons_zero, List.getElem_cons_succ]))
        refine wpMix_nil ?_
        go_wp2_with fail
        exact ⟨⟨2, by omega, rfl, by show _ = _; rw [wantAt_gt3 (by omega)], hE.drew.drew⟩, by decide⟩
end Go.Proofs.YtmgdgbnbikgmkaaDoor
