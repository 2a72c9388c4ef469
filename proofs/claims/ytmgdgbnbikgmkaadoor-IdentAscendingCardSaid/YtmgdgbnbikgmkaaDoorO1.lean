/- R1.Compare on identifiers. -/
import Derived.Test.YtmgdgbnbikgmkaaDoorPL
namespace Go.Proofs.YtmgdgbnbikgmkaaDoor
open Go.RowKit
def cmpI (a b : Int) : Int := if a < b then -1 else if b < a then 1 else 0
set_option maxHeartbeats 400000 in
theorem ints_ok (a b : Int) (w : World) : Calls Tryd.prog 32 #[.int .i64 a, .int .i64 b] w fun e w' => e = .returned (.int .i64 (cmpI a b)) ∧ w = w' := by
  rcases Int.lt_trichotomy a b with h | h | h
  · have hc : cmpI a b = -1 := by simp [cmpI, h]
    have HC := Lib.hid hc
    clear hc
    go_enter Tryd.func32, Tryd.ntmps32
    go_wp2_with fail
    go_ret
    exact ⟨by rw [HC.out]; rfl, rfl⟩
  · subst h
    have hc : cmpI a a = 0 := by simp [cmpI]
    have HC := Lib.hid hc
    clear hc
    go_enter Tryd.func32, Tryd.ntmps32
    go_wp2_with fail
    go_ret
    exact ⟨by rw [HC.out]; rfl, rfl⟩
  · have hc : cmpI a b = 1 := by simp [cmpI, h]; omega
    have HC := Lib.hid hc
    clear hc
    go_enter Tryd.func32, Tryd.ntmps32
    go_wp2_with fail
    go_ret
    exact ⟨by rw [HC.out]; rfl, rfl⟩
/-- two lists of bytes, compared -/
def cmpL : List UInt8 → List UInt8 → Int
  | [], [] => 0
  | [], _ :: _ => -1
  | _ :: _, [] => 1
  | a :: l, b :: m => if a = b then cmpL l m else cmpI (a.toNat : Int) (b.toNat : Int)
theorem cmpL_drop (l m : List UInt8) (k : Nat) (h : l.take k = m.take k) (hl : k ≤ l.length) (hm : k ≤ m.length) : cmpL l m = cmpL (l.drop k) (m.drop k) := by
  induction k generalizing l m with
  | zero => simp
  | succ k ih =>
    match l, m with
    | [], _ => simp at hl
    | _ :: _, [] => simp at hm
    | a :: l, b :: m =>
      simp only [List.take_succ_cons, List.cons.injEq] at h
      simp only [List.drop_succ_cons, cmpL, if_pos h.1]
      exact ih l m h.2 (by simpa using hl) (by simpa using hm)
theorem cmpL_at (l m : List UInt8) (k : Nat) (a b : UInt8) (h : l.take k = m.take k) (hl : l[k]? = some a) (hm : m[k]? = some b) (hne : a ≠ b) : cmpL l m = cmpI (a.toNat : Int) (b.toNat : Int) := by
  have h1 : k < l.length := (List.getElem?_eq_some_iff.1 hl).1
  have h2 : k < m.length := (List.getElem?_eq_some_iff.1 hm).1
  rw [cmpL_drop l m k h (by omega) (by omega), List.drop_eq_getElem_cons h1, List.drop_eq_getElem_cons h2]
  rw [List.getElem?_eq_getElem h1] at hl
  rw [List.getElem?_eq_getElem h2] at hm
  rw [Option.some.inj hl, Option.some.inj hm]
  simp only [cmpL, if_neg hne]
theorem cmpL_end (l m : List UInt8) (k : Nat) (h : l.take k = m.take k) (hl : k ≤ l.length) (hm : k ≤ m.length) (he : l.length = k ∨ m.length = k) : cmpL l m = cmpI (l.length : Int) (m.length : Int) := by
  rw [cmpL_drop l m k h hl hm]
  unfold cmpI
  rcases he with he | he
  · rw [List.drop_eq_nil_of_le (by omega)]
    cases hd : m.drop k with
    | nil =>
      have : m.length ≤ k := List.drop_eq_nil_iff.1 hd
      rw [if_neg (by omega), if_neg (by omega)]; rfl
    | cons x y =>
      have : (m.drop k).length = y.length + 1 := by rw [hd]; rfl
      rw [List.length_drop] at this
      rw [if_pos (by omega)]; rfl
  · have hm0 : m.drop k = [] := List.drop_eq_nil_of_le (by omega)
    rw [hm0]
    cases hd : l.drop k with
    | nil =>
      have : l.length ≤ k := List.drop_eq_nil_iff.1 hd
      rw [if_neg (by omega), if_neg (by omega)]; rfl
    | cons x y =>
      have : (l.drop k).length = y.length + 1 := by rw [hd]; rfl
      rw [List.length_drop] at this
      rw [if_neg (by omega), if_pos (by omega)]; rfl
set_option maxHeartbeats 1000000 in
theorem texts_ok (s t : ByteArray) (hs : s.size ≤ 9223372036854775807) (ht : t.size ≤ 9223372036854775807) (w : World) : Calls Tryd.prog 33 #[.string s, .string t] w fun e w' => e = .returned (.int .i64 (cmpL s.data.toList t.data.toList)) ∧ Ext w w' := by
  go_enter Tryd.func33, Tryd.ntmps33
  go_wp2_with fail
  go_loopw [5] (fun i wr => ∃ k : Nat, k ≤ s.size ∧ k ≤ t.size ∧ i = .int .i64 k ∧ Hid (s.data.toList.take k = t.data.toList.take k) ∧ Ext w wr) (fun i _ => s.size - (intOf i).toNat)
  case atStart => exact ⟨0, by omega, by omega, rfl, rfl, Ext.refl w⟩
  case round =>
    obtain ⟨k, hk, hk', rfl, HT, hE⟩ := hrel
    by_cases h1 : k < s.size
    · by_cases h2 : k < t.size
      · obtain ⟨a, ha⟩ : ∃ n, s[k].toNat = n := ⟨_, rfl⟩
        obtain ⟨b, hb⟩ : ∃ n, t[k].toNat = n := ⟨_, rfl⟩
        have la : a < 256 := by rw [← ha]; exact s[k].toNat_lt
        have lb : b < 256 := by rw [← hb]; exact t[k].toNat_lt
        have d1 : decide (k < s.size) = true := by simpa using h1
        have d2 : decide (k < t.size) = true := by simpa using h2
        have e1 : (k : Int) < (s.size : Int) := by omega
        have e2 : (k : Int) < (t.size : Int) := by omega
        by_cases hab : a = b
        · subst hab
          go_wp2_with fail
          refine wp_region_mix (fun w' => True) [(true, 0), (true, 1), (true, 2), (true, 3), (true, 4), (true, 5), (true, 6)] (by kernel_rfl) (by kernel_rfl) (by kernel_rfl) (by kernel_rfl) ?hS ?_
          case hS => exact trivial
          repeat (first | (refine wpMix_q (v := ?_) rfl rfl ?_ ?_; rotate_left; (· intro wq hSq; go_simp; try (with_reducible rfl)); simp only [Act.put, List.setIfInBounds_toArray, List.set_cons_zero, List.set_cons_succ, List.getElem_toArray, List.getElem_cons_zero, List.getElem_cons_succ]) | (refine wpMix_u rfl rfl ?_; simp only [Act.put, List.setIfInBounds_toArray, List.set_cons_zero, List.set_cons_succ, List.getElem_toArray, List.getElem_cons_zero, List.getElem_cons_succ]))
          refine wpMix_nil ?_
          have HT2 : Hid (s.data.toList.take (k + 1) = t.data.toList.take (k + 1)) := by
            have hst : s[k] = t[k] := UInt8.toNat_inj.1 (ha.trans hb.symm)
            show _ = _
            rw [take_snoc s k h1, take_snoc t k h2, HT.out, hst]
          clear ha hb
          go_wp2_with fail
          exact ⟨⟨k + 1, by omega, by omega, by go_num, HT2, hE.drew⟩, by simp [intOf]; omega⟩
        · have hne : ((a : Int) != (b : Int)) = true := by simp; omega
          have hw1 := wrap_i64_in (a : Int) (by omega) (by omega)
          have hw2 := wrap_i64_in (b : Int) (by omega) (by omega)
          have hfin : cmpL s.data.toList t.data.toList = cmpI (a : Int) (b : Int) := by
            rw [← ha, ← hb]
            exact cmpL_at _ _ k _ _ HT.out (at_byte s k h1) (at_byte t k h2) (fun h => hab (by rw [← ha, ← hb, h]))
          have HF := Lib.hid hfin
          clear hfin
          go_wp2_with fail
          refine wp_region_mix (fun w' => True) [(true, 0), (true, 1), (true, 2), (true, 3), (true, 4), (true, 5), (true, 6)] (by kernel_rfl) (by kernel_rfl) (by kernel_rfl) (by kernel_rfl) ?hS ?_
          case hS => exact trivial
          repeat (first | (refine wpMix_q (v := ?_) rfl rfl ?_ ?_; rotate_left; (· intro wq hSq; go_simp; try (with_reducible rfl)); simp only [Act.put, List.setIfInBounds_toArray, List.set_cons_zero, List.set_cons_succ, List.getElem_toArray, List.getElem_cons_zero, List.getElem_cons_succ]) | (refine wpMix_u rfl rfl ?_; simp only [Act.put, List.setIfInBounds_toArray, List.set_cons_zero, List.set_cons_succ, List.getElem_toArray, List.getElem_cons_zero, List.getElem_cons_succ]))
          refine wpMix_nil ?_
          go_wp2_with fail
          refine wp_region_mix (fun w' => True) [(true, 0), (true, 1), (true, 2), (true, 3), (true, 4), (true, 5), (true, 6), (true, 7), (false, 8), (true, 9)] (by kernel_rfl) (by kernel_rfl) (by kernel_rfl) (by kernel_rfl) ?hS2 ?_
          case hS2 => exact trivial
          repeat (first | (refine wpMix_q (v := ?_) rfl rfl ?_ ?_; rotate_left; (· intro wq hSq; go_simp; try (with_reducible rfl)); simp only [Act.put, List.setIfInBounds_toArray, List.set_cons_zero, List.set_cons_succ, List.getElem_toArray, List.getElem_cons_zero, List.getElem_cons_succ]) | (refine wpMix_u rfl rfl ?_; simp only [Act.put, List.setIfInBounds_toArray, List.set_cons_zero, List.set_cons_succ, List.getElem_toArray, List.getElem_cons_zero, List.getElem_cons_succ]))
          refine wpMix_l rfl rfl (fun K hK => ?_)
          go_simp
          refine (ints_ok _ _ _).mono ?_
          rintro e w2 ⟨rfl, rfl⟩
          refine hK _ _ trivial ?_
          clear hK K
          (try simp only [Act.put, List.setIfInBounds_toArray, List.set_cons_zero, List.set_cons_succ, List.getElem_toArray, List.getElem_cons_zero, List.getElem_cons_succ])
          repeat (first | (refine wpMix_q (v := ?_) rfl rfl ?_ ?_; rotate_left; (· intro wq hSq; go_simp; try (with_reducible rfl)); simp only [Act.put, List.setIfInBounds_toArray, List.set_cons_zero, List.set_cons_succ, List.getElem_toArray, List.getElem_cons_zero, List.getElem_cons_succ]) | (refine wpMix_u rfl rfl ?_; simp only [Act.put, List.setIfInBounds_toArray, List.set_cons_zero, List.set_cons_succ, List.getElem_toArray, List.getElem_cons_zero, List.getElem_cons_succ]))
          refine wpMix_nil ?_
          clear ha hb
          go_wp2_with fail
          go_ret
          exact ⟨by rw [HF.out]; rfl, hE.drew.drew⟩
      · have hfin := cmpL_end s.data.toList t.data.toList k HT.out (by simpa using hk) (by simpa using hk') (.inr (by simp; omega))
        have HF := Lib.hid hfin
        have d1 : decide (k < s.size) = true := by simpa using h1
        have d2 : decide (k < t.size) = false := by simpa using h2
        clear hfin
        go_wp2_with fail
        refine (ints_ok _ _ _).mono ?_
        rintro e w2 ⟨rfl, rfl⟩
        go_wp2_with fail
        go_ret
        exact ⟨by rw [HF.out]; simp, hE⟩
    · have hfin := cmpL_end s.data.toList t.data.toList k HT.out (by simpa using hk) (by simpa using hk') (.inl (by simp; omega))
      have HF := Lib.hid hfin
      have d1 : decide (k < s.size) = false := by simpa using h1
      clear hfin
      go_wp2_with fail
      refine (ints_ok _ _ _).mono ?_
      rintro e w2 ⟨rfl, rfl⟩
      go_wp2_with fail
      go_ret
      exact ⟨by rw [HF.out]; simp, hE⟩
set_option maxHeartbeats 1000000 in
theorem compare_id (s t : ByteArray) (hs : s.size ≤ 9223372036854775807) (ht : t.size ≤ 9223372036854775807) (i j : Int) (la da lb db : Option Addr) (ln lc dn dc mn mc en ec : Nat) (w : World) :
    Calls Tryd.prog 23 #[.agg #[.int .i64 8, .int .i64 i, .string s, .slice la ln lc, .slice da dn dc], .agg #[.int .i64 8, .int .i64 j, .string t, .slice lb mn mc, .slice db en ec]] w fun e w' => e = .returned (.int .i64 (cmpL s.data.toList t.data.toList)) ∧ Ext w w' := by
  go_enter Tryd.func23, Tryd.ntmps23
  go_wp2_with fail
  refine (texts_ok s t hs ht _).mono ?_
  rintro e w1 ⟨rfl, h1⟩
  go_wp2_with fail
  go_ret
  exact ⟨rfl, h1.of_alloc.of_alloc⟩
end Go.Proofs.YtmgdgbnbikgmkaaDoor
