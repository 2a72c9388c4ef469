/- (*keyenc.reader).next, more. -/
import Derived.Test.YtipphlhaaienpaaDoorKRP
import Derived.Test.YtipphlhaaienpaaDoorMix
set_option linter.unusedSimpArgs false
set_option linter.unusedVariables false
namespace Go.Proofs.YtipphlhaaienpaaDoor
open Go.RowKit
/-- the cells of a reader -/
def KrCells (s : ByteArray) (p : Nat) (fl : UInt8) (c : Int) : Obj := .cells #[.string s, .int .i64 (p : Int), .int .u8 (fl.toNat : Int), .int .i64 c] 49 (0, 0)
def NxPost (rb : Nat) (s : ByteArray) (fl : UInt8) (p : Nat) (w : World) (x : Except Int (UInt8 × Nat)) (e : Ending) (w' : World) : Prop :=
  ∃ (b : UInt8) (q : Nat) (c : Int), (p ≤ q ∧ q ≤ s.size) ∧ e = .returned (.int .u8 (b.toNat : Int)) ∧ w'.heap[rb]? = some (KrCells s q fl c) ∧ w.grownBy w' (some rb) ∧ Out x b q c ∧ (c ≠ 0 → b = 0)
theorem kr_set1 {w : World} {rb : Nat} {s : ByteArray} {p p' : Nat} {fl : UInt8} {c : Int} (h : w.heap[rb]? = some (KrCells s p fl c)) (x : Int) (hx : x = p') : (w.setCell ⟨rb, 1, none⟩ (.int .i64 x)).heap[rb]? = some (KrCells s p' fl c) := by
  subst hx; exact blk_set h 1 _
theorem kr_set3 {w : World} {rb : Nat} {s : ByteArray} {p : Nat} {fl : UInt8} {c : Int} (h : w.heap[rb]? = some (KrCells s p fl c)) (x : Int) : (w.setCell ⟨rb, 3, none⟩ (.int .i64 x)).heap[rb]? = some (KrCells s p fl x) := blk_set h 3 _
theorem xor_u8 (a b : UInt8) : bits .xor .u8 (a.toNat : Int) (b.toNat : Int) = ((a ^^^ b).toNat : Int) := by
  show IntKind.u8.wrap ((BitVec.ofInt 8 (a.toNat : Int) ^^^ BitVec.ofInt 8 (b.toNat : Int)).toNat : Int) = _
  rw [BitVec.toNat_xor, UInt8.toNat_xor]
  have h : ∀ x : UInt8, (BitVec.ofInt 8 (x.toNat : Int)).toNat = x.toNat := fun x => by
    rw [BitVec.toNat_ofInt]; have := x.toNat_lt; omega
  rw [h, h]
  have h1 : a.toNat ^^^ b.toNat < 2 ^ 8 := Nat.xor_lt_two_pow a.toNat_lt b.toNat_lt
  simp [IntKind.wrap, IntKind.bits, IntKind.signed]
  omega
set_option maxRecDepth 20000 in
set_option maxHeartbeats 2000000 in
theorem next_err (s : ByteArray) (rb p : Nat) (fl : UInt8) (c : Int) (hc : c ≠ 0) (w : World) (h : w.heap[rb]? = some (KrCells s p fl c)) :
    Calls Tryd.prog 40 #[.pointer (some ⟨rb, 0, none⟩)] w fun e w' => e = .returned (.int .u8 0) ∧ w = w' := by
  have ck := blk_cell h
  have hrb := blk_lt h
  have d : (c != 0) = true := by simpa using hc
  clear h hc
  go_enter Tryd.func40, Tryd.ntmps40
  go_wp2_with fail
  go_ret
  exact ⟨rfl, rfl⟩
set_option maxRecDepth 20000 in
set_option maxHeartbeats 2000000 in
theorem next_ok (s : ByteArray) (rb p : Nat) (fl : UInt8) (w : World) (hs : s.size ≤ 1000000000) (hp : p ≤ s.size) (h : w.heap[rb]? = some (KrCells s p fl 0)) :
    Calls Tryd.prog 40 #[.pointer (some ⟨rb, 0, none⟩)] w (NxPost rb s fl p w (nextE s fl p)) := by
  have ck := blk_cell h
  have cf := blk_free h
  have hrb := blk_lt h
  have H := Lib.hid h
  clear h
  by_cases hlt : p < s.size
  · have hR : nextE s fl p = .ok (kbyte s p ^^^ fl, p + 1) := by unfold nextE; rw [if_pos hlt]
    rw [hR]
    clear hR
    have d1 : ((p : Int) == (s.size : Int)) = false := beq_eq_false_iff_ne.2 (by omega)
    have HX := Lib.hid (xor_u8 (kbyte s p) fl)
    have hb := kbyte_at s p hlt
    obtain ⟨b, hb2⟩ : ∃ b, kbyte s p = b := ⟨_, rfl⟩
    rw [hb2] at hb HX ⊢
    go_enter Tryd.func40, Tryd.ntmps40
    go_wp2_with fail
    refine wp_region_mix (Ext w) [(true, 0), (true, 1), (true, 2), (true, 3), (true, 4), (true, 5), (true, 6), (true, 7), (true, 8), (true, 9)] (by kernel_rfl) (by kernel_rfl) (by kernel_rfl) (by kernel_rfl) ?hS ?_
    case hS => exact (Ext.refl _).drew
    repeat (first | (refine wpMix_q (v := ?_) rfl rfl ?_ ?_; rotate_left; (· intro wq hSq; have cq := hSq.cells; go_simp; try (with_reducible rfl)); simp only [Act.put, List.setIfInBounds_toArray, List.set_cons_zero, List.set_cons_succ, List.getElem_toArray, List.getElem_cons_zero, List.getElem_cons_succ]) | (refine wpMix_u rfl rfl ?_; simp only [Act.put, List.setIfInBounds_toArray, List.set_cons_zero, List.set_cons_succ, List.getElem_toArray, List.getElem_cons_zero, List.getElem_cons_succ]))
    refine wpMix_nil ?_
    go_wp2_with fail
    have HB2 := Lib.hid (kr_set1 H.out ((p : Int) + 1) (p' := p + 1) (by omega))
    have hw1 := wrap_i64_val (p : Int) (by omega) (by omega)
    refine wp_region_mix (fun W => W.heap[rb]? = some (.cells #[.string s, .int .i64 ((p : Int) + 1), .int .u8 (fl.toNat : Int), .int .i64 0] 49 (0, 0))) [(true, 0), (true, 1), (true, 2), (true, 3), (true, 4), (true, 5), (true, 6), (true, 7), (true, 8), (true, 9), (true, 10), (true, 11), (true, 12), (true, 13), (true, 14), (true, 15)] (by kernel_rfl) (by kernel_rfl) (by kernel_rfl) (by kernel_rfl) ?hS ?_
    case hS => exact kr_set1 H.out ((p : Int) + 1) rfl
    repeat (first | (refine wpMix_q (v := ?_) rfl rfl ?_ ?_; rotate_left; (· intro wq hSq; have cq := blk_cell hSq; go_simp; try (with_reducible rfl)); simp only [Act.put, List.setIfInBounds_toArray, List.set_cons_zero, List.set_cons_succ, List.getElem_toArray, List.getElem_cons_zero, List.getElem_cons_succ]) | (refine wpMix_u rfl rfl ?_; simp only [Act.put, List.setIfInBounds_toArray, List.set_cons_zero, List.set_cons_succ, List.getElem_toArray, List.getElem_cons_zero, List.getElem_cons_succ]))
    refine wpMix_nil ?_
    go_wp2_with fail
    go_ret
    refine ⟨b ^^^ fl, p + 1, 0, ⟨by omega, by omega⟩, ret_int HX.out, HB2.out, ?_, ⟨rfl, rfl, rfl⟩, fun h => absurd rfl h⟩
    repeat (first | with_reducible exact World.grownBy.refl _ _ | with_reducible refine only_drew ?_ | with_reducible refine only_setCell ?_ (.inl rfl) _)
  · have hR : nextE s fl p = .error 5 := by unfold nextE; rw [if_neg hlt]
    rw [hR]
    clear hR
    obtain rfl : p = s.size := by omega
    have d1 : ((s.size : Int) == (s.size : Int)) = true := by simp
    go_enter Tryd.func40, Tryd.ntmps40
    go_wp2_with fail
    refine wp_region_mix (Ext w) [(true, 0), (true, 1), (true, 2), (true, 3), (true, 4), (true, 5), (true, 6), (true, 7), (true, 8), (true, 9)] (by kernel_rfl) (by kernel_rfl) (by kernel_rfl) (by kernel_rfl) ?hS ?_
    case hS => exact (Ext.refl _).drew
    repeat (first | (refine wpMix_q (v := ?_) rfl rfl ?_ ?_; rotate_left; (· intro wq hSq; have cq := hSq.cells; go_simp; try (with_reducible rfl)); simp only [Act.put, List.setIfInBounds_toArray, List.set_cons_zero, List.set_cons_succ, List.getElem_toArray, List.getElem_cons_zero, List.getElem_cons_succ]) | (refine wpMix_u rfl rfl ?_; simp only [Act.put, List.setIfInBounds_toArray, List.set_cons_zero, List.set_cons_succ, List.getElem_toArray, List.getElem_cons_zero, List.getElem_cons_succ]))
    refine wpMix_nil ?_
    go_wp2_with fail
    go_ret
    refine ⟨0, s.size, 5, ⟨Nat.le_refl _, Nat.le_refl _⟩, rfl, kr_set3 H.out _, ?_, ⟨rfl, by omega⟩, fun _ => rfl⟩
    repeat (first | with_reducible exact World.grownBy.refl _ _ | with_reducible refine only_drew ?_ | with_reducible refine only_setCell ?_ (.inl rfl) _)
def MrPost (rb : Nat) (s : ByteArray) (fl : UInt8) (p : Nat) (w : World) (x : Except Int (Bool × Nat)) (e : Ending) (w' : World) : Prop :=
  ∃ (b : Bool) (q : Nat) (c : Int), (p ≤ q ∧ q ≤ s.size) ∧ e = .returned (.bool b) ∧ w'.heap[rb]? = some (KrCells s q fl c) ∧ w.grownBy w' (some rb) ∧ Out x b q c ∧ (c ≠ 0 → b = false)
set_option maxRecDepth 20000 in
set_option maxHeartbeats 2000000 in
theorem more_err (s : ByteArray) (rb p : Nat) (fl : UInt8) (c : Int) (hc : c ≠ 0) (w : World) (h : w.heap[rb]? = some (KrCells s p fl c)) :
    Calls Tryd.prog 42 #[.pointer (some ⟨rb, 0, none⟩)] w fun e w' => e = .returned (.bool false) ∧ w = w' := by
  have H := Lib.hid h
  have HC := Lib.hid hc
  clear h hc
  go_enter Tryd.func42, Tryd.ntmps42
  go_wp2_with fail
  refine (next_err s rb p fl c HC.out _ H.out).mono ?_
  rintro e w1 ⟨rfl, rfl⟩
  go_wp2_with fail
  go_ret
  exact ⟨rfl, rfl⟩
set_option maxRecDepth 20000 in
set_option maxHeartbeats 2000000 in
theorem more_ok (s : ByteArray) (rb p : Nat) (fl : UInt8) (w : World) (hs : s.size ≤ 1000000000) (hp : p ≤ s.size) (h : w.heap[rb]? = some (KrCells s p fl 0)) :
    Calls Tryd.prog 42 #[.pointer (some ⟨rb, 0, none⟩)] w (MrPost rb s fl p w (moreE s fl p)) := by
  have H := Lib.hid h
  clear h
  obtain ⟨x, hx⟩ : ∃ x, nextE s fl p = x := ⟨_, rfl⟩
  have hR : moreE s fl p = moreK x := by unfold moreE; rw [hx]
  rw [hR]
  clear hR
  have HX := Lib.hid hx
  clear hx
  go_enter Tryd.func42, Tryd.ntmps42
  go_wp2_with fail
  refine (next_ok s rb p fl _ hs hp H.out).mono ?_
  rw [HX.out]
  rintro e w1 ⟨b, q, c, hq, rfl, h1, g1, ho, hz⟩
  have ck := blk_cell h1
  have cf := blk_free h1
  have hrb1 := blk_lt h1
  have H1 := Lib.hid h1
  have HG1 := Lib.hid g1
  clear h1 g1
  cases x with
  | error e0 =>
    obtain ⟨rfl, hc⟩ := ho
    obtain rfl := hz hc
    have HC := Lib.hid hc
    clear hc hz
    go_wp2_with fail
    go_ret
    exact ⟨false, q, c, hq, rfl, H1.out, HG1.out, ⟨rfl, HC.out⟩, fun _ => rfl⟩
  | ok y =>
    obtain ⟨b', q'⟩ := y
    obtain ⟨rfl, rfl, rfl⟩ := ho
    clear hz
    have hb := b'.toNat_lt
    by_cases h1 : 1 < b'.toNat
    · have d : decide (1 < (b'.toNat : Int)) = true := by simp; omega
      have d2 : ((b'.toNat : Int) == 1) = false := beq_eq_false_iff_ne.2 (by omega)
      have HM : Hid (moreK (.ok (b', q')) = .error 4) := by show _ = _; simp only [moreK, if_pos h1]
      go_wp2_with fail
      go_ret
      exact ⟨false, q', 4, hq, rfl, kr_set3 H1.out _, only_setCell HG1.out (.inl rfl) _, by rw [HM.out]; exact ⟨rfl, by omega⟩, fun _ => rfl⟩
    · have d : decide (1 < (b'.toNat : Int)) = false := by simp; omega
      have d2 : ((b'.toNat : Int) == 1) = decide (b'.toNat = 1) := by
        by_cases h : b'.toNat = 1
        · rw [h]; rfl
        · rw [decide_eq_false h]; exact beq_eq_false_iff_ne.2 (by omega)
      obtain ⟨bb, hbb⟩ : ∃ x, decide (b'.toNat = 1) = x := ⟨_, rfl⟩
      have HM : Hid (moreK (.ok (b', q')) = .ok (bb, q')) := by show _ = _; simp only [moreK, if_neg h1]; rw [hbb]
      rw [hbb] at d2
      clear hbb
      go_wp2_with fail
      go_ret
      exact ⟨bb, q', 0, hq, rfl, H1.out, HG1.out, by rw [HM.out]; exact ⟨rfl, rfl, rfl⟩, fun h => absurd rfl h⟩
end Go.Proofs.YtipphlhaaienpaaDoor
