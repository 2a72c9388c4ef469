/- The order of strings, and what After divides: plain. -/
import Derived.Test.YtipphlhaaienpaaDoorKEn
set_option linter.unusedSimpArgs false
set_option linter.unusedVariables false
namespace Go.Proofs.YtipphlhaaienpaaDoor
open Go.RowKit
theorem bl_nil_r (x : List UInt8) : Op.bytesLess x [] = false := by cases x <;> rfl
theorem bl_nil_l (y : UInt8) (b : List UInt8) : Op.bytesLess [] (y :: b) = true := rfl
theorem bl_same (y : UInt8) (a b : List UInt8) : Op.bytesLess (y :: a) (y :: b) = Op.bytesLess a b := by simp [Op.bytesLess]
theorem bl_lt {x y : UInt8} (h : x.toNat < y.toNat) (a b : List UInt8) : Op.bytesLess (x :: a) (y :: b) = true := by
  have : x < y := UInt8.lt_iff_toNat_lt.2 h
  simp [Op.bytesLess, this]
theorem bl_gt {x y : UInt8} (h : y.toNat < x.toNat) (a b : List UInt8) : Op.bytesLess (x :: a) (y :: b) = false := by
  have h1 : ¬ x < y := fun h2 => by have := UInt8.lt_iff_toNat_lt.1 h2; omega
  have h2 : x ≠ y := fun e => by subst e; omega
  simp [Op.bytesLess, h1, h2]
theorem u8_ne {x y : UInt8} (h : x ≠ y) : x.toNat < y.toNat ∨ y.toNat < x.toNat := by
  have : x.toNat ≠ y.toNat := fun e => h (UInt8.toNat_inj.1 e)
  omega
theorem ip_cons_ne {x y : UInt8} (h : x ≠ y) (a b : List UInt8) : (x :: a).isPrefixOf (y :: b) = false := by simp [List.isPrefixOf, h]
theorem ip_cons (x : UInt8) (a b : List UInt8) : (x :: a).isPrefixOf (x :: b) = a.isPrefixOf b := by simp [List.isPrefixOf]
theorem ip_255 (r : List UInt8) (h : ∀ c ∈ r, c = 255) : ∀ x : List UInt8, r.isPrefixOf x = !Op.bytesLess x r := by
  induction r with
  | nil => intro x; rw [bl_nil_r]; simp
  | cons c r ih =>
    intro x
    have hc : c = 255 := h c (by simp)
    subst hc
    cases x with
    | nil => rfl
    | cons y x =>
      by_cases hy : y = 255
      · subst hy; rw [ip_cons, bl_same]; exact ih (fun c hc => h c (by simp [hc])) x
      · have : y.toNat < (255 : UInt8).toNat := by
          rcases u8_ne hy with h | h
          · exact h
          · have := y.toNat_lt; have h5 : (255 : UInt8).toNat = 255 := rfl; omega
        rw [ip_cons_ne (Ne.symm hy), bl_lt this]; rfl
theorem aft_range (b : UInt8) (hb : b ≠ 255) (r : List UInt8) (hr : ∀ c ∈ r, c = 255) : ∀ (u x : List UInt8), (u ++ b :: r).isPrefixOf x = (!Op.bytesLess x (u ++ b :: r) && Op.bytesLess x (u ++ [b + 1])) := by
  have hb1 : (b + 1).toNat = b.toNat + 1 := by
    have h1 : b.toNat ≠ 255 := fun e => hb (UInt8.toNat_inj.1 e)
    have := b.toNat_lt
    rw [UInt8.toNat_add]; have : (1 : UInt8).toNat = 1 := rfl; omega
  intro u
  induction u with
  | nil =>
    intro x
    cases x with
    | nil => rfl
    | cons y x =>
      simp only [List.nil_append]
      by_cases hy : y = b
      · subst hy
        rw [ip_cons, bl_same, bl_lt (by omega), ip_255 r hr]; simp
      · rw [ip_cons_ne (Ne.symm hy)]
        rcases u8_ne hy with h | h
        · rw [bl_lt h]; rfl
        · rw [bl_gt h]
          by_cases hy1 : y = b + 1
          · subst hy1; rw [bl_same, bl_nil_r]; rfl
          · rw [bl_gt (by rcases u8_ne hy1 with h2 | h2 <;> omega)]; rfl
  | cons z u ih =>
    intro x
    cases x with
    | nil => rfl
    | cons y x =>
      simp only [List.cons_append]
      by_cases hy : y = z
      · subst hy; rw [ip_cons, bl_same, bl_same]; exact ih x
      · rw [ip_cons_ne (Ne.symm hy)]
        rcases u8_ne hy with h | h
        · rw [bl_lt h]; rfl
        · rw [bl_gt h, bl_gt h]; rfl
theorem aft_more (b : UInt8) (hb : b ≠ 255) (r : List UInt8) (u : List UInt8) : Op.bytesLess (u ++ [b + 1]) (u ++ b :: r) = false ∧ u ++ [b + 1] ≠ u ++ b :: r := by
  have hb1 : (b + 1).toNat = b.toNat + 1 := by
    have h1 : b.toNat ≠ 255 := fun e => hb (UInt8.toNat_inj.1 e)
    have := b.toNat_lt
    rw [UInt8.toNat_add]; have : (1 : UInt8).toNat = 1 := rfl; omega
  refine ⟨?_, fun e => ?_⟩
  · induction u with
    | nil => exact bl_gt (by omega) _ _
    | cons z u ih => simp only [List.cons_append]; rw [bl_same]; exact ih
  · have := List.append_cancel_left e
    injection this with h1 _
    rw [h1] at hb1; omega
theorem aftN_tail (s : ByteArray) : ∀ n i, aftN s n ≤ i → i < n → s.data.toList.getD i 0 = 255 := by
  intro n
  induction n with
  | zero => intro i _ h; omega
  | succ n ih =>
    intro i h1 h2
    unfold aftN at h1
    split at h1
    · by_cases hi : i = n
      · subst hi; assumption
      · exact ih i h1 (by omega)
    · omega
theorem aft_split {s : ByteArray} {a : ByteArray} (h : aftR s = (a, true)) : ∃ u b r, b ≠ 255 ∧ (∀ c ∈ r, c = 255) ∧ s.data.toList = u ++ b :: r ∧ a.data.toList = u ++ [b + 1] := by
  unfold aftR at h
  split at h
  · injection h with _ h; cases h
  · rename_i hn
    have hle := aftN_le s s.size
    have hne := aftN_ne s s.size hn
    have htl := aftN_tail s s.size
    obtain ⟨n, hn'⟩ : ∃ n, aftN s s.size = n + 1 := ⟨aftN s s.size - 1, by omega⟩
    rw [hn'] at h hle hne htl
    simp only [Nat.add_sub_cancel] at h hne
    have hlen : s.data.toList.length = s.size := by simp
    refine ⟨s.data.toList.take n, s.data.toList.getD n 0, s.data.toList.drop (n + 1), hne, ?_, ?_, ?_⟩
    · intro c hc
      obtain ⟨i, hi, rfl⟩ := List.mem_iff_getElem.1 hc
      have := htl (n + 1 + i) (by omega) (by simp at hi; omega)
      rw [List.getElem_drop]
      rw [List.getD_eq_getElem?_getD, List.getElem?_eq_getElem (by simp at hi ⊢; omega)] at this
      simpa using this
    · have h1 : s.data.toList.getD n 0 = s.data.toList[n]'(by omega) := by rw [List.getD_eq_getElem?_getD, List.getElem?_eq_getElem (by omega)]; rfl
      rw [h1, ← List.drop_eq_getElem_cons (by omega), List.take_append_drop]
    · injection h with h _; rw [← h]
theorem aft_none {s : ByteArray} {a : ByteArray} (h : aftR s = (a, false)) : a = ⟨#[]⟩ ∧ ∀ i, i < s.size → s.data.toList.getD i 0 = 255 := by
  unfold aftR at h
  split at h
  · rename_i hn
    injection h with h _
    exact ⟨h.symm, fun i hi => aftN_tail s s.size i (by omega) hi⟩
  · injection h with _ h; cases h
end Go.Proofs.YtipphlhaaienpaaDoor
