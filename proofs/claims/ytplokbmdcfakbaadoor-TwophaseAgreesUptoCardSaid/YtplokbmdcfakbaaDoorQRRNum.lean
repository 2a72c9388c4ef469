/- docstoreref02.Num (out of codec/Num). -/
import Derived.Test.YtplokbmdcfakbaaDoorQRNumP
set_option linter.unusedSimpArgs false
set_option linter.unusedVariables false
namespace Go.Proofs.YtplokbmdcfakbaaDoor
open Go.RowKit
theorem U64_div (y : Nat) (h : U64 y) : U64 (y / 128) := by unfold U64 at h ⊢; omega
theorem wrap_quo (y : Nat) (h : U64 y) : IntKind.u64.wrap ((y : Int) / 128) = (y : Int) / 128 := by
  unfold U64 at h; rw [wrap_u64_eq]; omega
theorem bytes_ext {a b : ByteArray} (h : a.data.toList = b.data.toList) : a = b := by
  cases a; cases b; simp at h; subst h; rfl
theorem snoc_str (l : List UInt8) (c : UInt8) (s : ByteArray) (h : s.data.toList = l) : (s ++ (⟨#[c]⟩ : ByteArray)).data.toList = l ++ [c] := by
  rw [ByteArray.data_append]; simp [h]
theorem conv_one (w : World) (c : UInt8) (x : Int) (hx : x = c.toNat) : (convert 118 9 (.slice (some ⟨w.heap.size, 0, none⟩) 1 1)).run Tryd.prog (w.alloc (.cells #[.int .u8 x] 5)) = .ok (.string ⟨#[c]⟩) (w.alloc (.cells #[.int .u8 x] 5)) := by
  subst hx
  exact Buf.str (l := [c]) (base := 0) (w := w.alloc (.cells #[.int .u8 (c.toNat : Int)] 5)) (v := .slice (some ⟨w.heap.size, 0, none⟩) 1 1) ⟨rfl, .inr ⟨w.heap.size, 1, #[.int .u8 (c.toNat : Int)], rfl, Nat.zero_le _, by show (w.heap.push _)[w.heap.size]? = _; simp, Nat.le_refl _, by unfold maxLen; omega, rfl, rfl⟩⟩
set_option maxRecDepth 20000 in
set_option maxHeartbeats 1000000 in
theorem RNum_ok (n : Int) (w : World) (h : I64 n) : Calls Tryd.prog 48 #[.int .i64 n] w fun e w' => e = .returned (.string ⟨(numL (zz n)).toArray⟩) ∧ Ext w w' := by
  have h' := h
  unfold I64 at h'
  have HZ := Lib.hid (numL_10 _ (zz_lt n h))
  have HU := Lib.hid (zz_lt n h)
  obtain ⟨u, hu⟩ : ∃ u, zz n = u := ⟨_, rfl⟩
  rw [hu] at HZ HU ⊢
  have key : ∀ x : Int, x = (u : Int) → (∀ (s : ByteArray) (v : Value), True) := fun _ _ _ _ => trivial
  by_cases h0 : 0 ≤ n
  · have e : n * 2 = (u : Int) := by rw [← hu]; unfold zz; rw [if_pos h0]; omega
    have E := Lib.hid e
    clear e h hu key
    go_enter Tryd.func48, Tryd.ntmps48
    go_wp2_with fail
    go_loopw [3, 4, 5] (fun x s k wr => ∃ (y j : Nat) (t : ByteArray), j ≤ 10 ∧ U64 y ∧ x = .int .u64 y ∧ k = .int .i64 j ∧ s = .string t ∧ Hid (t.data.toList.length = j) ∧ Hid (t.data.toList ++ numL y = numL u) ∧ Hid (Ext w wr)) (fun x _ _ _ => (intOf x).toNat)
    case atStart => exact ⟨u, 0, ⟨#[]⟩, by omega, HU.out, by rw [E.out], rfl, rfl, rfl, rfl, Ext.refl _⟩
    case round =>
      obtain ⟨y, j, t, hj, hy64, rfl, rfl, rfl, HJ, HL, HE⟩ := hrel
      have hts : t.size ≤ 10 := by have e := HJ.out; simp at e; omega
      by_cases hlt : y < 128
      · have d1 : decide (128 ≤ (y : Int)) = false := by simp; omega
        have hF := HL.out
        rw [numL_lo hlt] at hF
        have HF := Lib.hid hF
        clear hF HL
        have hcv := conv_one wr (UInt8.ofNat y) (y : Int) (ofNat_lo y hlt).symm
        have hfin : t ++ (⟨#[UInt8.ofNat y]⟩ : ByteArray) = ⟨(numL u).toArray⟩ := by
          apply bytes_ext
          rw [snoc_str _ _ _ rfl, HF.out]
        have HFin := Lib.hid hfin
        clear hfin
        by_cases hj10 : j < 10
        · have d0 : decide (j < 10) = true := by simpa using hj10
          go_wp2_with fail
          go_ret
          exact ⟨by rw [← HFin.out]; rfl, HE.out.alloc _⟩
        · have d0 : decide (j < 10) = false := by simpa using hj10
          go_wp2_with fail
          go_ret
          exact ⟨by rw [← HFin.out]; rfl, HE.out.alloc _⟩
      · have d1 : decide (128 ≤ (y : Int)) = true := by simp; omega
        have hF := HL.out
        rw [numL_hi hlt] at hF
        have HF := Lib.hid hF
        clear hF HL
        have hj9 : j < 9 := by
          have e := congrArg List.length HF.out
          simp only [List.length_append, List.length_cons] at e
          have := HJ.out
          have := HZ.out
          have := numL_pos (y / 128)
          omega
        have d0 : decide (j < 10) = true := by simp; omega
        have hq := wrap_quo y hy64
        have hy2 := U64_div y hy64
        have ho := byte_or7 (y % 128) (by omega)
        have hm : (y : Int) % 128 = ((y % 128 : Nat) : Int) := by omega
        obtain ⟨cc, hcc⟩ : ∃ c, UInt8.ofNat (y % 128 + 128) = c := ⟨_, rfl⟩
        rw [hcc] at ho HF
        rw [show ((y % 128 : Nat) : Int) = (y : Int) % 128 by omega] at ho
        clear hcc hm
        have hcv := conv_one wr cc _ rfl
        have HL2 : Hid ((t ++ (⟨#[cc]⟩ : ByteArray)).data.toList ++ numL (y / 128) = numL u) := by
          show _ = _
          rw [snoc_str _ _ _ rfl, ← HF.out, List.append_assoc]; rfl
        have HJ2 : Hid ((t ++ (⟨#[cc]⟩ : ByteArray)).data.toList.length = j + 1) := by
          show _ = _
          rw [snoc_str _ _ _ rfl, List.length_append, HJ.out]; rfl
        go_wp2_with fail
        exact ⟨⟨y / 128, j + 1, _, by omega, hy2, by go_num, by go_num, rfl, HJ2, HL2, HE.out.alloc _⟩, by simp [intOf]; omega⟩
  · have e := zz_not_neg n h (by omega)
    rw [hu] at e
    have E := Lib.hid e
    have h1 : n < 0 := by omega
    clear h0 e h hu key
    go_enter Tryd.func48, Tryd.ntmps48
    go_wp2_with fail
    go_loopw [3, 4, 5] (fun x s k wr => ∃ (y j : Nat) (t : ByteArray), j ≤ 10 ∧ U64 y ∧ x = .int .u64 y ∧ k = .int .i64 j ∧ s = .string t ∧ Hid (t.data.toList.length = j) ∧ Hid (t.data.toList ++ numL y = numL u) ∧ Hid (Ext w wr)) (fun x _ _ _ => (intOf x).toNat)
    case atStart => exact ⟨u, 0, ⟨#[]⟩, by omega, HU.out, by rw [E.out], rfl, rfl, rfl, rfl, Ext.refl _⟩
    case round =>
      obtain ⟨y, j, t, hj, hy64, rfl, rfl, rfl, HJ, HL, HE⟩ := hrel
      have hts : t.size ≤ 10 := by have e := HJ.out; simp at e; omega
      by_cases hlt : y < 128
      · have d1 : decide (128 ≤ (y : Int)) = false := by simp; omega
        have hF := HL.out
        rw [numL_lo hlt] at hF
        have HF := Lib.hid hF
        clear hF HL
        have hcv := conv_one wr (UInt8.ofNat y) (y : Int) (ofNat_lo y hlt).symm
        have hfin : t ++ (⟨#[UInt8.ofNat y]⟩ : ByteArray) = ⟨(numL u).toArray⟩ := by
          apply bytes_ext
          rw [snoc_str _ _ _ rfl, HF.out]
        have HFin := Lib.hid hfin
        clear hfin
        by_cases hj10 : j < 10
        · have d0 : decide (j < 10) = true := by simpa using hj10
          go_wp2_with fail
          go_ret
          exact ⟨by rw [← HFin.out]; rfl, HE.out.alloc _⟩
        · have d0 : decide (j < 10) = false := by simpa using hj10
          go_wp2_with fail
          go_ret
          exact ⟨by rw [← HFin.out]; rfl, HE.out.alloc _⟩
      · have d1 : decide (128 ≤ (y : Int)) = true := by simp; omega
        have hF := HL.out
        rw [numL_hi hlt] at hF
        have HF := Lib.hid hF
        clear hF HL
        have hj9 : j < 9 := by
          have e := congrArg List.length HF.out
          simp only [List.length_append, List.length_cons] at e
          have := HJ.out
          have := HZ.out
          have := numL_pos (y / 128)
          omega
        have d0 : decide (j < 10) = true := by simp; omega
        have hq := wrap_quo y hy64
        have hy2 := U64_div y hy64
        have ho := byte_or7 (y % 128) (by omega)
        have hm : (y : Int) % 128 = ((y % 128 : Nat) : Int) := by omega
        obtain ⟨cc, hcc⟩ : ∃ c, UInt8.ofNat (y % 128 + 128) = c := ⟨_, rfl⟩
        rw [hcc] at ho HF
        rw [show ((y % 128 : Nat) : Int) = (y : Int) % 128 by omega] at ho
        clear hcc hm
        have hcv := conv_one wr cc _ rfl
        have HL2 : Hid ((t ++ (⟨#[cc]⟩ : ByteArray)).data.toList ++ numL (y / 128) = numL u) := by
          show _ = _
          rw [snoc_str _ _ _ rfl, ← HF.out, List.append_assoc]; rfl
        have HJ2 : Hid ((t ++ (⟨#[cc]⟩ : ByteArray)).data.toList.length = j + 1) := by
          show _ = _
          rw [snoc_str _ _ _ rfl, List.length_append, HJ.out]; rfl
        go_wp2_with fail
        exact ⟨⟨y / 128, j + 1, _, by omega, hy2, by go_num, by go_num, rfl, HJ2, HL2, HE.out.alloc _⟩, by simp [intOf]; omega⟩
end Go.Proofs.YtplokbmdcfakbaaDoor
