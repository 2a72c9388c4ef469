/- Strings out of bytes. -/
import Derived.Test.YtipphlhaaienpaaDoorKP
set_option linter.unusedSimpArgs false
set_option linter.unusedVariables false
namespace Go.Proofs.YtipphlhaaienpaaDoor
open Go.RowKit
theorem bytes_ext {a b : ByteArray} (h : a.data.toList = b.data.toList) : a = b := by
  cases a; cases b; simp at h; subst h; rfl
theorem conv_one (w : World) (c : UInt8) (x : Int) (hx : x = c.toNat) : (convert 43 9 (.slice (some ⟨w.heap.size, 0, none⟩) 1 1)).run Tryd.prog (w.alloc (.cells #[.int .u8 x] 5)) = .ok (.string ⟨#[c]⟩) (w.alloc (.cells #[.int .u8 x] 5)) := by
  subst hx
  exact Buf.str (l := [c]) (base := 0) (w := w.alloc (.cells #[.int .u8 (c.toNat : Int)] 5)) (v := .slice (some ⟨w.heap.size, 0, none⟩) 1 1) ⟨rfl, .inr ⟨w.heap.size, 1, #[.int .u8 (c.toNat : Int)], rfl, Nat.zero_le _, by show (w.heap.push _)[w.heap.size]? = _; simp, Nat.le_refl _, by unfold maxLen; omega, rfl, rfl⟩⟩
theorem conv_blk (w : World) (g : Nat) (c : UInt8) (x : Int) (hx : x = c.toNat) (h : w.heap[g]? = some (.cells #[.int .u8 x] 5 (0, 0))) : (convert 43 9 (.slice (some ⟨g, 0, none⟩) 1 1)).run Tryd.prog w = .ok (.string ⟨#[c]⟩) w := by
  subst hx
  exact Buf.str (l := [c]) (base := 0) (w := w) (v := .slice (some ⟨g, 0, none⟩) 1 1) ⟨rfl, .inr ⟨g, 1, #[.int .u8 (c.toNat : Int)], rfl, Nat.zero_le _, h, Nat.le_refl _, by unfold maxLen; omega, rfl, rfl⟩⟩
theorem conv_oneg (w : World) (g : Nat) (hg : g = w.heap.size) (c : UInt8) (x : Int) (hx : x = c.toNat) : (convert 43 9 (.slice (some ⟨g, 0, none⟩) 1 1)).run Tryd.prog (w.alloc (.cells #[.int .u8 x] 5)) = .ok (.string ⟨#[c]⟩) (w.alloc (.cells #[.int .u8 x] 5)) := by
  subst hg; exact conv_one w c x hx
theorem snoc_str (l : List UInt8) (c : UInt8) (s : ByteArray) (h : s.data.toList = l) : (s ++ (⟨#[c]⟩ : ByteArray)).data.toList = l ++ [c] := by
  rw [ByteArray.data_append]; simp [h]
theorem cat_list (a b : ByteArray) : (a ++ b).data.toList = a.data.toList ++ b.data.toList := by rw [ByteArray.data_append]; simp
theorem arr_list (l : List UInt8) : (⟨l.toArray⟩ : ByteArray).data.toList = l := rfl
theorem cat_size (a b : ByteArray) : (a ++ b).size = a.size + b.size := by simp
end Go.Proofs.YtipphlhaaienpaaDoor
