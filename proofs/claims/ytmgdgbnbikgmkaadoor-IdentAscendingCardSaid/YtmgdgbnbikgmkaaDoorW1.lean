/- Contracts of the leaf functions and of both New. -/
import Derived.Test.YtmgdgbnbikgmkaaDoorKit
namespace Go.Proofs.YtmgdgbnbikgmkaaDoor
open Go.RowKit
def inR (n : Int) : Bool := decide (0 ≤ n) && decide (n < 4294967296)
theorem inR_true {n : Int} (h : inR n = true) : 0 ≤ n ∧ n < 4294967296 := by simpa [inR] using h
theorem inR_of {n : Int} (h0 : 0 ≤ n) (h1 : n < 4294967296) : inR n = true := by simp [inR, h0, h1]
set_option maxHeartbeats 400000 in
theorem inRange_any (n : Int) (w : World) :
    Calls Tryd.prog 24 #[.int .i64 n] w fun e w' => e = .returned (.bool (inR n)) ∧ w = w' := by
  by_cases h : 0 ≤ n
  · go_enter Tryd.func24, Tryd.ntmps24
    go_wp2
    go_ret
    simp [inR, h]
  · go_enter Tryd.func24, Tryd.ntmps24
    go_wp2
    go_ret
    simp [inR]; omega
set_option maxHeartbeats 400000 in
theorem fits_any (n : Int) (w : World) :
    Calls Tryd.prog 25 #[.int .i64 n] w fun e w' => e = .returned (.bool (inR n)) ∧ w = w' := by
  by_cases h : 0 ≤ n
  · go_enter Tryd.func25, Tryd.ntmps25
    go_wp2
    go_ret
    simp [inR, h]; omega
  · go_enter Tryd.func25, Tryd.ntmps25
    go_wp2
    go_ret
    simp [inR]; omega
def b4 (n : Int) : List Int := [n / 16777216, n / 65536 % 256, n / 256 % 256, n % 256]
def idStr (a b c : Int) : ByteArray := strOfNums (b4 a ++ b4 b ++ b4 c)
def idVal (s : ByteArray) : Value := .agg #[.int .i64 8, .int .i64 0, .string s, .slice none 0 0, .slice none 0 0]
def noVal : Value := .agg #[.int .i64 0, .int .i64 0, .string ⟨#[]⟩, .slice none 0 0, .slice none 0 0]
set_option maxHeartbeats 400000 in
theorem new_ok (a b c : Int) (w : World) (ha : inR a = true) (hb : inR b = true) (hc : inR c = true) :
    Calls Tryd.prog 9 #[.int .i64 a, .int .i64 b, .int .i64 c] w fun e w' => e = .returned (.tuple #[idVal (idStr a b c), .int .i64 0]) ∧ Ext w w' := by
  have hmk : ∀ w, (Instr.makeSlice 58 (.int .i64 0) (.int .i64 12)).run Tryd.prog w = .ok (.slice (some ⟨w.heap.size, 0, none⟩) 0 12) (w.alloc (.cells #[.int .u8 0, .int .u8 0, .int .u8 0, .int .u8 0, .int .u8 0, .int .u8 0, .int .u8 0, .int .u8 0, .int .u8 0, .int .u8 0, .int .u8 0, .int .u8 0] 5)) := fun _ => by kernel_rfl
  have i0 : ∀ x y z w, (Instr.index 59 (.agg #[x, y, z]) (.int .i64 0)).run Tryd.prog w = .ok x w := fun _ _ _ _ => by kernel_rfl
  have i1 : ∀ x y z w, (Instr.index 59 (.agg #[x, y, z]) (.int .i64 1)).run Tryd.prog w = .ok y w := fun _ _ _ _ => by kernel_rfl
  have i2 : ∀ x y z w, (Instr.index 59 (.agg #[x, y, z]) (.int .i64 2)).run Tryd.prog w = .ok z w := fun _ _ _ _ => by kernel_rfl
  have ha' := inR_true ha
  have hb' := inR_true hb
  have hc' := inR_true hc
  go_enter Tryd.func9, Tryd.ntmps9
  go_wp2_with (go_at_call 24; refine (inRange_any _ _).mono ?_; rintro e w' ⟨rfl, rfl⟩)
  refine wp_loop_rounds 4 ?_; rw [rounds_succ]
  go_wp2_with fail
  rw [rounds_succ]
  go_wp2_with fail
  rw [rounds_succ]
  go_wp2_with fail
  rw [rounds_succ]
  go_wp2_with fail
  have hcv : ∀ W : World, (∀ i, i < 12 → W.cell? ⟨w.heap.size + 1, 0 + i, none⟩ = some (.int .u8 ((b4 a ++ b4 b ++ b4 c).getD i 0))) → Sem.run Tryd.prog (convert 58 9 (Value.slice (some { block := w.heap.size + 1, off := 0 }) 12 12)) W = .ok (.string (idStr a b c)) W := fun W h => run_convert_bytes_arg W 58 5 Tryd.underlying58 Tryd.underlying5 (w.heap.size+1) 0 12 12 _ rfl h 9 Tryd.underlying9
  rw [hcv _ (by intro i hi; go_simp; rcases i with _|_|_|_|_|_|_|_|_|_|_|_|i <;> first | rfl | omega)]
  clear hcv
  go_wp2
  exact bodyPost_ret (v := .tuple #[idVal (idStr a b c), .int .i64 0]) (by simp [results, Tryd.results9, go_sem, idVal]) rfl ⟨rfl, (((((Ext.refl w).alloc _).alloc _).alloc _).alloc _).alloc _⟩
set_option maxHeartbeats 400000 in
theorem new_no (a b c : Int) (w : World) (h : (inR a && inR b && inR c) = false) :
    Calls Tryd.prog 9 #[.int .i64 a, .int .i64 b, .int .i64 c] w fun e w' => e = .returned (.tuple #[noVal, .int .i64 1]) ∧ Ext w w' := by
  have fin : ∀ (cs : List Unit), True := fun _ => trivial
  cases ha : inR a
  · go_enter Tryd.func9, Tryd.ntmps9
    go_wp2_with (go_at_call 24; refine (inRange_any _ _).mono ?_; rintro e w' ⟨rfl, rfl⟩)
    exact bodyPost_ret (v := .tuple #[noVal, .int .i64 1]) (by simp [results, Tryd.results9, go_sem, noVal]) rfl ⟨rfl, (Ext.refl w).alloc _⟩
  · cases hb : inR b
    · go_enter Tryd.func9, Tryd.ntmps9
      go_wp2_with (go_at_call 24; refine (inRange_any _ _).mono ?_; rintro e w' ⟨rfl, rfl⟩)
      exact bodyPost_ret (v := .tuple #[noVal, .int .i64 1]) (by simp [results, Tryd.results9, go_sem, noVal]) rfl ⟨rfl, (Ext.refl w).alloc _⟩
    · have hc : inR c = false := by simpa [ha, hb] using h
      clear h
      go_enter Tryd.func9, Tryd.ntmps9
      go_wp2_with (go_at_call 24; refine (inRange_any _ _).mono ?_; rintro e w' ⟨rfl, rfl⟩)
      exact bodyPost_ret (v := .tuple #[noVal, .int .i64 1]) (by simp [results, Tryd.results9, go_sem, noVal]) rfl ⟨rfl, (Ext.refl w).alloc _⟩
set_option maxHeartbeats 400000 in
theorem four_ok (a : Int) (w : World) (ha : inR a = true) :
    Calls Tryd.prog 26 #[.int .i64 a] w fun e w' => e = .returned (.string (strOfNums (b4 a))) ∧ Ext w w' := by
  have ha' := inR_true ha
  have hcv : ∀ W : World, (∀ i, i < 4 → W.cell? ⟨w.heap.size, 0 + i, none⟩ = some (.int .u8 ((b4 a).getD i 0))) → Sem.run Tryd.prog (convert 58 9 (Value.slice (some { block := w.heap.size, off := 0 }) 4 4)) W = .ok (.string (strOfNums (b4 a))) W := fun W h => run_convert_bytes_arg W 58 5 Tryd.underlying58 Tryd.underlying5 (w.heap.size) 0 4 4 _ rfl h 9 Tryd.underlying9
  go_enter Tryd.func26, Tryd.ntmps26
  go_wp2_with fail
  rw [hcv _ (by intro i hi; go_simp; rcases i with _|_|_|_|i <;> first | rfl | omega)]
  clear hcv
  go_wp2
  go_ret
  exact ⟨rfl, (Ext.refl w).alloc _⟩
end Go.Proofs.YtmgdgbnbikgmkaaDoor
