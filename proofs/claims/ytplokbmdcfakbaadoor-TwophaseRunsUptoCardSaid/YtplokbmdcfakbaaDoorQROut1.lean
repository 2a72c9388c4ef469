/- (*docstoreref40.Out).num, str, flag, strs. -/
import Derived.Test.YtplokbmdcfakbaaDoorQROutP
import Derived.Test.YtplokbmdcfakbaaDoorQRRNum
import Derived.Test.YtplokbmdcfakbaaDoorQR2
set_option linter.unusedSimpArgs false
set_option linter.unusedVariables false
namespace Go.Proofs.YtplokbmdcfakbaaDoor
open Go.RowKit
/-- the cells of a writer that writes all fields -/
def OutC (L : List UInt8) (bad : Bool) : Obj := .cells #[.string ⟨L.toArray⟩, .bool bad, .bool true] 93 (0, 0)
def OutPost (wb : Nat) (L : List UInt8) (bad : Bool) (l : List UInt8) (w : World) (e : Ending) (w' : World) : Prop :=
  e = .returned (.tuple #[]) ∧ w'.heap[wb]? = some (OutC (L ++ l) bad) ∧ w.grownBy w' (some wb)
theorem outC_set {w : World} {wb : Nat} {s0 : ByteArray} {M : List UInt8} {bad : Bool} {s : ByteArray} (h : w.heap[wb]? = some (.cells #[.string s0, .bool bad, .bool true] 93 (0, 0))) (hs : s.data.toList = M) : (w.setCell ⟨wb, 0, none⟩ (.string s)).heap[wb]? = some (OutC M bad) := by
  have e : s = ⟨M.toArray⟩ := by apply bytes_ext; rw [hs]
  subst e; exact blk_set h 0 _
theorem cat_l (a b : ByteArray) : (a ++ b).data.toList = a.data.toList ++ b.data.toList := by rw [ByteArray.data_append]; simp
theorem arr_size (L : List UInt8) : (⟨L.toArray⟩ : ByteArray).size = L.length := by show L.toArray.size = _; simp
theorem only_drewN' {a w : World} {r : Option Nat} (h : a.grownBy w r) (n : Nat) : a.grownBy (w.drewN n) r := ⟨h.os, h.tape, h.output, h.size, h.block⟩
set_option maxRecDepth 20000 in
set_option maxHeartbeats 2000000 in
theorem onum_ok (n : Int) (wb : Nat) (L : List UInt8) (bad : Bool) (w : World) (hn : I64 n) (hL : L.length ≤ 1125899906842624) (h : w.heap[wb]? = some (OutC L bad)) :
    Calls Tryd.prog 41 #[.pointer (some ⟨wb, 0, none⟩), .int .i64 n] w (OutPost wb L bad (numL (zz n)) w) := by
  have HN := Lib.hid hn
  have H := Lib.hid h
  have hlt := blk_lt h
  clear h
  have hl1 := numL_10 _ (zz_lt n hn)
  obtain ⟨s, hs⟩ : ∃ s : ByteArray, (⟨L.toArray⟩ : ByteArray) = s := ⟨_, rfl⟩
  obtain ⟨z, hz⟩ : ∃ s : ByteArray, (⟨(numL (zz n)).toArray⟩ : ByteArray) = s := ⟨_, rfl⟩
  have hss : s.size = L.length := by rw [← hs, arr_size]
  have hzz : z.size ≤ 10 := by rw [← hz, arr_size]; exact hl1
  have H1 : Hid (w.heap[wb]? = some (.cells #[.string s, .bool bad, .bool true] 93 (0, 0))) := by show _ = _; rw [← hs]; exact H.out
  have HZ := Lib.hid hz
  have HF : Hid ((s ++ z).data.toList = L ++ numL (zz n)) := by show _ = _; rw [cat_l, ← hs, ← hz]
  have hq : ¬ 9223372036854775807 < s.size + z.size := by omega
  clear hs hz hn hl1 hss hzz
  go_enter Tryd.func41, Tryd.ntmps41
  go_wp2_with fail
  refine wp_region_mixt (fun W => W.heap[wb]? = some (.cells #[.string s, .bool bad, .bool true] 93 (0, 0))) 9 [(true, 0), (true, 1), (true, 2), (true, 3), (true, 4), (false, 5), (true, 6), (true, 7), (true, 8), (false, 9)] (by kernel_rfl) (by kernel_rfl) (by kernel_rfl) (by kernel_rfl) (by kernel_rfl) (by kernel_rfl) ?hS ?_
  case hS => exact H1.out
  repeat (first | (refine wpMixZ_q (v := ?_) rfl rfl ?_ ?_; rotate_left; (· intro wq hSq; have cq := blk_cell hSq; go_simp; try (with_reducible rfl)); simp only [Act.put, List.setIfInBounds_toArray, List.set_cons_zero, List.set_cons_succ, List.getElem_toArray, List.getElem_cons_zero, List.getElem_cons_succ]) | (refine wpMixZ_u rfl rfl ?_; simp only [Act.put, List.setIfInBounds_toArray, List.set_cons_zero, List.set_cons_succ, List.getElem_toArray, List.getElem_cons_zero, List.getElem_cons_succ]))
  refine wpMixZ_l rfl rfl (fun K hK => ?_)
  go_simp
  refine (RNum_ok n w.drew HN.out).mono ?_
  rintro e w1 ⟨rfl, h1⟩
  rw [HZ.out]
  have HB1 := Lib.hid (blk_ext (w := w.drew) H1.out h1)
  have HE1 := Lib.hid ((Ext.refl w).drew.trans h1)
  refine hK _ _ HB1.out ?_
  clear hK K h1
  have hlt1 := blk_lt HB1.out
  repeat (first | (refine wpMixZ_q (v := ?_) rfl rfl ?_ ?_; rotate_left; (· intro wq hSq; have cq := blk_cell hSq; go_simp; try (with_reducible rfl)); simp only [Act.put, List.setIfInBounds_toArray, List.set_cons_zero, List.set_cons_succ, List.getElem_toArray, List.getElem_cons_zero, List.getElem_cons_succ]) | (refine wpMixZ_u rfl rfl ?_; simp only [Act.put, List.setIfInBounds_toArray, List.set_cons_zero, List.set_cons_succ, List.getElem_toArray, List.getElem_cons_zero, List.getElem_cons_succ]))
  refine wpMixZ_z rfl rfl (fun K hK => ?_)
  have cv := blk_cell HB1.out
  have fv := blk_free HB1.out
  go_simp
  refine hK _ _ ?_
  clear hK K
  refine wpMixZ_nil ?_
  go_end0
  exact ⟨rfl, outC_set HB1.out HF.out, only_setCell (HE1.out.only _) (.inl rfl) _⟩
set_option maxRecDepth 20000 in
set_option maxHeartbeats 2000000 in
theorem ostr_ok (s : ByteArray) (wb : Nat) (L : List UInt8) (bad : Bool) (w : World) (hs : s.size ≤ 1125899906842000) (hL : L.length ≤ 1125899906842000) (h : w.heap[wb]? = some (OutC L bad)) :
    Calls Tryd.prog 42 #[.pointer (some ⟨wb, 0, none⟩), .string s] w (OutPost wb L bad (numL (zz (s.size : Int)) ++ s.data.toList) w) := by

  have H := Lib.hid h
  clear h
  have hi : I64 (s.size : Int) := by unfold I64; omega
  have HI := Lib.hid hi
  have hl1 := numL_10 _ (zz_lt _ hi)
  obtain ⟨M, hM⟩ : ∃ M, L ++ numL (zz (s.size : Int)) = M := ⟨_, rfl⟩
  have hMl : M.length ≤ 1125899906842010 := by rw [← hM, List.length_append]; omega
  have hL2 : L.length ≤ 1125899906842624 := by omega
  have HM := Lib.hid hM
  clear hi hl1 hM
  go_enter Tryd.func42, Tryd.ntmps42
  go_wp2_with fail
  refine (onum_ok _ wb L bad _ HI.out hL2 H.out).mono ?_
  rintro e w1 ⟨rfl, h1, g1⟩
  rw [HM.out] at h1
  obtain ⟨z, hz⟩ : ∃ z : ByteArray, (⟨M.toArray⟩ : ByteArray) = z := ⟨_, rfl⟩
  have hzs : z.size = M.length := by rw [← hz, arr_size]
  have h2 : w1.heap[wb]? = some (.cells #[.string z, .bool bad, .bool true] 93 (0, 0)) := by rw [← hz]; exact h1
  have HF : Hid ((z ++ s).data.toList = L ++ (numL (zz (s.size : Int)) ++ s.data.toList)) := by show _ = _; rw [cat_l, ← hz, ← List.append_assoc, HM.out]
  have cv := blk_cell h2
  have fv := blk_free h2
  have lv := blk_lt h2
  have H2 := Lib.hid h2
  have HG := Lib.hid g1
  have hq : ¬ 9223372036854775807 < z.size + s.size := by omega
  clear h1 h2 g1 hz hzs
  go_wp2_with fail
  go_end0
  exact ⟨rfl, outC_set H2.out HF.out, only_setCell HG.out (.inl rfl) _⟩
set_option maxRecDepth 20000 in
set_option maxHeartbeats 2000000 in
theorem oflag_ok (b : Bool) (wb : Nat) (L : List UInt8) (bad : Bool) (w : World) (hL : L.length ≤ 1125899906842000) (h : w.heap[wb]? = some (OutC L bad)) :
    Calls Tryd.prog 52 #[.pointer (some ⟨wb, 0, none⟩), .bool b] w (OutPost wb L bad [if b then 1 else 0] w) := by
  obtain ⟨z, hz⟩ : ∃ z : ByteArray, (⟨L.toArray⟩ : ByteArray) = z := ⟨_, rfl⟩
  have hzs : z.size = L.length := by rw [← hz, arr_size]
  have h2 : w.heap[wb]? = some (.cells #[.string z, .bool bad, .bool true] 93 (0, 0)) := by rw [← hz]; exact h
  have HF : Hid (∀ c : UInt8, (z ++ (⟨#[c]⟩ : ByteArray)).data.toList = L ++ [c]) := by show ∀ c, _; intro c; rw [cat_l, ← hz]
  have cv := blk_cell h2
  have fv := blk_free h2
  have lv := blk_lt h2
  have H2 := Lib.hid h2
  have hk : ∀ c : UInt8, (⟨#[c]⟩ : ByteArray).size = 1 := fun _ => rfl
  have hk1 : ¬ 9223372036854775807 < z.size + (⟨#[1]⟩ : ByteArray).size := by rw [hk]; omega
  have hk0 : ¬ 9223372036854775807 < z.size + (⟨#[0]⟩ : ByteArray).size := by rw [hk]; omega
  clear hz h h2 hk hzs
  cases b
  · go_enter Tryd.func52, Tryd.ntmps52
    go_wp2_with fail
    go_end0
    exact ⟨rfl, outC_set H2.out (HF.out 0), only_setCell (World.grownBy.refl _ _) (.inl rfl) _⟩
  · go_enter Tryd.func52, Tryd.ntmps52
    go_wp2_with fail
    go_end0
    exact ⟨rfl, outC_set H2.out (HF.out 1), only_setCell (World.grownBy.refl _ _) (.inl rfl) _⟩
end Go.Proofs.YtplokbmdcfakbaaDoor
