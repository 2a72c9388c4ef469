/- codec.length, kind by kind (printed by genlen.py), and Length. -/
import Derived.Test.YtdoofmohoamkbaaDoorEnc
import Derived.Test.YtdoofmohoamkbaaDoorNodes
set_option linter.unusedSimpArgs false
set_option linter.unusedVariables false
namespace Go.Proofs.YtdoofmohoamkbaaDoor
open Go.RowKit
def LenOk (t : Tr) : Prop := ∀ (v : Value) (w : World), snd t = true → VRep w t v → (enc t).length ≤ 90000000000 → Calls Tryd.prog 37 #[v] w fun e w' => e = .returned (.int .i64 ((enc t).length : Nat)) ∧ Ext w w'
set_option maxRecDepth 20000 in
set_option maxHeartbeats 1000000 in
theorem len_k1 (i : Int) (s : ByteArray) (lt : List Tr) (ns : List ByteArray) (ds : List Tr) (la da : Option Addr) (lc dc : Nat) (w : World) :
    Calls Tryd.prog 37 #[.agg #[.int .i64 1, .int .i64 i, .string s, .slice la lt.length lc, .slice da ds.length dc]] w fun e w' => e = .returned (.int .i64 (([(1 : UInt8)]).length : Nat)) ∧ Ext w w' := by
  obtain ⟨r, hr⟩ : ∃ x, ([(1 : UInt8)]).length = x := ⟨_, rfl⟩
  rw [hr]
  simp at hr
  subst hr
  go_enter Tryd.func37, Tryd.ntmps37
  go_wp2_with fail
  go_ret
  exact ⟨rfl, by repeat (first | with_reducible assumption | with_reducible exact Ext.refl _ | with_reducible refine Ext.drew ?_ | with_reducible refine Ext.alloc ?_ _ | ((with_reducible refine Ext.setCell ?_ ?_ _); rotate_left; (· first | exact Nat.le_refl _ | (simp; done) | omega | (simp; omega))))⟩
set_option maxRecDepth 20000 in
set_option maxHeartbeats 1000000 in
theorem len_k2 (i : Int) (s : ByteArray) (lt : List Tr) (ns : List ByteArray) (ds : List Tr) (la da : Option Addr) (lc dc : Nat) (w : World) :
    Calls Tryd.prog 37 #[.agg #[.int .i64 2, .int .i64 i, .string s, .slice la lt.length lc, .slice da ds.length dc]] w fun e w' => e = .returned (.int .i64 (([(2 : UInt8)]).length : Nat)) ∧ Ext w w' := by
  obtain ⟨r, hr⟩ : ∃ x, ([(2 : UInt8)]).length = x := ⟨_, rfl⟩
  rw [hr]
  simp at hr
  subst hr
  go_enter Tryd.func37, Tryd.ntmps37
  go_wp2_with fail
  go_ret
  exact ⟨rfl, by repeat (first | with_reducible assumption | with_reducible exact Ext.refl _ | with_reducible refine Ext.drew ?_ | with_reducible refine Ext.alloc ?_ _ | ((with_reducible refine Ext.setCell ?_ ?_ _); rotate_left; (· first | exact Nat.le_refl _ | (simp; done) | omega | (simp; omega))))⟩
set_option maxRecDepth 20000 in
set_option maxHeartbeats 1000000 in
theorem len_k11 (i : Int) (s : ByteArray) (lt : List Tr) (ns : List ByteArray) (ds : List Tr) (la da : Option Addr) (lc dc : Nat) (w : World) :
    Calls Tryd.prog 37 #[.agg #[.int .i64 11, .int .i64 i, .string s, .slice la lt.length lc, .slice da ds.length dc]] w fun e w' => e = .returned (.int .i64 (([(11 : UInt8)]).length : Nat)) ∧ Ext w w' := by
  obtain ⟨r, hr⟩ : ∃ x, ([(11 : UInt8)]).length = x := ⟨_, rfl⟩
  rw [hr]
  simp at hr
  subst hr
  go_enter Tryd.func37, Tryd.ntmps37
  go_wp2_with fail
  go_ret
  exact ⟨rfl, by repeat (first | with_reducible assumption | with_reducible exact Ext.refl _ | with_reducible refine Ext.drew ?_ | with_reducible refine Ext.alloc ?_ _ | ((with_reducible refine Ext.setCell ?_ ?_ _); rotate_left; (· first | exact Nat.le_refl _ | (simp; done) | omega | (simp; omega))))⟩
set_option maxRecDepth 20000 in
set_option maxHeartbeats 1000000 in
theorem len_k9 (i : Int) (s : ByteArray) (lt : List Tr) (ns : List ByteArray) (ds : List Tr) (la da : Option Addr) (lc dc : Nat) (w : World) :
    Calls Tryd.prog 37 #[.agg #[.int .i64 9, .int .i64 i, .string s, .slice la lt.length lc, .slice da ds.length dc]] w fun e w' => e = .returned (.int .i64 (([(9 : UInt8)] ++ [UInt8.ofNat i.toNat]).length : Nat)) ∧ Ext w w' := by
  obtain ⟨r, hr⟩ : ∃ x, ([(9 : UInt8)] ++ [UInt8.ofNat i.toNat]).length = x := ⟨_, rfl⟩
  rw [hr]
  simp at hr
  subst hr
  go_enter Tryd.func37, Tryd.ntmps37
  go_wp2_with fail
  go_ret
  exact ⟨rfl, by repeat (first | with_reducible assumption | with_reducible exact Ext.refl _ | with_reducible refine Ext.drew ?_ | with_reducible refine Ext.alloc ?_ _ | ((with_reducible refine Ext.setCell ?_ ?_ _); rotate_left; (· first | exact Nat.le_refl _ | (simp; done) | omega | (simp; omega))))⟩
set_option maxRecDepth 20000 in
set_option maxHeartbeats 1000000 in
theorem len_k3 (i : Int) (s : ByteArray) (lt : List Tr) (ns : List ByteArray) (ds : List Tr) (la da : Option Addr) (lc dc : Nat) (w : World) (hI : I64 i) :
    Calls Tryd.prog 37 #[.agg #[.int .i64 3, .int .i64 i, .string s, .slice la lt.length lc, .slice da ds.length dc]] w fun e w' => e = .returned (.int .i64 (([(3 : UInt8)] ++ numL (zz i)).length : Nat)) ∧ Ext w w' := by
  obtain ⟨r, hr⟩ : ∃ x, ([(3 : UInt8)] ++ numL (zz i)).length = x := ⟨_, rfl⟩
  rw [hr]
  have HI := Lib.hid hI
  have hx10 := numL_10 _ (zz_lt _ hI)
  clear hI
  obtain ⟨x, hx⟩ : ∃ x, (numL (zz i)).length = x := ⟨_, rfl⟩
  rw [hx] at hx10
  have HX := Lib.hid hx
  clear hx
  have hr2 : r = 1 + x := by rw [← hr, ← HX.out, List.length_append]; rfl
  subst hr2
  clear hr
  go_enter Tryd.func37, Tryd.ntmps37
  go_wp2_with fail
  refine (numLength_ok _ _ HI.out).mono ?_
  rintro e w1 ⟨rfl, rfl⟩
  rw [HX.out]
  go_wp2_with fail
  go_ret
  exact ⟨by first | rfl | (congr 2; omega), by repeat (first | with_reducible assumption | with_reducible exact Ext.refl _ | with_reducible refine Ext.drew ?_ | with_reducible refine Ext.alloc ?_ _ | ((with_reducible refine Ext.setCell ?_ ?_ _); rotate_left; (· first | exact Nat.le_refl _ | (simp; done) | omega | (simp; omega))))⟩
set_option maxRecDepth 20000 in
set_option maxHeartbeats 1000000 in
theorem len_k10 (i : Int) (s : ByteArray) (lt : List Tr) (ns : List ByteArray) (ds : List Tr) (la da : Option Addr) (lc dc : Nat) (w : World) (hI : I64 i) :
    Calls Tryd.prog 37 #[.agg #[.int .i64 10, .int .i64 i, .string s, .slice la lt.length lc, .slice da ds.length dc]] w fun e w' => e = .returned (.int .i64 (([(10 : UInt8)] ++ numL (zz i)).length : Nat)) ∧ Ext w w' := by
  obtain ⟨r, hr⟩ : ∃ x, ([(10 : UInt8)] ++ numL (zz i)).length = x := ⟨_, rfl⟩
  rw [hr]
  have HI := Lib.hid hI
  have hx10 := numL_10 _ (zz_lt _ hI)
  clear hI
  obtain ⟨x, hx⟩ : ∃ x, (numL (zz i)).length = x := ⟨_, rfl⟩
  rw [hx] at hx10
  have HX := Lib.hid hx
  clear hx
  have hr2 : r = 1 + x := by rw [← hr, ← HX.out, List.length_append]; rfl
  subst hr2
  clear hr
  go_enter Tryd.func37, Tryd.ntmps37
  go_wp2_with fail
  refine (numLength_ok _ _ HI.out).mono ?_
  rintro e w1 ⟨rfl, rfl⟩
  rw [HX.out]
  go_wp2_with fail
  go_ret
  exact ⟨by first | rfl | (congr 2; omega), by repeat (first | with_reducible assumption | with_reducible exact Ext.refl _ | with_reducible refine Ext.drew ?_ | with_reducible refine Ext.alloc ?_ _ | ((with_reducible refine Ext.setCell ?_ ?_ _); rotate_left; (· first | exact Nat.le_refl _ | (simp; done) | omega | (simp; omega))))⟩
set_option maxRecDepth 20000 in
set_option maxHeartbeats 1000000 in
theorem len_k4 (i : Int) (s : ByteArray) (lt : List Tr) (ns : List ByteArray) (ds : List Tr) (la da : Option Addr) (lc dc : Nat) (w : World) (hs : s.size ≤ 4096) (hI : I64 (s.size : Int)) :
    Calls Tryd.prog 37 #[.agg #[.int .i64 4, .int .i64 i, .string s, .slice la lt.length lc, .slice da ds.length dc]] w fun e w' => e = .returned (.int .i64 (([(4 : UInt8)] ++ (numL (zz s.size) ++ s.data.toList)).length : Nat)) ∧ Ext w w' := by
  obtain ⟨r, hr⟩ : ∃ x, ([(4 : UInt8)] ++ (numL (zz s.size) ++ s.data.toList)).length = x := ⟨_, rfl⟩
  rw [hr]
  have HI := Lib.hid hI
  have hx10 := numL_10 _ (zz_lt _ hI)
  clear hI
  obtain ⟨x, hx⟩ : ∃ x, (numL (zz (s.size : Int))).length = x := ⟨_, rfl⟩
  rw [hx] at hx10
  have HX := Lib.hid hx
  clear hx
  have hr2 : r = 1 + (x + s.size) := by rw [← hr, ← HX.out, List.length_append, List.length_append]; simp
  subst hr2
  clear hr
  go_enter Tryd.func37, Tryd.ntmps37
  go_wp2_with fail
  have hw1 := wrap_i64_val ((x : Int) + (s.size : Int)) (by omega) (by omega)
  have hw2 := wrap_i64_val (1 + ((x : Int) + (s.size : Int))) (by omega) (by omega)
  refine wp_region_mix (Ext (w.alloc (.cells #[.int .i64 4, .int .i64 i, .string s, .slice la lt.length lc, .slice da ds.length dc] 32))) [(true, 0), (true, 1), (true, 2), (true, 3), (true, 5), (true, 6), (true, 7), (false, 4), (true, 8), (true, 9), (true, 10)] (by kernel_rfl) (by kernel_rfl) (by kernel_rfl) (by kernel_rfl) ?hS ?_
  case hS => exact (Ext.refl _).drew
  repeat (first | (refine wpMix_q (v := ?_) rfl rfl ?_ ?_; rotate_left; (· intro wq hSq; have cq := hSq.cells; go_simp; try (with_reducible rfl)); simp only [Act.put, List.setIfInBounds_toArray, List.set_cons_zero, List.set_cons_succ, List.getElem_toArray, List.getElem_cons_zero, List.getElem_cons_succ]) | (refine wpMix_u rfl rfl ?_; simp only [Act.put, List.setIfInBounds_toArray, List.set_cons_zero, List.set_cons_succ, List.getElem_toArray, List.getElem_cons_zero, List.getElem_cons_succ]))
  refine wpMix_l rfl rfl (fun K hK => ?_)
  go_simp
  refine (numLength_ok _ _ HI.out).mono ?_
  rintro e w1 ⟨rfl, rfl⟩
  rw [HX.out]
  refine hK _ _ (Ext.refl _).drew ?_
  clear hK K
  repeat (first | (refine wpMix_q (v := ?_) rfl rfl ?_ ?_; rotate_left; (· intro wq hSq; have cq := hSq.cells; go_simp; try (with_reducible rfl)); simp only [Act.put, List.setIfInBounds_toArray, List.set_cons_zero, List.set_cons_succ, List.getElem_toArray, List.getElem_cons_zero, List.getElem_cons_succ]) | (refine wpMix_u rfl rfl ?_; simp only [Act.put, List.setIfInBounds_toArray, List.set_cons_zero, List.set_cons_succ, List.getElem_toArray, List.getElem_cons_zero, List.getElem_cons_succ]))
  refine wpMix_nil ?_
  go_wp2_with fail
  go_ret
  exact ⟨by first | rfl | (congr 2; omega), by repeat (first | with_reducible assumption | with_reducible exact Ext.refl _ | with_reducible refine Ext.drew ?_ | with_reducible refine Ext.alloc ?_ _ | ((with_reducible refine Ext.setCell ?_ ?_ _); rotate_left; (· first | exact Nat.le_refl _ | (simp; done) | omega | (simp; omega))))⟩
set_option maxRecDepth 20000 in
set_option maxHeartbeats 1000000 in
theorem len_k7 (i : Int) (s : ByteArray) (lt : List Tr) (ns : List ByteArray) (ds : List Tr) (la da : Option Addr) (lc dc : Nat) (w : World) (hs : s.size ≤ 4096) (hI : I64 (s.size : Int)) :
    Calls Tryd.prog 37 #[.agg #[.int .i64 7, .int .i64 i, .string s, .slice la lt.length lc, .slice da ds.length dc]] w fun e w' => e = .returned (.int .i64 (([(7 : UInt8)] ++ (numL (zz s.size) ++ s.data.toList)).length : Nat)) ∧ Ext w w' := by
  obtain ⟨r, hr⟩ : ∃ x, ([(7 : UInt8)] ++ (numL (zz s.size) ++ s.data.toList)).length = x := ⟨_, rfl⟩
  rw [hr]
  have HI := Lib.hid hI
  have hx10 := numL_10 _ (zz_lt _ hI)
  clear hI
  obtain ⟨x, hx⟩ : ∃ x, (numL (zz (s.size : Int))).length = x := ⟨_, rfl⟩
  rw [hx] at hx10
  have HX := Lib.hid hx
  clear hx
  have hr2 : r = 1 + (x + s.size) := by rw [← hr, ← HX.out, List.length_append, List.length_append]; simp
  subst hr2
  clear hr
  go_enter Tryd.func37, Tryd.ntmps37
  go_wp2_with fail
  have hw1 := wrap_i64_val ((x : Int) + (s.size : Int)) (by omega) (by omega)
  have hw2 := wrap_i64_val (1 + ((x : Int) + (s.size : Int))) (by omega) (by omega)
  refine wp_region_mix (Ext (w.alloc (.cells #[.int .i64 7, .int .i64 i, .string s, .slice la lt.length lc, .slice da ds.length dc] 32))) [(true, 0), (true, 1), (true, 2), (true, 3), (true, 5), (true, 6), (true, 7), (false, 4), (true, 8), (true, 9), (true, 10)] (by kernel_rfl) (by kernel_rfl) (by kernel_rfl) (by kernel_rfl) ?hS ?_
  case hS => exact (Ext.refl _).drew
  repeat (first | (refine wpMix_q (v := ?_) rfl rfl ?_ ?_; rotate_left; (· intro wq hSq; have cq := hSq.cells; go_simp; try (with_reducible rfl)); simp only [Act.put, List.setIfInBounds_toArray, List.set_cons_zero, List.set_cons_succ, List.getElem_toArray, List.getElem_cons_zero, List.getElem_cons_succ]) | (refine wpMix_u rfl rfl ?_; simp only [Act.put, List.setIfInBounds_toArray, List.set_cons_zero, List.set_cons_succ, List.getElem_toArray, List.getElem_cons_zero, List.getElem_cons_succ]))
  refine wpMix_l rfl rfl (fun K hK => ?_)
  go_simp
  refine (numLength_ok _ _ HI.out).mono ?_
  rintro e w1 ⟨rfl, rfl⟩
  rw [HX.out]
  refine hK _ _ (Ext.refl _).drew ?_
  clear hK K
  repeat (first | (refine wpMix_q (v := ?_) rfl rfl ?_ ?_; rotate_left; (· intro wq hSq; have cq := hSq.cells; go_simp; try (with_reducible rfl)); simp only [Act.put, List.setIfInBounds_toArray, List.set_cons_zero, List.set_cons_succ, List.getElem_toArray, List.getElem_cons_zero, List.getElem_cons_succ]) | (refine wpMix_u rfl rfl ?_; simp only [Act.put, List.setIfInBounds_toArray, List.set_cons_zero, List.set_cons_succ, List.getElem_toArray, List.getElem_cons_zero, List.getElem_cons_succ]))
  refine wpMix_nil ?_
  go_wp2_with fail
  go_ret
  exact ⟨by first | rfl | (congr 2; omega), by repeat (first | with_reducible assumption | with_reducible exact Ext.refl _ | with_reducible refine Ext.drew ?_ | with_reducible refine Ext.alloc ?_ _ | ((with_reducible refine Ext.setCell ?_ ?_ _); rotate_left; (· first | exact Nat.le_refl _ | (simp; done) | omega | (simp; omega))))⟩
set_option maxRecDepth 20000 in
set_option maxHeartbeats 1000000 in
theorem len_k8 (i : Int) (s : ByteArray) (lt : List Tr) (ns : List ByteArray) (ds : List Tr) (la da : Option Addr) (lc dc : Nat) (w : World) (hs : s.size ≤ 4096) :
    Calls Tryd.prog 37 #[.agg #[.int .i64 8, .int .i64 i, .string s, .slice la lt.length lc, .slice da ds.length dc]] w fun e w' => e = .returned (.int .i64 (([(8 : UInt8)] ++ s.data.toList).length : Nat)) ∧ Ext w w' := by
  obtain ⟨r, hr⟩ : ∃ x, ([(8 : UInt8)] ++ s.data.toList).length = x := ⟨_, rfl⟩
  rw [hr]
  have hr2 : r = 1 + s.size := by rw [← hr, List.length_append]; simp
  subst hr2
  clear hr
  go_enter Tryd.func37, Tryd.ntmps37
  go_wp2_with fail
  go_ret
  exact ⟨by first | rfl | (congr 2; omega), by repeat (first | with_reducible assumption | with_reducible exact Ext.refl _ | with_reducible refine Ext.drew ?_ | with_reducible refine Ext.alloc ?_ _ | ((with_reducible refine Ext.setCell ?_ ?_ _); rotate_left; (· first | exact Nat.le_refl _ | (simp; done) | omega | (simp; omega))))⟩
set_option maxRecDepth 20000 in
set_option maxHeartbeats 1000000 in
theorem len_k6 (i : Int) (s : ByteArray) (lt : List Tr) (ns : List ByteArray) (ds : List Tr) (la da : Option Addr) (lc dc : Nat) (w : World) (hc1 : lt.length ≤ lc) (hc2 : lc ≤ maxLen) (hL : LRep w la 0 lt) (hsl : ∀ t ∈ lt, snd t = true) (ih : ∀ t ∈ lt, LenOk t) (hlen : ([(6 : UInt8)] ++ (numL (zz lt.length) ++ encL lt)).length ≤ 90000000000) (hI : I64 (lt.length : Int)) :
    Calls Tryd.prog 37 #[.agg #[.int .i64 6, .int .i64 i, .string s, .slice la lt.length lc, .slice da ds.length dc]] w fun e w' => e = .returned (.int .i64 (([(6 : UInt8)] ++ (numL (zz lt.length) ++ encL lt)).length : Nat)) ∧ Ext w w' := by
  obtain ⟨r, hr⟩ : ∃ x, ([(6 : UInt8)] ++ (numL (zz lt.length) ++ encL lt)).length = x := ⟨_, rfl⟩
  rw [hr]
  have HI := Lib.hid hI
  have hx10 := numL_10 _ (zz_lt _ hI)
  clear hI
  obtain ⟨x, hx⟩ : ∃ x, (numL (zz (lt.length : Int))).length = x := ⟨_, rfl⟩
  rw [hx] at hx10
  have HX := Lib.hid hx
  clear hx
  have hr2 : r = 1 + x + (encL lt).length := by rw [← hr, ← HX.out, List.length_append, List.length_append]; simp; omega
  have HR := Lib.hid hr2
  have hrb : r ≤ 90000000000 := by rw [← hr]; exact hlen
  clear hr hr2 hlen
  have HL := Lib.hid hL
  have HIH := Lib.hid ih
  have HSL := Lib.hid hsl
  clear hL ih hsl
  unfold maxLen at hc2
  go_enter Tryd.func37, Tryd.ntmps37
  go_wp2_with fail
  refine (numLength_ok _ _ HI.out).mono ?_
  rintro e w1 ⟨rfl, rfl⟩
  rw [HX.out]
  go_wp2_with fail
  go_loopw [3, 53] (fun b c wr => ∃ j y : Nat, j ≤ lt.length ∧ c = .int .i64 j ∧ b = .int .i64 y ∧ Hid (y = 1 + x + (encL (lt.take j)).length) ∧ Hid (Ext w wr)) (fun _ c _ => lt.length - (intOf c).toNat)
  case atStart => exact ⟨0, 1 + x, by omega, rfl, by go_num, by show _ = _; simp [encL], (Ext.refl w).alloc _⟩
  case round =>
    obtain ⟨j, y, hj, rfl, rfl, HY, HE⟩ := hrel
    by_cases hlt : j < lt.length
    · obtain ⟨bb, off, c0, c1, c2, c3', c4, rfl, e0, e1, e2, e3, e4, hv⟩ := LRep.at_ lt 0 j lt[j] HL.out (List.getElem?_eq_getElem hlt)
      obtain ⟨k', i', s', la', ln', lc', da', dn', dc', rfl, rfl, rfl, rfl, rfl⟩ := hv.shape5
      have hEr := HE.out
      have q0 := hEr.keep e0
      have q1 := hEr.keep e1
      have q2 := hEr.keep e2
      have q3 := hEr.keep e3
      have q4 := hEr.keep e4
      rw [Nat.zero_add] at q0 q1 q2 q3 q4
      have HV := Lib.hid (VRep.ext hEr _ _ hv)
      clear e0 e1 e2 e3 e4 hv hEr
      have hsn := encL_snoc (lt.take j) lt[j]
      rw [← List.take_succ_eq_append_getElem hlt] at hsn
      have hle := encL_take_le lt (j + 1)
      obtain ⟨p, hp⟩ : ∃ p, lt[j] = p := ⟨_, rfl⟩
      have hmem : p ∈ lt := by rw [← hp]; exact List.getElem_mem hlt
      rw [hp] at HV hsn
      obtain ⟨z, hz⟩ : ∃ z, (enc p).length = z := ⟨_, rfl⟩
      have hyz : y + z ≤ 90000000000 := by
        have := HY.out; have := HR.out; rw [hsn] at hle; simp only [List.length_append] at hle; omega
      have HY2 : Hid (y + z = 1 + x + (encL (lt.take (j + 1))).length) := by
        show _ = _
        have := HY.out; rw [hsn, List.length_append]; omega
      have HZ := Lib.hid hz
      clear hp hsn hle hz
      go_wp2_with fail
      refine (HIH.out p hmem _ _ (HSL.out p hmem) (VRep.ext ((Ext.refl wr).alloc _) _ _ HV.out) (by rw [HZ.out]; omega)).mono ?_
      rintro e w4 ⟨rfl, h4⟩
      rw [HZ.out]
      have HE4 := Lib.hid (HE.out.trans h4.of_alloc)
      clear h4
      go_wp2_with fail
      exact ⟨⟨j + 1, y + z, by omega, by go_num, by go_num, HY2, HE4⟩, by simp [intOf]; omega⟩
    · have hj2 : j = lt.length := by omega
      subst hj2
      have hyr : y = r := by rw [HY.out, HR.out, List.take_length]
      subst hyr
      go_wp2_with fail
      go_ret
      exact ⟨rfl, HE.out⟩
set_option maxRecDepth 20000 in
set_option maxHeartbeats 1000000 in
theorem len_k5 (i : Int) (s : ByteArray) (lt : List Tr) (ns : List ByteArray) (ds : List Tr) (la da : Option Addr) (lc dc : Nat) (w : World) (hln : ns.length = ds.length) (hc1 : ds.length ≤ dc) (hc2 : dc ≤ maxLen) (hL : DRep w da 0 ns ds) (hnm : ∀ n ∈ ns, n.size ≤ 32) (hsl : ∀ t ∈ ds, snd t = true) (ih : ∀ t ∈ ds, LenOk t) (hlen : ([(5 : UInt8)] ++ (numL (zz ds.length) ++ encF ns ds)).length ≤ 90000000000) (hI : I64 (ds.length : Int)) :
    Calls Tryd.prog 37 #[.agg #[.int .i64 5, .int .i64 i, .string s, .slice la lt.length lc, .slice da ds.length dc]] w fun e w' => e = .returned (.int .i64 (([(5 : UInt8)] ++ (numL (zz ds.length) ++ encF ns ds)).length : Nat)) ∧ Ext w w' := by
  obtain ⟨r, hr⟩ : ∃ x, ([(5 : UInt8)] ++ (numL (zz ds.length) ++ encF ns ds)).length = x := ⟨_, rfl⟩
  rw [hr]
  have HI := Lib.hid hI
  have hx10 := numL_10 _ (zz_lt _ hI)
  clear hI
  obtain ⟨x, hx⟩ : ∃ x, (numL (zz (ds.length : Int))).length = x := ⟨_, rfl⟩
  rw [hx] at hx10
  have HX := Lib.hid hx
  clear hx
  have hr2 : r = 1 + x + (encF ns ds).length := by rw [← hr, ← HX.out, List.length_append, List.length_append]; simp; omega
  have HR := Lib.hid hr2
  have hrb : r ≤ 90000000000 := by rw [← hr]; exact hlen
  clear hr hr2 hlen
  have HL := Lib.hid hL
  have HIH := Lib.hid ih
  have HSL := Lib.hid hsl
  have HNM := Lib.hid hnm
  clear hL ih hsl hnm
  unfold maxLen at hc2
  go_enter Tryd.func37, Tryd.ntmps37
  go_wp2_with fail
  refine (numLength_ok _ _ HI.out).mono ?_
  rintro e w1 ⟨rfl, rfl⟩
  rw [HX.out]
  go_wp2_with fail
  go_loopw [3, 73] (fun b c wr => ∃ j y : Nat, j ≤ ds.length ∧ c = .int .i64 j ∧ b = .int .i64 y ∧ Hid (y = 1 + x + (encF (ns.take j) (ds.take j)).length) ∧ Hid (Ext w wr)) (fun _ c _ => ds.length - (intOf c).toNat)
  case atStart => exact ⟨0, 1 + x, by omega, rfl, by go_num, by show _ = _; simp [encF], (Ext.refl w).alloc _⟩
  case round =>
    obtain ⟨j, y, hj, rfl, rfl, HY, HE⟩ := hrel
    by_cases hlt : j < ds.length
    · obtain ⟨bb, off, c0, c1, c2, c3', c4, rfl, hnm, en, e0, e1, e2, e3, e4, hv⟩ := DRep.at_ ns ds 0 j (ns[j]'(by omega)) ds[j] HL.out (List.getElem?_eq_getElem (by omega)) (List.getElem?_eq_getElem hlt)
      obtain ⟨k', i', s', la', ln', lc', da', dn', dc', rfl, rfl, rfl, rfl, rfl⟩ := hv.shape5
      have hEr := HE.out
      have qn := hEr.keep en
      have q0 := hEr.keep e0
      have q1 := hEr.keep e1
      have q2 := hEr.keep e2
      have q3 := hEr.keep e3
      have q4 := hEr.keep e4
      rw [Nat.zero_add] at qn q0 q1 q2 q3 q4
      have HV := Lib.hid (VRep.ext hEr _ _ hv)
      clear en e0 e1 e2 e3 e4 hv hEr
      have hsn := encF_snoc (ns.take j) (ds.take j) (ns[j]'(by omega)) ds[j] (by simp; omega)
      rw [← List.take_succ_eq_append_getElem hlt, ← List.take_succ_eq_append_getElem (by omega)] at hsn
      have hle := encF_take_le ns ds (j + 1)
      obtain ⟨p, hp⟩ : ∃ p, ds[j] = p := ⟨_, rfl⟩
      obtain ⟨nm, hn⟩ : ∃ n, ns[j]'(by omega) = n := ⟨_, rfl⟩
      have hmem : p ∈ ds := by rw [← hp]; exact List.getElem_mem hlt
      have hmn : nm ∈ ns := by rw [← hn]; exact List.getElem_mem (by omega)
      have h32 : nm.size ≤ 32 := HNM.out nm hmn
      rw [hp] at HV hsn
      rw [hn] at qn hsn hnm
      obtain ⟨z, hz⟩ : ∃ z, (enc p).length = z := ⟨_, rfl⟩
      obtain ⟨u, hu⟩ : ∃ z, (numL (zz nm.size)).length = z := ⟨_, rfl⟩
      have HIn := Lib.hid (I64_nat nm.size (by unfold maxLen; omega))
      have hu10 := numL_10 _ (zz_lt _ HIn.out)
      rw [hu] at hu10
      have hsn2 : (encF (ns.take (j + 1)) (ds.take (j + 1))).length = (encF (ns.take j) (ds.take j)).length + (u + nm.size + z) := by
        rw [hsn, List.length_append, List.length_append, List.length_append, hu, hz]; simp
      have hyz : y + (u + nm.size + z) ≤ 90000000000 := by
        have := HY.out; have := HR.out; omega
      have HY2 : Hid (y + (u + nm.size + z) = 1 + x + (encF (ns.take (j + 1)) (ds.take (j + 1))).length) := by
        show _ = _
        have := HY.out; omega
      have HZ := Lib.hid hz
      have HU := Lib.hid hu
      clear hp hn hsn hle hz hu hsn2
      have hw1 := wrap_i64_val ((u : Int) + (nm.size : Int)) (by omega) (by omega)
      have hw2 := wrap_i64_val ((u : Int) + (nm.size : Int) + (z : Int)) (by omega) (by omega)
      have hw3 := wrap_i64_val ((y : Int) + ((u : Int) + (nm.size : Int) + (z : Int))) (by omega) (by omega)
      go_wp2_with fail
      refine wp_region_mix (Ext (wr.alloc (.cells #[.string nm, .int .i64 k', .int .i64 i', .string s', .slice la' ln' lc', .slice da' dn' dc'] 60))) [(true, 0), (true, 1), (true, 2), (true, 3), (true, 5), (true, 6), (true, 7), (true, 9), (true, 10), (false, 4), (true, 8), (false, 11), (true, 12), (true, 13), (true, 14)] (by kernel_rfl) (by kernel_rfl) (by kernel_rfl) (by kernel_rfl) ?hS ?_
      case hS => exact (Ext.refl _).drew
      repeat (first | (refine wpMix_q (v := ?_) rfl rfl ?_ ?_; rotate_left; (· intro wq hSq; have cq := hSq.cells; go_simp; try (with_reducible rfl)); simp only [Act.put, List.setIfInBounds_toArray, List.set_cons_zero, List.set_cons_succ, List.getElem_toArray, List.getElem_cons_zero, List.getElem_cons_succ]) | (refine wpMix_u rfl rfl ?_; simp only [Act.put, List.setIfInBounds_toArray, List.set_cons_zero, List.set_cons_succ, List.getElem_toArray, List.getElem_cons_zero, List.getElem_cons_succ]))
      refine wpMix_l rfl rfl (fun K hK => ?_)
      go_simp
      refine (numLength_ok _ _ HIn.out).mono ?_
      rintro e w3 ⟨rfl, rfl⟩
      rw [HU.out]
      refine hK _ _ (Ext.refl _).drew ?_
      clear hK K
      repeat (first | (refine wpMix_q (v := ?_) rfl rfl ?_ ?_; rotate_left; (· intro wq hSq; have cq := hSq.cells; go_simp; try (with_reducible rfl)); simp only [Act.put, List.setIfInBounds_toArray, List.set_cons_zero, List.set_cons_succ, List.getElem_toArray, List.getElem_cons_zero, List.getElem_cons_succ]) | (refine wpMix_u rfl rfl ?_; simp only [Act.put, List.setIfInBounds_toArray, List.set_cons_zero, List.set_cons_succ, List.getElem_toArray, List.getElem_cons_zero, List.getElem_cons_succ]))
      refine wpMix_l rfl rfl (fun K hK => ?_)
      go_simp
      refine (HIH.out p hmem _ _ (HSL.out p hmem) (VRep.ext (((Ext.refl wr).alloc _).drew) _ _ HV.out) (by rw [HZ.out]; omega)).mono ?_
      rintro e w4 ⟨rfl, h4⟩
      rw [HZ.out]
      have HE5 := Lib.hid ((Ext.refl (wr.alloc (.cells #[.string nm, .int .i64 k', .int .i64 i', .string s', .slice la' ln' lc', .slice da' dn' dc'] 60))).drew.trans h4)
      refine hK _ _ HE5.out ?_
      clear hK K h4
      repeat (first | (refine wpMix_q (v := ?_) rfl rfl ?_ ?_; rotate_left; (· intro wq hSq; have cq := hSq.cells; go_simp; try (with_reducible rfl)); simp only [Act.put, List.setIfInBounds_toArray, List.set_cons_zero, List.set_cons_succ, List.getElem_toArray, List.getElem_cons_zero, List.getElem_cons_succ]) | (refine wpMix_u rfl rfl ?_; simp only [Act.put, List.setIfInBounds_toArray, List.set_cons_zero, List.set_cons_succ, List.getElem_toArray, List.getElem_cons_zero, List.getElem_cons_succ]))
      refine wpMix_nil ?_
      have HE4 := Lib.hid (HE.out.trans HE5.out.of_alloc)
      clear HE5
      go_wp2_with fail
      exact ⟨⟨j + 1, y + (u + nm.size + z), by omega, by go_num, by go_num, HY2, HE4⟩, by simp [intOf]; omega⟩
    · have hj2 : j = ds.length := by omega
      subst hj2
      have hyr : y = r := by rw [HY.out, HR.out, List.take_length, List.take_of_length_le (by omega)]
      subst hyr
      go_wp2_with fail
      go_ret
      exact ⟨rfl, HE.out⟩
theorem len_step (t : Tr) (ih : ∀ p, p.sz < t.sz → LenOk p) : LenOk t := by
  intro v w hsd hV hlen
  obtain ⟨k, i, s, lt, ns, ds⟩ := t
  unfold VRep at hV
  obtain ⟨la, lc, da, dc, rfl, ⟨hs, hk, hi⟩, hl1, hl2, hd1, hd2, hnd, hL, hD⟩ := hV
  obtain ⟨h1, h2, h3, h4⟩ := snd_list hsd
  have ih2 : ∀ t, t ∈ lt ∨ t ∈ ds → LenOk t := fun t ht => ih t (by rcases ht with h | h; exact Tr.sz_list h; exact Tr.sz_docs h)
  clear ih
  by_cases k1 : k = 1
  · subst k1; exact len_k1 i s lt ns ds la da lc dc w
  by_cases k2 : k = 2
  · subst k2; exact len_k2 i s lt ns ds la da lc dc w
  by_cases k3 : k = 3
  · subst k3; exact len_k3 i s lt ns ds la da lc dc w hi
  by_cases k4 : k = 4
  · subst k4; exact len_k4 i s lt ns ds la da lc dc w (by simp [leafOk] at h2; exact h2.1) (I64_nat _ hs)
  by_cases k5 : k = 5
  · subst k5
    have e : enc (.mk 5 i s lt ns ds) = [5] ++ (numL (zz ds.length) ++ encF ns ds) := by simp [enc]
    rw [e] at hlen ⊢
    exact len_k5 i s lt ns ds la da lc dc w hnd hd1.1 hd2 hD (fun n hn => nameB_le (sndF_names h4 hnd n hn)) (fun t ht => sndF_mem h4 t ht) (fun t ht => ih2 t (.inr ht)) hlen (I64_nat _ (by omega))
  by_cases k6 : k = 6
  · subst k6
    have e : enc (.mk 6 i s lt ns ds) = [6] ++ (numL (zz lt.length) ++ encL lt) := by simp [enc]
    rw [e] at hlen ⊢
    exact len_k6 i s lt ns ds la da lc dc w hl1.1 hl2 hL (fun t ht => sndL_mem h3 t ht) (fun t ht => ih2 t (.inl ht)) hlen (I64_nat _ (by omega))
  by_cases k7 : k = 7
  · subst k7; exact len_k7 i s lt ns ds la da lc dc w (by simpa [leafOk] using h2) (I64_nat _ hs)
  by_cases k8 : k = 8
  · subst k8; exact len_k8 i s lt ns ds la da lc dc w (by simp [leafOk] at h2; omega)
  by_cases k9 : k = 9
  · subst k9; exact len_k9 i s lt ns ds la da lc dc w
  by_cases k10 : k = 10
  · subst k10; exact len_k10 i s lt ns ds la da lc dc w hi
  by_cases k11 : k = 11
  · subst k11; exact len_k11 i s lt ns ds la da lc dc w
  exfalso
  simp [leafOk, k1, k2, k3, k4, k5, k6, k7, k8, k9, k10, k11] at h2
theorem len_ok (t : Tr) : LenOk t := by
  have : ∀ n (t : Tr), t.sz = n → LenOk t := by
    intro n
    induction n using Nat.strongRecOn with
    | _ n ih => intro t ht; exact len_step t (fun p hp => ih p.sz (by rw [← ht]; exact hp) p rfl)
  exact this _ t rfl
theorem encR_len (t : Tr) (h : validB t = true) : ((encR t).1.size : Int) = ((enc t).length : Nat) ∧ (encR t).2 = 0 := by unfold encR; rw [h]; exact ⟨rfl, rfl⟩
set_option maxRecDepth 20000 in
set_option maxHeartbeats 1000000 in
theorem Length_ok (t : Tr) (v : Value) (w : World) (hV : VRep w t v) (hT : Tabs w) : Calls Tryd.prog 25 #[v] w fun e w' => e = .returned (.tuple #[.int .i64 ((encR t).1.size : Nat), .int .i64 (encR t).2]) ∧ Ext w w' := by
  obtain ⟨k, i, s, la, ln, lc, da, dn, dc, rfl⟩ := hV.shape
  have HV := Lib.hid hV
  have HT := Lib.hid hT
  clear hV hT
  go_enter Tryd.func25, Tryd.ntmps25
  go_wp2_with fail
  refine (Valid_ok t _ _ (VRep.ext ((Ext.refl w).alloc _) _ _ HV.out) (HT.out.ext ((Ext.refl w).alloc _))).mono ?_
  rintro e w1 ⟨rfl, h1⟩
  have k1 := h1.ownc
  have l1 := h1.lt
  cases hb : validB t
  · have HF : Hid (encR t = (⟨#[]⟩, 8)) := by show _ = _; unfold encR; rw [hb]; rfl
    clear hb
    go_wp2_with fail
    go_ret2
    exact ⟨by rw [HF.out]; rfl, h1.of_alloc⟩
  · have HF := Lib.hid (encR_len t hb)
    have HS := Lib.hid (enc_small HV.out hb)
    clear hb
    go_wp2_with fail
    refine (len_ok t _ _ HS.out.2 (VRep.ext h1.of_alloc _ _ HV.out) (by have := HS.out.1; omega)).mono ?_
    rintro e w2 ⟨rfl, h2⟩
    go_wp2_with fail
    go_ret2
    exact ⟨by rw [HF.out.1, HF.out.2]; rfl, h1.of_alloc.trans h2⟩
end Go.Proofs.YtdoofmohoamkbaaDoor
