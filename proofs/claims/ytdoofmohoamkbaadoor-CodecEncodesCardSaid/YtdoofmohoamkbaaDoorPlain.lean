/- docstoreref02.plain, kind by kind (printed by genplain.py), and Encode. -/
import Derived.Test.YtdoofmohoamkbaaDoorEnc
import Derived.Test.YtdoofmohoamkbaaDoorR1e
set_option linter.unusedSimpArgs false
set_option linter.unusedVariables false
namespace Go.Proofs.YtdoofmohoamkbaaDoor
open Go.RowKit
theorem conv_oneg (w : World) (g : Nat) (hg : g = w.heap.size) (c : UInt8) (x : Int) (hx : x = c.toNat) : (convert 48 9 (.slice (some ⟨g, 0, none⟩) 1 1)).run Tryd.prog (w.alloc (.cells #[.int .u8 x] 5)) = .ok (.string ⟨#[c]⟩) (w.alloc (.cells #[.int .u8 x] 5)) := by
  subst hg; exact conv_one w c x hx
theorem cat_list (a b : ByteArray) : (a ++ b).data.toList = a.data.toList ++ b.data.toList := by rw [ByteArray.data_append]; simp
theorem arr_list (l : List UInt8) : (⟨l.toArray⟩ : ByteArray).data.toList = l := rfl
theorem cat_size (a b : ByteArray) : (a ++ b).size = a.size + b.size := by simp
def PlainOk (t : Tr) : Prop := ∀ (v : Value) (w : World), snd t = true → VRep w t v → (enc t).length ≤ 90000000000 → Calls Tryd.prog 36 #[v] w fun e w' => e = .returned (.string ⟨(enc t).toArray⟩) ∧ Ext w w'
set_option maxRecDepth 20000 in
set_option maxHeartbeats 1000000 in
theorem pl_k1 (i : Int) (s : ByteArray) (lt : List Tr) (ns : List ByteArray) (ds : List Tr) (la da : Option Addr) (lc dc : Nat) (w : World) :
    Calls Tryd.prog 36 #[.agg #[.int .i64 1, .int .i64 i, .string s, .slice la lt.length lc, .slice da ds.length dc]] w fun e w' => e = .returned (.string ⟨([(1 : UInt8)]).toArray⟩) ∧ Ext w w' := by
  obtain ⟨r, hr⟩ : ∃ x : ByteArray, (⟨([(1 : UInt8)]).toArray⟩ : ByteArray) = x := ⟨_, rfl⟩
  rw [hr]
  have HR := Lib.hid hr
  clear hr
  have hcv := conv_oneg (w.alloc (.cells #[.int .i64 1, .int .i64 i, .string s, .slice la lt.length lc, .slice da ds.length dc] 32)) (w.heap.size + 1) (by simp) 1 1 rfl
  go_enter Tryd.func36, Tryd.ntmps36
  go_wp2_with fail
  go_ret
  exact ⟨by rw [← HR.out]; rfl, by repeat (first | with_reducible assumption | with_reducible exact Ext.refl _ | with_reducible refine Ext.drew ?_ | with_reducible refine Ext.alloc ?_ _ | ((with_reducible refine Ext.setCell ?_ ?_ _); rotate_left; (· first | exact Nat.le_refl _ | (simp; done) | omega | (simp; omega))))⟩
set_option maxRecDepth 20000 in
set_option maxHeartbeats 1000000 in
theorem pl_k2 (i : Int) (s : ByteArray) (lt : List Tr) (ns : List ByteArray) (ds : List Tr) (la da : Option Addr) (lc dc : Nat) (w : World) :
    Calls Tryd.prog 36 #[.agg #[.int .i64 2, .int .i64 i, .string s, .slice la lt.length lc, .slice da ds.length dc]] w fun e w' => e = .returned (.string ⟨([(2 : UInt8)]).toArray⟩) ∧ Ext w w' := by
  obtain ⟨r, hr⟩ : ∃ x : ByteArray, (⟨([(2 : UInt8)]).toArray⟩ : ByteArray) = x := ⟨_, rfl⟩
  rw [hr]
  have HR := Lib.hid hr
  clear hr
  have hcv := conv_oneg (w.alloc (.cells #[.int .i64 2, .int .i64 i, .string s, .slice la lt.length lc, .slice da ds.length dc] 32)) (w.heap.size + 1) (by simp) 2 2 rfl
  go_enter Tryd.func36, Tryd.ntmps36
  go_wp2_with fail
  go_ret
  exact ⟨by rw [← HR.out]; rfl, by repeat (first | with_reducible assumption | with_reducible exact Ext.refl _ | with_reducible refine Ext.drew ?_ | with_reducible refine Ext.alloc ?_ _ | ((with_reducible refine Ext.setCell ?_ ?_ _); rotate_left; (· first | exact Nat.le_refl _ | (simp; done) | omega | (simp; omega))))⟩
set_option maxRecDepth 20000 in
set_option maxHeartbeats 1000000 in
theorem pl_k11 (i : Int) (s : ByteArray) (lt : List Tr) (ns : List ByteArray) (ds : List Tr) (la da : Option Addr) (lc dc : Nat) (w : World) :
    Calls Tryd.prog 36 #[.agg #[.int .i64 11, .int .i64 i, .string s, .slice la lt.length lc, .slice da ds.length dc]] w fun e w' => e = .returned (.string ⟨([(11 : UInt8)]).toArray⟩) ∧ Ext w w' := by
  obtain ⟨r, hr⟩ : ∃ x : ByteArray, (⟨([(11 : UInt8)]).toArray⟩ : ByteArray) = x := ⟨_, rfl⟩
  rw [hr]
  have HR := Lib.hid hr
  clear hr
  have hcv := conv_oneg (w.alloc (.cells #[.int .i64 11, .int .i64 i, .string s, .slice la lt.length lc, .slice da ds.length dc] 32)) (w.heap.size + 1) (by simp) 11 11 rfl
  go_enter Tryd.func36, Tryd.ntmps36
  go_wp2_with fail
  go_ret
  exact ⟨by rw [← HR.out]; rfl, by repeat (first | with_reducible assumption | with_reducible exact Ext.refl _ | with_reducible refine Ext.drew ?_ | with_reducible refine Ext.alloc ?_ _ | ((with_reducible refine Ext.setCell ?_ ?_ _); rotate_left; (· first | exact Nat.le_refl _ | (simp; done) | omega | (simp; omega))))⟩
set_option maxRecDepth 20000 in
set_option maxHeartbeats 1000000 in
theorem pl_k9 (i : Int) (s : ByteArray) (lt : List Tr) (ns : List ByteArray) (ds : List Tr) (la da : Option Addr) (lc dc : Nat) (w : World) (hi : 0 ≤ i ∧ i ≤ 1) :
    Calls Tryd.prog 36 #[.agg #[.int .i64 9, .int .i64 i, .string s, .slice la lt.length lc, .slice da ds.length dc]] w fun e w' => e = .returned (.string ⟨([(9 : UInt8)] ++ [UInt8.ofNat i.toNat]).toArray⟩) ∧ Ext w w' := by
  obtain ⟨r, hr⟩ : ∃ x : ByteArray, (⟨([(9 : UInt8)] ++ [UInt8.ofNat i.toNat]).toArray⟩ : ByteArray) = x := ⟨_, rfl⟩
  rw [hr]
  have HR := Lib.hid hr
  clear hr
  obtain ⟨cc, hc9⟩ : ∃ c, UInt8.ofNat i.toNat = c := ⟨_, rfl⟩
  have hcc : i = cc.toNat := by rw [← hc9]; rw [UInt8.toNat_ofNat']; omega
  rw [hc9] at HR
  subst hcc
  have hc2 := cc.toNat_lt
  clear hc9
  have hcv2 := conv_oneg ((w.alloc (.cells #[.int .i64 9, .int .i64 (cc.toNat : Int), .string s, .slice la lt.length lc, .slice da ds.length dc] 32)).alloc (.cells #[.int .u8 9] 5)) (w.heap.size + 1 + 1) (by simp) cc _ rfl
  have hcv := conv_oneg (w.alloc (.cells #[.int .i64 9, .int .i64 (cc.toNat : Int), .string s, .slice la lt.length lc, .slice da ds.length dc] 32)) (w.heap.size + 1) (by simp) 9 9 rfl
  go_enter Tryd.func36, Tryd.ntmps36
  go_wp2_with fail
  go_ret
  exact ⟨by rw [← HR.out]; rfl, by repeat (first | with_reducible assumption | with_reducible exact Ext.refl _ | with_reducible refine Ext.drew ?_ | with_reducible refine Ext.alloc ?_ _ | ((with_reducible refine Ext.setCell ?_ ?_ _); rotate_left; (· first | exact Nat.le_refl _ | (simp; done) | omega | (simp; omega))))⟩
set_option maxRecDepth 20000 in
set_option maxHeartbeats 1000000 in
theorem pl_k3 (i : Int) (s : ByteArray) (lt : List Tr) (ns : List ByteArray) (ds : List Tr) (la da : Option Addr) (lc dc : Nat) (w : World) (hI : I64 i) :
    Calls Tryd.prog 36 #[.agg #[.int .i64 3, .int .i64 i, .string s, .slice la lt.length lc, .slice da ds.length dc]] w fun e w' => e = .returned (.string ⟨([(3 : UInt8)] ++ numL (zz i)).toArray⟩) ∧ Ext w w' := by
  obtain ⟨r, hr⟩ : ∃ x : ByteArray, (⟨([(3 : UInt8)] ++ numL (zz i)).toArray⟩ : ByteArray) = x := ⟨_, rfl⟩
  rw [hr]
  have HR := Lib.hid hr
  clear hr
  have HI := Lib.hid hI
  have hx10 := numL_10 _ (zz_lt _ hI)
  clear hI
  obtain ⟨q, hq⟩ : ∃ x : ByteArray, (⟨(numL (zz i)).toArray⟩ : ByteArray) = x := ⟨_, rfl⟩
  have HQ := Lib.hid hq
  have HQL : Hid (q.data.toList = numL (zz i)) := by show _ = _; rw [← hq]
  have hq10 : q.size ≤ 10 := by rw [← hq]; exact hx10
  clear hq hx10
  have hcv := conv_oneg (w.alloc (.cells #[.int .i64 3, .int .i64 i, .string s, .slice la lt.length lc, .slice da ds.length dc] 32)) (w.heap.size + 1) (by simp) 3 3 rfl
  go_enter Tryd.func36, Tryd.ntmps36
  go_wp2_with fail
  refine (RNum_ok _ _ HI.out).mono ?_
  rintro e w1 ⟨rfl, h1⟩
  rw [HQ.out]
  have hE := h1.of_alloc.of_alloc
  go_wp2_with fail
  go_ret
  exact ⟨by rw [← HR.out]; exact congrArg (fun x => Ending.returned (.string x)) (bytes_ext (by simp only [cat_list, arr_list, HQL.out])), hE⟩
set_option maxRecDepth 20000 in
set_option maxHeartbeats 1000000 in
theorem pl_k10 (i : Int) (s : ByteArray) (lt : List Tr) (ns : List ByteArray) (ds : List Tr) (la da : Option Addr) (lc dc : Nat) (w : World) (hI : I64 i) :
    Calls Tryd.prog 36 #[.agg #[.int .i64 10, .int .i64 i, .string s, .slice la lt.length lc, .slice da ds.length dc]] w fun e w' => e = .returned (.string ⟨([(10 : UInt8)] ++ numL (zz i)).toArray⟩) ∧ Ext w w' := by
  obtain ⟨r, hr⟩ : ∃ x : ByteArray, (⟨([(10 : UInt8)] ++ numL (zz i)).toArray⟩ : ByteArray) = x := ⟨_, rfl⟩
  rw [hr]
  have HR := Lib.hid hr
  clear hr
  have HI := Lib.hid hI
  have hx10 := numL_10 _ (zz_lt _ hI)
  clear hI
  obtain ⟨q, hq⟩ : ∃ x : ByteArray, (⟨(numL (zz i)).toArray⟩ : ByteArray) = x := ⟨_, rfl⟩
  have HQ := Lib.hid hq
  have HQL : Hid (q.data.toList = numL (zz i)) := by show _ = _; rw [← hq]
  have hq10 : q.size ≤ 10 := by rw [← hq]; exact hx10
  clear hq hx10
  have hcv := conv_oneg (w.alloc (.cells #[.int .i64 10, .int .i64 i, .string s, .slice la lt.length lc, .slice da ds.length dc] 32)) (w.heap.size + 1) (by simp) 10 10 rfl
  go_enter Tryd.func36, Tryd.ntmps36
  go_wp2_with fail
  refine (RNum_ok _ _ HI.out).mono ?_
  rintro e w1 ⟨rfl, h1⟩
  rw [HQ.out]
  have hE := h1.of_alloc.of_alloc
  go_wp2_with fail
  go_ret
  exact ⟨by rw [← HR.out]; exact congrArg (fun x => Ending.returned (.string x)) (bytes_ext (by simp only [cat_list, arr_list, HQL.out])), hE⟩
set_option maxRecDepth 20000 in
set_option maxHeartbeats 1000000 in
theorem pl_k4 (i : Int) (s : ByteArray) (lt : List Tr) (ns : List ByteArray) (ds : List Tr) (la da : Option Addr) (lc dc : Nat) (w : World) (hs : s.size ≤ 4096) (hI : I64 (s.size : Int)) :
    Calls Tryd.prog 36 #[.agg #[.int .i64 4, .int .i64 i, .string s, .slice la lt.length lc, .slice da ds.length dc]] w fun e w' => e = .returned (.string ⟨([(4 : UInt8)] ++ (numL (zz s.size) ++ s.data.toList)).toArray⟩) ∧ Ext w w' := by
  obtain ⟨r, hr⟩ : ∃ x : ByteArray, (⟨([(4 : UInt8)] ++ (numL (zz s.size) ++ s.data.toList)).toArray⟩ : ByteArray) = x := ⟨_, rfl⟩
  rw [hr]
  have HR := Lib.hid hr
  clear hr
  have HI := Lib.hid hI
  have hx10 := numL_10 _ (zz_lt _ hI)
  clear hI
  obtain ⟨q, hq⟩ : ∃ x : ByteArray, (⟨(numL (zz (s.size : Int))).toArray⟩ : ByteArray) = x := ⟨_, rfl⟩
  have HQ := Lib.hid hq
  have HQL : Hid (q.data.toList = numL (zz (s.size : Int))) := by show _ = _; rw [← hq]
  have hq10 : q.size ≤ 10 := by rw [← hq]; exact hx10
  clear hq hx10
  have hcv := conv_oneg (w.alloc (.cells #[.int .i64 4, .int .i64 i, .string s, .slice la lt.length lc, .slice da ds.length dc] 32)) (w.heap.size + 1) (by simp) 4 4 rfl
  go_enter Tryd.func36, Tryd.ntmps36
  go_wp2_with fail
  refine wp_region_mix (Ext (w.alloc (.cells #[.int .i64 4, .int .i64 i, .string s, .slice la lt.length lc, .slice da ds.length dc] 32))) [(true, 0), (true, 1), (true, 2), (true, 3), (true, 6), (true, 7), (false, 4), (true, 5), (true, 8), (true, 9)] (by kernel_rfl) (by kernel_rfl) (by kernel_rfl) (by kernel_rfl) ?hS ?_
  case hS => exact ((Ext.refl _).alloc _).drew
  have hz1 : ¬ 9223372036854775807 < 1 + q.size := by omega
  have hz2 : ¬ 9223372036854775807 < 1 + q.size + s.size := by omega
  repeat (first | (refine wpMix_q (v := ?_) rfl rfl ?_ ?_; rotate_left; (· intro wq hSq; have cq := hSq.cells; go_simp; try (with_reducible rfl)); simp only [Act.put, List.setIfInBounds_toArray, List.set_cons_zero, List.set_cons_succ, List.getElem_toArray, List.getElem_cons_zero, List.getElem_cons_succ]) | (refine wpMix_u rfl rfl ?_; simp only [Act.put, List.setIfInBounds_toArray, List.set_cons_zero, List.set_cons_succ, List.getElem_toArray, List.getElem_cons_zero, List.getElem_cons_succ]))
  refine wpMix_l rfl rfl (fun K hK => ?_)
  go_simp
  refine (RNum_ok _ _ HI.out).mono ?_
  rintro e w1 ⟨rfl, h1⟩
  rw [HQ.out]
  have hE := ((Ext.refl (w.alloc (.cells #[.int .i64 4, .int .i64 i, .string s, .slice la lt.length lc, .slice da ds.length dc] 32))).alloc _).drew.trans h1
  refine hK _ _ hE ?_
  clear hK K h1
  repeat (first | (refine wpMix_q (v := ?_) rfl rfl ?_ ?_; rotate_left; (· intro wq hSq; have cq := hSq.cells; go_simp; try (with_reducible rfl)); simp only [Act.put, List.setIfInBounds_toArray, List.set_cons_zero, List.set_cons_succ, List.getElem_toArray, List.getElem_cons_zero, List.getElem_cons_succ]) | (refine wpMix_u rfl rfl ?_; simp only [Act.put, List.setIfInBounds_toArray, List.set_cons_zero, List.set_cons_succ, List.getElem_toArray, List.getElem_cons_zero, List.getElem_cons_succ]))
  refine wpMix_nil ?_
  go_wp2_with fail
  go_ret
  exact ⟨by rw [← HR.out]; exact congrArg (fun x => Ending.returned (.string x)) (bytes_ext (by simp only [cat_list, arr_list, HQL.out, List.append_assoc])), hE.of_alloc⟩
set_option maxRecDepth 20000 in
set_option maxHeartbeats 1000000 in
theorem pl_k7 (i : Int) (s : ByteArray) (lt : List Tr) (ns : List ByteArray) (ds : List Tr) (la da : Option Addr) (lc dc : Nat) (w : World) (hs : s.size ≤ 4096) (hI : I64 (s.size : Int)) :
    Calls Tryd.prog 36 #[.agg #[.int .i64 7, .int .i64 i, .string s, .slice la lt.length lc, .slice da ds.length dc]] w fun e w' => e = .returned (.string ⟨([(7 : UInt8)] ++ (numL (zz s.size) ++ s.data.toList)).toArray⟩) ∧ Ext w w' := by
  obtain ⟨r, hr⟩ : ∃ x : ByteArray, (⟨([(7 : UInt8)] ++ (numL (zz s.size) ++ s.data.toList)).toArray⟩ : ByteArray) = x := ⟨_, rfl⟩
  rw [hr]
  have HR := Lib.hid hr
  clear hr
  have HI := Lib.hid hI
  have hx10 := numL_10 _ (zz_lt _ hI)
  clear hI
  obtain ⟨q, hq⟩ : ∃ x : ByteArray, (⟨(numL (zz (s.size : Int))).toArray⟩ : ByteArray) = x := ⟨_, rfl⟩
  have HQ := Lib.hid hq
  have HQL : Hid (q.data.toList = numL (zz (s.size : Int))) := by show _ = _; rw [← hq]
  have hq10 : q.size ≤ 10 := by rw [← hq]; exact hx10
  clear hq hx10
  have hcv := conv_oneg (w.alloc (.cells #[.int .i64 7, .int .i64 i, .string s, .slice la lt.length lc, .slice da ds.length dc] 32)) (w.heap.size + 1) (by simp) 7 7 rfl
  go_enter Tryd.func36, Tryd.ntmps36
  go_wp2_with fail
  refine wp_region_mix (Ext (w.alloc (.cells #[.int .i64 7, .int .i64 i, .string s, .slice la lt.length lc, .slice da ds.length dc] 32))) [(true, 0), (true, 1), (true, 2), (true, 3), (true, 6), (true, 7), (false, 4), (true, 5), (true, 8), (true, 9)] (by kernel_rfl) (by kernel_rfl) (by kernel_rfl) (by kernel_rfl) ?hS ?_
  case hS => exact ((Ext.refl _).alloc _).drew
  have hz1 : ¬ 9223372036854775807 < 1 + q.size := by omega
  have hz2 : ¬ 9223372036854775807 < 1 + q.size + s.size := by omega
  repeat (first | (refine wpMix_q (v := ?_) rfl rfl ?_ ?_; rotate_left; (· intro wq hSq; have cq := hSq.cells; go_simp; try (with_reducible rfl)); simp only [Act.put, List.setIfInBounds_toArray, List.set_cons_zero, List.set_cons_succ, List.getElem_toArray, List.getElem_cons_zero, List.getElem_cons_succ]) | (refine wpMix_u rfl rfl ?_; simp only [Act.put, List.setIfInBounds_toArray, List.set_cons_zero, List.set_cons_succ, List.getElem_toArray, List.getElem_cons_zero, List.getElem_cons_succ]))
  refine wpMix_l rfl rfl (fun K hK => ?_)
  go_simp
  refine (RNum_ok _ _ HI.out).mono ?_
  rintro e w1 ⟨rfl, h1⟩
  rw [HQ.out]
  have hE := ((Ext.refl (w.alloc (.cells #[.int .i64 7, .int .i64 i, .string s, .slice la lt.length lc, .slice da ds.length dc] 32))).alloc _).drew.trans h1
  refine hK _ _ hE ?_
  clear hK K h1
  repeat (first | (refine wpMix_q (v := ?_) rfl rfl ?_ ?_; rotate_left; (· intro wq hSq; have cq := hSq.cells; go_simp; try (with_reducible rfl)); simp only [Act.put, List.setIfInBounds_toArray, List.set_cons_zero, List.set_cons_succ, List.getElem_toArray, List.getElem_cons_zero, List.getElem_cons_succ]) | (refine wpMix_u rfl rfl ?_; simp only [Act.put, List.setIfInBounds_toArray, List.set_cons_zero, List.set_cons_succ, List.getElem_toArray, List.getElem_cons_zero, List.getElem_cons_succ]))
  refine wpMix_nil ?_
  go_wp2_with fail
  go_ret
  exact ⟨by rw [← HR.out]; exact congrArg (fun x => Ending.returned (.string x)) (bytes_ext (by simp only [cat_list, arr_list, HQL.out, List.append_assoc])), hE.of_alloc⟩
set_option maxRecDepth 20000 in
set_option maxHeartbeats 1000000 in
theorem pl_k8 (i : Int) (s : ByteArray) (lt : List Tr) (ns : List ByteArray) (ds : List Tr) (la da : Option Addr) (lc dc : Nat) (w : World) (hs : s.size ≤ 4096) :
    Calls Tryd.prog 36 #[.agg #[.int .i64 8, .int .i64 i, .string s, .slice la lt.length lc, .slice da ds.length dc]] w fun e w' => e = .returned (.string ⟨([(8 : UInt8)] ++ s.data.toList).toArray⟩) ∧ Ext w w' := by
  obtain ⟨r, hr⟩ : ∃ x : ByteArray, (⟨([(8 : UInt8)] ++ s.data.toList).toArray⟩ : ByteArray) = x := ⟨_, rfl⟩
  rw [hr]
  have HR := Lib.hid hr
  clear hr
  have hcv := conv_oneg (w.alloc (.cells #[.int .i64 8, .int .i64 i, .string s, .slice la lt.length lc, .slice da ds.length dc] 32)) (w.heap.size + 1) (by simp) 8 8 rfl
  go_enter Tryd.func36, Tryd.ntmps36
  go_wp2_with fail
  go_ret
  exact ⟨by rw [← HR.out]; exact congrArg (fun x => Ending.returned (.string x)) (bytes_ext (by simp only [cat_list, arr_list])), by repeat (first | with_reducible assumption | with_reducible exact Ext.refl _ | with_reducible refine Ext.drew ?_ | with_reducible refine Ext.alloc ?_ _ | ((with_reducible refine Ext.setCell ?_ ?_ _); rotate_left; (· first | exact Nat.le_refl _ | (simp; done) | omega | (simp; omega))))⟩
set_option maxRecDepth 20000 in
set_option maxHeartbeats 1000000 in
theorem pl_k6 (i : Int) (s : ByteArray) (lt : List Tr) (ns : List ByteArray) (ds : List Tr) (la da : Option Addr) (lc dc : Nat) (w : World) (hc1 : lt.length ≤ lc) (hc2 : lc ≤ maxLen) (hL : LRep w la 0 lt) (hsl : ∀ t ∈ lt, snd t = true) (ih : ∀ t ∈ lt, PlainOk t) (hlen : ([(6 : UInt8)] ++ (numL (zz lt.length) ++ encL lt)).length ≤ 90000000000) (hI : I64 (lt.length : Int)) :
    Calls Tryd.prog 36 #[.agg #[.int .i64 6, .int .i64 i, .string s, .slice la lt.length lc, .slice da ds.length dc]] w fun e w' => e = .returned (.string ⟨([(6 : UInt8)] ++ (numL (zz lt.length) ++ encL lt)).toArray⟩) ∧ Ext w w' := by
  obtain ⟨r, hr⟩ : ∃ x : ByteArray, (⟨([(6 : UInt8)] ++ (numL (zz lt.length) ++ encL lt)).toArray⟩ : ByteArray) = x := ⟨_, rfl⟩
  rw [hr]
  have HR := Lib.hid hr
  clear hr
  have HI := Lib.hid hI
  have hx10 := numL_10 _ (zz_lt _ hI)
  clear hI
  obtain ⟨q, hq⟩ : ∃ x : ByteArray, (⟨(numL (zz (lt.length : Int))).toArray⟩ : ByteArray) = x := ⟨_, rfl⟩
  have HQ := Lib.hid hq
  have HQL : Hid (q.data.toList = numL (zz (lt.length : Int))) := by show _ = _; rw [← hq]
  have hq10 : q.size ≤ 10 := by rw [← hq]; exact hx10
  clear hq hx10
  have HL := Lib.hid hL
  have HIH := Lib.hid ih
  have HSL := Lib.hid hsl
  clear hL ih hsl
  unfold maxLen at hc2
  have hcv := conv_oneg (w.alloc (.cells #[.int .i64 6, .int .i64 i, .string s, .slice la lt.length lc, .slice da ds.length dc] 32)) (w.heap.size + 1) (by simp) 6 6 rfl
  go_enter Tryd.func36, Tryd.ntmps36
  go_wp2_with fail
  refine (RNum_ok _ _ HI.out).mono ?_
  rintro e w1 ⟨rfl, h1⟩
  rw [HQ.out]
  have hE1 := ((Ext.refl (w.alloc (.cells #[.int .i64 6, .int .i64 i, .string s, .slice la lt.length lc, .slice da ds.length dc] 32))).alloc _).trans h1
  have k1 := hE1.ownc
  have l1 := hE1.lt
  have HE1 := Lib.hid hE1
  clear h1 hE1
  go_wp2_with fail
  go_loopw [3, 4] (fun b c wr => ∃ (j : Nat) (y : ByteArray), j ≤ lt.length ∧ c = .int .i64 j ∧ b = .string y ∧ Hid (y.data.toList = [6] ++ (numL (zz lt.length) ++ encL (lt.take j))) ∧ Hid (Ext (w.alloc (.cells #[.int .i64 6, .int .i64 i, .string s, .slice la lt.length lc, .slice da ds.length dc] 32)) wr)) (fun _ c _ => lt.length - (intOf c).toNat)
  case atStart => exact ⟨0, _, by omega, rfl, rfl, by show _ = _; rw [cat_list, HQL.out]; simp [encL], HE1⟩
  case round =>
    obtain ⟨j, y, hj, rfl, rfl, HY, HE⟩ := hrel
    have kk := HE.out.ownc
    have ll := HE.out.lt
    clear k1 l1
    by_cases hlt : j < lt.length
    · obtain ⟨bb, off, c0, c1, c2, c3', c4, rfl, e0, e1, e2, e3, e4, hv⟩ := LRep.at_ lt 0 j lt[j] HL.out (List.getElem?_eq_getElem hlt)
      obtain ⟨k', i', s', la', ln', lc', da', dn', dc', rfl, rfl, rfl, rfl, rfl⟩ := hv.shape5
      have hEr := HE.out.of_alloc
      have q0 := hEr.keep e0
      have q1 := hEr.keep e1
      have q2 := hEr.keep e2
      have q3 := hEr.keep e3
      have q4 := hEr.keep e4
      rw [Nat.zero_add] at q0 q1 q2 q3 q4
      have HV := Lib.hid (VRep.ext hEr _ _ hv)
      clear e0 e1 e2 e3 e4 hv hEr
      have hsn := encL_snoc (lt.take j) lt[j]
      rw [← List.take_succ_eq_append_getElem hlt] at hsn
      have hle := encL_take_le lt (j + 1)
      obtain ⟨p, hp⟩ : ∃ p, lt[j] = p := ⟨_, rfl⟩
      have hmem : p ∈ lt := by rw [← hp]; exact List.getElem_mem hlt
      rw [hp] at HV hsn
      obtain ⟨z, hz⟩ : ∃ z : ByteArray, (⟨(enc p).toArray⟩ : ByteArray) = z := ⟨_, rfl⟩
      have hzl : z.data.toList = enc p := by rw [← hz]
      have hyl := HY.out
      have hys : y.size = y.data.toList.length := by simp
      have hzs : z.size = z.data.toList.length := by simp
      have hyz : y.size + z.size ≤ 90000000000 := by
        rw [hys, hyl, hzs, hzl]; rw [hsn] at hle; simp only [List.length_append] at hle hlen ⊢; omega
      have HP : Hid ((enc p).length ≤ 90000000000) := by show _ ≤ _; rw [← hzl, ← hzs]; omega
      have HY2 : Hid ((y ++ z).data.toList = [6] ++ (numL (zz lt.length) ++ encL (lt.take (j + 1)))) := by
        show _ = _
        rw [cat_list, hyl, hzl, hsn]; simp only [List.append_assoc]
      have HZ := Lib.hid hz
      clear hp hsn hle hz hzl hyl hys hzs
      go_wp2_with fail
      refine (HIH.out p hmem _ _ (HSL.out p hmem) HV.out HP.out).mono ?_
      rintro e w4 ⟨rfl, h4⟩
      rw [HZ.out]
      have HE4 := Lib.hid (HE.out.trans h4)
      clear h4
      go_wp2_with fail
      exact ⟨⟨j + 1, _, by omega, by go_num, rfl, HY2, HE4⟩, by simp [intOf]; omega⟩
    · have hj2 : j = lt.length := by omega
      subst hj2
      have hyr : y = r := by rw [← HR.out]; apply bytes_ext; rw [HY.out, List.take_length]
      subst hyr
      go_wp2_with fail
      go_ret
      exact ⟨rfl, HE.out.of_alloc⟩
set_option maxRecDepth 20000 in
set_option maxHeartbeats 1000000 in
theorem pl_k5 (i : Int) (s : ByteArray) (lt : List Tr) (ns : List ByteArray) (ds : List Tr) (la da : Option Addr) (lc dc : Nat) (w : World) (hln : ns.length = ds.length) (hc1 : ds.length ≤ dc) (hc2 : dc ≤ maxLen) (hL : DRep w da 0 ns ds) (hnm : ∀ n ∈ ns, n.size ≤ 32) (hsl : ∀ t ∈ ds, snd t = true) (ih : ∀ t ∈ ds, PlainOk t) (hlen : ([(5 : UInt8)] ++ (numL (zz ds.length) ++ encF ns ds)).length ≤ 90000000000) (hI : I64 (ds.length : Int)) :
    Calls Tryd.prog 36 #[.agg #[.int .i64 5, .int .i64 i, .string s, .slice la lt.length lc, .slice da ds.length dc]] w fun e w' => e = .returned (.string ⟨([(5 : UInt8)] ++ (numL (zz ds.length) ++ encF ns ds)).toArray⟩) ∧ Ext w w' := by
  obtain ⟨r, hr⟩ : ∃ x : ByteArray, (⟨([(5 : UInt8)] ++ (numL (zz ds.length) ++ encF ns ds)).toArray⟩ : ByteArray) = x := ⟨_, rfl⟩
  rw [hr]
  have HR := Lib.hid hr
  clear hr
  have HI := Lib.hid hI
  have hx10 := numL_10 _ (zz_lt _ hI)
  clear hI
  obtain ⟨q, hq⟩ : ∃ x : ByteArray, (⟨(numL (zz (ds.length : Int))).toArray⟩ : ByteArray) = x := ⟨_, rfl⟩
  have HQ := Lib.hid hq
  have HQL : Hid (q.data.toList = numL (zz (ds.length : Int))) := by show _ = _; rw [← hq]
  have hq10 : q.size ≤ 10 := by rw [← hq]; exact hx10
  clear hq hx10
  have HL := Lib.hid hL
  have HIH := Lib.hid ih
  have HSL := Lib.hid hsl
  have HNM := Lib.hid hnm
  clear hL ih hsl hnm
  unfold maxLen at hc2
  have hcv := conv_oneg (w.alloc (.cells #[.int .i64 5, .int .i64 i, .string s, .slice la lt.length lc, .slice da ds.length dc] 32)) (w.heap.size + 1) (by simp) 5 5 rfl
  go_enter Tryd.func36, Tryd.ntmps36
  go_wp2_with fail
  refine (RNum_ok _ _ HI.out).mono ?_
  rintro e w1 ⟨rfl, h1⟩
  rw [HQ.out]
  have hE1 := ((Ext.refl (w.alloc (.cells #[.int .i64 5, .int .i64 i, .string s, .slice la lt.length lc, .slice da ds.length dc] 32))).alloc _).trans h1
  have k1 := hE1.ownc
  have l1 := hE1.lt
  have HE1 := Lib.hid hE1
  clear h1 hE1
  go_wp2_with fail
  go_loopw [3, 5] (fun b c wr => ∃ (j : Nat) (y : ByteArray), j ≤ ds.length ∧ c = .int .i64 j ∧ b = .string y ∧ Hid (y.data.toList = [5] ++ (numL (zz ds.length) ++ encF (ns.take j) (ds.take j))) ∧ Hid (Ext (w.alloc (.cells #[.int .i64 5, .int .i64 i, .string s, .slice la lt.length lc, .slice da ds.length dc] 32)) wr)) (fun _ c _ => ds.length - (intOf c).toNat)
  case atStart => exact ⟨0, _, by omega, rfl, rfl, by show _ = _; rw [cat_list, HQL.out]; simp [encF], HE1⟩
  case round =>
    obtain ⟨j, y, hj, rfl, rfl, HY, HE⟩ := hrel
    have kk := HE.out.ownc
    have ll := HE.out.lt
    clear k1 l1
    by_cases hlt : j < ds.length
    · obtain ⟨bb, off, c0, c1, c2, c3', c4, rfl, hnm, en, e0, e1, e2, e3, e4, hv⟩ := DRep.at_ ns ds 0 j (ns[j]'(by omega)) ds[j] HL.out (List.getElem?_eq_getElem (by omega)) (List.getElem?_eq_getElem hlt)
      obtain ⟨k', i', s', la', ln', lc', da', dn', dc', rfl, rfl, rfl, rfl, rfl⟩ := hv.shape5
      have hEr := HE.out.of_alloc
      have qn := hEr.keep en
      have q0 := hEr.keep e0
      have q1 := hEr.keep e1
      have q2 := hEr.keep e2
      have q3 := hEr.keep e3
      have q4 := hEr.keep e4
      rw [Nat.zero_add] at qn q0 q1 q2 q3 q4
      have hbl : bb < wr.heap.size := World.block_lt_of_cell? _ _ qn
      have HV := Lib.hid (VRep.ext hEr _ _ hv)
      clear en e0 e1 e2 e3 e4 hv hEr
      have hsn := encF_snoc (ns.take j) (ds.take j) (ns[j]'(by omega)) ds[j] (by simp; omega)
      rw [← List.take_succ_eq_append_getElem hlt, ← List.take_succ_eq_append_getElem (by omega)] at hsn
      have hle := encF_take_le ns ds (j + 1)
      obtain ⟨p, hp⟩ : ∃ p, ds[j] = p := ⟨_, rfl⟩
      obtain ⟨nm, hn⟩ : ∃ n, ns[j]'(by omega) = n := ⟨_, rfl⟩
      have hmem : p ∈ ds := by rw [← hp]; exact List.getElem_mem hlt
      have hmn : nm ∈ ns := by rw [← hn]; exact List.getElem_mem (by omega)
      have h32 : nm.size ≤ 32 := HNM.out nm hmn
      rw [hp] at HV hsn
      rw [hn] at qn hsn hnm
      obtain ⟨z, hz⟩ : ∃ z : ByteArray, (⟨(enc p).toArray⟩ : ByteArray) = z := ⟨_, rfl⟩
      obtain ⟨u, hu⟩ : ∃ z : ByteArray, (⟨(numL (zz nm.size)).toArray⟩ : ByteArray) = z := ⟨_, rfl⟩
      have HIn := Lib.hid (I64_nat nm.size (by unfold maxLen; omega))
      have hzl : z.data.toList = enc p := by rw [← hz]
      have hul : u.data.toList = numL (zz nm.size) := by rw [← hu]
      have hyl := HY.out
      have hys : y.size = y.data.toList.length := by simp
      have hzs : z.size = z.data.toList.length := by simp
      have hus : u.size = u.data.toList.length := by simp
      have hms : nm.data.toList.length = nm.size := by simp
      have hyz : y.size + (u.size + nm.size + z.size) ≤ 90000000000 := by
        rw [hys, hyl, hzs, hzl, hus, hul]; rw [hsn] at hle; simp only [List.length_append] at hle hlen ⊢; omega
      have HP : Hid ((enc p).length ≤ 90000000000) := by show _ ≤ _; rw [← hzl, ← hzs]; omega
      have HY2 : Hid ((y ++ u ++ nm ++ z).data.toList = [5] ++ (numL (zz ds.length) ++ encF (ns.take (j + 1)) (ds.take (j + 1)))) := by
        show _ = _
        rw [cat_list, cat_list, cat_list, hyl, hzl, hul, hsn]; simp only [List.append_assoc]
      have HZ := Lib.hid hz
      have HU := Lib.hid hu
      clear hp hn hsn hle hz hu hzl hul hyl hys hzs hus hms
      have z1 : ¬ 9223372036854775807 < y.size + u.size := by omega
      have z2 : ¬ 9223372036854775807 < y.size + u.size + nm.size := by omega
      have z3 : ¬ 9223372036854775807 < y.size + u.size + nm.size + z.size := by omega
      go_wp2_with fail
      refine wp_region_mix (Ext wr) [(true, 0), (true, 1), (true, 2), (true, 3), (true, 4), (true, 5), (true, 6), (true, 7), (true, 10), (true, 11), (true, 12), (true, 13), (true, 14), (true, 15), (true, 17), (true, 18), (true, 19), (true, 20), (true, 21), (true, 22), (false, 8), (true, 9), (true, 16), (false, 23), (true, 24), (true, 25)] (by kernel_rfl) (by kernel_rfl) (by kernel_rfl) (by kernel_rfl) ?hS ?_
      case hS => exact (Ext.refl _).drew
      repeat (first | (refine wpMix_q (v := ?_) rfl rfl ?_ ?_; rotate_left; (· intro wq hSq; have cq := hSq.cells; go_simp; try (with_reducible rfl)); simp only [Act.put, List.setIfInBounds_toArray, List.set_cons_zero, List.set_cons_succ, List.getElem_toArray, List.getElem_cons_zero, List.getElem_cons_succ]) | (refine wpMix_u rfl rfl ?_; simp only [Act.put, List.setIfInBounds_toArray, List.set_cons_zero, List.set_cons_succ, List.getElem_toArray, List.getElem_cons_zero, List.getElem_cons_succ]))
      refine wpMix_l rfl rfl (fun K hK => ?_)
      go_simp
      refine (RNum_ok _ _ HIn.out).mono ?_
      rintro e w3 ⟨rfl, h3⟩
      rw [HU.out]
      have HE3 := Lib.hid ((Ext.refl wr).drew.trans h3)
      refine hK _ _ HE3.out ?_
      clear hK K h3
      repeat (first | (refine wpMix_q (v := ?_) rfl rfl ?_ ?_; rotate_left; (· intro wq hSq; have cq := hSq.cells; go_simp; try (with_reducible rfl)); simp only [Act.put, List.setIfInBounds_toArray, List.set_cons_zero, List.set_cons_succ, List.getElem_toArray, List.getElem_cons_zero, List.getElem_cons_succ]) | (refine wpMix_u rfl rfl ?_; simp only [Act.put, List.setIfInBounds_toArray, List.set_cons_zero, List.set_cons_succ, List.getElem_toArray, List.getElem_cons_zero, List.getElem_cons_succ]))
      refine wpMix_l rfl rfl (fun K hK => ?_)
      go_simp
      refine (HIH.out p hmem _ _ (HSL.out p hmem) (VRep.ext HE3.out _ _ HV.out) HP.out).mono ?_
      rintro e w4 ⟨rfl, h4⟩
      rw [HZ.out]
      have HE4 := Lib.hid (HE3.out.trans h4)
      refine hK _ _ HE4.out ?_
      clear hK K h4
      repeat (first | (refine wpMix_q (v := ?_) rfl rfl ?_ ?_; rotate_left; (· intro wq hSq; have cq := hSq.cells; go_simp; try (with_reducible rfl)); simp only [Act.put, List.setIfInBounds_toArray, List.set_cons_zero, List.set_cons_succ, List.getElem_toArray, List.getElem_cons_zero, List.getElem_cons_succ]) | (refine wpMix_u rfl rfl ?_; simp only [Act.put, List.setIfInBounds_toArray, List.set_cons_zero, List.set_cons_succ, List.getElem_toArray, List.getElem_cons_zero, List.getElem_cons_succ]))
      refine wpMix_nil ?_
      have HE5 := Lib.hid (HE.out.trans HE4.out)
      clear HE4 HE3 kk
      go_wp2_with fail
      exact ⟨⟨j + 1, _, by omega, by go_num, rfl, HY2, HE5⟩, by simp [intOf]; omega⟩
    · have hj2 : j = ds.length := by omega
      subst hj2
      have hyr : y = r := by rw [← HR.out]; apply bytes_ext; rw [HY.out, List.take_length, List.take_of_length_le (by omega)]
      subst hyr
      go_wp2_with fail
      go_ret
      exact ⟨rfl, HE.out.of_alloc⟩
theorem pl_step (t : Tr) (ih : ∀ p, p.sz < t.sz → PlainOk p) : PlainOk t := by
  intro v w hsd hV hlen
  obtain ⟨k, i, s, lt, ns, ds⟩ := t
  unfold VRep at hV
  obtain ⟨la, lc, da, dc, rfl, ⟨hs, hk, hi⟩, hl1, hl2, hd1, hd2, hnd, hL, hD⟩ := hV
  obtain ⟨h1, h2, h3, h4⟩ := snd_list hsd
  have ih2 : ∀ t, t ∈ lt ∨ t ∈ ds → PlainOk t := fun t ht => ih t (by rcases ht with h | h; exact Tr.sz_list h; exact Tr.sz_docs h)
  clear ih
  by_cases k1 : k = 1
  · subst k1; exact pl_k1 i s lt ns ds la da lc dc w
  by_cases k2 : k = 2
  · subst k2; exact pl_k2 i s lt ns ds la da lc dc w
  by_cases k3 : k = 3
  · subst k3; exact pl_k3 i s lt ns ds la da lc dc w hi
  by_cases k4 : k = 4
  · subst k4; exact pl_k4 i s lt ns ds la da lc dc w (by simp [leafOk] at h2; exact h2.1) (I64_nat _ hs)
  by_cases k5 : k = 5
  · subst k5
    have e : enc (.mk 5 i s lt ns ds) = [5] ++ (numL (zz ds.length) ++ encF ns ds) := by simp [enc]
    rw [e] at hlen ⊢
    exact pl_k5 i s lt ns ds la da lc dc w hnd hd1.1 hd2 hD (fun n hn => nameB_le (sndF_names h4 hnd n hn)) (fun t ht => sndF_mem h4 t ht) (fun t ht => ih2 t (.inr ht)) hlen (I64_nat _ (by omega))
  by_cases k6 : k = 6
  · subst k6
    have e : enc (.mk 6 i s lt ns ds) = [6] ++ (numL (zz lt.length) ++ encL lt) := by simp [enc]
    rw [e] at hlen ⊢
    exact pl_k6 i s lt ns ds la da lc dc w hl1.1 hl2 hL (fun t ht => sndL_mem h3 t ht) (fun t ht => ih2 t (.inl ht)) hlen (I64_nat _ (by omega))
  by_cases k7 : k = 7
  · subst k7; exact pl_k7 i s lt ns ds la da lc dc w (by simpa [leafOk] using h2) (I64_nat _ hs)
  by_cases k8 : k = 8
  · subst k8; exact pl_k8 i s lt ns ds la da lc dc w (by simp [leafOk] at h2; omega)
  by_cases k9 : k = 9
  · subst k9; exact pl_k9 i s lt ns ds la da lc dc w (by simp [leafOk] at h2; omega)
  by_cases k10 : k = 10
  · subst k10; exact pl_k10 i s lt ns ds la da lc dc w hi
  by_cases k11 : k = 11
  · subst k11; exact pl_k11 i s lt ns ds la da lc dc w
  exfalso
  simp [leafOk, k1, k2, k3, k4, k5, k6, k7, k8, k9, k10, k11] at h2
theorem pl_ok (t : Tr) : PlainOk t := by
  have : ∀ n (t : Tr), t.sz = n → PlainOk t := by
    intro n
    induction n using Nat.strongRecOn with
    | _ n ih => intro t ht; exact pl_step t (fun p hp => ih p.sz (by rw [← ht]; exact hp) p rfl)
  exact this _ t rfl

set_option maxRecDepth 20000 in
set_option maxHeartbeats 1000000 in
theorem REncode_ok (t : Tr) (v : Value) (w : World) (hV : VRep w t v) : Calls Tryd.prog 24 #[v] w fun e w' => e = .returned (.tuple #[.string (encR t).1, .int .i64 (encR t).2]) ∧ Ext w w' := by
  obtain ⟨k, i, s, la, ln, lc, da, dn, dc, rfl⟩ := hV.shape
  have HV := Lib.hid hV
  clear hV
  go_enter Tryd.func24, Tryd.ntmps24
  go_wp2_with fail
  refine (RValid_ok t _ _ (VRep.ext ((Ext.refl w).alloc _) _ _ HV.out)).mono ?_
  rintro e w1 ⟨rfl, h1⟩
  have k1 := h1.ownc
  have l1 := h1.lt
  cases hb : validB t
  · have HF : Hid (encR t = (⟨#[]⟩, 8)) := by show _ = _; unfold encR; rw [hb]; rfl
    clear hb
    go_wp2_with fail
    go_ret2
    exact ⟨by rw [HF.out]; rfl, h1.of_alloc⟩
  · have HF : Hid (encR t = (⟨(enc t).toArray⟩, 0)) := by show _ = _; unfold encR; rw [hb]; rfl
    have HS := Lib.hid (enc_small HV.out hb)
    clear hb
    go_wp2_with fail
    refine (pl_ok t _ _ HS.out.2 (VRep.ext h1.of_alloc _ _ HV.out) (by have := HS.out.1; omega)).mono ?_
    rintro e w2 ⟨rfl, h2⟩
    go_wp2_with fail
    go_ret2
    exact ⟨by rw [HF.out]; rfl, h1.of_alloc.trans h2⟩
end Go.Proofs.YtdoofmohoamkbaaDoor
