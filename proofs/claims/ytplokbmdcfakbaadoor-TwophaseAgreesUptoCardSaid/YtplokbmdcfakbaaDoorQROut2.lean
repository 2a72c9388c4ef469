/- The methods of docstoreref40.Out (printed by genout.py). -/
import Derived.Test.YtplokbmdcfakbaaDoorQRDF
import Derived.Test.YtplokbmdcfakbaaDoorQROut1
import Derived.Test.YtplokbmdcfakbaaDoorQRNodes2
set_option linter.unusedSimpArgs false
set_option linter.unusedVariables false
namespace Go.Proofs.YtplokbmdcfakbaaDoor
open Go.RowKit
theorem bulk_sub (r : List Lf) (o n : Nat) : bulkL ((r.drop o).take n) ≤ bulkL r := by
  have h1 : bulkL r = bulkL (r.take o) + bulkL (r.drop o) := by rw [← bulkL_app, List.take_append_drop]
  have h2 : bulkL (r.drop o) = bulkL ((r.drop o).take n) + bulkL ((r.drop o).drop n) := by rw [← bulkL_app, List.take_append_drop]
  omega
set_option maxRecDepth 20000 in
set_option maxHeartbeats 4000000 in
theorem ostrs_ok (l : List (List Lf)) (v : Value) (I : Gh) (wb : Nat) (L0 : List UInt8) (bad : Bool) (w : World) (hr : LRp I (.rows 1 l) v) (hq : ∀ e ∈ l, WTr Tryd.prog e fstr) (hi : Inv I w) (ha : Av I wb) (hb : L0.length + 12 * (1 + bulkR l) ≤ 562949953421312) (h : w.heap[wb]? = some (OutC L0 bad)) :
    Calls Tryd.prog 62 #[.pointer (some ⟨wb, 0, none⟩), v] w (OutPost wb L0 bad (codeF (.rows 1 l)) w) := by
  obtain ⟨p0, c0, rfl, k0, m0⟩ := hr.slice
  have n0 := i64_len k0 m0
  have hz := zz_le (l.length : Int) (by unfold I64 at n0; omega)
  unfold maxLen at m0
  have HW := Lib.hid (StW.slice (T := []) (R := []) hb hz)
  obtain ⟨T, hT⟩ : ∃ T, L0 ++ (numL (zz (l.length : Int)) ++ codeQ l) = T := ⟨_, rfl⟩
  have HT : Hid (L0 ++ codeF (.rows 1 l) = T) := by show _ = _; rw [← hT]; rfl
  rw [hT] at HW
  have hL0 : L0.length ≤ 562949953421312 := by omega
  have HR := Lib.hid hr
  have HQ := Lib.hid hq
  have HI := Lib.hid hi
  have HA := Lib.hid ha
  have N0 := Lib.hid n0
  have H := Lib.hid h
  clear hr hq hi ha n0 hT hz hb h
  have HG0 : Hid (w.grownBy w (some wb)) := World.grownBy.refl _ _
  go_enter Tryd.func62, Tryd.ntmps62
  go_wp2_with fail
  refine (onum_ok _ wb L0 bad _ N0.out (by omega) H.out).mono ?_
  rintro e w1 ⟨rfl, h1, g1⟩
  obtain ⟨L1, hL1⟩ : ∃ M, L0 ++ numL (zz (l.length : Int)) = M := ⟨_, rfl⟩
  rw [hL1] at h1 HW
  have HB1 := Lib.hid h1
  have HG1 := Lib.hid g1
  clear hL1 h1 g1
  go_wp2_with fail
  go_loopw [4] (fun x wr => ∃ (j : Nat) (M : List UInt8), j ≤ l.length ∧ x = .int .i64 j ∧ Hid (StW T M ((l.drop j).flatten ++ [])) ∧ Hid (wr.heap[wb]? = some (OutC M bad)) ∧ Hid (w.grownBy wr (some wb))) (fun x _ => l.length - (intOf x).toNat)
  case atStart => exact ⟨0, L1, by omega, rfl, HW, HB1, HG1⟩
  case round =>
    clear HW HB1 HG1
    obtain ⟨j, L1, hj, rfl, HW, HB1, HG1⟩ := hrel
    by_cases hlt : j < l.length
    case pos =>
      obtain ⟨el, hel⟩ : ∃ e, l[j]? = some e := ⟨_, List.getElem?_eq_getElem hlt⟩
      obtain ⟨b, ofs, cp, ce, hsl, hcl, hcm, hwl, hve, hI⟩ := LRp.elem HR.out j el hel
      injection hsl with hsl1 _ hsl2
      subst hsl1 hsl2
      have HEl := Lib.hid hel
      have hwt := HQ.out el (List.mem_of_getElem? hel)
      have HWt := Lib.hid hwt
      have HVe := Lib.hid hve
      have hce : ce.length = 1 := by rw [VsRp.len _ _ hve, hwl]
      have HIn := Lib.hid (HI.out.only HG1.out HA.out)
      have hbk : b < wr.heap.size := by
        have h0 : 0 < ce.length := by omega
        exact HIn.out.lt (hI 0 ce[0] (List.getElem?_eq_getElem h0))
      replace HW := Lib.hid (StW.next HW.out hel)
      obtain ⟨y, f0, b0⟩ := get_str hve hwt 0 rfl
      have w0 := HIn.out _ _ _ (hI 0 _ b0)
      rw [Nat.mul_one, Nat.add_zero] at w0
      have F0 := Lib.hid f0
      clear hel hwt hve hI hce b0 f0
      go_wp2_with fail
      refine (ostr_ok y wb L1 bad _ (StW.str HW.out F0.out) (by have := StW.len HW.out; omega) HB1.out).mono ?_
      replace HW := Lib.hid (StW.leaf HW.out F0.out (codeF_le (I := I) _ (.string y) (by unfold LRp; exact ⟨rfl, by have := StW.str HW.out F0.out; unfold maxLen; omega⟩)))
      replace HW := Lib.hid (StW.done HW.out (by omega))
      rintro e w2 ⟨rfl, h2, g2⟩
      obtain ⟨L2, hL2⟩ : ∃ M, L1 ++ codeF (.str y) = M := ⟨_, rfl⟩
      rw [hL2] at HW
      rw [show L1 ++ (numL (zz (y.size : Int)) ++ y.data.toList) = L2 from hL2] at h2
      have HB2 := Lib.hid h2
      have HG2 := Lib.hid (only_trans HG1.out g2)
      clear hL2 h2 g2 HB1 HG1
      go_wp2_with fail
      exact ⟨⟨j + 1, L2, by omega, by go_num, HW, HB2, HG2⟩, by simp [intOf]; omega⟩
    obtain rfl : j = l.length := by omega
    replace HW := Lib.hid (StW.rows_done HW.out)
    clear hlt
    go_wp2_with fail
    go_end0
    obtain rfl := StW.end_ HW.out
    exact ⟨rfl, by rw [HT.out]; exact HB1.out, HG1.out⟩
def Ovalue (r : List Lf) : Prop := ∀ (I : Gh) (cs : List Value) (wb : Nat) (L : List UInt8) (bad : Bool) (w : World), WTr Tryd.prog r fVal → VsRp I r cs → Inv I w → Av I wb → L.length + 12 * bulkL r ≤ 562949953421312 → w.heap[wb]? = some (OutC L bad) →
  Calls Tryd.prog 49 #[.pointer (some ⟨wb, 0, none⟩), .agg cs.toArray] w (OutPost wb L bad (codeL r) w)
set_option maxRecDepth 20000 in
set_option maxHeartbeats 4000000 in
theorem ovalues_of (l : List (List Lf)) (v : Value) (I : Gh) (wb : Nat) (L0 : List UInt8) (bad : Bool) (w : World) (hr : LRp I (.rows 5 l) v) (hq : ∀ e ∈ l, WTr Tryd.prog e fVal) (hi : Inv I w) (ha : Av I wb) (hb : L0.length + 12 * (1 + bulkR l) ≤ 562949953421312) (h : w.heap[wb]? = some (OutC L0 bad)) (hE : ∀ e ∈ l, Ovalue e) :
    Calls Tryd.prog 58 #[.pointer (some ⟨wb, 0, none⟩), v] w (OutPost wb L0 bad (codeF (.rows 5 l)) w) := by
  obtain ⟨p0, c0, rfl, k0, m0⟩ := hr.slice
  have n0 := i64_len k0 m0
  have hz := zz_le (l.length : Int) (by unfold I64 at n0; omega)
  unfold maxLen at m0
  have HW := Lib.hid (StW.slice (T := []) (R := []) hb hz)
  obtain ⟨T, hT⟩ : ∃ T, L0 ++ (numL (zz (l.length : Int)) ++ codeQ l) = T := ⟨_, rfl⟩
  have HT : Hid (L0 ++ codeF (.rows 5 l) = T) := by show _ = _; rw [← hT]; rfl
  rw [hT] at HW
  have hL0 : L0.length ≤ 562949953421312 := by omega
  have HR := Lib.hid hr
  have HQ := Lib.hid hq
  have HI := Lib.hid hi
  have HA := Lib.hid ha
  have N0 := Lib.hid n0
  have H := Lib.hid h
  have HEe := Lib.hid hE
  clear hE
  clear hr hq hi ha n0 hT hz hb h
  have HG0 : Hid (w.grownBy w (some wb)) := World.grownBy.refl _ _
  go_enter Tryd.func58, Tryd.ntmps58
  go_wp2_with fail
  refine (onum_ok _ wb L0 bad _ N0.out (by omega) H.out).mono ?_
  rintro e w1 ⟨rfl, h1, g1⟩
  obtain ⟨L1, hL1⟩ : ∃ M, L0 ++ numL (zz (l.length : Int)) = M := ⟨_, rfl⟩
  rw [hL1] at h1 HW
  have HB1 := Lib.hid h1
  have HG1 := Lib.hid g1
  clear hL1 h1 g1
  go_wp2_with fail
  go_loopw [4] (fun x wr => ∃ (j : Nat) (M : List UInt8), j ≤ l.length ∧ x = .int .i64 j ∧ Hid (StW T M ((l.drop j).flatten ++ [])) ∧ Hid (wr.heap[wb]? = some (OutC M bad)) ∧ Hid (w.grownBy wr (some wb))) (fun x _ => l.length - (intOf x).toNat)
  case atStart => exact ⟨0, L1, by omega, rfl, HW, HB1, HG1⟩
  case round =>
    clear HW HB1 HG1
    obtain ⟨j, L1, hj, rfl, HW, HB1, HG1⟩ := hrel
    by_cases hlt : j < l.length
    case pos =>
      obtain ⟨el, hel⟩ : ∃ e, l[j]? = some e := ⟨_, List.getElem?_eq_getElem hlt⟩
      obtain ⟨b, ofs, cp, ce, hsl, hcl, hcm, hwl, hve, hI⟩ := LRp.elem HR.out j el hel
      injection hsl with hsl1 _ hsl2
      subst hsl1 hsl2
      have HEl := Lib.hid hel
      have hwt := HQ.out el (List.mem_of_getElem? hel)
      have HWt := Lib.hid hwt
      have HVe := Lib.hid hve
      have hce : ce.length = 5 := by rw [VsRp.len _ _ hve, hwl]
      have HIn := Lib.hid (HI.out.only HG1.out HA.out)
      have hbk : b < wr.heap.size := by
        have h0 : 0 < ce.length := by omega
        exact HIn.out.lt (hI 0 ce[0] (List.getElem?_eq_getElem h0))
      replace HW := Lib.hid (StW.next HW.out hel)
      have rg := rg_el (o := ofs + j * 5) HIn.out hI
      have li := sz_of info_Val hce
      clear hel hwt hve hI hce
      go_wp2_with (refine wpList_load_mid rfl 37 _ rfl _ _ rfl _ _ rg Tryd.underlying37 rfl li ?_)
      clear rg li
      refine (HEe.out el (List.mem_of_getElem? HEl.out) I ce wb L1 bad _ HWt.out HVe.out HIn.out HA.out (StW.row HW.out) HB1.out).mono ?_
      replace HW := Lib.hid (StW.whole HW.out (codeL_le _ _ HVe.out))
      rintro e w2 ⟨rfl, h2, g2⟩
      obtain ⟨L2, hL2⟩ : ∃ M, L1 ++ codeL el = M := ⟨_, rfl⟩
      rw [hL2] at HW
      rw [show L1 ++ codeL el = L2 from hL2] at h2
      have HB2 := Lib.hid h2
      have HG2 := Lib.hid (only_trans HG1.out g2)
      clear hL2 h2 g2 HB1 HG1
      go_wp2_with fail
      exact ⟨⟨j + 1, L2, by omega, by go_num, HW, HB2, HG2⟩, by simp [intOf]; omega⟩
    obtain rfl : j = l.length := by omega
    replace HW := Lib.hid (StW.rows_done HW.out)
    clear hlt
    go_wp2_with fail
    go_end0
    obtain rfl := StW.end_ HW.out
    exact ⟨rfl, by rw [HT.out]; exact HB1.out, HG1.out⟩
def Oshape (r : List Lf) : Prop := ∀ (I : Gh) (cs : List Value) (wb : Nat) (L : List UInt8) (bad : Bool) (w : World), WTr Tryd.prog r fShape → VsRp I r cs → Inv I w → Av I wb → L.length + 12 * bulkL r ≤ 562949953421312 → w.heap[wb]? = some (OutC L bad) →
  Calls Tryd.prog 66 #[.pointer (some ⟨wb, 0, none⟩), .agg cs.toArray] w (OutPost wb L bad (codeL r) w)
set_option maxRecDepth 20000 in
set_option maxHeartbeats 4000000 in
theorem oshape_step (r : List Lf) (ih : ∀ e, bulkL e < bulkL r → Oshape e) : Oshape r := by
  intro I cs wb L0 bad w hw hv hi ha hb h
  obtain ⟨x0, e0, a0, i0⟩ := get_int hv hw 0 rfl
  obtain ⟨l1, p1, c1, e1, a1, r1, k1, m1, q1⟩ := get_rows hv hw 1 134 flat_Point cells_Point rfl
  obtain ⟨x2, e2, a2, i2⟩ := get_int hv hw 2 rfl
  have hlen : cs.length = 3 := by rw [VsRp.len _ _ hv, WTr.len _ _ hw]; rfl
  have hrl : r.length = 3 := by rw [WTr.len _ _ hw]; rfl
  have HW := Lib.hid (StW.start hb)
  obtain ⟨T, hT⟩ : ∃ T, L0 ++ codeL r = T := ⟨_, rfl⟩
  have HT := Lib.hid hT
  rw [hT] at HW
  clear hT hb hw hv
  have hlt := blk_lt h
  have hbx : w.heap.size ≠ wb := by omega
  have H := Lib.hid h
  have HI := Lib.hid hi
  have HA := Lib.hid ha
  have HIH := Lib.hid ih
  have HRL := Lib.hid hrl
  have HLEN := Lib.hid hlen
  clear hlen
  have n1 := i64_len k1 m1
  unfold maxLen at m1
  have E0_ := Lib.hid e0
  have I0_ := Lib.hid i0
  have E1_ := Lib.hid e1
  have R1_ := Lib.hid r1
  have Q1_ := Lib.hid q1
  have N1_ := Lib.hid n1
  have E2_ := Lib.hid e2
  have I2_ := Lib.hid i2
  clear h hi ha ih hrl e0 i0 e1 r1 q1 n1 e2 i2
  go_enter Tryd.func66, Tryd.ntmps66
  go_wp2_with fail
  have HB0 := Lib.hid (blk_alloc H.out (.cells cs.toArray 49))
  have HX0 := Lib.hid (blk_at0 w (.cells cs.toArray 49))
  have HG0 : Hid (w.grownBy (w.alloc (.cells cs.toArray 49)) (some wb)) := only_alloc (World.grownBy.refl _ _) _
  refine (onum_ok x0 wb L0 bad _ I0_.out (by have := StW.len HW.out; omega) HB0.out).mono ?_
  replace HW := Lib.hid (StW.leaf HW.out E0_.out (intF_le I0_.out))
  rintro e w1 ⟨rfl, h1, g1⟩
  obtain ⟨L1, hL1⟩ : ∃ M, L0 ++ codeF (.int .i64 x0) = M := ⟨_, rfl⟩
  rw [hL1] at HW
  have HB1 : Hid (w1.heap[wb]? = some (OutC L1 bad)) := by show _ = _; rw [← hL1]; first | exact h1 | (simp only [codeF]; exact h1)
  have HG1 := Lib.hid (only_trans HG0.out g1)
  have HX1 := Lib.hid (blk_only HX0.out g1 hbx)
  have s1 := g1.size
  clear hL1 h1 g1 HB0 HG0 HX0
  have ck := blk_cell HX1.out
  have lx := blk_lt HX1.out
  go_wp2_with fail
  refine (onum_ok _ wb L1 bad _ N1_.out (by have := StW.len HW.out; omega) HB1.out).mono ?_
  replace HW := Lib.hid (StW.rows HW.out E1_.out (zz_le _ (by have := N1_.out; unfold I64 at this; omega)))
  rintro e w2 ⟨rfl, h2, g2⟩
  obtain ⟨L2, hL2⟩ : ∃ M, L1 ++ numL (zz (l1.length : Int)) = M := ⟨_, rfl⟩
  rw [hL2] at HW
  have HB2 : Hid (w2.heap[wb]? = some (OutC L2 bad)) := by show _ = _; rw [← hL2]; first | exact h2 | (simp only [codeF]; exact h2)
  have HG2 := Lib.hid (only_trans HG1.out g2)
  have HX2 := Lib.hid (blk_only HX1.out g2 hbx)
  have s2 := g2.size
  clear hL2 h2 g2 HB1 HG1 HX1
  have ck := blk_cell HX2.out
  have lx := blk_lt HX2.out
  go_wp2_with fail
  clear ck
  go_loopw [4] (fun x wr => ∃ (j : Nat) (M : List UInt8), j ≤ l1.length ∧ x = .int .i64 j ∧ Hid (StW T M ((l1.drop j).flatten ++ (r.drop 2 ++ []))) ∧ Hid (wr.heap[wb]? = some (OutC M bad)) ∧ Hid (wr.heap[w.heap.size]? = some (.cells cs.toArray 49 (0, 0))) ∧ Hid (w.grownBy wr (some wb)) ∧ w.heap.size < wr.heap.size) (fun x _ => l1.length - (intOf x).toNat)
  case atStart => exact ⟨0, L2, by omega, rfl, HW, HB2, HX2, HG2, lx⟩
  case round =>
    clear HW HB2 HX2 HG2
    obtain ⟨j, L2, hj, rfl, HW, HB2, HX2, HG2, lx⟩ := hrel
    have ck := blk_cell HX2.out
    by_cases hlt : j < l1.length
    case pos =>
      obtain ⟨el, hel⟩ : ∃ e, l1[j]? = some e := ⟨_, List.getElem?_eq_getElem hlt⟩
      obtain ⟨b, ofs, cp, ce, hsl, hcl, hcm, hwl, hve, hI⟩ := LRp.elem R1_.out j el hel
      injection hsl with hsl1 _ hsl2
      subst hsl1 hsl2
      have HEl := Lib.hid hel
      have hwt := Q1_.out el (List.mem_of_getElem? hel)
      have HWt := Lib.hid hwt
      have HVe := Lib.hid hve
      have HIe := Lib.hid hI
      have hce : ce.length = 2 := by rw [VsRp.len _ _ hve, hwl]
      have HCe := Lib.hid hce
      have HIn := Lib.hid (HI.out.only HG2.out HA.out)
      have hbk : b < wr.heap.size := by
        have h0 : 0 < ce.length := by omega
        exact HIn.out.lt (hI 0 ce[0] (List.getElem?_eq_getElem h0))
      replace HW := Lib.hid (StW.next HW.out hel)
      obtain ⟨y0, f0, b0, j0⟩ := get_int hve hwt 0 rfl
      obtain ⟨y1, f1, b1, j1⟩ := get_int hve hwt 1 rfl
      have F0_ := Lib.hid f0
      have J0_ := Lib.hid j0
      have F1_ := Lib.hid f1
      have J1_ := Lib.hid j1
      have z0 := hI 0 _ b0
      have Z0 := Lib.hid z0
      have z1 := hI 1 _ b1
      have Z1 := Lib.hid z1
      clear hel hwt hve hI hce z0 b0 z1 b1 f0 j0 f1 j1
      have cq := HIn.out _ _ _ Z0.out
      rw [Nat.add_zero] at cq
      go_wp2_with fail
      clear cq
      refine (onum_ok y0 wb L2 bad _ J0_.out (by have := StW.len HW.out; omega) HB2.out).mono ?_
      replace HW := Lib.hid (StW.leaf HW.out F0_.out (intF_le J0_.out))
      rintro e w3 ⟨rfl, h3, g3⟩
      obtain ⟨L3, hL3⟩ : ∃ M, L2 ++ codeF (.int .i64 y0) = M := ⟨_, rfl⟩
      rw [hL3] at HW
      have HB3 : Hid (w3.heap[wb]? = some (OutC L3 bad)) := by show _ = _; rw [← hL3]; first | exact h3 | (simp only [codeF]; exact h3)
      have HG3 := Lib.hid (only_trans HG2.out g3)
      have HX3 := Lib.hid (blk_only HX2.out g3 hbx)
      have s3 := g3.size
      clear hL3 h3 g3 HB2 HG2 HX2
      have ck := blk_cell HX3.out
      have lx := blk_lt HX3.out
      have HIn := Lib.hid (HI.out.only HG3.out HA.out)
      have hbk : b < w3.heap.size := by omega
      have cq := HIn.out _ _ _ Z1.out
      go_wp2_with fail
      clear cq
      refine (onum_ok y1 wb L3 bad _ J1_.out (by have := StW.len HW.out; omega) HB3.out).mono ?_
      replace HW := Lib.hid (StW.leaf HW.out F1_.out (intF_le J1_.out))
      rintro e w4 ⟨rfl, h4, g4⟩
      obtain ⟨L4, hL4⟩ : ∃ M, L3 ++ codeF (.int .i64 y1) = M := ⟨_, rfl⟩
      rw [hL4] at HW
      have HB4 : Hid (w4.heap[wb]? = some (OutC L4 bad)) := by show _ = _; rw [← hL4]; first | exact h4 | (simp only [codeF]; exact h4)
      have HG4 := Lib.hid (only_trans HG3.out g4)
      have HX4 := Lib.hid (blk_only HX3.out g4 hbx)
      have s4 := g4.size
      clear hL4 h4 g4 HB3 HG3 HX3
      have ck := blk_cell HX4.out
      have lx := blk_lt HX4.out
      replace HW := Lib.hid (StW.done HW.out (by omega))
      have lx2 : w.heap.size < w4.heap.size := lx
      go_wp2_with fail
      exact ⟨⟨j + 1, L4, by omega, by go_num, HW, HB4, HX4, HG4, lx2⟩, by simp [intOf]; omega⟩
    obtain rfl : j = l1.length := by omega
    replace HW := Lib.hid (StW.rows_done HW.out)
    clear hlt
    go_wp2_with fail
    refine (onum_ok x2 wb L2 bad _ I2_.out (by have := StW.len HW.out; omega) HB2.out).mono ?_
    replace HW := Lib.hid (StW.leaf HW.out E2_.out (intF_le I2_.out))
    rintro e w3 ⟨rfl, h3, g3⟩
    obtain ⟨L3, hL3⟩ : ∃ M, L2 ++ codeF (.int .i64 x2) = M := ⟨_, rfl⟩
    rw [hL3] at HW
    have HB3 : Hid (w3.heap[wb]? = some (OutC L3 bad)) := by show _ = _; rw [← hL3]; first | exact h3 | (simp only [codeF]; exact h3)
    have HG3 := Lib.hid (only_trans HG2.out g3)
    have HX3 := Lib.hid (blk_only HX2.out g3 hbx)
    have s3 := g3.size
    clear hL3 h3 g3 HB2 HG2 HX2
    have ck := blk_cell HX3.out
    have lx := blk_lt HX3.out
    go_wp2_with fail
    go_end0
    obtain rfl := StW.end_ (StW.done HW.out (by rw [HRL.out]; omega))
    exact ⟨rfl, by rw [HT.out]; exact HB3.out, HG3.out⟩
theorem oshape_ok (r : List Lf) : Oshape r := by
  have : ∀ n (r : List Lf), bulkL r = n → Oshape r := by
    intro n
    induction n using Nat.strongRecOn with
    | _ n ih => intro r hr; exact oshape_step r (fun e he => ih (bulkL e) (by rw [← hr]; exact he) e rfl)
  exact this _ r rfl
set_option maxRecDepth 20000 in
set_option maxHeartbeats 4000000 in
theorem ovalue_step (r : List Lf) (ih : ∀ e, bulkL e < bulkL r → Ovalue e) : Ovalue r := by
  intro I cs wb L0 bad w hw hv hi ha hb h
  obtain ⟨x0, e0, a0, i0⟩ := get_int hv hw 0 rfl
  obtain ⟨x1, e1, a1, i1⟩ := get_int hv hw 1 rfl
  obtain ⟨x2, e2, a2⟩ := get_str hv hw 2 rfl
  obtain ⟨l3, p3, c3, e3, a3, r3, k3, m3, q3⟩ := get_rows hv hw 3 37 flat_Val cells_Val rfl
  obtain ⟨l4, p4, c4, e4, a4, r4, k4, m4, q4⟩ := get_rows hv hw 4 90 flat_Fld cells_Fld rfl
  have hlen : cs.length = 5 := by rw [VsRp.len _ _ hv, WTr.len _ _ hw]; rfl
  have hrl : r.length = 5 := by rw [WTr.len _ _ hw]; rfl
  have HW := Lib.hid (StW.start hb)
  obtain ⟨T, hT⟩ : ∃ T, L0 ++ codeL r = T := ⟨_, rfl⟩
  have HT := Lib.hid hT
  rw [hT] at HW
  clear hT hb hw hv
  have hlt := blk_lt h
  have hbx : w.heap.size ≠ wb := by omega
  have H := Lib.hid h
  have HI := Lib.hid hi
  have HA := Lib.hid ha
  have HIH := Lib.hid ih
  have HRL := Lib.hid hrl
  have HLEN := Lib.hid hlen
  clear hlen
  have n3 := i64_len k3 m3
  unfold maxLen at m3
  have n4 := i64_len k4 m4
  unfold maxLen at m4
  have E0_ := Lib.hid e0
  have I0_ := Lib.hid i0
  have E1_ := Lib.hid e1
  have I1_ := Lib.hid i1
  have E2_ := Lib.hid e2
  have E3_ := Lib.hid e3
  have R3_ := Lib.hid r3
  have Q3_ := Lib.hid q3
  have N3_ := Lib.hid n3
  have E4_ := Lib.hid e4
  have R4_ := Lib.hid r4
  have Q4_ := Lib.hid q4
  have N4_ := Lib.hid n4
  clear h hi ha ih hrl e0 i0 e1 i1 e2 e3 r3 q3 n3 e4 r4 q4 n4
  have cwb : w.cell? ⟨wb, 2, none⟩ = some (.bool true) := by rw [blk_cell H.out]; rfl
  go_enter Tryd.func49, Tryd.ntmps49
  go_wp2_with fail
  have HB0 := Lib.hid (blk_alloc H.out (.cells cs.toArray 37))
  have HX0 := Lib.hid (blk_at0 w (.cells cs.toArray 37))
  have HG0 : Hid (w.grownBy (w.alloc (.cells cs.toArray 37)) (some wb)) := only_alloc (World.grownBy.refl _ _) _
  refine (onum_ok x0 wb L0 bad _ I0_.out (by have := StW.len HW.out; omega) HB0.out).mono ?_
  replace HW := Lib.hid (StW.leaf HW.out E0_.out (intF_le I0_.out))
  rintro e w1 ⟨rfl, h1, g1⟩
  obtain ⟨L1, hL1⟩ : ∃ M, L0 ++ codeF (.int .i64 x0) = M := ⟨_, rfl⟩
  rw [hL1] at HW
  have HB1 : Hid (w1.heap[wb]? = some (OutC L1 bad)) := by show _ = _; rw [← hL1]; first | exact h1 | (simp only [codeF]; exact h1)
  have HG1 := Lib.hid (only_trans HG0.out g1)
  have HX1 := Lib.hid (blk_only HX0.out g1 hbx)
  have s1 := g1.size
  clear hL1 h1 g1 HB0 HG0 HX0
  have ck := blk_cell HX1.out
  have lx := blk_lt HX1.out
  go_wp2_with fail
  refine (onum_ok x1 wb L1 bad _ I1_.out (by have := StW.len HW.out; omega) HB1.out).mono ?_
  replace HW := Lib.hid (StW.leaf HW.out E1_.out (intF_le I1_.out))
  rintro e w2 ⟨rfl, h2, g2⟩
  obtain ⟨L2, hL2⟩ : ∃ M, L1 ++ codeF (.int .i64 x1) = M := ⟨_, rfl⟩
  rw [hL2] at HW
  have HB2 : Hid (w2.heap[wb]? = some (OutC L2 bad)) := by show _ = _; rw [← hL2]; first | exact h2 | (simp only [codeF]; exact h2)
  have HG2 := Lib.hid (only_trans HG1.out g2)
  have HX2 := Lib.hid (blk_only HX1.out g2 hbx)
  have s2 := g2.size
  clear hL2 h2 g2 HB1 HG1 HX1
  have ck := blk_cell HX2.out
  have lx := blk_lt HX2.out
  go_wp2_with fail
  refine (ostr_ok x2 wb L2 bad _ (StW.str HW.out E2_.out) (by have := StW.len HW.out; omega) HB2.out).mono ?_
  replace HW := Lib.hid (StW.leaf HW.out E2_.out (strF_le (StW.str HW.out E2_.out)))
  rintro e w3 ⟨rfl, h3, g3⟩
  obtain ⟨L3, hL3⟩ : ∃ M, L2 ++ codeF (.str x2) = M := ⟨_, rfl⟩
  rw [hL3] at HW
  have HB3 : Hid (w3.heap[wb]? = some (OutC L3 bad)) := by show _ = _; rw [← hL3]; first | exact h3 | (simp only [codeF]; exact h3)
  have HG3 := Lib.hid (only_trans HG2.out g3)
  have HX3 := Lib.hid (blk_only HX2.out g3 hbx)
  have s3 := g3.size
  clear hL3 h3 g3 HB2 HG2 HX2
  have ck := blk_cell HX3.out
  have lx := blk_lt HX3.out
  go_wp2_with fail
  refine (ovalues_of l3 _ I wb L3 bad _ R3_.out Q3_.out (HI.out.only HG3.out HA.out) HA.out (StW.rws HW.out E3_.out) HB3.out (fun e he => by obtain ⟨j, hj⟩ := List.getElem?_of_mem he; exact HIH.out e (elem_lt E3_.out hj))).mono ?_
  replace HW := Lib.hid (StW.leaf HW.out E3_.out (codeF_le _ _ R3_.out))
  rintro e w4 ⟨rfl, h4, g4⟩
  obtain ⟨L4, hL4⟩ : ∃ M, L3 ++ codeF (.rows 5 l3) = M := ⟨_, rfl⟩
  rw [hL4] at HW
  have HB4 : Hid (w4.heap[wb]? = some (OutC L4 bad)) := by show _ = _; rw [← hL4]; first | exact h4 | (simp only [codeF]; exact h4)
  have HG4 := Lib.hid (only_trans HG3.out g4)
  have HX4 := Lib.hid (blk_only HX3.out g4 hbx)
  have s4 := g4.size
  clear hL4 h4 g4 HB3 HG3 HX3
  have ck := blk_cell HX4.out
  have lx := blk_lt HX4.out
  go_wp2_with fail
  refine (onum_ok _ wb L4 bad _ N4_.out (by have := StW.len HW.out; omega) HB4.out).mono ?_
  replace HW := Lib.hid (StW.rows HW.out E4_.out (zz_le _ (by have := N4_.out; unfold I64 at this; omega)))
  rintro e w5 ⟨rfl, h5, g5⟩
  obtain ⟨L5, hL5⟩ : ∃ M, L4 ++ numL (zz (l4.length : Int)) = M := ⟨_, rfl⟩
  rw [hL5] at HW
  have HB5 : Hid (w5.heap[wb]? = some (OutC L5 bad)) := by show _ = _; rw [← hL5]; first | exact h5 | (simp only [codeF]; exact h5)
  have HG5 := Lib.hid (only_trans HG4.out g5)
  have HX5 := Lib.hid (blk_only HX4.out g5 hbx)
  have s5 := g5.size
  clear hL5 h5 g5 HB4 HG4 HX4
  have ck := blk_cell HX5.out
  have lx := blk_lt HX5.out
  go_wp2_with fail
  clear ck
  go_loopw [4] (fun x wr => ∃ (j : Nat) (M : List UInt8), j ≤ l4.length ∧ x = .int .i64 j ∧ Hid (StW T M ((l4.drop j).flatten ++ (r.drop 5 ++ []))) ∧ Hid (wr.heap[wb]? = some (OutC M bad)) ∧ Hid (wr.heap[w.heap.size]? = some (.cells cs.toArray 37 (0, 0))) ∧ Hid (w.grownBy wr (some wb)) ∧ w.heap.size < wr.heap.size) (fun x _ => l4.length - (intOf x).toNat)
  case atStart => exact ⟨0, L5, by omega, rfl, HW, HB5, HX5, HG5, lx⟩
  case round =>
    clear HW HB5 HX5 HG5
    obtain ⟨j, L5, hj, rfl, HW, HB5, HX5, HG5, lx⟩ := hrel
    have ck := blk_cell HX5.out
    by_cases hlt : j < l4.length
    case pos =>
      obtain ⟨el, hel⟩ : ∃ e, l4[j]? = some e := ⟨_, List.getElem?_eq_getElem hlt⟩
      obtain ⟨b, ofs, cp, ce, hsl, hcl, hcm, hwl, hve, hI⟩ := LRp.elem R4_.out j el hel
      injection hsl with hsl1 _ hsl2
      subst hsl1 hsl2
      have HEl := Lib.hid hel
      have hwt := Q4_.out el (List.mem_of_getElem? hel)
      have HWt := Lib.hid hwt
      have HVe := Lib.hid hve
      have HIe := Lib.hid hI
      have hce : ce.length = 6 := by rw [VsRp.len _ _ hve, hwl]
      have HCe := Lib.hid hce
      have HIn := Lib.hid (HI.out.only HG5.out HA.out)
      have hbk : b < wr.heap.size := by
        have h0 : 0 < ce.length := by omega
        exact HIn.out.lt (hI 0 ce[0] (List.getElem?_eq_getElem h0))
      replace HW := Lib.hid (StW.next HW.out hel)
      obtain ⟨y0, f0, b0⟩ := get_str hve hwt 0 rfl
      have yv1 := VsRp.take 5 _ _ (VsRp.drop 1 _ _ hve)
      have yt1 : WTr Tryd.prog ((el.drop 1).take 5) fVal := WTr.take 5 _ _ (WTr.drop 1 _ _ hwt)
      have F0_ := Lib.hid f0
      have YV1_ := Lib.hid yv1
      have YT1_ := Lib.hid yt1
      have z0 := hI 0 _ b0
      have Z0 := Lib.hid z0
      have hI1 := hI_sub hI 1 5
      have HI1 := Lib.hid hI1
      clear hel hwt hve hI hce z0 b0 hI1 f0 yv1 yt1
      have cq := HIn.out _ _ _ Z0.out
      rw [Nat.add_zero] at cq
      go_wp2_with fail
      clear cq
      refine (ostr_ok y0 wb L5 bad _ (StW.str HW.out F0_.out) (by have := StW.len HW.out; omega) HB5.out).mono ?_
      replace HW := Lib.hid (StW.leaf HW.out F0_.out (strF_le (StW.str HW.out F0_.out)))
      rintro e w6 ⟨rfl, h6, g6⟩
      obtain ⟨L6, hL6⟩ : ∃ M, L5 ++ codeF (.str y0) = M := ⟨_, rfl⟩
      rw [hL6] at HW
      have HB6 : Hid (w6.heap[wb]? = some (OutC L6 bad)) := by show _ = _; rw [← hL6]; first | exact h6 | (simp only [codeF]; exact h6)
      have HG6 := Lib.hid (only_trans HG5.out g6)
      have HX6 := Lib.hid (blk_only HX5.out g6 hbx)
      have s6 := g6.size
      clear hL6 h6 g6 HB5 HG5 HX5
      have ck := blk_cell HX6.out
      have lx := blk_lt HX6.out
      have HIn := Lib.hid (HI.out.only HG6.out HA.out)
      have hbk : b < w6.heap.size := by omega
      have rg := rg_el (o := ofs + j * 6 + 1) HIn.out HI1.out
      have li := sz_of info_Val (len_sub HCe.out 1 5 (by omega))
      obtain ⟨cy1, hcy⟩ : ∃ c, (ce.drop 1).take 5 = c := ⟨_, rfl⟩
      rw [hcy] at rg li YV1_
      clear hcy
      have hsub : bulkL ((el.drop 1).take 5) < bulkL r := Nat.lt_of_le_of_lt (bulk_sub el 1 5) (elem_lt E4_.out HEl.out)
      go_wp2_with (refine wpList_load_mid rfl 37 _ rfl _ _ rfl _ _ rg Tryd.underlying37 rfl li ?_)
      clear rg li
      obtain ⟨hb1, hw1⟩ := StW.sub 5 HW.out (codeL_le _ _ YV1_.out)
      refine (HIH.out ((el.drop 1).take 5) hsub I _ wb L6 bad _ YT1_.out YV1_.out HIn.out HA.out hb1 HB6.out).mono ?_
      replace HW := Lib.hid hw1
      clear hb1 hw1
      rintro e w7 ⟨rfl, h7, g7⟩
      obtain ⟨L7, hL7⟩ : ∃ M, L6 ++ codeL ((el.drop 1).take 5) = M := ⟨_, rfl⟩
      rw [hL7] at HW
      have HB7 : Hid (w7.heap[wb]? = some (OutC L7 bad)) := by show _ = _; rw [← hL7]; first | exact h7 | (simp only [codeF]; exact h7)
      have HG7 := Lib.hid (only_trans HG6.out g7)
      have HX7 := Lib.hid (blk_only HX6.out g7 hbx)
      have s7 := g7.size
      clear hL7 h7 g7 HB6 HG6 HX6
      have ck := blk_cell HX7.out
      have lx := blk_lt HX7.out
      replace HW := Lib.hid (StW.done HW.out (by omega))
      have lx2 : w.heap.size < w7.heap.size := lx
      go_wp2_with fail
      exact ⟨⟨j + 1, L7, by omega, by go_num, HW, HB7, HX7, HG7, lx2⟩, by simp [intOf]; omega⟩
    obtain rfl : j = l4.length := by omega
    replace HW := Lib.hid (StW.rows_done HW.out)
    clear hlt
    go_wp2_with fail
    go_end0
    obtain rfl := StW.end_ (StW.done HW.out (by rw [HRL.out]; omega))
    exact ⟨rfl, by rw [HT.out]; exact HB5.out, HG5.out⟩
theorem ovalue_ok (r : List Lf) : Ovalue r := by
  have : ∀ n (r : List Lf), bulkL r = n → Ovalue r := by
    intro n
    induction n using Nat.strongRecOn with
    | _ n ih => intro r hr; exact ovalue_step r (fun e he => ih (bulkL e) (by rw [← hr]; exact he) e rfl)
  exact this _ r rfl
theorem ovalues_ok (l : List (List Lf)) (v : Value) (I : Gh) (wb : Nat) (L0 : List UInt8) (bad : Bool) (w : World) (hr : LRp I (.rows 5 l) v) (hq : ∀ e ∈ l, WTr Tryd.prog e fVal) (hi : Inv I w) (ha : Av I wb) (hb : L0.length + 12 * (1 + bulkR l) ≤ 562949953421312) (h : w.heap[wb]? = some (OutC L0 bad)) :
    Calls Tryd.prog 58 #[.pointer (some ⟨wb, 0, none⟩), v] w (OutPost wb L0 bad (codeF (.rows 5 l)) w) := ovalues_of l v I wb L0 bad w hr hq hi ha hb h (fun e _ => ovalue_ok e)
def Oexpr (r : List Lf) : Prop := ∀ (I : Gh) (cs : List Value) (wb : Nat) (L : List UInt8) (bad : Bool) (w : World), WTr Tryd.prog r fExpr → VsRp I r cs → Inv I w → Av I wb → L.length + 12 * bulkL r ≤ 562949953421312 → w.heap[wb]? = some (OutC L bad) →
  Calls Tryd.prog 67 #[.pointer (some ⟨wb, 0, none⟩), .agg cs.toArray] w (OutPost wb L bad (codeL r) w)
set_option maxRecDepth 20000 in
set_option maxHeartbeats 4000000 in
theorem oexpr_step (r : List Lf) (ih : ∀ e, bulkL e < bulkL r → Oexpr e) : Oexpr r := by
  intro I cs wb L0 bad w hw hv hi ha hb h
  obtain ⟨x0, e0, a0, i0⟩ := get_int hv hw 0 rfl
  obtain ⟨l1, p1, c1, e1, a1, r1, k1, m1, q1⟩ := get_rows hv hw 1 9 flat_str cells_str rfl
  obtain ⟨x2, e2, a2⟩ := get_str hv hw 2 rfl
  obtain ⟨l3, p3, c3, e3, a3, r3, k3, m3, q3⟩ := get_rows hv hw 3 9 flat_str cells_str rfl
  have v4 := VsRp.take 5 _ _ (VsRp.drop 4 _ _ hv)
  have t4 : WTr Tryd.prog ((r.drop 4).take 5) fVal := WTr.take 5 _ _ (WTr.drop 4 _ _ hw)
  obtain ⟨x9, e9, a9, i9⟩ := get_int hv hw 9 rfl
  obtain ⟨l10, p10, c10, e10, a10, r10, k10, m10, q10⟩ := get_rows hv hw 10 52 flat_Expr cells_Expr rfl
  have hlen : cs.length = 11 := by rw [VsRp.len _ _ hv, WTr.len _ _ hw]; rfl
  have hrl : r.length = 11 := by rw [WTr.len _ _ hw]; rfl
  have HW := Lib.hid (StW.start hb)
  obtain ⟨T, hT⟩ : ∃ T, L0 ++ codeL r = T := ⟨_, rfl⟩
  have HT := Lib.hid hT
  rw [hT] at HW
  clear hT hb hw hv
  have hlt := blk_lt h
  have hbx : w.heap.size ≠ wb := by omega
  have H := Lib.hid h
  have HI := Lib.hid hi
  have HA := Lib.hid ha
  have HIH := Lib.hid ih
  have HRL := Lib.hid hrl
  have HLEN := Lib.hid hlen
  clear hlen
  have n1 := i64_len k1 m1
  unfold maxLen at m1
  have n3 := i64_len k3 m3
  unfold maxLen at m3
  have n10 := i64_len k10 m10
  unfold maxLen at m10
  have E0_ := Lib.hid e0
  have I0_ := Lib.hid i0
  have E1_ := Lib.hid e1
  have R1_ := Lib.hid r1
  have Q1_ := Lib.hid q1
  have N1_ := Lib.hid n1
  have E2_ := Lib.hid e2
  have E3_ := Lib.hid e3
  have R3_ := Lib.hid r3
  have Q3_ := Lib.hid q3
  have N3_ := Lib.hid n3
  have V4_ := Lib.hid v4
  have T4_ := Lib.hid t4
  have E9_ := Lib.hid e9
  have I9_ := Lib.hid i9
  have E10_ := Lib.hid e10
  have R10_ := Lib.hid r10
  have Q10_ := Lib.hid q10
  have N10_ := Lib.hid n10
  clear h hi ha ih hrl e0 i0 e1 r1 q1 n1 e2 e3 r3 q3 n3 v4 t4 e9 i9 e10 r10 q10 n10
  go_enter Tryd.func67, Tryd.ntmps67
  go_wp2_with fail
  have HB0 := Lib.hid (blk_alloc H.out (.cells cs.toArray 52))
  have HX0 := Lib.hid (blk_at0 w (.cells cs.toArray 52))
  have HG0 : Hid (w.grownBy (w.alloc (.cells cs.toArray 52)) (some wb)) := only_alloc (World.grownBy.refl _ _) _
  refine (onum_ok x0 wb L0 bad _ I0_.out (by have := StW.len HW.out; omega) HB0.out).mono ?_
  replace HW := Lib.hid (StW.leaf HW.out E0_.out (intF_le I0_.out))
  rintro e w1 ⟨rfl, h1, g1⟩
  obtain ⟨L1, hL1⟩ : ∃ M, L0 ++ codeF (.int .i64 x0) = M := ⟨_, rfl⟩
  rw [hL1] at HW
  have HB1 : Hid (w1.heap[wb]? = some (OutC L1 bad)) := by show _ = _; rw [← hL1]; first | exact h1 | (simp only [codeF]; exact h1)
  have HG1 := Lib.hid (only_trans HG0.out g1)
  have HX1 := Lib.hid (blk_only HX0.out g1 hbx)
  have s1 := g1.size
  clear hL1 h1 g1 HB0 HG0 HX0
  have ck := blk_cell HX1.out
  have lx := blk_lt HX1.out
  go_wp2_with fail
  refine (ostrs_ok l1 _ I wb L1 bad _ R1_.out Q1_.out (HI.out.only HG1.out HA.out) HA.out (StW.rws HW.out E1_.out) HB1.out).mono ?_
  replace HW := Lib.hid (StW.leaf HW.out E1_.out (codeF_le _ _ R1_.out))
  rintro e w2 ⟨rfl, h2, g2⟩
  obtain ⟨L2, hL2⟩ : ∃ M, L1 ++ codeF (.rows 1 l1) = M := ⟨_, rfl⟩
  rw [hL2] at HW
  have HB2 : Hid (w2.heap[wb]? = some (OutC L2 bad)) := by show _ = _; rw [← hL2]; first | exact h2 | (simp only [codeF]; exact h2)
  have HG2 := Lib.hid (only_trans HG1.out g2)
  have HX2 := Lib.hid (blk_only HX1.out g2 hbx)
  have s2 := g2.size
  clear hL2 h2 g2 HB1 HG1 HX1
  have ck := blk_cell HX2.out
  have lx := blk_lt HX2.out
  go_wp2_with fail
  refine (ostr_ok x2 wb L2 bad _ (StW.str HW.out E2_.out) (by have := StW.len HW.out; omega) HB2.out).mono ?_
  replace HW := Lib.hid (StW.leaf HW.out E2_.out (strF_le (StW.str HW.out E2_.out)))
  rintro e w3 ⟨rfl, h3, g3⟩
  obtain ⟨L3, hL3⟩ : ∃ M, L2 ++ codeF (.str x2) = M := ⟨_, rfl⟩
  rw [hL3] at HW
  have HB3 : Hid (w3.heap[wb]? = some (OutC L3 bad)) := by show _ = _; rw [← hL3]; first | exact h3 | (simp only [codeF]; exact h3)
  have HG3 := Lib.hid (only_trans HG2.out g3)
  have HX3 := Lib.hid (blk_only HX2.out g3 hbx)
  have s3 := g3.size
  clear hL3 h3 g3 HB2 HG2 HX2
  have ck := blk_cell HX3.out
  have lx := blk_lt HX3.out
  go_wp2_with fail
  refine (ostrs_ok l3 _ I wb L3 bad _ R3_.out Q3_.out (HI.out.only HG3.out HA.out) HA.out (StW.rws HW.out E3_.out) HB3.out).mono ?_
  replace HW := Lib.hid (StW.leaf HW.out E3_.out (codeF_le _ _ R3_.out))
  rintro e w4 ⟨rfl, h4, g4⟩
  obtain ⟨L4, hL4⟩ : ∃ M, L3 ++ codeF (.rows 1 l3) = M := ⟨_, rfl⟩
  rw [hL4] at HW
  have HB4 : Hid (w4.heap[wb]? = some (OutC L4 bad)) := by show _ = _; rw [← hL4]; first | exact h4 | (simp only [codeF]; exact h4)
  have HG4 := Lib.hid (only_trans HG3.out g4)
  have HX4 := Lib.hid (blk_only HX3.out g4 hbx)
  have s4 := g4.size
  clear hL4 h4 g4 HB3 HG3 HX3
  have ck := blk_cell HX4.out
  have lx := blk_lt HX4.out
  have rg := rg_box HX4.out 4 5
  have li := sz_of info_Val (len_sub HLEN.out 4 5 (by omega))
  obtain ⟨cx4, hcx⟩ : ∃ c, (cs.drop 4).take 5 = c := ⟨_, rfl⟩
  rw [hcx] at rg li V4_
  clear hcx
  go_wp2_with (refine wpList_load_mid rfl 37 _ rfl _ _ rfl _ _ rg Tryd.underlying37 rfl li ?_)
  clear rg li
  obtain ⟨hb4, hw4⟩ := StW.sub 5 HW.out (codeL_le _ _ V4_.out)
  refine (ovalue_ok ((r.drop 4).take 5) I _ wb L4 bad _ T4_.out V4_.out (HI.out.only HG4.out HA.out) HA.out hb4 HB4.out).mono ?_
  replace HW := Lib.hid hw4
  clear hb4 hw4
  rintro e w5 ⟨rfl, h5, g5⟩
  obtain ⟨L5, hL5⟩ : ∃ M, L4 ++ codeL ((r.drop 4).take 5) = M := ⟨_, rfl⟩
  rw [hL5] at HW
  have HB5 : Hid (w5.heap[wb]? = some (OutC L5 bad)) := by show _ = _; rw [← hL5]; first | exact h5 | (simp only [codeF]; exact h5)
  have HG5 := Lib.hid (only_trans HG4.out g5)
  have HX5 := Lib.hid (blk_only HX4.out g5 hbx)
  have s5 := g5.size
  clear hL5 h5 g5 HB4 HG4 HX4
  have ck := blk_cell HX5.out
  have lx := blk_lt HX5.out
  go_wp2_with fail
  refine (onum_ok x9 wb L5 bad _ I9_.out (by have := StW.len HW.out; omega) HB5.out).mono ?_
  replace HW := Lib.hid (StW.leaf HW.out E9_.out (intF_le I9_.out))
  rintro e w6 ⟨rfl, h6, g6⟩
  obtain ⟨L6, hL6⟩ : ∃ M, L5 ++ codeF (.int .i64 x9) = M := ⟨_, rfl⟩
  rw [hL6] at HW
  have HB6 : Hid (w6.heap[wb]? = some (OutC L6 bad)) := by show _ = _; rw [← hL6]; first | exact h6 | (simp only [codeF]; exact h6)
  have HG6 := Lib.hid (only_trans HG5.out g6)
  have HX6 := Lib.hid (blk_only HX5.out g6 hbx)
  have s6 := g6.size
  clear hL6 h6 g6 HB5 HG5 HX5
  have ck := blk_cell HX6.out
  have lx := blk_lt HX6.out
  go_wp2_with fail
  refine (onum_ok _ wb L6 bad _ N10_.out (by have := StW.len HW.out; omega) HB6.out).mono ?_
  replace HW := Lib.hid (StW.rows HW.out E10_.out (zz_le _ (by have := N10_.out; unfold I64 at this; omega)))
  rintro e w7 ⟨rfl, h7, g7⟩
  obtain ⟨L7, hL7⟩ : ∃ M, L6 ++ numL (zz (l10.length : Int)) = M := ⟨_, rfl⟩
  rw [hL7] at HW
  have HB7 : Hid (w7.heap[wb]? = some (OutC L7 bad)) := by show _ = _; rw [← hL7]; first | exact h7 | (simp only [codeF]; exact h7)
  have HG7 := Lib.hid (only_trans HG6.out g7)
  have HX7 := Lib.hid (blk_only HX6.out g7 hbx)
  have s7 := g7.size
  clear hL7 h7 g7 HB6 HG6 HX6
  have ck := blk_cell HX7.out
  have lx := blk_lt HX7.out
  go_wp2_with fail
  clear ck
  go_loopw [4] (fun x wr => ∃ (j : Nat) (M : List UInt8), j ≤ l10.length ∧ x = .int .i64 j ∧ Hid (StW T M ((l10.drop j).flatten ++ (r.drop 11 ++ []))) ∧ Hid (wr.heap[wb]? = some (OutC M bad)) ∧ Hid (wr.heap[w.heap.size]? = some (.cells cs.toArray 52 (0, 0))) ∧ Hid (w.grownBy wr (some wb)) ∧ w.heap.size < wr.heap.size) (fun x _ => l10.length - (intOf x).toNat)
  case atStart => exact ⟨0, L7, by omega, rfl, HW, HB7, HX7, HG7, lx⟩
  case round =>
    clear HW HB7 HX7 HG7
    obtain ⟨j, L7, hj, rfl, HW, HB7, HX7, HG7, lx⟩ := hrel
    have ck := blk_cell HX7.out
    by_cases hlt : j < l10.length
    case pos =>
      obtain ⟨el, hel⟩ : ∃ e, l10[j]? = some e := ⟨_, List.getElem?_eq_getElem hlt⟩
      obtain ⟨b, ofs, cp, ce, hsl, hcl, hcm, hwl, hve, hI⟩ := LRp.elem R10_.out j el hel
      injection hsl with hsl1 _ hsl2
      subst hsl1 hsl2
      have HEl := Lib.hid hel
      have hwt := Q10_.out el (List.mem_of_getElem? hel)
      have HWt := Lib.hid hwt
      have HVe := Lib.hid hve
      have HIe := Lib.hid hI
      have hce : ce.length = 11 := by rw [VsRp.len _ _ hve, hwl]
      have HCe := Lib.hid hce
      have HIn := Lib.hid (HI.out.only HG7.out HA.out)
      have hbk : b < wr.heap.size := by
        have h0 : 0 < ce.length := by omega
        exact HIn.out.lt (hI 0 ce[0] (List.getElem?_eq_getElem h0))
      replace HW := Lib.hid (StW.next HW.out hel)
      have rg := rg_el (o := ofs + j * 11) HIn.out hI
      have li := sz_of info_Expr hce
      clear hel hwt hve hI hce
      go_wp2_with (refine wpList_load_mid rfl 52 _ rfl _ _ rfl _ _ rg Tryd.underlying52 rfl li ?_)
      clear rg li
      refine (HIH.out el (elem_lt E10_.out HEl.out) I ce wb L7 bad _ HWt.out HVe.out HIn.out HA.out (StW.row HW.out) HB7.out).mono ?_
      replace HW := Lib.hid (StW.whole HW.out (codeL_le _ _ HVe.out))
      rintro e w8 ⟨rfl, h8, g8⟩
      obtain ⟨L8, hL8⟩ : ∃ M, L7 ++ codeL el = M := ⟨_, rfl⟩
      rw [hL8] at HW
      have HB8 : Hid (w8.heap[wb]? = some (OutC L8 bad)) := by show _ = _; rw [← hL8]; first | exact h8 | (simp only [codeF]; exact h8)
      have HG8 := Lib.hid (only_trans HG7.out g8)
      have HX8 := Lib.hid (blk_only HX7.out g8 hbx)
      have s8 := g8.size
      clear hL8 h8 g8 HB7 HG7 HX7
      have ck := blk_cell HX8.out
      have lx := blk_lt HX8.out
      have lx2 : w.heap.size < w8.heap.size := lx
      go_wp2_with fail
      exact ⟨⟨j + 1, L8, by omega, by go_num, HW, HB8, HX8, HG8, lx2⟩, by simp [intOf]; omega⟩
    obtain rfl : j = l10.length := by omega
    replace HW := Lib.hid (StW.rows_done HW.out)
    clear hlt
    go_wp2_with fail
    go_end0
    obtain rfl := StW.end_ (StW.done HW.out (by rw [HRL.out]; omega))
    exact ⟨rfl, by rw [HT.out]; exact HB7.out, HG7.out⟩
theorem oexpr_ok (r : List Lf) : Oexpr r := by
  have : ∀ n (r : List Lf), bulkL r = n → Oexpr r := by
    intro n
    induction n using Nat.strongRecOn with
    | _ n ih => intro r hr; exact oexpr_step r (fun e he => ih (bulkL e) (by rw [← hr]; exact he) e rfl)
  exact this _ r rfl
def Opred (r : List Lf) : Prop := ∀ (I : Gh) (cs : List Value) (wb : Nat) (L : List UInt8) (bad : Bool) (w : World), WTr Tryd.prog r fPred → VsRp I r cs → Inv I w → Av I wb → L.length + 12 * bulkL r ≤ 562949953421312 → w.heap[wb]? = some (OutC L bad) →
  Calls Tryd.prog 63 #[.pointer (some ⟨wb, 0, none⟩), .agg cs.toArray] w (OutPost wb L bad (codeL r) w)
set_option maxRecDepth 20000 in
set_option maxHeartbeats 4000000 in
theorem opred_step (r : List Lf) (ih : ∀ e, bulkL e < bulkL r → Opred e) : Opred r := by
  intro I cs wb L0 bad w hw hv hi ha hb h
  obtain ⟨x0, e0, a0, i0⟩ := get_int hv hw 0 rfl
  obtain ⟨l1, p1, c1, e1, a1, r1, k1, m1, q1⟩ := get_rows hv hw 1 9 flat_str cells_str rfl
  have v2 := VsRp.take 5 _ _ (VsRp.drop 2 _ _ hv)
  have t2 : WTr Tryd.prog ((r.drop 2).take 5) fVal := WTr.take 5 _ _ (WTr.drop 2 _ _ hw)
  obtain ⟨l7, p7, c7, e7, a7, r7, k7, m7, q7⟩ := get_rows hv hw 7 37 flat_Val cells_Val rfl
  obtain ⟨x8, e8, a8, i8⟩ := get_int hv hw 8 rfl
  obtain ⟨x9, e9, a9, i9⟩ := get_int hv hw 9 rfl
  have v10 := VsRp.take 3 _ _ (VsRp.drop 10 _ _ hv)
  have t10 : WTr Tryd.prog ((r.drop 10).take 3) fShape := WTr.take 3 _ _ (WTr.drop 10 _ _ hw)
  have v13 := VsRp.take 11 _ _ (VsRp.drop 13 _ _ hv)
  have t13 : WTr Tryd.prog ((r.drop 13).take 11) fExpr := WTr.take 11 _ _ (WTr.drop 13 _ _ hw)
  obtain ⟨l24, p24, c24, e24, a24, r24, k24, m24, q24⟩ := get_rows hv hw 24 55 flat_Pred cells_Pred rfl
  have hlen : cs.length = 25 := by rw [VsRp.len _ _ hv, WTr.len _ _ hw]; rfl
  have hrl : r.length = 25 := by rw [WTr.len _ _ hw]; rfl
  have HW := Lib.hid (StW.start hb)
  obtain ⟨T, hT⟩ : ∃ T, L0 ++ codeL r = T := ⟨_, rfl⟩
  have HT := Lib.hid hT
  rw [hT] at HW
  clear hT hb hw hv
  have hlt := blk_lt h
  have hbx : w.heap.size ≠ wb := by omega
  have H := Lib.hid h
  have HI := Lib.hid hi
  have HA := Lib.hid ha
  have HIH := Lib.hid ih
  have HRL := Lib.hid hrl
  have HLEN := Lib.hid hlen
  clear hlen
  have n1 := i64_len k1 m1
  unfold maxLen at m1
  have n7 := i64_len k7 m7
  unfold maxLen at m7
  have n24 := i64_len k24 m24
  unfold maxLen at m24
  have E0_ := Lib.hid e0
  have I0_ := Lib.hid i0
  have E1_ := Lib.hid e1
  have R1_ := Lib.hid r1
  have Q1_ := Lib.hid q1
  have N1_ := Lib.hid n1
  have V2_ := Lib.hid v2
  have T2_ := Lib.hid t2
  have E7_ := Lib.hid e7
  have R7_ := Lib.hid r7
  have Q7_ := Lib.hid q7
  have N7_ := Lib.hid n7
  have E8_ := Lib.hid e8
  have I8_ := Lib.hid i8
  have E9_ := Lib.hid e9
  have I9_ := Lib.hid i9
  have V10_ := Lib.hid v10
  have T10_ := Lib.hid t10
  have V13_ := Lib.hid v13
  have T13_ := Lib.hid t13
  have E24_ := Lib.hid e24
  have R24_ := Lib.hid r24
  have Q24_ := Lib.hid q24
  have N24_ := Lib.hid n24
  clear h hi ha ih hrl e0 i0 e1 r1 q1 n1 v2 t2 e7 r7 q7 n7 e8 i8 e9 i9 v10 t10 v13 t13 e24 r24 q24 n24
  go_enter Tryd.func63, Tryd.ntmps63
  go_wp2_with fail
  have HB0 := Lib.hid (blk_alloc H.out (.cells cs.toArray 55))
  have HX0 := Lib.hid (blk_at0 w (.cells cs.toArray 55))
  have HG0 : Hid (w.grownBy (w.alloc (.cells cs.toArray 55)) (some wb)) := only_alloc (World.grownBy.refl _ _) _
  refine (onum_ok x0 wb L0 bad _ I0_.out (by have := StW.len HW.out; omega) HB0.out).mono ?_
  replace HW := Lib.hid (StW.leaf HW.out E0_.out (intF_le I0_.out))
  rintro e w1 ⟨rfl, h1, g1⟩
  obtain ⟨L1, hL1⟩ : ∃ M, L0 ++ codeF (.int .i64 x0) = M := ⟨_, rfl⟩
  rw [hL1] at HW
  have HB1 : Hid (w1.heap[wb]? = some (OutC L1 bad)) := by show _ = _; rw [← hL1]; first | exact h1 | (simp only [codeF]; exact h1)
  have HG1 := Lib.hid (only_trans HG0.out g1)
  have HX1 := Lib.hid (blk_only HX0.out g1 hbx)
  have s1 := g1.size
  clear hL1 h1 g1 HB0 HG0 HX0
  have ck := blk_cell HX1.out
  have lx := blk_lt HX1.out
  go_wp2_with fail
  refine (ostrs_ok l1 _ I wb L1 bad _ R1_.out Q1_.out (HI.out.only HG1.out HA.out) HA.out (StW.rws HW.out E1_.out) HB1.out).mono ?_
  replace HW := Lib.hid (StW.leaf HW.out E1_.out (codeF_le _ _ R1_.out))
  rintro e w2 ⟨rfl, h2, g2⟩
  obtain ⟨L2, hL2⟩ : ∃ M, L1 ++ codeF (.rows 1 l1) = M := ⟨_, rfl⟩
  rw [hL2] at HW
  have HB2 : Hid (w2.heap[wb]? = some (OutC L2 bad)) := by show _ = _; rw [← hL2]; first | exact h2 | (simp only [codeF]; exact h2)
  have HG2 := Lib.hid (only_trans HG1.out g2)
  have HX2 := Lib.hid (blk_only HX1.out g2 hbx)
  have s2 := g2.size
  clear hL2 h2 g2 HB1 HG1 HX1
  have ck := blk_cell HX2.out
  have lx := blk_lt HX2.out
  have rg := rg_box HX2.out 2 5
  have li := sz_of info_Val (len_sub HLEN.out 2 5 (by omega))
  obtain ⟨cx2, hcx⟩ : ∃ c, (cs.drop 2).take 5 = c := ⟨_, rfl⟩
  rw [hcx] at rg li V2_
  clear hcx
  go_wp2_with (refine wpList_load_mid rfl 37 _ rfl _ _ rfl _ _ rg Tryd.underlying37 rfl li ?_)
  clear rg li
  obtain ⟨hb2, hw2⟩ := StW.sub 5 HW.out (codeL_le _ _ V2_.out)
  refine (ovalue_ok ((r.drop 2).take 5) I _ wb L2 bad _ T2_.out V2_.out (HI.out.only HG2.out HA.out) HA.out hb2 HB2.out).mono ?_
  replace HW := Lib.hid hw2
  clear hb2 hw2
  rintro e w3 ⟨rfl, h3, g3⟩
  obtain ⟨L3, hL3⟩ : ∃ M, L2 ++ codeL ((r.drop 2).take 5) = M := ⟨_, rfl⟩
  rw [hL3] at HW
  have HB3 : Hid (w3.heap[wb]? = some (OutC L3 bad)) := by show _ = _; rw [← hL3]; first | exact h3 | (simp only [codeF]; exact h3)
  have HG3 := Lib.hid (only_trans HG2.out g3)
  have HX3 := Lib.hid (blk_only HX2.out g3 hbx)
  have s3 := g3.size
  clear hL3 h3 g3 HB2 HG2 HX2
  have ck := blk_cell HX3.out
  have lx := blk_lt HX3.out
  go_wp2_with fail
  refine (ovalues_ok l7 _ I wb L3 bad _ R7_.out Q7_.out (HI.out.only HG3.out HA.out) HA.out (StW.rws HW.out E7_.out) HB3.out).mono ?_
  replace HW := Lib.hid (StW.leaf HW.out E7_.out (codeF_le _ _ R7_.out))
  rintro e w4 ⟨rfl, h4, g4⟩
  obtain ⟨L4, hL4⟩ : ∃ M, L3 ++ codeF (.rows 5 l7) = M := ⟨_, rfl⟩
  rw [hL4] at HW
  have HB4 : Hid (w4.heap[wb]? = some (OutC L4 bad)) := by show _ = _; rw [← hL4]; first | exact h4 | (simp only [codeF]; exact h4)
  have HG4 := Lib.hid (only_trans HG3.out g4)
  have HX4 := Lib.hid (blk_only HX3.out g4 hbx)
  have s4 := g4.size
  clear hL4 h4 g4 HB3 HG3 HX3
  have ck := blk_cell HX4.out
  have lx := blk_lt HX4.out
  go_wp2_with fail
  refine (onum_ok x8 wb L4 bad _ I8_.out (by have := StW.len HW.out; omega) HB4.out).mono ?_
  replace HW := Lib.hid (StW.leaf HW.out E8_.out (intF_le I8_.out))
  rintro e w5 ⟨rfl, h5, g5⟩
  obtain ⟨L5, hL5⟩ : ∃ M, L4 ++ codeF (.int .i64 x8) = M := ⟨_, rfl⟩
  rw [hL5] at HW
  have HB5 : Hid (w5.heap[wb]? = some (OutC L5 bad)) := by show _ = _; rw [← hL5]; first | exact h5 | (simp only [codeF]; exact h5)
  have HG5 := Lib.hid (only_trans HG4.out g5)
  have HX5 := Lib.hid (blk_only HX4.out g5 hbx)
  have s5 := g5.size
  clear hL5 h5 g5 HB4 HG4 HX4
  have ck := blk_cell HX5.out
  have lx := blk_lt HX5.out
  go_wp2_with fail
  refine (onum_ok x9 wb L5 bad _ I9_.out (by have := StW.len HW.out; omega) HB5.out).mono ?_
  replace HW := Lib.hid (StW.leaf HW.out E9_.out (intF_le I9_.out))
  rintro e w6 ⟨rfl, h6, g6⟩
  obtain ⟨L6, hL6⟩ : ∃ M, L5 ++ codeF (.int .i64 x9) = M := ⟨_, rfl⟩
  rw [hL6] at HW
  have HB6 : Hid (w6.heap[wb]? = some (OutC L6 bad)) := by show _ = _; rw [← hL6]; first | exact h6 | (simp only [codeF]; exact h6)
  have HG6 := Lib.hid (only_trans HG5.out g6)
  have HX6 := Lib.hid (blk_only HX5.out g6 hbx)
  have s6 := g6.size
  clear hL6 h6 g6 HB5 HG5 HX5
  have ck := blk_cell HX6.out
  have lx := blk_lt HX6.out
  have rg := rg_box HX6.out 10 3
  have li := sz_of info_Shape (len_sub HLEN.out 10 3 (by omega))
  obtain ⟨cx10, hcx⟩ : ∃ c, (cs.drop 10).take 3 = c := ⟨_, rfl⟩
  rw [hcx] at rg li V10_
  clear hcx
  go_wp2_with (refine wpList_load_mid rfl 49 _ rfl _ _ rfl _ _ rg Tryd.underlying49 rfl li ?_)
  clear rg li
  obtain ⟨hb10, hw10⟩ := StW.sub 3 HW.out (codeL_le _ _ V10_.out)
  refine (oshape_ok ((r.drop 10).take 3) I _ wb L6 bad _ T10_.out V10_.out (HI.out.only HG6.out HA.out) HA.out hb10 HB6.out).mono ?_
  replace HW := Lib.hid hw10
  clear hb10 hw10
  rintro e w7 ⟨rfl, h7, g7⟩
  obtain ⟨L7, hL7⟩ : ∃ M, L6 ++ codeL ((r.drop 10).take 3) = M := ⟨_, rfl⟩
  rw [hL7] at HW
  have HB7 : Hid (w7.heap[wb]? = some (OutC L7 bad)) := by show _ = _; rw [← hL7]; first | exact h7 | (simp only [codeF]; exact h7)
  have HG7 := Lib.hid (only_trans HG6.out g7)
  have HX7 := Lib.hid (blk_only HX6.out g7 hbx)
  have s7 := g7.size
  clear hL7 h7 g7 HB6 HG6 HX6
  have ck := blk_cell HX7.out
  have lx := blk_lt HX7.out
  have rg := rg_box HX7.out 13 11
  have li := sz_of info_Expr (len_sub HLEN.out 13 11 (by omega))
  obtain ⟨cx13, hcx⟩ : ∃ c, (cs.drop 13).take 11 = c := ⟨_, rfl⟩
  rw [hcx] at rg li V13_
  clear hcx
  go_wp2_with (refine wpList_load_mid rfl 52 _ rfl _ _ rfl _ _ rg Tryd.underlying52 rfl li ?_)
  clear rg li
  obtain ⟨hb13, hw13⟩ := StW.sub 11 HW.out (codeL_le _ _ V13_.out)
  refine (oexpr_ok ((r.drop 13).take 11) I _ wb L7 bad _ T13_.out V13_.out (HI.out.only HG7.out HA.out) HA.out hb13 HB7.out).mono ?_
  replace HW := Lib.hid hw13
  clear hb13 hw13
  rintro e w8 ⟨rfl, h8, g8⟩
  obtain ⟨L8, hL8⟩ : ∃ M, L7 ++ codeL ((r.drop 13).take 11) = M := ⟨_, rfl⟩
  rw [hL8] at HW
  have HB8 : Hid (w8.heap[wb]? = some (OutC L8 bad)) := by show _ = _; rw [← hL8]; first | exact h8 | (simp only [codeF]; exact h8)
  have HG8 := Lib.hid (only_trans HG7.out g8)
  have HX8 := Lib.hid (blk_only HX7.out g8 hbx)
  have s8 := g8.size
  clear hL8 h8 g8 HB7 HG7 HX7
  have ck := blk_cell HX8.out
  have lx := blk_lt HX8.out
  go_wp2_with fail
  refine (onum_ok _ wb L8 bad _ N24_.out (by have := StW.len HW.out; omega) HB8.out).mono ?_
  replace HW := Lib.hid (StW.rows HW.out E24_.out (zz_le _ (by have := N24_.out; unfold I64 at this; omega)))
  rintro e w9 ⟨rfl, h9, g9⟩
  obtain ⟨L9, hL9⟩ : ∃ M, L8 ++ numL (zz (l24.length : Int)) = M := ⟨_, rfl⟩
  rw [hL9] at HW
  have HB9 : Hid (w9.heap[wb]? = some (OutC L9 bad)) := by show _ = _; rw [← hL9]; first | exact h9 | (simp only [codeF]; exact h9)
  have HG9 := Lib.hid (only_trans HG8.out g9)
  have HX9 := Lib.hid (blk_only HX8.out g9 hbx)
  have s9 := g9.size
  clear hL9 h9 g9 HB8 HG8 HX8
  have ck := blk_cell HX9.out
  have lx := blk_lt HX9.out
  go_wp2_with fail
  clear ck
  go_loopw [4] (fun x wr => ∃ (j : Nat) (M : List UInt8), j ≤ l24.length ∧ x = .int .i64 j ∧ Hid (StW T M ((l24.drop j).flatten ++ (r.drop 25 ++ []))) ∧ Hid (wr.heap[wb]? = some (OutC M bad)) ∧ Hid (wr.heap[w.heap.size]? = some (.cells cs.toArray 55 (0, 0))) ∧ Hid (w.grownBy wr (some wb)) ∧ w.heap.size < wr.heap.size) (fun x _ => l24.length - (intOf x).toNat)
  case atStart => exact ⟨0, L9, by omega, rfl, HW, HB9, HX9, HG9, lx⟩
  case round =>
    clear HW HB9 HX9 HG9
    obtain ⟨j, L9, hj, rfl, HW, HB9, HX9, HG9, lx⟩ := hrel
    have ck := blk_cell HX9.out
    by_cases hlt : j < l24.length
    case pos =>
      obtain ⟨el, hel⟩ : ∃ e, l24[j]? = some e := ⟨_, List.getElem?_eq_getElem hlt⟩
      obtain ⟨b, ofs, cp, ce, hsl, hcl, hcm, hwl, hve, hI⟩ := LRp.elem R24_.out j el hel
      injection hsl with hsl1 _ hsl2
      subst hsl1 hsl2
      have HEl := Lib.hid hel
      have hwt := Q24_.out el (List.mem_of_getElem? hel)
      have HWt := Lib.hid hwt
      have HVe := Lib.hid hve
      have HIe := Lib.hid hI
      have hce : ce.length = 25 := by rw [VsRp.len _ _ hve, hwl]
      have HCe := Lib.hid hce
      have HIn := Lib.hid (HI.out.only HG9.out HA.out)
      have hbk : b < wr.heap.size := by
        have h0 : 0 < ce.length := by omega
        exact HIn.out.lt (hI 0 ce[0] (List.getElem?_eq_getElem h0))
      replace HW := Lib.hid (StW.next HW.out hel)
      have rg := rg_el (o := ofs + j * 25) HIn.out hI
      have li := sz_of info_Pred hce
      clear hel hwt hve hI hce
      go_wp2_with (refine wpList_load_mid rfl 55 _ rfl _ _ rfl _ _ rg Tryd.underlying55 rfl li ?_)
      clear rg li
      refine (HIH.out el (elem_lt E24_.out HEl.out) I ce wb L9 bad _ HWt.out HVe.out HIn.out HA.out (StW.row HW.out) HB9.out).mono ?_
      replace HW := Lib.hid (StW.whole HW.out (codeL_le _ _ HVe.out))
      rintro e w10 ⟨rfl, h10, g10⟩
      obtain ⟨L10, hL10⟩ : ∃ M, L9 ++ codeL el = M := ⟨_, rfl⟩
      rw [hL10] at HW
      have HB10 : Hid (w10.heap[wb]? = some (OutC L10 bad)) := by show _ = _; rw [← hL10]; first | exact h10 | (simp only [codeF]; exact h10)
      have HG10 := Lib.hid (only_trans HG9.out g10)
      have HX10 := Lib.hid (blk_only HX9.out g10 hbx)
      have s10 := g10.size
      clear hL10 h10 g10 HB9 HG9 HX9
      have ck := blk_cell HX10.out
      have lx := blk_lt HX10.out
      have lx2 : w.heap.size < w10.heap.size := lx
      go_wp2_with fail
      exact ⟨⟨j + 1, L10, by omega, by go_num, HW, HB10, HX10, HG10, lx2⟩, by simp [intOf]; omega⟩
    obtain rfl : j = l24.length := by omega
    replace HW := Lib.hid (StW.rows_done HW.out)
    clear hlt
    go_wp2_with fail
    go_end0
    obtain rfl := StW.end_ (StW.done HW.out (by rw [HRL.out]; omega))
    exact ⟨rfl, by rw [HT.out]; exact HB9.out, HG9.out⟩
theorem opred_ok (r : List Lf) : Opred r := by
  have : ∀ n (r : List Lf), bulkL r = n → Opred r := by
    intro n
    induction n using Nat.strongRecOn with
    | _ n ih => intro r hr; exact opred_step r (fun e he => ih (bulkL e) (by rw [← hr]; exact he) e rfl)
  exact this _ r rfl
end Go.Proofs.YtplokbmdcfakbaaDoor
