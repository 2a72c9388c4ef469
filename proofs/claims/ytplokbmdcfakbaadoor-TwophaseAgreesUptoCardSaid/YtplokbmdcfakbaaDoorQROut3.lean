/- The methods of docstoreref40.Out (printed by genout.py). -/
import Derived.Test.YtplokbmdcfakbaaDoorQROut2
set_option linter.unusedSimpArgs false
set_option linter.unusedVariables false
namespace Go.Proofs.YtplokbmdcfakbaaDoor
open Go.RowKit
def Oindex (r : List Lf) : Prop := ∀ (I : Gh) (cs : List Value) (wb : Nat) (L : List UInt8) (bad : Bool) (w : World), WTr Tryd.prog r fIndex → VsRp I r cs → Inv I w → Av I wb → L.length + 12 * bulkL r ≤ 562949953421312 → w.heap[wb]? = some (OutC L bad) →
  Calls Tryd.prog 51 #[.pointer (some ⟨wb, 0, none⟩), .agg cs.toArray] w (OutPost wb L bad (codeL r) w)
set_option maxRecDepth 20000 in
set_option maxHeartbeats 4000000 in
theorem oindex_step (r : List Lf) (ih : ∀ e, bulkL e < bulkL r → Oindex e) : Oindex r := by
  intro I cs wb L0 bad w hw hv hi ha hb h
  obtain ⟨x0, e0, a0⟩ := get_str hv hw 0 rfl
  obtain ⟨x1, e1, a1, i1⟩ := get_int hv hw 1 rfl
  obtain ⟨l2, p2, c2, e2, a2, r2, k2, m2, q2⟩ := get_rows hv hw 2 125 flat_Order cells_Order rfl
  obtain ⟨x3, e3, a3⟩ := get_bool hv hw 3 rfl
  obtain ⟨x4, e4, a4⟩ := get_bool hv hw 4 rfl
  obtain ⟨x5, e5, a5⟩ := get_bool hv hw 5 rfl
  have v6 := VsRp.take 25 _ _ (VsRp.drop 6 _ _ hv)
  have t6 : WTr Tryd.prog ((r.drop 6).take 25) fPred := WTr.take 25 _ _ (WTr.drop 6 _ _ hw)
  have hlen : cs.length = 31 := by rw [VsRp.len _ _ hv, WTr.len _ _ hw]; rfl
  have hrl : r.length = 31 := by rw [WTr.len _ _ hw]; rfl
  have HW := Lib.hid (StW.start hb)
  obtain ⟨T, hT⟩ : ∃ T, L0 ++ codeL r = T := ⟨_, rfl⟩
  have HT := Lib.hid hT
  rw [hT] at HW
  clear hT hb hw hv
  have hlt := blk_lt h
  have hbx : w.heap.size ≠ wb := by omega
  have H := Lib.hid h
  have HI := Lib.hid hi
  have HA := Lib.hid ha
  have HIH := Lib.hid ih
  have HRL := Lib.hid hrl
  have HLEN := Lib.hid hlen
  clear hlen
  have n2 := i64_len k2 m2
  unfold maxLen at m2
  have E0_ := Lib.hid e0
  have E1_ := Lib.hid e1
  have I1_ := Lib.hid i1
  have E2_ := Lib.hid e2
  have R2_ := Lib.hid r2
  have Q2_ := Lib.hid q2
  have N2_ := Lib.hid n2
  have E3_ := Lib.hid e3
  have E4_ := Lib.hid e4
  have E5_ := Lib.hid e5
  have V6_ := Lib.hid v6
  have T6_ := Lib.hid t6
  clear h hi ha ih hrl e0 e1 i1 e2 r2 q2 n2 e3 e4 e5 v6 t6
  go_enter Tryd.func51, Tryd.ntmps51
  go_wp2_with fail
  have HB0 := Lib.hid (blk_alloc H.out (.cells cs.toArray 57))
  have HX0 := Lib.hid (blk_at0 w (.cells cs.toArray 57))
  have HG0 : Hid (w.grownBy (w.alloc (.cells cs.toArray 57)) (some wb)) := only_alloc (World.grownBy.refl _ _) _
  refine (ostr_ok x0 wb L0 bad _ (StW.str HW.out E0_.out) (by have := StW.len HW.out; omega) HB0.out).mono ?_
  replace HW := Lib.hid (StW.leaf HW.out E0_.out (strF_le (StW.str HW.out E0_.out)))
  rintro e w1 ⟨rfl, h1, g1⟩
  obtain ⟨L1, hL1⟩ : ∃ M, L0 ++ codeF (.str x0) = M := ⟨_, rfl⟩
  rw [hL1] at HW
  have HB1 : Hid (w1.heap[wb]? = some (OutC L1 bad)) := by show _ = _; rw [← hL1]; first | exact h1 | (simp only [codeF]; exact h1)
  have HG1 := Lib.hid (only_trans HG0.out g1)
  have HX1 := Lib.hid (blk_only HX0.out g1 hbx)
  have s1 := g1.size
  clear hL1 h1 g1 HB0 HG0 HX0
  have ck := blk_cell HX1.out
  have lx := blk_lt HX1.out
  go_wp2_with fail
  refine (onum_ok x1 wb L1 bad _ I1_.out (by have := StW.len HW.out; omega) HB1.out).mono ?_
  replace HW := Lib.hid (StW.leaf HW.out E1_.out (intF_le I1_.out))
  rintro e w2 ⟨rfl, h2, g2⟩
  obtain ⟨L2, hL2⟩ : ∃ M, L1 ++ codeF (.int .i64 x1) = M := ⟨_, rfl⟩
  rw [hL2] at HW
  have HB2 : Hid (w2.heap[wb]? = some (OutC L2 bad)) := by show _ = _; rw [← hL2]; first | exact h2 | (simp only [codeF]; exact h2)
  have HG2 := Lib.hid (only_trans HG1.out g2)
  have HX2 := Lib.hid (blk_only HX1.out g2 hbx)
  have s2 := g2.size
  clear hL2 h2 g2 HB1 HG1 HX1
  have ck := blk_cell HX2.out
  have lx := blk_lt HX2.out
  go_wp2_with fail
  refine (onum_ok _ wb L2 bad _ N2_.out (by have := StW.len HW.out; omega) HB2.out).mono ?_
  replace HW := Lib.hid (StW.rows HW.out E2_.out (zz_le _ (by have := N2_.out; unfold I64 at this; omega)))
  rintro e w3 ⟨rfl, h3, g3⟩
  obtain ⟨L3, hL3⟩ : ∃ M, L2 ++ numL (zz (l2.length : Int)) = M := ⟨_, rfl⟩
  rw [hL3] at HW
  have HB3 : Hid (w3.heap[wb]? = some (OutC L3 bad)) := by show _ = _; rw [← hL3]; first | exact h3 | (simp only [codeF]; exact h3)
  have HG3 := Lib.hid (only_trans HG2.out g3)
  have HX3 := Lib.hid (blk_only HX2.out g3 hbx)
  have s3 := g3.size
  clear hL3 h3 g3 HB2 HG2 HX2
  have ck := blk_cell HX3.out
  have lx := blk_lt HX3.out
  go_wp2_with fail
  clear ck
  go_loopw [4] (fun x wr => ∃ (j : Nat) (M : List UInt8), j ≤ l2.length ∧ x = .int .i64 j ∧ Hid (StW T M ((l2.drop j).flatten ++ (r.drop 3 ++ []))) ∧ Hid (wr.heap[wb]? = some (OutC M bad)) ∧ Hid (wr.heap[w.heap.size]? = some (.cells cs.toArray 57 (0, 0))) ∧ Hid (w.grownBy wr (some wb)) ∧ w.heap.size < wr.heap.size) (fun x _ => l2.length - (intOf x).toNat)
  case atStart => exact ⟨0, L3, by omega, rfl, HW, HB3, HX3, HG3, lx⟩
  case round =>
    clear HW HB3 HX3 HG3
    obtain ⟨j, L3, hj, rfl, HW, HB3, HX3, HG3, lx⟩ := hrel
    have ck := blk_cell HX3.out
    by_cases hlt : j < l2.length
    case pos =>
      obtain ⟨el, hel⟩ : ∃ e, l2[j]? = some e := ⟨_, List.getElem?_eq_getElem hlt⟩
      obtain ⟨b, ofs, cp, ce, hsl, hcl, hcm, hwl, hve, hI⟩ := LRp.elem R2_.out j el hel
      injection hsl with hsl1 _ hsl2
      subst hsl1 hsl2
      have HEl := Lib.hid hel
      have hwt := Q2_.out el (List.mem_of_getElem? hel)
      have HWt := Lib.hid hwt
      have HVe := Lib.hid hve
      have HIe := Lib.hid hI
      have hce : ce.length = 2 := by rw [VsRp.len _ _ hve, hwl]
      have HCe := Lib.hid hce
      have HIn := Lib.hid (HI.out.only HG3.out HA.out)
      have hbk : b < wr.heap.size := by
        have h0 : 0 < ce.length := by omega
        exact HIn.out.lt (hI 0 ce[0] (List.getElem?_eq_getElem h0))
      replace HW := Lib.hid (StW.next HW.out hel)
      obtain ⟨y0, yp0, yc0, f0, b0, yr0, yk0, ym0, yq0⟩ := get_rows hve hwt 0 9 flat_str cells_str rfl
      obtain ⟨y1, f1, b1⟩ := get_bool hve hwt 1 rfl
      have F0_ := Lib.hid f0
      have YR0_ := Lib.hid yr0
      have YQ0_ := Lib.hid yq0
      have F1_ := Lib.hid f1
      have z0 := hI 0 _ b0
      have Z0 := Lib.hid z0
      have z1 := hI 1 _ b1
      have Z1 := Lib.hid z1
      clear hel hwt hve hI hce z0 b0 z1 b1 f0 yr0 yq0 f1
      have cq := HIn.out _ _ _ Z0.out
      rw [Nat.add_zero] at cq
      go_wp2_with fail
      clear cq
      refine (ostrs_ok y0 _ I wb L3 bad _ YR0_.out YQ0_.out HIn.out HA.out (StW.rws HW.out F0_.out) HB3.out).mono ?_
      replace HW := Lib.hid (StW.leaf HW.out F0_.out (codeF_le _ _ YR0_.out))
      rintro e w4 ⟨rfl, h4, g4⟩
      obtain ⟨L4, hL4⟩ : ∃ M, L3 ++ codeF (.rows 1 y0) = M := ⟨_, rfl⟩
      rw [hL4] at HW
      have HB4 : Hid (w4.heap[wb]? = some (OutC L4 bad)) := by show _ = _; rw [← hL4]; first | exact h4 | (simp only [codeF]; exact h4)
      have HG4 := Lib.hid (only_trans HG3.out g4)
      have HX4 := Lib.hid (blk_only HX3.out g4 hbx)
      have s4 := g4.size
      clear hL4 h4 g4 HB3 HG3 HX3
      have ck := blk_cell HX4.out
      have lx := blk_lt HX4.out
      have HIn := Lib.hid (HI.out.only HG4.out HA.out)
      have hbk : b < w4.heap.size := by omega
      have cq := HIn.out _ _ _ Z1.out
      go_wp2_with fail
      clear cq
      refine (oflag_ok y1 wb L4 bad _ (by have := StW.len HW.out; omega) HB4.out).mono ?_
      replace HW := Lib.hid (StW.leaf HW.out F1_.out (boolF_le _))
      rintro e w5 ⟨rfl, h5, g5⟩
      obtain ⟨L5, hL5⟩ : ∃ M, L4 ++ codeF (.bool y1) = M := ⟨_, rfl⟩
      rw [hL5] at HW
      have HB5 : Hid (w5.heap[wb]? = some (OutC L5 bad)) := by show _ = _; rw [← hL5]; first | exact h5 | (simp only [codeF]; exact h5)
      have HG5 := Lib.hid (only_trans HG4.out g5)
      have HX5 := Lib.hid (blk_only HX4.out g5 hbx)
      have s5 := g5.size
      clear hL5 h5 g5 HB4 HG4 HX4
      have ck := blk_cell HX5.out
      have lx := blk_lt HX5.out
      replace HW := Lib.hid (StW.done HW.out (by omega))
      have lx2 : w.heap.size < w5.heap.size := lx
      go_wp2_with fail
      exact ⟨⟨j + 1, L5, by omega, by go_num, HW, HB5, HX5, HG5, lx2⟩, by simp [intOf]; omega⟩
    obtain rfl : j = l2.length := by omega
    replace HW := Lib.hid (StW.rows_done HW.out)
    clear hlt
    go_wp2_with fail
    refine (oflag_ok x3 wb L3 bad _ (by have := StW.len HW.out; omega) HB3.out).mono ?_
    replace HW := Lib.hid (StW.leaf HW.out E3_.out (boolF_le _))
    rintro e w4 ⟨rfl, h4, g4⟩
    obtain ⟨L4, hL4⟩ : ∃ M, L3 ++ codeF (.bool x3) = M := ⟨_, rfl⟩
    rw [hL4] at HW
    have HB4 : Hid (w4.heap[wb]? = some (OutC L4 bad)) := by show _ = _; rw [← hL4]; first | exact h4 | (simp only [codeF]; exact h4)
    have HG4 := Lib.hid (only_trans HG3.out g4)
    have HX4 := Lib.hid (blk_only HX3.out g4 hbx)
    have s4 := g4.size
    clear hL4 h4 g4 HB3 HG3 HX3
    have ck := blk_cell HX4.out
    have lx := blk_lt HX4.out
    go_wp2_with fail
    refine (oflag_ok x4 wb L4 bad _ (by have := StW.len HW.out; omega) HB4.out).mono ?_
    replace HW := Lib.hid (StW.leaf HW.out E4_.out (boolF_le _))
    rintro e w5 ⟨rfl, h5, g5⟩
    obtain ⟨L5, hL5⟩ : ∃ M, L4 ++ codeF (.bool x4) = M := ⟨_, rfl⟩
    rw [hL5] at HW
    have HB5 : Hid (w5.heap[wb]? = some (OutC L5 bad)) := by show _ = _; rw [← hL5]; first | exact h5 | (simp only [codeF]; exact h5)
    have HG5 := Lib.hid (only_trans HG4.out g5)
    have HX5 := Lib.hid (blk_only HX4.out g5 hbx)
    have s5 := g5.size
    clear hL5 h5 g5 HB4 HG4 HX4
    have ck := blk_cell HX5.out
    have lx := blk_lt HX5.out
    go_wp2_with fail
    refine (oflag_ok x5 wb L5 bad _ (by have := StW.len HW.out; omega) HB5.out).mono ?_
    replace HW := Lib.hid (StW.leaf HW.out E5_.out (boolF_le _))
    rintro e w6 ⟨rfl, h6, g6⟩
    obtain ⟨L6, hL6⟩ : ∃ M, L5 ++ codeF (.bool x5) = M := ⟨_, rfl⟩
    rw [hL6] at HW
    have HB6 : Hid (w6.heap[wb]? = some (OutC L6 bad)) := by show _ = _; rw [← hL6]; first | exact h6 | (simp only [codeF]; exact h6)
    have HG6 := Lib.hid (only_trans HG5.out g6)
    have HX6 := Lib.hid (blk_only HX5.out g6 hbx)
    have s6 := g6.size
    clear hL6 h6 g6 HB5 HG5 HX5
    have ck := blk_cell HX6.out
    have lx := blk_lt HX6.out
    have rg := rg_box HX6.out 6 25
    have li := sz_of info_Pred (len_sub HLEN.out 6 25 (by omega))
    obtain ⟨cx6, hcx⟩ : ∃ c, (cs.drop 6).take 25 = c := ⟨_, rfl⟩
    rw [hcx] at rg li V6_
    clear hcx
    go_wp2_with (refine wpList_load_mid rfl 55 _ rfl _ _ rfl _ _ rg Tryd.underlying55 rfl li ?_)
    clear rg li
    obtain ⟨hb6, hw6⟩ := StW.sub 25 HW.out (codeL_le _ _ V6_.out)
    refine (opred_ok ((r.drop 6).take 25) I _ wb L6 bad _ T6_.out V6_.out (HI.out.only HG6.out HA.out) HA.out hb6 HB6.out).mono ?_
    replace HW := Lib.hid hw6
    clear hb6 hw6
    rintro e w7 ⟨rfl, h7, g7⟩
    obtain ⟨L7, hL7⟩ : ∃ M, L6 ++ codeL ((r.drop 6).take 25) = M := ⟨_, rfl⟩
    rw [hL7] at HW
    have HB7 : Hid (w7.heap[wb]? = some (OutC L7 bad)) := by show _ = _; rw [← hL7]; first | exact h7 | (simp only [codeF]; exact h7)
    have HG7 := Lib.hid (only_trans HG6.out g7)
    have HX7 := Lib.hid (blk_only HX6.out g7 hbx)
    have s7 := g7.size
    clear hL7 h7 g7 HB6 HG6 HX6
    have ck := blk_cell HX7.out
    have lx := blk_lt HX7.out
    go_wp2_with fail
    go_end0
    obtain rfl := StW.end_ (StW.done HW.out (by rw [HRL.out]; omega))
    exact ⟨rfl, by rw [HT.out]; exact HB7.out, HG7.out⟩
theorem oindex_ok (r : List Lf) : Oindex r := by
  have : ∀ n (r : List Lf), bulkL r = n → Oindex r := by
    intro n
    induction n using Nat.strongRecOn with
    | _ n ih => intro r hr; exact oindex_step r (fun e he => ih (bulkL e) (by rw [← hr]; exact he) e rfl)
  exact this _ r rfl
def Oschema (r : List Lf) : Prop := ∀ (I : Gh) (cs : List Value) (wb : Nat) (L : List UInt8) (bad : Bool) (w : World), WTr Tryd.prog r fSchema → VsRp I r cs → Inv I w → Av I wb → L.length + 12 * bulkL r ≤ 562949953421312 → w.heap[wb]? = some (OutC L bad) →
  Calls Tryd.prog 61 #[.pointer (some ⟨wb, 0, none⟩), .agg cs.toArray] w (OutPost wb L bad (codeL r) w)
set_option maxRecDepth 20000 in
set_option maxHeartbeats 4000000 in
theorem oschema_step (r : List Lf) (ih : ∀ e, bulkL e < bulkL r → Oschema e) : Oschema r := by
  intro I cs wb L0 bad w hw hv hi ha hb h
  obtain ⟨x0, e0, a0, i0⟩ := get_int hv hw 0 rfl
  obtain ⟨x1, e1, a1⟩ := get_bool hv hw 1 rfl
  have v2 := VsRp.take 5 _ _ (VsRp.drop 2 _ _ hv)
  have t2 : WTr Tryd.prog ((r.drop 2).take 5) fVal := WTr.take 5 _ _ (WTr.drop 2 _ _ hw)
  obtain ⟨x7, e7, a7⟩ := get_bool hv hw 7 rfl
  have v8 := VsRp.take 5 _ _ (VsRp.drop 8 _ _ hv)
  have t8 : WTr Tryd.prog ((r.drop 8).take 5) fVal := WTr.take 5 _ _ (WTr.drop 8 _ _ hw)
  obtain ⟨l13, p13, c13, e13, a13, r13, k13, m13, q13⟩ := get_rows hv hw 13 37 flat_Val cells_Val rfl
  obtain ⟨x14, e14, a14, i14⟩ := get_int hv hw 14 rfl
  obtain ⟨x15, e15, a15, i15⟩ := get_int hv hw 15 rfl
  obtain ⟨l16, p16, c16, e16, a16, r16, k16, m16, q16⟩ := get_rows hv hw 16 9 flat_str cells_str rfl
  obtain ⟨l17, p17, c17, e17, a17, r17, k17, m17, q17⟩ := get_rows hv hw 17 129 flat_Prop cells_Prop rfl
  obtain ⟨x18, e18, a18⟩ := get_bool hv hw 18 rfl
  obtain ⟨l19, p19, c19, e19, a19, r19, k19, m19, q19⟩ := get_rows hv hw 19 43 flat_Schema cells_Schema rfl
  obtain ⟨x20, e20, a20⟩ := get_bool hv hw 20 rfl
  have hlen : cs.length = 21 := by rw [VsRp.len _ _ hv, WTr.len _ _ hw]; rfl
  have hrl : r.length = 21 := by rw [WTr.len _ _ hw]; rfl
  have HW := Lib.hid (StW.start hb)
  obtain ⟨T, hT⟩ : ∃ T, L0 ++ codeL r = T := ⟨_, rfl⟩
  have HT := Lib.hid hT
  rw [hT] at HW
  clear hT hb hw hv
  have hlt := blk_lt h
  have hbx : w.heap.size ≠ wb := by omega
  have H := Lib.hid h
  have HI := Lib.hid hi
  have HA := Lib.hid ha
  have HIH := Lib.hid ih
  have HRL := Lib.hid hrl
  have HLEN := Lib.hid hlen
  clear hlen
  have n13 := i64_len k13 m13
  unfold maxLen at m13
  have n16 := i64_len k16 m16
  unfold maxLen at m16
  have n17 := i64_len k17 m17
  unfold maxLen at m17
  have n19 := i64_len k19 m19
  unfold maxLen at m19
  have E0_ := Lib.hid e0
  have I0_ := Lib.hid i0
  have E1_ := Lib.hid e1
  have V2_ := Lib.hid v2
  have T2_ := Lib.hid t2
  have E7_ := Lib.hid e7
  have V8_ := Lib.hid v8
  have T8_ := Lib.hid t8
  have E13_ := Lib.hid e13
  have R13_ := Lib.hid r13
  have Q13_ := Lib.hid q13
  have N13_ := Lib.hid n13
  have E14_ := Lib.hid e14
  have I14_ := Lib.hid i14
  have E15_ := Lib.hid e15
  have I15_ := Lib.hid i15
  have E16_ := Lib.hid e16
  have R16_ := Lib.hid r16
  have Q16_ := Lib.hid q16
  have N16_ := Lib.hid n16
  have E17_ := Lib.hid e17
  have R17_ := Lib.hid r17
  have Q17_ := Lib.hid q17
  have N17_ := Lib.hid n17
  have E18_ := Lib.hid e18
  have E19_ := Lib.hid e19
  have R19_ := Lib.hid r19
  have Q19_ := Lib.hid q19
  have N19_ := Lib.hid n19
  have E20_ := Lib.hid e20
  clear h hi ha ih hrl e0 i0 e1 v2 t2 e7 v8 t8 e13 r13 q13 n13 e14 i14 e15 i15 e16 r16 q16 n16 e17 r17 q17 n17 e18 e19 r19 q19 n19 e20
  go_enter Tryd.func61, Tryd.ntmps61
  go_wp2_with fail
  have HB0 := Lib.hid (blk_alloc H.out (.cells cs.toArray 43))
  have HX0 := Lib.hid (blk_at0 w (.cells cs.toArray 43))
  have HG0 : Hid (w.grownBy (w.alloc (.cells cs.toArray 43)) (some wb)) := only_alloc (World.grownBy.refl _ _) _
  refine (onum_ok x0 wb L0 bad _ I0_.out (by have := StW.len HW.out; omega) HB0.out).mono ?_
  replace HW := Lib.hid (StW.leaf HW.out E0_.out (intF_le I0_.out))
  rintro e w1 ⟨rfl, h1, g1⟩
  obtain ⟨L1, hL1⟩ : ∃ M, L0 ++ codeF (.int .i64 x0) = M := ⟨_, rfl⟩
  rw [hL1] at HW
  have HB1 : Hid (w1.heap[wb]? = some (OutC L1 bad)) := by show _ = _; rw [← hL1]; first | exact h1 | (simp only [codeF]; exact h1)
  have HG1 := Lib.hid (only_trans HG0.out g1)
  have HX1 := Lib.hid (blk_only HX0.out g1 hbx)
  have s1 := g1.size
  clear hL1 h1 g1 HB0 HG0 HX0
  have ck := blk_cell HX1.out
  have lx := blk_lt HX1.out
  go_wp2_with fail
  refine (oflag_ok x1 wb L1 bad _ (by have := StW.len HW.out; omega) HB1.out).mono ?_
  replace HW := Lib.hid (StW.leaf HW.out E1_.out (boolF_le _))
  rintro e w2 ⟨rfl, h2, g2⟩
  obtain ⟨L2, hL2⟩ : ∃ M, L1 ++ codeF (.bool x1) = M := ⟨_, rfl⟩
  rw [hL2] at HW
  have HB2 : Hid (w2.heap[wb]? = some (OutC L2 bad)) := by show _ = _; rw [← hL2]; first | exact h2 | (simp only [codeF]; exact h2)
  have HG2 := Lib.hid (only_trans HG1.out g2)
  have HX2 := Lib.hid (blk_only HX1.out g2 hbx)
  have s2 := g2.size
  clear hL2 h2 g2 HB1 HG1 HX1
  have ck := blk_cell HX2.out
  have lx := blk_lt HX2.out
  have rg := rg_box HX2.out 2 5
  have li := sz_of info_Val (len_sub HLEN.out 2 5 (by omega))
  obtain ⟨cx2, hcx⟩ : ∃ c, (cs.drop 2).take 5 = c := ⟨_, rfl⟩
  rw [hcx] at rg li V2_
  clear hcx
  go_wp2_with (refine wpList_load_mid rfl 37 _ rfl _ _ rfl _ _ rg Tryd.underlying37 rfl li ?_)
  clear rg li
  obtain ⟨hb2, hw2⟩ := StW.sub 5 HW.out (codeL_le _ _ V2_.out)
  refine (ovalue_ok ((r.drop 2).take 5) I _ wb L2 bad _ T2_.out V2_.out (HI.out.only HG2.out HA.out) HA.out hb2 HB2.out).mono ?_
  replace HW := Lib.hid hw2
  clear hb2 hw2
  rintro e w3 ⟨rfl, h3, g3⟩
  obtain ⟨L3, hL3⟩ : ∃ M, L2 ++ codeL ((r.drop 2).take 5) = M := ⟨_, rfl⟩
  rw [hL3] at HW
  have HB3 : Hid (w3.heap[wb]? = some (OutC L3 bad)) := by show _ = _; rw [← hL3]; first | exact h3 | (simp only [codeF]; exact h3)
  have HG3 := Lib.hid (only_trans HG2.out g3)
  have HX3 := Lib.hid (blk_only HX2.out g3 hbx)
  have s3 := g3.size
  clear hL3 h3 g3 HB2 HG2 HX2
  have ck := blk_cell HX3.out
  have lx := blk_lt HX3.out
  go_wp2_with fail
  refine (oflag_ok x7 wb L3 bad _ (by have := StW.len HW.out; omega) HB3.out).mono ?_
  replace HW := Lib.hid (StW.leaf HW.out E7_.out (boolF_le _))
  rintro e w4 ⟨rfl, h4, g4⟩
  obtain ⟨L4, hL4⟩ : ∃ M, L3 ++ codeF (.bool x7) = M := ⟨_, rfl⟩
  rw [hL4] at HW
  have HB4 : Hid (w4.heap[wb]? = some (OutC L4 bad)) := by show _ = _; rw [← hL4]; first | exact h4 | (simp only [codeF]; exact h4)
  have HG4 := Lib.hid (only_trans HG3.out g4)
  have HX4 := Lib.hid (blk_only HX3.out g4 hbx)
  have s4 := g4.size
  clear hL4 h4 g4 HB3 HG3 HX3
  have ck := blk_cell HX4.out
  have lx := blk_lt HX4.out
  have rg := rg_box HX4.out 8 5
  have li := sz_of info_Val (len_sub HLEN.out 8 5 (by omega))
  obtain ⟨cx8, hcx⟩ : ∃ c, (cs.drop 8).take 5 = c := ⟨_, rfl⟩
  rw [hcx] at rg li V8_
  clear hcx
  go_wp2_with (refine wpList_load_mid rfl 37 _ rfl _ _ rfl _ _ rg Tryd.underlying37 rfl li ?_)
  clear rg li
  obtain ⟨hb8, hw8⟩ := StW.sub 5 HW.out (codeL_le _ _ V8_.out)
  refine (ovalue_ok ((r.drop 8).take 5) I _ wb L4 bad _ T8_.out V8_.out (HI.out.only HG4.out HA.out) HA.out hb8 HB4.out).mono ?_
  replace HW := Lib.hid hw8
  clear hb8 hw8
  rintro e w5 ⟨rfl, h5, g5⟩
  obtain ⟨L5, hL5⟩ : ∃ M, L4 ++ codeL ((r.drop 8).take 5) = M := ⟨_, rfl⟩
  rw [hL5] at HW
  have HB5 : Hid (w5.heap[wb]? = some (OutC L5 bad)) := by show _ = _; rw [← hL5]; first | exact h5 | (simp only [codeF]; exact h5)
  have HG5 := Lib.hid (only_trans HG4.out g5)
  have HX5 := Lib.hid (blk_only HX4.out g5 hbx)
  have s5 := g5.size
  clear hL5 h5 g5 HB4 HG4 HX4
  have ck := blk_cell HX5.out
  have lx := blk_lt HX5.out
  go_wp2_with fail
  refine (ovalues_ok l13 _ I wb L5 bad _ R13_.out Q13_.out (HI.out.only HG5.out HA.out) HA.out (StW.rws HW.out E13_.out) HB5.out).mono ?_
  replace HW := Lib.hid (StW.leaf HW.out E13_.out (codeF_le _ _ R13_.out))
  rintro e w6 ⟨rfl, h6, g6⟩
  obtain ⟨L6, hL6⟩ : ∃ M, L5 ++ codeF (.rows 5 l13) = M := ⟨_, rfl⟩
  rw [hL6] at HW
  have HB6 : Hid (w6.heap[wb]? = some (OutC L6 bad)) := by show _ = _; rw [← hL6]; first | exact h6 | (simp only [codeF]; exact h6)
  have HG6 := Lib.hid (only_trans HG5.out g6)
  have HX6 := Lib.hid (blk_only HX5.out g6 hbx)
  have s6 := g6.size
  clear hL6 h6 g6 HB5 HG5 HX5
  have ck := blk_cell HX6.out
  have lx := blk_lt HX6.out
  go_wp2_with fail
  refine (onum_ok x14 wb L6 bad _ I14_.out (by have := StW.len HW.out; omega) HB6.out).mono ?_
  replace HW := Lib.hid (StW.leaf HW.out E14_.out (intF_le I14_.out))
  rintro e w7 ⟨rfl, h7, g7⟩
  obtain ⟨L7, hL7⟩ : ∃ M, L6 ++ codeF (.int .i64 x14) = M := ⟨_, rfl⟩
  rw [hL7] at HW
  have HB7 : Hid (w7.heap[wb]? = some (OutC L7 bad)) := by show _ = _; rw [← hL7]; first | exact h7 | (simp only [codeF]; exact h7)
  have HG7 := Lib.hid (only_trans HG6.out g7)
  have HX7 := Lib.hid (blk_only HX6.out g7 hbx)
  have s7 := g7.size
  clear hL7 h7 g7 HB6 HG6 HX6
  have ck := blk_cell HX7.out
  have lx := blk_lt HX7.out
  go_wp2_with fail
  refine (onum_ok x15 wb L7 bad _ I15_.out (by have := StW.len HW.out; omega) HB7.out).mono ?_
  replace HW := Lib.hid (StW.leaf HW.out E15_.out (intF_le I15_.out))
  rintro e w8 ⟨rfl, h8, g8⟩
  obtain ⟨L8, hL8⟩ : ∃ M, L7 ++ codeF (.int .i64 x15) = M := ⟨_, rfl⟩
  rw [hL8] at HW
  have HB8 : Hid (w8.heap[wb]? = some (OutC L8 bad)) := by show _ = _; rw [← hL8]; first | exact h8 | (simp only [codeF]; exact h8)
  have HG8 := Lib.hid (only_trans HG7.out g8)
  have HX8 := Lib.hid (blk_only HX7.out g8 hbx)
  have s8 := g8.size
  clear hL8 h8 g8 HB7 HG7 HX7
  have ck := blk_cell HX8.out
  have lx := blk_lt HX8.out
  go_wp2_with fail
  refine (ostrs_ok l16 _ I wb L8 bad _ R16_.out Q16_.out (HI.out.only HG8.out HA.out) HA.out (StW.rws HW.out E16_.out) HB8.out).mono ?_
  replace HW := Lib.hid (StW.leaf HW.out E16_.out (codeF_le _ _ R16_.out))
  rintro e w9 ⟨rfl, h9, g9⟩
  obtain ⟨L9, hL9⟩ : ∃ M, L8 ++ codeF (.rows 1 l16) = M := ⟨_, rfl⟩
  rw [hL9] at HW
  have HB9 : Hid (w9.heap[wb]? = some (OutC L9 bad)) := by show _ = _; rw [← hL9]; first | exact h9 | (simp only [codeF]; exact h9)
  have HG9 := Lib.hid (only_trans HG8.out g9)
  have HX9 := Lib.hid (blk_only HX8.out g9 hbx)
  have s9 := g9.size
  clear hL9 h9 g9 HB8 HG8 HX8
  have ck := blk_cell HX9.out
  have lx := blk_lt HX9.out
  go_wp2_with fail
  refine (onum_ok _ wb L9 bad _ N17_.out (by have := StW.len HW.out; omega) HB9.out).mono ?_
  replace HW := Lib.hid (StW.rows HW.out E17_.out (zz_le _ (by have := N17_.out; unfold I64 at this; omega)))
  rintro e w10 ⟨rfl, h10, g10⟩
  obtain ⟨L10, hL10⟩ : ∃ M, L9 ++ numL (zz (l17.length : Int)) = M := ⟨_, rfl⟩
  rw [hL10] at HW
  have HB10 : Hid (w10.heap[wb]? = some (OutC L10 bad)) := by show _ = _; rw [← hL10]; first | exact h10 | (simp only [codeF]; exact h10)
  have HG10 := Lib.hid (only_trans HG9.out g10)
  have HX10 := Lib.hid (blk_only HX9.out g10 hbx)
  have s10 := g10.size
  clear hL10 h10 g10 HB9 HG9 HX9
  have ck := blk_cell HX10.out
  have lx := blk_lt HX10.out
  go_wp2_with fail
  clear ck
  go_loopw [4] (fun x wr => ∃ (j : Nat) (M : List UInt8), j ≤ l17.length ∧ x = .int .i64 j ∧ Hid (StW T M ((l17.drop j).flatten ++ (r.drop 18 ++ []))) ∧ Hid (wr.heap[wb]? = some (OutC M bad)) ∧ Hid (wr.heap[w.heap.size]? = some (.cells cs.toArray 43 (0, 0))) ∧ Hid (w.grownBy wr (some wb)) ∧ w.heap.size < wr.heap.size) (fun x _ => l17.length - (intOf x).toNat)
  case atStart => exact ⟨0, L10, by omega, rfl, HW, HB10, HX10, HG10, lx⟩
  case round =>
    clear HW HB10 HX10 HG10
    obtain ⟨j, L10, hj, rfl, HW, HB10, HX10, HG10, lx⟩ := hrel
    have ck := blk_cell HX10.out
    by_cases hlt : j < l17.length
    case pos =>
      obtain ⟨el, hel⟩ : ∃ e, l17[j]? = some e := ⟨_, List.getElem?_eq_getElem hlt⟩
      obtain ⟨b, ofs, cp, ce, hsl, hcl, hcm, hwl, hve, hI⟩ := LRp.elem R17_.out j el hel
      injection hsl with hsl1 _ hsl2
      subst hsl1 hsl2
      have HEl := Lib.hid hel
      have hwt := Q17_.out el (List.mem_of_getElem? hel)
      have HWt := Lib.hid hwt
      have HVe := Lib.hid hve
      have HIe := Lib.hid hI
      have hce : ce.length = 22 := by rw [VsRp.len _ _ hve, hwl]
      have HCe := Lib.hid hce
      have HIn := Lib.hid (HI.out.only HG10.out HA.out)
      have hbk : b < wr.heap.size := by
        have h0 : 0 < ce.length := by omega
        exact HIn.out.lt (hI 0 ce[0] (List.getElem?_eq_getElem h0))
      replace HW := Lib.hid (StW.next HW.out hel)
      obtain ⟨y0, f0, b0⟩ := get_str hve hwt 0 rfl
      have yv1 := VsRp.take 21 _ _ (VsRp.drop 1 _ _ hve)
      have yt1 : WTr Tryd.prog ((el.drop 1).take 21) fSchema := WTr.take 21 _ _ (WTr.drop 1 _ _ hwt)
      have F0_ := Lib.hid f0
      have YV1_ := Lib.hid yv1
      have YT1_ := Lib.hid yt1
      have z0 := hI 0 _ b0
      have Z0 := Lib.hid z0
      have hI1 := hI_sub hI 1 21
      have HI1 := Lib.hid hI1
      clear hel hwt hve hI hce z0 b0 hI1 f0 yv1 yt1
      have cq := HIn.out _ _ _ Z0.out
      rw [Nat.add_zero] at cq
      go_wp2_with fail
      clear cq
      refine (ostr_ok y0 wb L10 bad _ (StW.str HW.out F0_.out) (by have := StW.len HW.out; omega) HB10.out).mono ?_
      replace HW := Lib.hid (StW.leaf HW.out F0_.out (strF_le (StW.str HW.out F0_.out)))
      rintro e w11 ⟨rfl, h11, g11⟩
      obtain ⟨L11, hL11⟩ : ∃ M, L10 ++ codeF (.str y0) = M := ⟨_, rfl⟩
      rw [hL11] at HW
      have HB11 : Hid (w11.heap[wb]? = some (OutC L11 bad)) := by show _ = _; rw [← hL11]; first | exact h11 | (simp only [codeF]; exact h11)
      have HG11 := Lib.hid (only_trans HG10.out g11)
      have HX11 := Lib.hid (blk_only HX10.out g11 hbx)
      have s11 := g11.size
      clear hL11 h11 g11 HB10 HG10 HX10
      have ck := blk_cell HX11.out
      have lx := blk_lt HX11.out
      have HIn := Lib.hid (HI.out.only HG11.out HA.out)
      have hbk : b < w11.heap.size := by omega
      have rg := rg_el (o := ofs + j * 22 + 1) HIn.out HI1.out
      have li := sz_of info_Schema (len_sub HCe.out 1 21 (by omega))
      obtain ⟨cy1, hcy⟩ : ∃ c, (ce.drop 1).take 21 = c := ⟨_, rfl⟩
      rw [hcy] at rg li YV1_
      clear hcy
      have hsub : bulkL ((el.drop 1).take 21) < bulkL r := Nat.lt_of_le_of_lt (bulk_sub el 1 21) (elem_lt E17_.out HEl.out)
      go_wp2_with (refine wpList_load_mid rfl 43 _ rfl _ _ rfl _ _ rg Tryd.underlying43 rfl li ?_)
      clear rg li
      obtain ⟨hb1, hw1⟩ := StW.sub 21 HW.out (codeL_le _ _ YV1_.out)
      refine (HIH.out ((el.drop 1).take 21) hsub I _ wb L11 bad _ YT1_.out YV1_.out HIn.out HA.out hb1 HB11.out).mono ?_
      replace HW := Lib.hid hw1
      clear hb1 hw1
      rintro e w12 ⟨rfl, h12, g12⟩
      obtain ⟨L12, hL12⟩ : ∃ M, L11 ++ codeL ((el.drop 1).take 21) = M := ⟨_, rfl⟩
      rw [hL12] at HW
      have HB12 : Hid (w12.heap[wb]? = some (OutC L12 bad)) := by show _ = _; rw [← hL12]; first | exact h12 | (simp only [codeF]; exact h12)
      have HG12 := Lib.hid (only_trans HG11.out g12)
      have HX12 := Lib.hid (blk_only HX11.out g12 hbx)
      have s12 := g12.size
      clear hL12 h12 g12 HB11 HG11 HX11
      have ck := blk_cell HX12.out
      have lx := blk_lt HX12.out
      replace HW := Lib.hid (StW.done HW.out (by omega))
      have lx2 : w.heap.size < w12.heap.size := lx
      go_wp2_with fail
      exact ⟨⟨j + 1, L12, by omega, by go_num, HW, HB12, HX12, HG12, lx2⟩, by simp [intOf]; omega⟩
    obtain rfl : j = l17.length := by omega
    replace HW := Lib.hid (StW.rows_done HW.out)
    clear hlt
    go_wp2_with fail
    refine (oflag_ok x18 wb L10 bad _ (by have := StW.len HW.out; omega) HB10.out).mono ?_
    replace HW := Lib.hid (StW.leaf HW.out E18_.out (boolF_le _))
    rintro e w11 ⟨rfl, h11, g11⟩
    obtain ⟨L11, hL11⟩ : ∃ M, L10 ++ codeF (.bool x18) = M := ⟨_, rfl⟩
    rw [hL11] at HW
    have HB11 : Hid (w11.heap[wb]? = some (OutC L11 bad)) := by show _ = _; rw [← hL11]; first | exact h11 | (simp only [codeF]; exact h11)
    have HG11 := Lib.hid (only_trans HG10.out g11)
    have HX11 := Lib.hid (blk_only HX10.out g11 hbx)
    have s11 := g11.size
    clear hL11 h11 g11 HB10 HG10 HX10
    have ck := blk_cell HX11.out
    have lx := blk_lt HX11.out
    go_wp2_with fail
    refine (onum_ok _ wb L11 bad _ N19_.out (by have := StW.len HW.out; omega) HB11.out).mono ?_
    replace HW := Lib.hid (StW.rows HW.out E19_.out (zz_le _ (by have := N19_.out; unfold I64 at this; omega)))
    rintro e w12 ⟨rfl, h12, g12⟩
    obtain ⟨L12, hL12⟩ : ∃ M, L11 ++ numL (zz (l19.length : Int)) = M := ⟨_, rfl⟩
    rw [hL12] at HW
    have HB12 : Hid (w12.heap[wb]? = some (OutC L12 bad)) := by show _ = _; rw [← hL12]; first | exact h12 | (simp only [codeF]; exact h12)
    have HG12 := Lib.hid (only_trans HG11.out g12)
    have HX12 := Lib.hid (blk_only HX11.out g12 hbx)
    have s12 := g12.size
    clear hL12 h12 g12 HB11 HG11 HX11
    have ck := blk_cell HX12.out
    have lx := blk_lt HX12.out
    go_wp2_with fail
    clear ck
    go_loopw [5] (fun x wr => ∃ (j : Nat) (M : List UInt8), j ≤ l19.length ∧ x = .int .i64 j ∧ Hid (StW T M ((l19.drop j).flatten ++ (r.drop 20 ++ []))) ∧ Hid (wr.heap[wb]? = some (OutC M bad)) ∧ Hid (wr.heap[w.heap.size]? = some (.cells cs.toArray 43 (0, 0))) ∧ Hid (w.grownBy wr (some wb)) ∧ w.heap.size < wr.heap.size) (fun x _ => l19.length - (intOf x).toNat)
    case atStart => exact ⟨0, L12, by omega, rfl, HW, HB12, HX12, HG12, lx⟩
    case round =>
      clear HW HB12 HX12 HG12
      obtain ⟨j, L12, hj, rfl, HW, HB12, HX12, HG12, lx⟩ := hrel
      have ck := blk_cell HX12.out
      by_cases hlt : j < l19.length
      case pos =>
        obtain ⟨el, hel⟩ : ∃ e, l19[j]? = some e := ⟨_, List.getElem?_eq_getElem hlt⟩
        obtain ⟨b, ofs, cp, ce, hsl, hcl, hcm, hwl, hve, hI⟩ := LRp.elem R19_.out j el hel
        injection hsl with hsl1 _ hsl2
        subst hsl1 hsl2
        have HEl := Lib.hid hel
        have hwt := Q19_.out el (List.mem_of_getElem? hel)
        have HWt := Lib.hid hwt
        have HVe := Lib.hid hve
        have HIe := Lib.hid hI
        have hce : ce.length = 21 := by rw [VsRp.len _ _ hve, hwl]
        have HCe := Lib.hid hce
        have HIn := Lib.hid (HI.out.only HG12.out HA.out)
        have hbk : b < wr.heap.size := by
          have h0 : 0 < ce.length := by omega
          exact HIn.out.lt (hI 0 ce[0] (List.getElem?_eq_getElem h0))
        replace HW := Lib.hid (StW.next HW.out hel)
        have rg := rg_el (o := ofs + j * 21) HIn.out hI
        have li := sz_of info_Schema hce
        clear hel hwt hve hI hce
        go_wp2_with (refine wpList_load_mid rfl 43 _ rfl _ _ rfl _ _ rg Tryd.underlying43 rfl li ?_)
        clear rg li
        refine (HIH.out el (elem_lt E19_.out HEl.out) I ce wb L12 bad _ HWt.out HVe.out HIn.out HA.out (StW.row HW.out) HB12.out).mono ?_
        replace HW := Lib.hid (StW.whole HW.out (codeL_le _ _ HVe.out))
        rintro e w13 ⟨rfl, h13, g13⟩
        obtain ⟨L13, hL13⟩ : ∃ M, L12 ++ codeL el = M := ⟨_, rfl⟩
        rw [hL13] at HW
        have HB13 : Hid (w13.heap[wb]? = some (OutC L13 bad)) := by show _ = _; rw [← hL13]; first | exact h13 | (simp only [codeF]; exact h13)
        have HG13 := Lib.hid (only_trans HG12.out g13)
        have HX13 := Lib.hid (blk_only HX12.out g13 hbx)
        have s13 := g13.size
        clear hL13 h13 g13 HB12 HG12 HX12
        have ck := blk_cell HX13.out
        have lx := blk_lt HX13.out
        have lx2 : w.heap.size < w13.heap.size := lx
        go_wp2_with fail
        exact ⟨⟨j + 1, L13, by omega, by go_num, HW, HB13, HX13, HG13, lx2⟩, by simp [intOf]; omega⟩
      obtain rfl : j = l19.length := by omega
      replace HW := Lib.hid (StW.rows_done HW.out)
      clear hlt
      go_wp2_with fail
      refine (oflag_ok x20 wb L12 bad _ (by have := StW.len HW.out; omega) HB12.out).mono ?_
      replace HW := Lib.hid (StW.leaf HW.out E20_.out (boolF_le _))
      rintro e w13 ⟨rfl, h13, g13⟩
      obtain ⟨L13, hL13⟩ : ∃ M, L12 ++ codeF (.bool x20) = M := ⟨_, rfl⟩
      rw [hL13] at HW
      have HB13 : Hid (w13.heap[wb]? = some (OutC L13 bad)) := by show _ = _; rw [← hL13]; first | exact h13 | (simp only [codeF]; exact h13)
      have HG13 := Lib.hid (only_trans HG12.out g13)
      have HX13 := Lib.hid (blk_only HX12.out g13 hbx)
      have s13 := g13.size
      clear hL13 h13 g13 HB12 HG12 HX12
      have ck := blk_cell HX13.out
      have lx := blk_lt HX13.out
      go_wp2_with fail
      go_end0
      obtain rfl := StW.end_ (StW.done HW.out (by rw [HRL.out]; omega))
      exact ⟨rfl, by rw [HT.out]; exact HB13.out, HG13.out⟩
theorem oschema_ok (r : List Lf) : Oschema r := by
  have : ∀ n (r : List Lf), bulkL r = n → Oschema r := by
    intro n
    induction n using Nat.strongRecOn with
    | _ n ih => intro r hr; exact oschema_step r (fun e he => ih (bulkL e) (by rw [← hr]; exact he) e rfl)
  exact this _ r rfl
def Ospace (r : List Lf) : Prop := ∀ (I : Gh) (cs : List Value) (wb : Nat) (L : List UInt8) (bad : Bool) (w : World), WTr Tryd.prog r fSpace → VsRp I r cs → Inv I w → Av I wb → L.length + 12 * bulkL r ≤ 562949953421312 → w.heap[wb]? = some (OutC L bad) →
  Calls Tryd.prog 50 #[.pointer (some ⟨wb, 0, none⟩), .agg cs.toArray] w (OutPost wb L bad (codeL r) w)
set_option maxRecDepth 20000 in
set_option maxHeartbeats 4000000 in
theorem ospace_step (r : List Lf) (ih : ∀ e, bulkL e < bulkL r → Ospace e) : Ospace r := by
  intro I cs wb L0 bad w hw hv hi ha hb h
  obtain ⟨x0, e0, a0⟩ := get_str hv hw 0 rfl
  obtain ⟨l1, p1, c1, e1, a1, r1, k1, m1, q1⟩ := get_rows hv hw 1 57 flat_Index cells_Index rfl
  have v2 := VsRp.take 21 _ _ (VsRp.drop 2 _ _ hv)
  have t2 : WTr Tryd.prog ((r.drop 2).take 21) fSchema := WTr.take 21 _ _ (WTr.drop 2 _ _ hw)
  obtain ⟨x23, e23, a23, i23⟩ := get_int hv hw 23 rfl
  obtain ⟨x24, e24, a24, i24⟩ := get_int hv hw 24 rfl
  have hlen : cs.length = 25 := by rw [VsRp.len _ _ hv, WTr.len _ _ hw]; rfl
  have hrl : r.length = 25 := by rw [WTr.len _ _ hw]; rfl
  have HW := Lib.hid (StW.start hb)
  obtain ⟨T, hT⟩ : ∃ T, L0 ++ codeL r = T := ⟨_, rfl⟩
  have HT := Lib.hid hT
  rw [hT] at HW
  clear hT hb hw hv
  have hlt := blk_lt h
  have hbx : w.heap.size ≠ wb := by omega
  have H := Lib.hid h
  have HI := Lib.hid hi
  have HA := Lib.hid ha
  have HIH := Lib.hid ih
  have HRL := Lib.hid hrl
  have HLEN := Lib.hid hlen
  clear hlen
  have n1 := i64_len k1 m1
  unfold maxLen at m1
  have E0_ := Lib.hid e0
  have E1_ := Lib.hid e1
  have R1_ := Lib.hid r1
  have Q1_ := Lib.hid q1
  have N1_ := Lib.hid n1
  have V2_ := Lib.hid v2
  have T2_ := Lib.hid t2
  have E23_ := Lib.hid e23
  have I23_ := Lib.hid i23
  have E24_ := Lib.hid e24
  have I24_ := Lib.hid i24
  clear h hi ha ih hrl e0 e1 r1 q1 n1 v2 t2 e23 i23 e24 i24
  go_enter Tryd.func50, Tryd.ntmps50
  go_wp2_with fail
  have HB0 := Lib.hid (blk_alloc H.out (.cells cs.toArray 45))
  have HX0 := Lib.hid (blk_at0 w (.cells cs.toArray 45))
  have HG0 : Hid (w.grownBy (w.alloc (.cells cs.toArray 45)) (some wb)) := only_alloc (World.grownBy.refl _ _) _
  refine (ostr_ok x0 wb L0 bad _ (StW.str HW.out E0_.out) (by have := StW.len HW.out; omega) HB0.out).mono ?_
  replace HW := Lib.hid (StW.leaf HW.out E0_.out (strF_le (StW.str HW.out E0_.out)))
  rintro e w1 ⟨rfl, h1, g1⟩
  obtain ⟨L1, hL1⟩ : ∃ M, L0 ++ codeF (.str x0) = M := ⟨_, rfl⟩
  rw [hL1] at HW
  have HB1 : Hid (w1.heap[wb]? = some (OutC L1 bad)) := by show _ = _; rw [← hL1]; first | exact h1 | (simp only [codeF]; exact h1)
  have HG1 := Lib.hid (only_trans HG0.out g1)
  have HX1 := Lib.hid (blk_only HX0.out g1 hbx)
  have s1 := g1.size
  clear hL1 h1 g1 HB0 HG0 HX0
  have ck := blk_cell HX1.out
  have lx := blk_lt HX1.out
  go_wp2_with fail
  refine (onum_ok _ wb L1 bad _ N1_.out (by have := StW.len HW.out; omega) HB1.out).mono ?_
  replace HW := Lib.hid (StW.rows HW.out E1_.out (zz_le _ (by have := N1_.out; unfold I64 at this; omega)))
  rintro e w2 ⟨rfl, h2, g2⟩
  obtain ⟨L2, hL2⟩ : ∃ M, L1 ++ numL (zz (l1.length : Int)) = M := ⟨_, rfl⟩
  rw [hL2] at HW
  have HB2 : Hid (w2.heap[wb]? = some (OutC L2 bad)) := by show _ = _; rw [← hL2]; first | exact h2 | (simp only [codeF]; exact h2)
  have HG2 := Lib.hid (only_trans HG1.out g2)
  have HX2 := Lib.hid (blk_only HX1.out g2 hbx)
  have s2 := g2.size
  clear hL2 h2 g2 HB1 HG1 HX1
  have ck := blk_cell HX2.out
  have lx := blk_lt HX2.out
  go_wp2_with fail
  clear ck
  go_loopw [4] (fun x wr => ∃ (j : Nat) (M : List UInt8), j ≤ l1.length ∧ x = .int .i64 j ∧ Hid (StW T M ((l1.drop j).flatten ++ (r.drop 2 ++ []))) ∧ Hid (wr.heap[wb]? = some (OutC M bad)) ∧ Hid (wr.heap[w.heap.size]? = some (.cells cs.toArray 45 (0, 0))) ∧ Hid (w.grownBy wr (some wb)) ∧ w.heap.size < wr.heap.size) (fun x _ => l1.length - (intOf x).toNat)
  case atStart => exact ⟨0, L2, by omega, rfl, HW, HB2, HX2, HG2, lx⟩
  case round =>
    clear HW HB2 HX2 HG2
    obtain ⟨j, L2, hj, rfl, HW, HB2, HX2, HG2, lx⟩ := hrel
    have ck := blk_cell HX2.out
    by_cases hlt : j < l1.length
    case pos =>
      obtain ⟨el, hel⟩ : ∃ e, l1[j]? = some e := ⟨_, List.getElem?_eq_getElem hlt⟩
      obtain ⟨b, ofs, cp, ce, hsl, hcl, hcm, hwl, hve, hI⟩ := LRp.elem R1_.out j el hel
      injection hsl with hsl1 _ hsl2
      subst hsl1 hsl2
      have HEl := Lib.hid hel
      have hwt := Q1_.out el (List.mem_of_getElem? hel)
      have HWt := Lib.hid hwt
      have HVe := Lib.hid hve
      have HIe := Lib.hid hI
      have hce : ce.length = 31 := by rw [VsRp.len _ _ hve, hwl]
      have HCe := Lib.hid hce
      have HIn := Lib.hid (HI.out.only HG2.out HA.out)
      have hbk : b < wr.heap.size := by
        have h0 : 0 < ce.length := by omega
        exact HIn.out.lt (hI 0 ce[0] (List.getElem?_eq_getElem h0))
      replace HW := Lib.hid (StW.next HW.out hel)
      have rg := rg_el (o := ofs + j * 31) HIn.out hI
      have li := sz_of info_Index hce
      clear hel hwt hve hI hce
      go_wp2_with (refine wpList_load_mid rfl 57 _ rfl _ _ rfl _ _ rg Tryd.underlying57 rfl li ?_)
      clear rg li
      refine (oindex_ok el I ce wb L2 bad _ HWt.out HVe.out HIn.out HA.out (StW.row HW.out) HB2.out).mono ?_
      replace HW := Lib.hid (StW.whole HW.out (codeL_le _ _ HVe.out))
      rintro e w3 ⟨rfl, h3, g3⟩
      obtain ⟨L3, hL3⟩ : ∃ M, L2 ++ codeL el = M := ⟨_, rfl⟩
      rw [hL3] at HW
      have HB3 : Hid (w3.heap[wb]? = some (OutC L3 bad)) := by show _ = _; rw [← hL3]; first | exact h3 | (simp only [codeF]; exact h3)
      have HG3 := Lib.hid (only_trans HG2.out g3)
      have HX3 := Lib.hid (blk_only HX2.out g3 hbx)
      have s3 := g3.size
      clear hL3 h3 g3 HB2 HG2 HX2
      have ck := blk_cell HX3.out
      have lx := blk_lt HX3.out
      have lx2 : w.heap.size < w3.heap.size := lx
      go_wp2_with fail
      exact ⟨⟨j + 1, L3, by omega, by go_num, HW, HB3, HX3, HG3, lx2⟩, by simp [intOf]; omega⟩
    obtain rfl : j = l1.length := by omega
    replace HW := Lib.hid (StW.rows_done HW.out)
    clear hlt
    have rg := rg_box HX2.out 2 21
    have li := sz_of info_Schema (len_sub HLEN.out 2 21 (by omega))
    obtain ⟨cx2, hcx⟩ : ∃ c, (cs.drop 2).take 21 = c := ⟨_, rfl⟩
    rw [hcx] at rg li V2_
    clear hcx
    go_wp2_with (refine wpList_load_mid rfl 43 _ rfl _ _ rfl _ _ rg Tryd.underlying43 rfl li ?_)
    clear rg li
    obtain ⟨hb2, hw2⟩ := StW.sub 21 HW.out (codeL_le _ _ V2_.out)
    refine (oschema_ok ((r.drop 2).take 21) I _ wb L2 bad _ T2_.out V2_.out (HI.out.only HG2.out HA.out) HA.out hb2 HB2.out).mono ?_
    replace HW := Lib.hid hw2
    clear hb2 hw2
    rintro e w3 ⟨rfl, h3, g3⟩
    obtain ⟨L3, hL3⟩ : ∃ M, L2 ++ codeL ((r.drop 2).take 21) = M := ⟨_, rfl⟩
    rw [hL3] at HW
    have HB3 : Hid (w3.heap[wb]? = some (OutC L3 bad)) := by show _ = _; rw [← hL3]; first | exact h3 | (simp only [codeF]; exact h3)
    have HG3 := Lib.hid (only_trans HG2.out g3)
    have HX3 := Lib.hid (blk_only HX2.out g3 hbx)
    have s3 := g3.size
    clear hL3 h3 g3 HB2 HG2 HX2
    have ck := blk_cell HX3.out
    have lx := blk_lt HX3.out
    go_wp2_with fail
    refine (onum_ok x23 wb L3 bad _ I23_.out (by have := StW.len HW.out; omega) HB3.out).mono ?_
    replace HW := Lib.hid (StW.leaf HW.out E23_.out (intF_le I23_.out))
    rintro e w4 ⟨rfl, h4, g4⟩
    obtain ⟨L4, hL4⟩ : ∃ M, L3 ++ codeF (.int .i64 x23) = M := ⟨_, rfl⟩
    rw [hL4] at HW
    have HB4 : Hid (w4.heap[wb]? = some (OutC L4 bad)) := by show _ = _; rw [← hL4]; first | exact h4 | (simp only [codeF]; exact h4)
    have HG4 := Lib.hid (only_trans HG3.out g4)
    have HX4 := Lib.hid (blk_only HX3.out g4 hbx)
    have s4 := g4.size
    clear hL4 h4 g4 HB3 HG3 HX3
    have ck := blk_cell HX4.out
    have lx := blk_lt HX4.out
    go_wp2_with fail
    refine (onum_ok x24 wb L4 bad _ I24_.out (by have := StW.len HW.out; omega) HB4.out).mono ?_
    replace HW := Lib.hid (StW.leaf HW.out E24_.out (intF_le I24_.out))
    rintro e w5 ⟨rfl, h5, g5⟩
    obtain ⟨L5, hL5⟩ : ∃ M, L4 ++ codeF (.int .i64 x24) = M := ⟨_, rfl⟩
    rw [hL5] at HW
    have HB5 : Hid (w5.heap[wb]? = some (OutC L5 bad)) := by show _ = _; rw [← hL5]; first | exact h5 | (simp only [codeF]; exact h5)
    have HG5 := Lib.hid (only_trans HG4.out g5)
    have HX5 := Lib.hid (blk_only HX4.out g5 hbx)
    have s5 := g5.size
    clear hL5 h5 g5 HB4 HG4 HX4
    have ck := blk_cell HX5.out
    have lx := blk_lt HX5.out
    go_wp2_with fail
    go_end0
    obtain rfl := StW.end_ (StW.done HW.out (by rw [HRL.out]; omega))
    exact ⟨rfl, by rw [HT.out]; exact HB5.out, HG5.out⟩
theorem ospace_ok (r : List Lf) : Ospace r := by
  have : ∀ n (r : List Lf), bulkL r = n → Ospace r := by
    intro n
    induction n using Nat.strongRecOn with
    | _ n ih => intro r hr; exact ospace_step r (fun e he => ih (bulkL e) (by rw [← hr]; exact he) e rfl)
  exact this _ r rfl
def OWrite (r : List Lf) : Prop := ∀ (I : Gh) (cs : List Value) (wb : Nat) (L : List UInt8) (bad : Bool) (w : World), WTr Tryd.prog r fWrite → VsRp I r cs → Inv I w → Av I wb → L.length + 12 * bulkL r ≤ 562949953421312 → w.heap[wb]? = some (OutC L bad) →
  Calls Tryd.prog 43 #[.pointer (some ⟨wb, 0, none⟩), .agg cs.toArray] w (OutPost wb L bad (codeL r) w)
set_option maxRecDepth 20000 in
set_option maxHeartbeats 4000000 in
theorem oWrite_step (r : List Lf) (ih : ∀ e, bulkL e < bulkL r → OWrite e) : OWrite r := by
  intro I cs wb L0 bad w hw hv hi ha hb h
  obtain ⟨x0, e0, a0, i0⟩ := get_int hv hw 0 rfl
  obtain ⟨x1, e1, a1⟩ := get_str hv hw 1 rfl
  have v2 := VsRp.take 5 _ _ (VsRp.drop 2 _ _ hv)
  have t2 : WTr Tryd.prog ((r.drop 2).take 5) fVal := WTr.take 5 _ _ (WTr.drop 2 _ _ hw)
  have v7 := VsRp.take 5 _ _ (VsRp.drop 7 _ _ hv)
  have t7 : WTr Tryd.prog ((r.drop 7).take 5) fVal := WTr.take 5 _ _ (WTr.drop 7 _ _ hw)
  have v12 := VsRp.take 5 _ _ (VsRp.drop 12 _ _ hv)
  have t12 : WTr Tryd.prog ((r.drop 12).take 5) fVal := WTr.take 5 _ _ (WTr.drop 12 _ _ hw)
  have v17 := VsRp.take 25 _ _ (VsRp.drop 17 _ _ hv)
  have t17 : WTr Tryd.prog ((r.drop 17).take 25) fSpace := WTr.take 25 _ _ (WTr.drop 17 _ _ hw)
  have v42 := VsRp.take 31 _ _ (VsRp.drop 42 _ _ hv)
  have t42 : WTr Tryd.prog ((r.drop 42).take 31) fIndex := WTr.take 31 _ _ (WTr.drop 42 _ _ hw)
  obtain ⟨x73, e73, a73⟩ := get_str hv hw 73 rfl
  obtain ⟨x74, e74, a74, i74⟩ := get_int hv hw 74 rfl
  obtain ⟨l75, p75, c75, e75, a75, r75, k75, m75, q75⟩ := get_rows hv hw 75 60 flat_Write cells_Write rfl
  obtain ⟨l76, p76, c76, e76, a76, r76, k76, m76, q76⟩ := get_rows hv hw 76 3 flat_int cells_int rfl
  obtain ⟨x77, e77, a77⟩ := get_bool hv hw 77 rfl
  have hlen : cs.length = 78 := by rw [VsRp.len _ _ hv, WTr.len _ _ hw]; rfl
  have hrl : r.length = 78 := by rw [WTr.len _ _ hw]; rfl
  have HW := Lib.hid (StW.start hb)
  obtain ⟨T, hT⟩ : ∃ T, L0 ++ codeL r = T := ⟨_, rfl⟩
  have HT := Lib.hid hT
  rw [hT] at HW
  clear hT hb hw hv
  have hlt := blk_lt h
  have hbx : w.heap.size ≠ wb := by omega
  have H := Lib.hid h
  have HI := Lib.hid hi
  have HA := Lib.hid ha
  have HIH := Lib.hid ih
  have HRL := Lib.hid hrl
  have HLEN := Lib.hid hlen
  clear hlen
  have n75 := i64_len k75 m75
  unfold maxLen at m75
  have n76 := i64_len k76 m76
  unfold maxLen at m76
  have E0_ := Lib.hid e0
  have I0_ := Lib.hid i0
  have E1_ := Lib.hid e1
  have V2_ := Lib.hid v2
  have T2_ := Lib.hid t2
  have V7_ := Lib.hid v7
  have T7_ := Lib.hid t7
  have V12_ := Lib.hid v12
  have T12_ := Lib.hid t12
  have V17_ := Lib.hid v17
  have T17_ := Lib.hid t17
  have V42_ := Lib.hid v42
  have T42_ := Lib.hid t42
  have E73_ := Lib.hid e73
  have E74_ := Lib.hid e74
  have I74_ := Lib.hid i74
  have E75_ := Lib.hid e75
  have R75_ := Lib.hid r75
  have Q75_ := Lib.hid q75
  have N75_ := Lib.hid n75
  have E76_ := Lib.hid e76
  have R76_ := Lib.hid r76
  have Q76_ := Lib.hid q76
  have N76_ := Lib.hid n76
  have E77_ := Lib.hid e77
  clear h hi ha ih hrl e0 i0 e1 v2 t2 v7 t7 v12 t12 v17 t17 v42 t42 e73 e74 i74 e75 r75 q75 n75 e76 r76 q76 n76 e77
  go_enter Tryd.func43, Tryd.ntmps43
  go_wp2_with fail
  have HB0 := Lib.hid (blk_alloc H.out (.cells cs.toArray 60))
  have HX0 := Lib.hid (blk_at0 w (.cells cs.toArray 60))
  have HG0 : Hid (w.grownBy (w.alloc (.cells cs.toArray 60)) (some wb)) := only_alloc (World.grownBy.refl _ _) _
  refine (onum_ok x0 wb L0 bad _ I0_.out (by have := StW.len HW.out; omega) HB0.out).mono ?_
  replace HW := Lib.hid (StW.leaf HW.out E0_.out (intF_le I0_.out))
  rintro e w1 ⟨rfl, h1, g1⟩
  obtain ⟨L1, hL1⟩ : ∃ M, L0 ++ codeF (.int .i64 x0) = M := ⟨_, rfl⟩
  rw [hL1] at HW
  have HB1 : Hid (w1.heap[wb]? = some (OutC L1 bad)) := by show _ = _; rw [← hL1]; first | exact h1 | (simp only [codeF]; exact h1)
  have HG1 := Lib.hid (only_trans HG0.out g1)
  have HX1 := Lib.hid (blk_only HX0.out g1 hbx)
  have s1 := g1.size
  clear hL1 h1 g1 HB0 HG0 HX0
  have ck := blk_cell HX1.out
  have lx := blk_lt HX1.out
  go_wp2_with fail
  refine (ostr_ok x1 wb L1 bad _ (StW.str HW.out E1_.out) (by have := StW.len HW.out; omega) HB1.out).mono ?_
  replace HW := Lib.hid (StW.leaf HW.out E1_.out (strF_le (StW.str HW.out E1_.out)))
  rintro e w2 ⟨rfl, h2, g2⟩
  obtain ⟨L2, hL2⟩ : ∃ M, L1 ++ codeF (.str x1) = M := ⟨_, rfl⟩
  rw [hL2] at HW
  have HB2 : Hid (w2.heap[wb]? = some (OutC L2 bad)) := by show _ = _; rw [← hL2]; first | exact h2 | (simp only [codeF]; exact h2)
  have HG2 := Lib.hid (only_trans HG1.out g2)
  have HX2 := Lib.hid (blk_only HX1.out g2 hbx)
  have s2 := g2.size
  clear hL2 h2 g2 HB1 HG1 HX1
  have ck := blk_cell HX2.out
  have lx := blk_lt HX2.out
  have rg := rg_box HX2.out 2 5
  have li := sz_of info_Val (len_sub HLEN.out 2 5 (by omega))
  obtain ⟨cx2, hcx⟩ : ∃ c, (cs.drop 2).take 5 = c := ⟨_, rfl⟩
  rw [hcx] at rg li V2_
  clear hcx
  go_wp2_with (refine wpList_load_mid rfl 37 _ rfl _ _ rfl _ _ rg Tryd.underlying37 rfl li ?_)
  clear rg li
  obtain ⟨hb2, hw2⟩ := StW.sub 5 HW.out (codeL_le _ _ V2_.out)
  refine (ovalue_ok ((r.drop 2).take 5) I _ wb L2 bad _ T2_.out V2_.out (HI.out.only HG2.out HA.out) HA.out hb2 HB2.out).mono ?_
  replace HW := Lib.hid hw2
  clear hb2 hw2
  rintro e w3 ⟨rfl, h3, g3⟩
  obtain ⟨L3, hL3⟩ : ∃ M, L2 ++ codeL ((r.drop 2).take 5) = M := ⟨_, rfl⟩
  rw [hL3] at HW
  have HB3 : Hid (w3.heap[wb]? = some (OutC L3 bad)) := by show _ = _; rw [← hL3]; first | exact h3 | (simp only [codeF]; exact h3)
  have HG3 := Lib.hid (only_trans HG2.out g3)
  have HX3 := Lib.hid (blk_only HX2.out g3 hbx)
  have s3 := g3.size
  clear hL3 h3 g3 HB2 HG2 HX2
  have ck := blk_cell HX3.out
  have lx := blk_lt HX3.out
  have rg := rg_box HX3.out 7 5
  have li := sz_of info_Val (len_sub HLEN.out 7 5 (by omega))
  obtain ⟨cx7, hcx⟩ : ∃ c, (cs.drop 7).take 5 = c := ⟨_, rfl⟩
  rw [hcx] at rg li V7_
  clear hcx
  go_wp2_with (refine wpList_load_mid rfl 37 _ rfl _ _ rfl _ _ rg Tryd.underlying37 rfl li ?_)
  clear rg li
  obtain ⟨hb7, hw7⟩ := StW.sub 5 HW.out (codeL_le _ _ V7_.out)
  refine (ovalue_ok ((r.drop 7).take 5) I _ wb L3 bad _ T7_.out V7_.out (HI.out.only HG3.out HA.out) HA.out hb7 HB3.out).mono ?_
  replace HW := Lib.hid hw7
  clear hb7 hw7
  rintro e w4 ⟨rfl, h4, g4⟩
  obtain ⟨L4, hL4⟩ : ∃ M, L3 ++ codeL ((r.drop 7).take 5) = M := ⟨_, rfl⟩
  rw [hL4] at HW
  have HB4 : Hid (w4.heap[wb]? = some (OutC L4 bad)) := by show _ = _; rw [← hL4]; first | exact h4 | (simp only [codeF]; exact h4)
  have HG4 := Lib.hid (only_trans HG3.out g4)
  have HX4 := Lib.hid (blk_only HX3.out g4 hbx)
  have s4 := g4.size
  clear hL4 h4 g4 HB3 HG3 HX3
  have ck := blk_cell HX4.out
  have lx := blk_lt HX4.out
  have rg := rg_box HX4.out 12 5
  have li := sz_of info_Val (len_sub HLEN.out 12 5 (by omega))
  obtain ⟨cx12, hcx⟩ : ∃ c, (cs.drop 12).take 5 = c := ⟨_, rfl⟩
  rw [hcx] at rg li V12_
  clear hcx
  go_wp2_with (refine wpList_load_mid rfl 37 _ rfl _ _ rfl _ _ rg Tryd.underlying37 rfl li ?_)
  clear rg li
  obtain ⟨hb12, hw12⟩ := StW.sub 5 HW.out (codeL_le _ _ V12_.out)
  refine (ovalue_ok ((r.drop 12).take 5) I _ wb L4 bad _ T12_.out V12_.out (HI.out.only HG4.out HA.out) HA.out hb12 HB4.out).mono ?_
  replace HW := Lib.hid hw12
  clear hb12 hw12
  rintro e w5 ⟨rfl, h5, g5⟩
  obtain ⟨L5, hL5⟩ : ∃ M, L4 ++ codeL ((r.drop 12).take 5) = M := ⟨_, rfl⟩
  rw [hL5] at HW
  have HB5 : Hid (w5.heap[wb]? = some (OutC L5 bad)) := by show _ = _; rw [← hL5]; first | exact h5 | (simp only [codeF]; exact h5)
  have HG5 := Lib.hid (only_trans HG4.out g5)
  have HX5 := Lib.hid (blk_only HX4.out g5 hbx)
  have s5 := g5.size
  clear hL5 h5 g5 HB4 HG4 HX4
  have ck := blk_cell HX5.out
  have lx := blk_lt HX5.out
  have rg := rg_box HX5.out 17 25
  have li := sz_of info_Space (len_sub HLEN.out 17 25 (by omega))
  obtain ⟨cx17, hcx⟩ : ∃ c, (cs.drop 17).take 25 = c := ⟨_, rfl⟩
  rw [hcx] at rg li V17_
  clear hcx
  go_wp2_with (refine wpList_load_mid rfl 45 _ rfl _ _ rfl _ _ rg Tryd.underlying45 rfl li ?_)
  clear rg li
  obtain ⟨hb17, hw17⟩ := StW.sub 25 HW.out (codeL_le _ _ V17_.out)
  refine (ospace_ok ((r.drop 17).take 25) I _ wb L5 bad _ T17_.out V17_.out (HI.out.only HG5.out HA.out) HA.out hb17 HB5.out).mono ?_
  replace HW := Lib.hid hw17
  clear hb17 hw17
  rintro e w6 ⟨rfl, h6, g6⟩
  obtain ⟨L6, hL6⟩ : ∃ M, L5 ++ codeL ((r.drop 17).take 25) = M := ⟨_, rfl⟩
  rw [hL6] at HW
  have HB6 : Hid (w6.heap[wb]? = some (OutC L6 bad)) := by show _ = _; rw [← hL6]; first | exact h6 | (simp only [codeF]; exact h6)
  have HG6 := Lib.hid (only_trans HG5.out g6)
  have HX6 := Lib.hid (blk_only HX5.out g6 hbx)
  have s6 := g6.size
  clear hL6 h6 g6 HB5 HG5 HX5
  have ck := blk_cell HX6.out
  have lx := blk_lt HX6.out
  have rg := rg_box HX6.out 42 31
  have li := sz_of info_Index (len_sub HLEN.out 42 31 (by omega))
  obtain ⟨cx42, hcx⟩ : ∃ c, (cs.drop 42).take 31 = c := ⟨_, rfl⟩
  rw [hcx] at rg li V42_
  clear hcx
  go_wp2_with (refine wpList_load_mid rfl 57 _ rfl _ _ rfl _ _ rg Tryd.underlying57 rfl li ?_)
  clear rg li
  obtain ⟨hb42, hw42⟩ := StW.sub 31 HW.out (codeL_le _ _ V42_.out)
  refine (oindex_ok ((r.drop 42).take 31) I _ wb L6 bad _ T42_.out V42_.out (HI.out.only HG6.out HA.out) HA.out hb42 HB6.out).mono ?_
  replace HW := Lib.hid hw42
  clear hb42 hw42
  rintro e w7 ⟨rfl, h7, g7⟩
  obtain ⟨L7, hL7⟩ : ∃ M, L6 ++ codeL ((r.drop 42).take 31) = M := ⟨_, rfl⟩
  rw [hL7] at HW
  have HB7 : Hid (w7.heap[wb]? = some (OutC L7 bad)) := by show _ = _; rw [← hL7]; first | exact h7 | (simp only [codeF]; exact h7)
  have HG7 := Lib.hid (only_trans HG6.out g7)
  have HX7 := Lib.hid (blk_only HX6.out g7 hbx)
  have s7 := g7.size
  clear hL7 h7 g7 HB6 HG6 HX6
  have ck := blk_cell HX7.out
  have lx := blk_lt HX7.out
  go_wp2_with fail
  refine (ostr_ok x73 wb L7 bad _ (StW.str HW.out E73_.out) (by have := StW.len HW.out; omega) HB7.out).mono ?_
  replace HW := Lib.hid (StW.leaf HW.out E73_.out (strF_le (StW.str HW.out E73_.out)))
  rintro e w8 ⟨rfl, h8, g8⟩
  obtain ⟨L8, hL8⟩ : ∃ M, L7 ++ codeF (.str x73) = M := ⟨_, rfl⟩
  rw [hL8] at HW
  have HB8 : Hid (w8.heap[wb]? = some (OutC L8 bad)) := by show _ = _; rw [← hL8]; first | exact h8 | (simp only [codeF]; exact h8)
  have HG8 := Lib.hid (only_trans HG7.out g8)
  have HX8 := Lib.hid (blk_only HX7.out g8 hbx)
  have s8 := g8.size
  clear hL8 h8 g8 HB7 HG7 HX7
  have ck := blk_cell HX8.out
  have lx := blk_lt HX8.out
  go_wp2_with fail
  refine (onum_ok x74 wb L8 bad _ I74_.out (by have := StW.len HW.out; omega) HB8.out).mono ?_
  replace HW := Lib.hid (StW.leaf HW.out E74_.out (intF_le I74_.out))
  rintro e w9 ⟨rfl, h9, g9⟩
  obtain ⟨L9, hL9⟩ : ∃ M, L8 ++ codeF (.int .i64 x74) = M := ⟨_, rfl⟩
  rw [hL9] at HW
  have HB9 : Hid (w9.heap[wb]? = some (OutC L9 bad)) := by show _ = _; rw [← hL9]; first | exact h9 | (simp only [codeF]; exact h9)
  have HG9 := Lib.hid (only_trans HG8.out g9)
  have HX9 := Lib.hid (blk_only HX8.out g9 hbx)
  have s9 := g9.size
  clear hL9 h9 g9 HB8 HG8 HX8
  have ck := blk_cell HX9.out
  have lx := blk_lt HX9.out
  go_wp2_with fail
  refine (onum_ok _ wb L9 bad _ N75_.out (by have := StW.len HW.out; omega) HB9.out).mono ?_
  replace HW := Lib.hid (StW.rows HW.out E75_.out (zz_le _ (by have := N75_.out; unfold I64 at this; omega)))
  rintro e w10 ⟨rfl, h10, g10⟩
  obtain ⟨L10, hL10⟩ : ∃ M, L9 ++ numL (zz (l75.length : Int)) = M := ⟨_, rfl⟩
  rw [hL10] at HW
  have HB10 : Hid (w10.heap[wb]? = some (OutC L10 bad)) := by show _ = _; rw [← hL10]; first | exact h10 | (simp only [codeF]; exact h10)
  have HG10 := Lib.hid (only_trans HG9.out g10)
  have HX10 := Lib.hid (blk_only HX9.out g10 hbx)
  have s10 := g10.size
  clear hL10 h10 g10 HB9 HG9 HX9
  have ck := blk_cell HX10.out
  have lx := blk_lt HX10.out
  go_wp2_with fail
  clear ck
  go_loopw [4] (fun x wr => ∃ (j : Nat) (M : List UInt8), j ≤ l75.length ∧ x = .int .i64 j ∧ Hid (StW T M ((l75.drop j).flatten ++ (r.drop 76 ++ []))) ∧ Hid (wr.heap[wb]? = some (OutC M bad)) ∧ Hid (wr.heap[w.heap.size]? = some (.cells cs.toArray 60 (0, 0))) ∧ Hid (w.grownBy wr (some wb)) ∧ w.heap.size < wr.heap.size) (fun x _ => l75.length - (intOf x).toNat)
  case atStart => exact ⟨0, L10, by omega, rfl, HW, HB10, HX10, HG10, lx⟩
  case round =>
    clear HW HB10 HX10 HG10
    obtain ⟨j, L10, hj, rfl, HW, HB10, HX10, HG10, lx⟩ := hrel
    have ck := blk_cell HX10.out
    by_cases hlt : j < l75.length
    case pos =>
      obtain ⟨el, hel⟩ : ∃ e, l75[j]? = some e := ⟨_, List.getElem?_eq_getElem hlt⟩
      obtain ⟨b, ofs, cp, ce, hsl, hcl, hcm, hwl, hve, hI⟩ := LRp.elem R75_.out j el hel
      injection hsl with hsl1 _ hsl2
      subst hsl1 hsl2
      have HEl := Lib.hid hel
      have hwt := Q75_.out el (List.mem_of_getElem? hel)
      have HWt := Lib.hid hwt
      have HVe := Lib.hid hve
      have HIe := Lib.hid hI
      have hce : ce.length = 78 := by rw [VsRp.len _ _ hve, hwl]
      have HCe := Lib.hid hce
      have HIn := Lib.hid (HI.out.only HG10.out HA.out)
      have hbk : b < wr.heap.size := by
        have h0 : 0 < ce.length := by omega
        exact HIn.out.lt (hI 0 ce[0] (List.getElem?_eq_getElem h0))
      replace HW := Lib.hid (StW.next HW.out hel)
      have rg := rg_el (o := ofs + j * 78) HIn.out hI
      have li := sz_of info_Write hce
      clear hel hwt hve hI hce
      go_wp2_with (refine wpList_load_mid rfl 60 _ rfl _ _ rfl _ _ rg Tryd.underlying60 rfl li ?_)
      clear rg li
      refine (HIH.out el (elem_lt E75_.out HEl.out) I ce wb L10 bad _ HWt.out HVe.out HIn.out HA.out (StW.row HW.out) HB10.out).mono ?_
      replace HW := Lib.hid (StW.whole HW.out (codeL_le _ _ HVe.out))
      rintro e w11 ⟨rfl, h11, g11⟩
      obtain ⟨L11, hL11⟩ : ∃ M, L10 ++ codeL el = M := ⟨_, rfl⟩
      rw [hL11] at HW
      have HB11 : Hid (w11.heap[wb]? = some (OutC L11 bad)) := by show _ = _; rw [← hL11]; first | exact h11 | (simp only [codeF]; exact h11)
      have HG11 := Lib.hid (only_trans HG10.out g11)
      have HX11 := Lib.hid (blk_only HX10.out g11 hbx)
      have s11 := g11.size
      clear hL11 h11 g11 HB10 HG10 HX10
      have ck := blk_cell HX11.out
      have lx := blk_lt HX11.out
      have lx2 : w.heap.size < w11.heap.size := lx
      go_wp2_with fail
      exact ⟨⟨j + 1, L11, by omega, by go_num, HW, HB11, HX11, HG11, lx2⟩, by simp [intOf]; omega⟩
    obtain rfl : j = l75.length := by omega
    replace HW := Lib.hid (StW.rows_done HW.out)
    clear hlt
    go_wp2_with fail
    refine (onum_ok _ wb L10 bad _ N76_.out (by have := StW.len HW.out; omega) HB10.out).mono ?_
    replace HW := Lib.hid (StW.rows HW.out E76_.out (zz_le _ (by have := N76_.out; unfold I64 at this; omega)))
    rintro e w11 ⟨rfl, h11, g11⟩
    obtain ⟨L11, hL11⟩ : ∃ M, L10 ++ numL (zz (l76.length : Int)) = M := ⟨_, rfl⟩
    rw [hL11] at HW
    have HB11 : Hid (w11.heap[wb]? = some (OutC L11 bad)) := by show _ = _; rw [← hL11]; first | exact h11 | (simp only [codeF]; exact h11)
    have HG11 := Lib.hid (only_trans HG10.out g11)
    have HX11 := Lib.hid (blk_only HX10.out g11 hbx)
    have s11 := g11.size
    clear hL11 h11 g11 HB10 HG10 HX10
    have ck := blk_cell HX11.out
    have lx := blk_lt HX11.out
    go_wp2_with fail
    clear ck
    go_loopw [5] (fun x wr => ∃ (j : Nat) (M : List UInt8), j ≤ l76.length ∧ x = .int .i64 j ∧ Hid (StW T M ((l76.drop j).flatten ++ (r.drop 77 ++ []))) ∧ Hid (wr.heap[wb]? = some (OutC M bad)) ∧ Hid (wr.heap[w.heap.size]? = some (.cells cs.toArray 60 (0, 0))) ∧ Hid (w.grownBy wr (some wb)) ∧ w.heap.size < wr.heap.size) (fun x _ => l76.length - (intOf x).toNat)
    case atStart => exact ⟨0, L11, by omega, rfl, HW, HB11, HX11, HG11, lx⟩
    case round =>
      clear HW HB11 HX11 HG11
      obtain ⟨j, L11, hj, rfl, HW, HB11, HX11, HG11, lx⟩ := hrel
      have ck := blk_cell HX11.out
      by_cases hlt : j < l76.length
      case pos =>
        obtain ⟨el, hel⟩ : ∃ e, l76[j]? = some e := ⟨_, List.getElem?_eq_getElem hlt⟩
        obtain ⟨b, ofs, cp, ce, hsl, hcl, hcm, hwl, hve, hI⟩ := LRp.elem R76_.out j el hel
        injection hsl with hsl1 _ hsl2
        subst hsl1 hsl2
        have HEl := Lib.hid hel
        have hwt := Q76_.out el (List.mem_of_getElem? hel)
        have HWt := Lib.hid hwt
        have HVe := Lib.hid hve
        have HIe := Lib.hid hI
        have hce : ce.length = 1 := by rw [VsRp.len _ _ hve, hwl]
        have HCe := Lib.hid hce
        have HIn := Lib.hid (HI.out.only HG11.out HA.out)
        have hbk : b < wr.heap.size := by
          have h0 : 0 < ce.length := by omega
          exact HIn.out.lt (hI 0 ce[0] (List.getElem?_eq_getElem h0))
        replace HW := Lib.hid (StW.next HW.out hel)
        obtain ⟨y, f0, b0, j0⟩ := get_int hve hwt 0 rfl
        have w0 := HIn.out _ _ _ (hI 0 _ b0)
        rw [Nat.mul_one, Nat.add_zero] at w0
        have F0 := Lib.hid f0
        have J0 := Lib.hid j0
        clear hel hwt hve hI hce b0 f0 j0
        go_wp2_with fail
        refine (onum_ok y wb L11 bad _ J0.out (by have := StW.len HW.out; omega) HB11.out).mono ?_
        replace HW := Lib.hid (StW.leaf HW.out F0.out (intF_le J0.out))
        rintro e w12 ⟨rfl, h12, g12⟩
        obtain ⟨L12, hL12⟩ : ∃ M, L11 ++ codeF (.int .i64 y) = M := ⟨_, rfl⟩
        rw [hL12] at HW
        have HB12 : Hid (w12.heap[wb]? = some (OutC L12 bad)) := by show _ = _; rw [← hL12]; first | exact h12 | (simp only [codeF]; exact h12)
        have HG12 := Lib.hid (only_trans HG11.out g12)
        have HX12 := Lib.hid (blk_only HX11.out g12 hbx)
        have s12 := g12.size
        clear hL12 h12 g12 HB11 HG11 HX11
        have ck := blk_cell HX12.out
        have lx := blk_lt HX12.out
        replace HW := Lib.hid (StW.done HW.out (by omega))
        have lx2 : w.heap.size < w12.heap.size := lx
        go_wp2_with fail
        exact ⟨⟨j + 1, L12, by omega, by go_num, HW, HB12, HX12, HG12, lx2⟩, by simp [intOf]; omega⟩
      obtain rfl : j = l76.length := by omega
      replace HW := Lib.hid (StW.rows_done HW.out)
      clear hlt
      go_wp2_with fail
      refine (oflag_ok x77 wb L11 bad _ (by have := StW.len HW.out; omega) HB11.out).mono ?_
      replace HW := Lib.hid (StW.leaf HW.out E77_.out (boolF_le _))
      rintro e w12 ⟨rfl, h12, g12⟩
      obtain ⟨L12, hL12⟩ : ∃ M, L11 ++ codeF (.bool x77) = M := ⟨_, rfl⟩
      rw [hL12] at HW
      have HB12 : Hid (w12.heap[wb]? = some (OutC L12 bad)) := by show _ = _; rw [← hL12]; first | exact h12 | (simp only [codeF]; exact h12)
      have HG12 := Lib.hid (only_trans HG11.out g12)
      have HX12 := Lib.hid (blk_only HX11.out g12 hbx)
      have s12 := g12.size
      clear hL12 h12 g12 HB11 HG11 HX11
      have ck := blk_cell HX12.out
      have lx := blk_lt HX12.out
      go_wp2_with fail
      go_end0
      obtain rfl := StW.end_ (StW.done HW.out (by rw [HRL.out]; omega))
      exact ⟨rfl, by rw [HT.out]; exact HB12.out, HG12.out⟩
theorem oWrite_ok (r : List Lf) : OWrite r := by
  have : ∀ n (r : List Lf), bulkL r = n → OWrite r := by
    intro n
    induction n using Nat.strongRecOn with
    | _ n ih => intro r hr; exact oWrite_step r (fun e he => ih (bulkL e) (by rw [← hr]; exact he) e rfl)
  exact this _ r rfl
def OEntry (r : List Lf) : Prop := ∀ (I : Gh) (cs : List Value) (wb : Nat) (L : List UInt8) (bad : Bool) (w : World), WTr Tryd.prog r fEntry → VsRp I r cs → Inv I w → Av I wb → L.length + 12 * bulkL r ≤ 562949953421312 → w.heap[wb]? = some (OutC L bad) →
  Calls Tryd.prog 35 #[.pointer (some ⟨wb, 0, none⟩), .agg cs.toArray] w (OutPost wb L bad (codeL r) w)
set_option maxRecDepth 20000 in
set_option maxHeartbeats 4000000 in
theorem oEntry_step (r : List Lf) (ih : ∀ e, bulkL e < bulkL r → OEntry e) : OEntry r := by
  intro I cs wb L0 bad w hw hv hi ha hb h
  obtain ⟨x0, e0, a0, i0⟩ := get_int hv hw 0 rfl
  obtain ⟨x1, e1, a1, i1⟩ := get_int hv hw 1 rfl
  obtain ⟨x2, e2, a2⟩ := get_str hv hw 2 rfl
  obtain ⟨x3, e3, a3, i3⟩ := get_int hv hw 3 rfl
  have v4 := VsRp.take 78 _ _ (VsRp.drop 4 _ _ hv)
  have t4 : WTr Tryd.prog ((r.drop 4).take 78) fWrite := WTr.take 78 _ _ (WTr.drop 4 _ _ hw)
  have hlen : cs.length = 82 := by rw [VsRp.len _ _ hv, WTr.len _ _ hw]; rfl
  have hrl : r.length = 82 := by rw [WTr.len _ _ hw]; rfl
  have HW := Lib.hid (StW.start hb)
  obtain ⟨T, hT⟩ : ∃ T, L0 ++ codeL r = T := ⟨_, rfl⟩
  have HT := Lib.hid hT
  rw [hT] at HW
  clear hT hb hw hv
  have hlt := blk_lt h
  have hbx : w.heap.size ≠ wb := by omega
  have H := Lib.hid h
  have HI := Lib.hid hi
  have HA := Lib.hid ha
  have HIH := Lib.hid ih
  have HRL := Lib.hid hrl
  have HLEN := Lib.hid hlen
  clear hlen
  have E0_ := Lib.hid e0
  have I0_ := Lib.hid i0
  have E1_ := Lib.hid e1
  have I1_ := Lib.hid i1
  have E2_ := Lib.hid e2
  have E3_ := Lib.hid e3
  have I3_ := Lib.hid i3
  have V4_ := Lib.hid v4
  have T4_ := Lib.hid t4
  clear h hi ha ih hrl e0 i0 e1 i1 e2 e3 i3 v4 t4
  go_enter Tryd.func35, Tryd.ntmps35
  go_wp2_with fail
  have HB0 := Lib.hid (blk_alloc H.out (.cells cs.toArray 66))
  have HX0 := Lib.hid (blk_at0 w (.cells cs.toArray 66))
  have HG0 : Hid (w.grownBy (w.alloc (.cells cs.toArray 66)) (some wb)) := only_alloc (World.grownBy.refl _ _) _
  refine (onum_ok x0 wb L0 bad _ I0_.out (by have := StW.len HW.out; omega) HB0.out).mono ?_
  replace HW := Lib.hid (StW.leaf HW.out E0_.out (intF_le I0_.out))
  rintro e w1 ⟨rfl, h1, g1⟩
  obtain ⟨L1, hL1⟩ : ∃ M, L0 ++ codeF (.int .i64 x0) = M := ⟨_, rfl⟩
  rw [hL1] at HW
  have HB1 : Hid (w1.heap[wb]? = some (OutC L1 bad)) := by show _ = _; rw [← hL1]; first | exact h1 | (simp only [codeF]; exact h1)
  have HG1 := Lib.hid (only_trans HG0.out g1)
  have HX1 := Lib.hid (blk_only HX0.out g1 hbx)
  have s1 := g1.size
  clear hL1 h1 g1 HB0 HG0 HX0
  have ck := blk_cell HX1.out
  have lx := blk_lt HX1.out
  go_wp2_with fail
  refine (onum_ok x1 wb L1 bad _ I1_.out (by have := StW.len HW.out; omega) HB1.out).mono ?_
  replace HW := Lib.hid (StW.leaf HW.out E1_.out (intF_le I1_.out))
  rintro e w2 ⟨rfl, h2, g2⟩
  obtain ⟨L2, hL2⟩ : ∃ M, L1 ++ codeF (.int .i64 x1) = M := ⟨_, rfl⟩
  rw [hL2] at HW
  have HB2 : Hid (w2.heap[wb]? = some (OutC L2 bad)) := by show _ = _; rw [← hL2]; first | exact h2 | (simp only [codeF]; exact h2)
  have HG2 := Lib.hid (only_trans HG1.out g2)
  have HX2 := Lib.hid (blk_only HX1.out g2 hbx)
  have s2 := g2.size
  clear hL2 h2 g2 HB1 HG1 HX1
  have ck := blk_cell HX2.out
  have lx := blk_lt HX2.out
  go_wp2_with fail
  refine (ostr_ok x2 wb L2 bad _ (StW.str HW.out E2_.out) (by have := StW.len HW.out; omega) HB2.out).mono ?_
  replace HW := Lib.hid (StW.leaf HW.out E2_.out (strF_le (StW.str HW.out E2_.out)))
  rintro e w3 ⟨rfl, h3, g3⟩
  obtain ⟨L3, hL3⟩ : ∃ M, L2 ++ codeF (.str x2) = M := ⟨_, rfl⟩
  rw [hL3] at HW
  have HB3 : Hid (w3.heap[wb]? = some (OutC L3 bad)) := by show _ = _; rw [← hL3]; first | exact h3 | (simp only [codeF]; exact h3)
  have HG3 := Lib.hid (only_trans HG2.out g3)
  have HX3 := Lib.hid (blk_only HX2.out g3 hbx)
  have s3 := g3.size
  clear hL3 h3 g3 HB2 HG2 HX2
  have ck := blk_cell HX3.out
  have lx := blk_lt HX3.out
  go_wp2_with fail
  refine (onum_ok x3 wb L3 bad _ I3_.out (by have := StW.len HW.out; omega) HB3.out).mono ?_
  replace HW := Lib.hid (StW.leaf HW.out E3_.out (intF_le I3_.out))
  rintro e w4 ⟨rfl, h4, g4⟩
  obtain ⟨L4, hL4⟩ : ∃ M, L3 ++ codeF (.int .i64 x3) = M := ⟨_, rfl⟩
  rw [hL4] at HW
  have HB4 : Hid (w4.heap[wb]? = some (OutC L4 bad)) := by show _ = _; rw [← hL4]; first | exact h4 | (simp only [codeF]; exact h4)
  have HG4 := Lib.hid (only_trans HG3.out g4)
  have HX4 := Lib.hid (blk_only HX3.out g4 hbx)
  have s4 := g4.size
  clear hL4 h4 g4 HB3 HG3 HX3
  have ck := blk_cell HX4.out
  have lx := blk_lt HX4.out
  have rg := rg_box HX4.out 4 78
  have li := sz_of info_Write (len_sub HLEN.out 4 78 (by omega))
  obtain ⟨cx4, hcx⟩ : ∃ c, (cs.drop 4).take 78 = c := ⟨_, rfl⟩
  rw [hcx] at rg li V4_
  clear hcx
  go_wp2_with (refine wpList_load_mid rfl 60 _ rfl _ _ rfl _ _ rg Tryd.underlying60 rfl li ?_)
  clear rg li
  obtain ⟨hb4, hw4⟩ := StW.sub 78 HW.out (codeL_le _ _ V4_.out)
  refine (oWrite_ok ((r.drop 4).take 78) I _ wb L4 bad _ T4_.out V4_.out (HI.out.only HG4.out HA.out) HA.out hb4 HB4.out).mono ?_
  replace HW := Lib.hid hw4
  clear hb4 hw4
  rintro e w5 ⟨rfl, h5, g5⟩
  obtain ⟨L5, hL5⟩ : ∃ M, L4 ++ codeL ((r.drop 4).take 78) = M := ⟨_, rfl⟩
  rw [hL5] at HW
  have HB5 : Hid (w5.heap[wb]? = some (OutC L5 bad)) := by show _ = _; rw [← hL5]; first | exact h5 | (simp only [codeF]; exact h5)
  have HG5 := Lib.hid (only_trans HG4.out g5)
  have HX5 := Lib.hid (blk_only HX4.out g5 hbx)
  have s5 := g5.size
  clear hL5 h5 g5 HB4 HG4 HX4
  have ck := blk_cell HX5.out
  have lx := blk_lt HX5.out
  go_wp2_with fail
  go_end0
  obtain rfl := StW.end_ (StW.done HW.out (by rw [HRL.out]; omega))
  exact ⟨rfl, by rw [HT.out]; exact HB5.out, HG5.out⟩
theorem oEntry_ok (r : List Lf) : OEntry r := by
  have : ∀ n (r : List Lf), bulkL r = n → OEntry r := by
    intro n
    induction n using Nat.strongRecOn with
    | _ n ih => intro r hr; exact oEntry_step r (fun e he => ih (bulkL e) (by rw [← hr]; exact he) e rfl)
  exact this _ r rfl
end Go.Proofs.YtplokbmdcfakbaaDoor
