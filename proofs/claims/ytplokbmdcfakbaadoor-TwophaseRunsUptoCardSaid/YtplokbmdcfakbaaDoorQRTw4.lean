/- twophase.Ack. -/
import Derived.Test.YtplokbmdcfakbaaDoorQRTw3
set_option linter.unusedSimpArgs false
set_option linter.unusedVariables false
namespace Go.Proofs.YtplokbmdcfakbaaDoor
open Go.RowKit
set_option maxRecDepth 20000 in
set_option maxHeartbeats 4000000 in
theorem Ack_ok (d : Dec) (sd : Int) (v : Value) (I : Gh) (w : World) (hD : DR I d v) (hi : Inv I w) : Calls Tryd.prog 16 #[v, .int .i64 sd] w (DPost I w (ackE d sd)) := by
  have HD := Lib.hid hD
  obtain ⟨a1, c1, a2, c2, a3, c3, rfl, h1, h2, h3, hs⟩ := hD
  have H1 := Lib.hid h1
  have H2 := Lib.hid h2
  have HI := Lib.hid hi
  have HS := Lib.hid hs
  have H3 := Lib.hid h3
  clear h1 h2 h3 hi hs
  obtain ⟨R, hR⟩ : ∃ R, ackE d sd = R := ⟨_, rfl⟩
  rw [hR]
  have HR := Lib.hid hR
  clear hR
  have hX0 := blk_alloc (blk_at0 w (.cells #[.string d.id, .slice a1 d.sh.length c1, .slice a2 d.vo.length c2, .int .i64 d.st, .int .i64 d.co, .slice a3 d.ak.length c3] 27)) (.cells #[.string ⟨#[]⟩, .slice none 0 0, .slice none 0 0, .int .i64 0, .int .i64 0, .slice none 0 0] 27)
  have hY0 := blk_at1 w (.cells #[.string d.id, .slice a1 d.sh.length c1, .slice a2 d.vo.length c2, .int .i64 d.st, .int .i64 d.co, .slice a3 d.ak.length c3] 27) (.cells #[.string ⟨#[]⟩, .slice none 0 0, .slice none 0 0, .int .i64 0, .int .i64 0, .slice none 0 0] 27)
  have hE0 := ((Ext.refl w).alloc (.cells #[.string d.id, .slice a1 d.sh.length c1, .slice a2 d.vo.length c2, .int .i64 d.st, .int .i64 d.co, .slice a3 d.ak.length c3] 27)).alloc (.cells #[.string ⟨#[]⟩, .slice none 0 0, .slice none 0 0, .int .i64 0, .int .i64 0, .slice none 0 0] 27)
  go_enter Tryd.func16, Tryd.ntmps16
  go_wp2_with fail
  obtain ⟨w0, hw0⟩ : ∃ W, (w.alloc (.cells #[.string d.id, .slice a1 d.sh.length c1, .slice a2 d.vo.length c2, .int .i64 d.st, .int .i64 d.co, .slice a3 d.ak.length c3] 27)).alloc (.cells #[.string ⟨#[]⟩, .slice none 0 0, .slice none 0 0, .int .i64 0, .int .i64 0, .slice none 0 0] 27) = W := ⟨_, rfl⟩
  have hs0 : w0.heap.size = w.heap.size + 2 := by rw [← hw0]; simp
  rw [hw0] at hX0 hY0 hE0 ⊢
  have HX0 := Lib.hid hX0
  have HY0 := Lib.hid hY0
  have HE0 := Lib.hid hE0
  clear hX0 hY0 hE0 hw0
  refine (IndexI_ok d.sh sd _ I _ H1.out (HI.out.ext HE0.out) HS.out.2.1).mono ?_
  rintro e w1 ⟨rfl, rfl⟩
  have ck := blk_cell HX0.out
  have cf := blk_free HX0.out
  have ck2 := blk_cell HY0.out
  have cf2 := blk_free HY0.out
  have lx : w.heap.size < w0.heap.size := by omega
  have lx2 : w.heap.size + 1 < w0.heap.size := by omega
  have zfin : ∀ (c : Int), R = (zeroD, c) → True := fun _ _ => trivial
  clear zfin
  rcases idxOf_at sd d.sh 0 with hix | ⟨k, hk, hix, hat⟩
  · have e : R = (zeroD, 1) := by rw [← HR.out]; unfold ackE; rw [if_pos (by rw [hix]; decide)]
    subst e
    rw [hix]
    clear hix
    go_wp2_with fail
    refine bodyPost_ret (v := .tuple #[.agg #[.string ⟨#[]⟩, .slice none 0 0, .slice none 0 0, .int .i64 0, .int .i64 0, .slice none 0 0], .int .i64 1]) (by simp only [results, Tryd.results16]; go_simp) rfl (DPost.zero HI.out ?_)
    have h := HE0.out
    repeat (first | with_reducible assumption | with_reducible exact Ext.refl _ | with_reducible refine Ext.drew ?_ | with_reducible refine Ext.alloc ?_ _ | ((with_reducible refine Ext.setCell ?_ ?_ _); rotate_left; (· first | exact Nat.le_refl _ | (simp; done) | omega | (simp; omega))))
  rw [Nat.zero_add] at hix
  rw [hix]
  have hk64 : (k : Int) < 9223372036854775808 := by have := HS.out.2.1; omega
  have dk : decide ((k : Int) < 0) = false := by simp
  have hn1 : ¬ (idxOf sd d.sh 0 < 0) := by rw [hix]; omega
  have hV : R = (if d.st = 1 then (zeroD, 23) else ({ d with ak := d.ak.set k true }, 0)) := by
    rw [← HR.out]; unfold ackE; rw [if_neg hn1, hix]; rfl
  have HV := Lib.hid hV
  clear hV hn1 hix hat
  by_cases hst : d.st = 1
  · have e : R = (zeroD, 23) := by rw [HV.out, if_pos hst]
    subst e
    have d4 : (d.st == 1) = true := by simpa using hst
    clear hst
    go_wp2_with fail
    refine bodyPost_ret (v := .tuple #[.agg #[.string ⟨#[]⟩, .slice none 0 0, .slice none 0 0, .int .i64 0, .int .i64 0, .slice none 0 0], .int .i64 23]) (by simp only [results, Tryd.results16]; go_simp) rfl (DPost.zero HI.out ?_)
    have h := HE0.out
    repeat (first | with_reducible assumption | with_reducible exact Ext.refl _ | with_reducible refine Ext.drew ?_ | with_reducible refine Ext.alloc ?_ _ | ((with_reducible refine Ext.setCell ?_ ?_ _); rotate_left; (· first | exact Nat.le_refl _ | (simp; done) | omega | (simp; omega))))
  have e : R = ({ d with ak := d.ak.set k true }, 0) := by rw [HV.out, if_neg hst]
  have HRR := Lib.hid e
  clear e HV
  have d4 : (d.st == 1) = false := by simpa using hst
  have HST := Lib.hid hst
  clear hst
  go_wp2_with (refine (copied_ok d _ I _ HD.out (HI.out.ext HE0.out)).mono ?_)
  rintro e w2 ⟨v1, v2, v3, rfl, own, h2⟩
  obtain ⟨p1, q1, rfl⟩ := acc_si own.r1
  obtain ⟨p2, q2, rfl⟩ := acc_si own.r2
  obtain ⟨p3, q3, rfl⟩ := acc_sb own.r3
  have OWN := Lib.hid own
  have HX2 := Lib.hid (blk_ext HX0.out h2)
  have HY2 := Lib.hid (blk_ext HY0.out h2)
  have HE2 := Lib.hid (HE0.out.trans h2)
  have z2 := h2.size
  by_cases hkk : k < d.ak.length
  case neg =>
    have HKK := Lib.hid hkk
    have d5 : decide ((k : Int) < (d.ak.length : Int)) = false := by simp; omega
    have d5n : decide (k < d.ak.length) = false := by simp; omega
    clear own h2 ck cf ck2 cf2
    have ck := blk_cell HX2.out
    have cf := blk_free HX2.out
    have ck2 := blk_cell HY2.out
    have cf2 := blk_free HY2.out
    have lx3 : w.heap.size < w2.heap.size := by omega
    have lx4 : w.heap.size + 1 < w2.heap.size := by omega
    go_wp2_with fail
    obtain ⟨A, hA⟩ : ∃ W, (((((w2.setCell ⟨w.heap.size, 0, none⟩ (.string d.id)).setCell ⟨w.heap.size, 1, none⟩ (.slice p1 d.sh.length q1)).setCell ⟨w.heap.size, 2, none⟩ (.slice p2 d.vo.length q2)).setCell ⟨w.heap.size, 3, none⟩ (.int .i64 d.st)).setCell ⟨w.heap.size, 4, none⟩ (.int .i64 d.co)).setCell ⟨w.heap.size, 5, none⟩ (.slice p3 d.ak.length q3) = W := ⟨_, rfl⟩
    simp only [hA]
    have hAE : Ext w A := by
      rw [← hA]
      have h := HE2.out
      repeat (first | with_reducible assumption | with_reducible exact Ext.refl _ | with_reducible refine Ext.drew ?_ | with_reducible refine Ext.alloc ?_ _ | ((with_reducible refine Ext.setCell ?_ ?_ _); rotate_left; (· first | exact Nat.le_refl _ | (simp; done) | omega | (simp; omega))))
    have hAk : ∀ x, w0.heap.size ≤ x → A.heap[x]? = w2.heap[x]? := fun x hx => by
      rw [← hA]
      rw [Below.heap_setCell _ _ _ _ (by show x ≠ w.heap.size; omega), Below.heap_setCell _ _ _ _ (by show x ≠ w.heap.size; omega), Below.heap_setCell _ _ _ _ (by show x ≠ w.heap.size; omega), Below.heap_setCell _ _ _ _ (by show x ≠ w.heap.size; omega), Below.heap_setCell _ _ _ _ (by show x ≠ w.heap.size; omega), Below.heap_setCell _ _ _ _ (by show x ≠ w.heap.size; omega)]
    have hAY : A.heap[w.heap.size + 1]? = w2.heap[w.heap.size + 1]? := by
      rw [← hA]
      rw [Below.heap_setCell _ _ _ _ (by show w.heap.size + 1 ≠ w.heap.size; omega), Below.heap_setCell _ _ _ _ (by show w.heap.size + 1 ≠ w.heap.size; omega), Below.heap_setCell _ _ _ _ (by show w.heap.size + 1 ≠ w.heap.size; omega), Below.heap_setCell _ _ _ _ (by show w.heap.size + 1 ≠ w.heap.size; omega), Below.heap_setCell _ _ _ _ (by show w.heap.size + 1 ≠ w.heap.size; omega), Below.heap_setCell _ _ _ _ (by show w.heap.size + 1 ≠ w.heap.size; omega)]
    have HYB : A.heap[w.heap.size + 1]? = _ := hAY.trans HY2.out
    have HYC := blk_set (blk_set (blk_set (blk_set (blk_set (blk_set HYB 0 (.string d.id)) 1 (.slice p1 d.sh.length q1)) 2 (.slice p2 d.vo.length q2)) 3 (.int .i64 d.st)) 4 (.int .i64 d.co)) 5 (.slice p3 d.ak.length q3)
    obtain ⟨C, hC⟩ : ∃ W, (((((A.setCell ⟨w.heap.size + 1, 0, none⟩ (.string d.id)).setCell ⟨w.heap.size + 1, 1, none⟩ (.slice p1 d.sh.length q1)).setCell ⟨w.heap.size + 1, 2, none⟩ (.slice p2 d.vo.length q2)).setCell ⟨w.heap.size + 1, 3, none⟩ (.int .i64 d.st)).setCell ⟨w.heap.size + 1, 4, none⟩ (.int .i64 d.co)).setCell ⟨w.heap.size + 1, 5, none⟩ (.slice p3 d.ak.length q3) = W := ⟨_, rfl⟩
    have hCE : Ext w C := by
      rw [← hC]
      have h := hAE
      repeat (first | with_reducible assumption | with_reducible exact Ext.refl _ | with_reducible refine Ext.drew ?_ | with_reducible refine Ext.alloc ?_ _ | ((with_reducible refine Ext.setCell ?_ ?_ _); rotate_left; (· first | exact Nat.le_refl _ | (simp; done) | omega | (simp; omega))))
    rw [hC] at HYC ⊢
    have hCk : ∀ x, w0.heap.size ≤ x → C.heap[x]? = A.heap[x]? := fun x hx => by
      rw [← hC]
      rw [Below.heap_setCell _ _ _ _ (by show x ≠ w.heap.size + 1; omega), Below.heap_setCell _ _ _ _ (by show x ≠ w.heap.size + 1; omega), Below.heap_setCell _ _ _ _ (by show x ≠ w.heap.size + 1; omega), Below.heap_setCell _ _ _ _ (by show x ≠ w.heap.size + 1; omega), Below.heap_setCell _ _ _ _ (by show x ≠ w.heap.size + 1; omega), Below.heap_setCell _ _ _ _ (by show x ≠ w.heap.size + 1; omega)]
    have own : Own3 I C w0.heap.size { d with ak := d.ak.set k true } (.slice p1 d.sh.length q1) (.slice p2 d.vo.length q2) (.slice p3 d.ak.length q3) := by
      rw [List.set_eq_of_length_le (by have := HKK.out; omega)]
      refine ⟨OWN.out.r1.keep fun x hx => ?_, OWN.out.r2.keep fun x hx => ?_, OWN.out.r3.keep fun x hx => ?_, OWN.out.n12, OWN.out.n13, OWN.out.n23⟩
      · have := (OWN.out.r1.own x hx).1
        rw [hCk x this, hAk x this]
      · have := (OWN.out.r2.own x hx).1
        rw [hCk x this, hAk x this]
      · have := (OWN.out.r3.own x hx).1
        rw [hCk x this, hAk x this]
    have sm := HS.out
    obtain ⟨I', G, hD⟩ := own.data (HI.out.ext hCE) (by omega) hCE ⟨sm.1, sm.2.1, sm.2.2.1, by simpa using sm.2.2.2.1, sm.2.2.2.2.1, sm.2.2.2.2.2⟩
    have ckY := blk_cell HYC
    refine bodyPost_ret (v := .tuple #[.agg #[.string d.id, .slice p1 d.sh.length q1, .slice p2 d.vo.length q2, .int .i64 d.st, .int .i64 d.co, .slice p3 d.ak.length q3], .int .i64 0]) (by simp only [results, Tryd.results16]; go_simp) rfl ?_
    rw [HRR.out]
    exact ⟨I', _, G, rfl, hD⟩
  have HKK := Lib.hid hkk
  have d5 : decide ((k : Int) < (d.ak.length : Int)) = true := by simp; omega
  have d5n : decide (k < d.ak.length) = true := by simp; omega
  obtain ⟨g, u, rfl, hg1, hg2, hg3⟩ := acc_cell own.r3 (bools_len _).symm k hkk
  have hg4 := own.r3.own g rfl
  clear own h2 ck cf ck2 cf2
  have ck := blk_cell HX2.out
  have cf := blk_free HX2.out
  have ck2 := blk_cell HY2.out
  have cf2 := blk_free HY2.out
  have n1 : ¬ g = w.heap.size := by omega
  have n2 : ¬ w.heap.size = g := by omega
  have n3 : ¬ g = w.heap.size + 1 := by omega
  have n4 : ¬ w.heap.size + 1 = g := by omega
  have lx3 : w.heap.size < w2.heap.size := by omega
  have lx4 : w.heap.size + 1 < w2.heap.size := by omega
  go_wp2_with fail
  obtain ⟨A, hA⟩ : ∃ W, (((((w2.setCell ⟨w.heap.size, 0, none⟩ (.string d.id)).setCell ⟨w.heap.size, 1, none⟩ (.slice p1 d.sh.length q1)).setCell ⟨w.heap.size, 2, none⟩ (.slice p2 d.vo.length q2)).setCell ⟨w.heap.size, 3, none⟩ (.int .i64 d.st)).setCell ⟨w.heap.size, 4, none⟩ (.int .i64 d.co)).setCell ⟨w.heap.size, 5, none⟩ (.slice (some ⟨g, 0, none⟩) d.ak.length q3) = W := ⟨_, rfl⟩
  simp only [hA]
  have hAE : Ext w A := by
    rw [← hA]
    have h := HE2.out
    repeat (first | with_reducible assumption | with_reducible exact Ext.refl _ | with_reducible refine Ext.drew ?_ | with_reducible refine Ext.alloc ?_ _ | ((with_reducible refine Ext.setCell ?_ ?_ _); rotate_left; (· first | exact Nat.le_refl _ | (simp; done) | omega | (simp; omega))))
  have hAk : ∀ x, w0.heap.size ≤ x → A.heap[x]? = w2.heap[x]? := fun x hx => by
    rw [← hA]
    rw [Below.heap_setCell _ _ _ _ (by show x ≠ w.heap.size; omega), Below.heap_setCell _ _ _ _ (by show x ≠ w.heap.size; omega), Below.heap_setCell _ _ _ _ (by show x ≠ w.heap.size; omega), Below.heap_setCell _ _ _ _ (by show x ≠ w.heap.size; omega), Below.heap_setCell _ _ _ _ (by show x ≠ w.heap.size; omega), Below.heap_setCell _ _ _ _ (by show x ≠ w.heap.size; omega)]
  have hAY : A.heap[w.heap.size + 1]? = w2.heap[w.heap.size + 1]? := by
    rw [← hA]
    rw [Below.heap_setCell _ _ _ _ (by show w.heap.size + 1 ≠ w.heap.size; omega), Below.heap_setCell _ _ _ _ (by show w.heap.size + 1 ≠ w.heap.size; omega), Below.heap_setCell _ _ _ _ (by show w.heap.size + 1 ≠ w.heap.size; omega), Below.heap_setCell _ _ _ _ (by show w.heap.size + 1 ≠ w.heap.size; omega), Below.heap_setCell _ _ _ _ (by show w.heap.size + 1 ≠ w.heap.size; omega), Below.heap_setCell _ _ _ _ (by show w.heap.size + 1 ≠ w.heap.size; omega)]
  have hBs := acc_set_b (OWN.out.r3.keep fun x hx => hAk x (OWN.out.r3.own x hx).1) rfl k true
  obtain ⟨B, hB⟩ : ∃ W, A.setCell ⟨g, k, none⟩ (.bool true) = W := ⟨_, rfl⟩
  rw [hB] at hBs ⊢
  have hBE : Ext w B := by
    rw [← hB]
    have h := hAE
    repeat (first | with_reducible assumption | with_reducible exact Ext.refl _ | with_reducible refine Ext.drew ?_ | with_reducible refine Ext.alloc ?_ _ | ((with_reducible refine Ext.setCell ?_ ?_ _); rotate_left; (· first | exact Nat.le_refl _ | (simp; done) | omega | (simp; omega))))
  have hBk : ∀ x, x ≠ g → B.heap[x]? = A.heap[x]? := fun x hx => by
    rw [← hB, Below.heap_setCell _ _ _ _ hx]
  have HYB : B.heap[w.heap.size + 1]? = _ := (hBk _ (by omega)).trans (hAY.trans HY2.out)
  have HYC := blk_set (blk_set (blk_set (blk_set (blk_set (blk_set HYB 0 (.string d.id)) 1 (.slice p1 d.sh.length q1)) 2 (.slice p2 d.vo.length q2)) 3 (.int .i64 d.st)) 4 (.int .i64 d.co)) 5 (.slice (some ⟨g, 0, none⟩) d.ak.length q3)
  have hCE : Ext w ((((((B.setCell ⟨w.heap.size + 1, 0, none⟩ (.string d.id)).setCell ⟨w.heap.size + 1, 1, none⟩ (.slice p1 d.sh.length q1)).setCell ⟨w.heap.size + 1, 2, none⟩ (.slice p2 d.vo.length q2)).setCell ⟨w.heap.size + 1, 3, none⟩ (.int .i64 d.st)).setCell ⟨w.heap.size + 1, 4, none⟩ (.int .i64 d.co)).setCell ⟨w.heap.size + 1, 5, none⟩ (.slice (some ⟨g, 0, none⟩) d.ak.length q3)) := by
    have h := hBE
    repeat (first | with_reducible assumption | with_reducible exact Ext.refl _ | with_reducible refine Ext.drew ?_ | with_reducible refine Ext.alloc ?_ _ | ((with_reducible refine Ext.setCell ?_ ?_ _); rotate_left; (· first | exact Nat.le_refl _ | (simp; done) | omega | (simp; omega))))
  obtain ⟨C, hC⟩ : ∃ W, (((((B.setCell ⟨w.heap.size + 1, 0, none⟩ (.string d.id)).setCell ⟨w.heap.size + 1, 1, none⟩ (.slice p1 d.sh.length q1)).setCell ⟨w.heap.size + 1, 2, none⟩ (.slice p2 d.vo.length q2)).setCell ⟨w.heap.size + 1, 3, none⟩ (.int .i64 d.st)).setCell ⟨w.heap.size + 1, 4, none⟩ (.int .i64 d.co)).setCell ⟨w.heap.size + 1, 5, none⟩ (.slice (some ⟨g, 0, none⟩) d.ak.length q3) = W := ⟨_, rfl⟩
  rw [hC] at HYC hCE ⊢
  have hCk : ∀ x, w0.heap.size ≤ x → C.heap[x]? = B.heap[x]? := fun x hx => by
    rw [← hC]
    rw [Below.heap_setCell _ _ _ _ (by show x ≠ w.heap.size + 1; omega), Below.heap_setCell _ _ _ _ (by show x ≠ w.heap.size + 1; omega), Below.heap_setCell _ _ _ _ (by show x ≠ w.heap.size + 1; omega), Below.heap_setCell _ _ _ _ (by show x ≠ w.heap.size + 1; omega), Below.heap_setCell _ _ _ _ (by show x ≠ w.heap.size + 1; omega), Below.heap_setCell _ _ _ _ (by show x ≠ w.heap.size + 1; omega)]
  have own : Own3 I C w0.heap.size { d with ak := d.ak.set k true } (.slice p1 d.sh.length q1) (.slice p2 d.vo.length q2) (.slice (some ⟨g, 0, none⟩) d.ak.length q3) := by
    refine ⟨OWN.out.r1.keep fun x hx => ?_, OWN.out.r2.keep fun x hx => ?_, hBs.keep fun x hx => hCk x (hBs.own x hx).1, OWN.out.n12, OWN.out.n13, OWN.out.n23⟩
    · have := (OWN.out.r1.own x hx).1
      rw [hCk x this, hBk x (fun e => OWN.out.n13 x hx (by rw [e]; rfl)), hAk x this]
    · have := (OWN.out.r2.own x hx).1
      rw [hCk x this, hBk x (fun e => OWN.out.n23 x hx (by rw [e]; rfl)), hAk x this]
  have sm := HS.out
  obtain ⟨I', G, hD⟩ := own.data (HI.out.ext hCE) (by omega) hCE ⟨sm.1, sm.2.1, sm.2.2.1, by simpa using sm.2.2.2.1, sm.2.2.2.2.1, sm.2.2.2.2.2⟩
  have ckY := blk_cell HYC
  refine bodyPost_ret (v := .tuple #[.agg #[.string d.id, .slice p1 d.sh.length q1, .slice p2 d.vo.length q2, .int .i64 d.st, .int .i64 d.co, .slice (some ⟨g, 0, none⟩) d.ak.length q3], .int .i64 0]) (by simp only [results, Tryd.results16]; go_simp) rfl ?_
  rw [HRR.out]
  exact ⟨I', _, G, rfl, hD⟩
end Go.Proofs.YtplokbmdcfakbaaDoor
