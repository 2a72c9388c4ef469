/- docstoreref01: Parts, levels, count, Depth, Nodes. -/
import Derived.Test.YtipphlhaaienpaaDoorVRow
import Derived.Test.YtipphlhaaienpaaDoorNodes
set_option linter.unusedSimpArgs false
set_option linter.unusedVariables false
namespace Go.Proofs.YtipphlhaaienpaaDoor
open Go.RowKit
/-- e is a slice that holds the values ts -/
def IsRow (ts : List Tr) (e : Ending) (w' : World) : Prop := ∃ a c, e = .returned (.slice a ts.length c) ∧ ts.length ≤ c ∧ c ≤ maxLen ∧ LRep w' a 0 ts
set_option maxRecDepth 20000 in
set_option maxHeartbeats 1000000 in
theorem Parts_ok (t : Tr) (v : Value) (w : World) (hV : VRep w t v) : Calls Tryd.prog 62 #[v] w fun e w' => IsRow t.parts e w' ∧ Ext w w' := by
  obtain ⟨k, i, s, l, ns, ds⟩ := t
  unfold VRep at hV
  obtain ⟨la, lc, da, dc, rfl, hs, ⟨hl1, hl3⟩, hl2, ⟨hd1, hd3⟩, hd2, hnd, hL, hD⟩ := hV
  unfold maxLen at hl2 hd2
  have HL := Lib.hid hL
  have HD := Lib.hid hD
  have HL3 := Lib.hid hl3
  have HD3 := Lib.hid hd3
  clear hL hD hl3 hd3 hs
  by_cases h6 : k = 6
  · subst h6
    have hpt : (Tr.mk 6 i s l ns ds).parts = l := by simp [Tr.parts]
    rw [hpt]
    clear hpt
    go_enter Tryd.func62, Tryd.ntmps62
    go_wp2_with fail
    go_loopw [3, 4] (fun out c wr => ∃ j : Nat, j ≤ l.length ∧ c = .int .i64 j ∧ Hid (VRow w wr (w.heap.size + 1) out (l.take j)) ∧ Hid (Ext (w.alloc (.cells #[.int .i64 6, .int .i64 i, .string s, .slice la l.length lc, .slice da ds.length dc] 41)) wr)) (fun _ c _ => l.length - (intOf c).toNat)
    case atStart => exact ⟨0, by omega, rfl, VRow.nil w _ _, Ext.refl _⟩
    case round =>
      obtain ⟨j, hj, rfl, HR, HE⟩ := hrel
      have k1 := HE.out.ownc
      have l1 := HE.out.lt
      by_cases hlt : j < l.length
      · obtain ⟨b, off, c0, c1, c2, c3, c4, rfl, e0, e1, e2, e3, e4, hv⟩ := LRep.at_ l 0 j l[j] HL.out (List.getElem?_eq_getElem hlt)
        obtain ⟨k', i', s', la', ln', lc', da', dn', dc', rfl, rfl, rfl, rfl, rfl⟩ := hv.shape5
        have hEr := HE.out.of_alloc
        have q0 := hEr.keep e0
        have q1 := hEr.keep e1
        have q2 := hEr.keep e2
        have q3 := hEr.keep e3
        have q4 := hEr.keep e4
        rw [Nat.zero_add] at q0 q1 q2 q3 q4
        have HV := Lib.hid hv
        clear e0 e1 e2 e3 e4 hv hEr
        have HLen : Hid (((l.take j).length + 1) * 80 ≤ 140737488355328) := by
          show _ ≤ _
          have := HL3.out
          rw [List.length_take]; omega
        go_wp2_with (at_builtin; refine wpList_append_vrow _ rfl _ _ rfl w (w.heap.size + 1) _ _ rfl HR.out _ _ _ _ _ _ rfl HV.out HLen.out (by omega) ?_)
        intro v' w2 r2 g2
        have HR2 : Hid (VRow w w2 (w.heap.size + 1) v' (l.take (j + 1))) := r2
        have HE2 := Lib.hid (VRow.grown (HR.out.ext ((Ext.refl wr).alloc _)) g2 (HE.out.alloc _) (by simp))
        clear r2 g2 k1
        go_wp2_with fail
        exact ⟨⟨j + 1, by omega, by go_num, HR2, HE2⟩, by simp [intOf]; omega⟩
      · have hj2 : j = l.length := by omega
        subst hj2
        obtain ⟨a, c, rfl, z1, z2, z3⟩ := HR.out.lrep HE.out.of_alloc
        rw [List.take_length] at z3 z1
        have Z3 := Lib.hid z3
        clear z3
        go_wp2_with fail
        go_ret
        exact ⟨⟨a, c, by simp, z1, z2, Z3.out⟩, HE.out.of_alloc⟩
  · have b6 : (k == 6) = false := by simpa using h6
    by_cases h5 : k = 5
    · subst h5
      have hpt : (Tr.mk 5 i s l ns ds).parts = ds := by simp [Tr.parts]
      rw [hpt]
      clear hpt h6
      go_enter Tryd.func62, Tryd.ntmps62
      go_wp2_with fail
      go_loopw [3, 5] (fun out c wr => ∃ j : Nat, j ≤ ds.length ∧ c = .int .i64 j ∧ Hid (VRow w wr (w.heap.size + 1) out (ds.take j)) ∧ Hid (Ext (w.alloc (.cells #[.int .i64 5, .int .i64 i, .string s, .slice la l.length lc, .slice da ds.length dc] 41)) wr)) (fun _ c _ => ds.length - (intOf c).toNat)
      case atStart => exact ⟨0, by omega, rfl, VRow.nil w _ _, Ext.refl _⟩
      case round =>
        obtain ⟨j, hj, rfl, HR, HE⟩ := hrel
        have k1 := HE.out.ownc
        have l1 := HE.out.lt
        by_cases hlt : j < ds.length
        · obtain ⟨b, off, c0, c1, c2, c3, c4, rfl, hnm, en, e0, e1, e2, e3, e4, hv⟩ := DRep.at_ ns ds 0 j (ns[j]'(by omega)) ds[j] HD.out (List.getElem?_eq_getElem (by omega)) (List.getElem?_eq_getElem hlt)
          obtain ⟨k', i', s', la', ln', lc', da', dn', dc', rfl, rfl, rfl, rfl, rfl⟩ := hv.shape5
          have hEr := HE.out.of_alloc
          have q0 := hEr.keep e0
          have q1 := hEr.keep e1
          have q2 := hEr.keep e2
          have q3 := hEr.keep e3
          have q4 := hEr.keep e4
          rw [Nat.zero_add] at q0 q1 q2 q3 q4
          have HV := Lib.hid hv
          clear en e0 e1 e2 e3 e4 hv hEr
          have HLen : Hid (((ds.take j).length + 1) * 80 ≤ 140737488355328) := by
            show _ ≤ _
            have := HD3.out
            rw [List.length_take]; omega
          go_wp2_with (at_builtin; refine wpList_append_vrow _ rfl _ _ rfl w (w.heap.size + 1) _ _ rfl HR.out _ _ _ _ _ _ rfl HV.out HLen.out (by omega) ?_)
          intro v' w2 r2 g2
          have HR2 : Hid (VRow w w2 (w.heap.size + 1) v' (ds.take (j + 1))) := r2
          have HE2 := Lib.hid (VRow.grown (HR.out.ext ((Ext.refl wr).alloc _)) g2 (HE.out.alloc _) (by simp))
          clear r2 g2 k1
          go_wp2_with fail
          exact ⟨⟨j + 1, by omega, by go_num, HR2, HE2⟩, by simp [intOf]; omega⟩
        · have hj2 : j = ds.length := by omega
          subst hj2
          obtain ⟨a, c, rfl, z1, z2, z3⟩ := HR.out.lrep HE.out.of_alloc
          rw [List.take_length] at z3 z1
          have Z3 := Lib.hid z3
          clear z3
          go_wp2_with fail
          go_ret
          exact ⟨⟨a, c, by simp, z1, z2, Z3.out⟩, HE.out.of_alloc⟩
    · have b5 : (k == 5) = false := by simpa using h5
      have hpt : (Tr.mk k i s l ns ds).parts = [] := by simp [Tr.parts, h6, h5]
      rw [hpt]
      clear hpt h6 h5
      go_enter Tryd.func62, Tryd.ntmps62
      go_wp2_with fail
      go_ret
      exact ⟨⟨none, 0, rfl, Nat.le_refl _, by unfold maxLen; omega, by unfold LRep; trivial⟩, by repeat (first | with_reducible assumption | with_reducible exact Ext.refl _ | with_reducible refine Ext.drew ?_ | with_reducible refine Ext.alloc ?_ _ | ((with_reducible refine Ext.setCell ?_ ?_ _); rotate_left; (· first | exact Nat.le_refl _ | (simp; done) | omega | (simp; omega))))⟩
theorem Tr.depL_snoc (l : List Tr) (t : Tr) : Tr.depL (l ++ [t]) = max (Tr.depL l) t.dep := by
  induction l with
  | nil => simp [Tr.depL]
  | cons x r ih => simp only [List.cons_append, Tr.depL, ih]; omega
theorem Tr.cntL_snoc (l : List Tr) (t : Tr) : Tr.cntL (l ++ [t]) = Tr.cntL l + t.cnt := by
  induction l with
  | nil => simp [Tr.cntL]
  | cons x r ih => simp only [List.cons_append, Tr.cntL, ih]; omega
def LevelsOk (t : Tr) : Prop := ∀ (v : Value) (w : World) (most : Int), VRep w t v → 1 ≤ most → most ≤ 100000 → Calls Tryd.prog 54 #[v, .int .i64 most] w fun e w' => e = .returned (.int .i64 (min (t.dep : Int) most)) ∧ Ext w w'
set_option maxRecDepth 20000 in
set_option maxHeartbeats 1000000 in
theorem levels_step (t : Tr) (ih : ∀ p ∈ t.parts, LevelsOk p) : LevelsOk t := by
  intro v w most hV h1 h2
  obtain ⟨k, i, s, la, ln, lc, da, dn, dc, rfl⟩ := hV.shape
  have HV := Lib.hid hV
  have HI := Lib.hid ih
  clear hV ih
  obtain ⟨ps, hps⟩ : ∃ ps, t.parts = ps := ⟨_, rfl⟩
  have hde := t.dep_eq
  rw [hps] at HI hde
  have HDe := Lib.hid hde
  have HPs := Lib.hid hps
  obtain ⟨r, hr⟩ : ∃ r : Int, min (t.dep : Int) most = r := ⟨_, rfl⟩
  rw [hr]
  have HR := Lib.hid hr
  clear hr hde hps
  go_enter Tryd.func54, Tryd.ntmps54
  go_wp2_with fail
  refine (Parts_ok t _ _ (VRep.ext ((Ext.refl w).alloc _) _ _ HV.out)).mono ?_
  rintro e w1 ⟨⟨a, c, rfl, z1, z2, z3⟩, h1'⟩
  rw [HPs.out] at z1 z3 ⊢
  unfold maxLen at z2
  have Z3 := Lib.hid z3
  have l1 := h1'.lt
  clear z3
  by_cases hm : most < 2
  · have d1 : decide (most < 2) = true := by simpa using hm
    have hr1 : r = 1 := by rw [← HR.out]; have := t.dep_pos; omega
    subst hr1
    go_wp2_with fail
    go_ret
    exact ⟨rfl, h1'.of_alloc⟩
  have d1 : decide (most < 2) = false := by simpa using hm
  by_cases hz : ps.length = 0
  · have d2 : ((ps.length : Int) == 0) = true := beq_iff_eq.2 (by omega)
    have hr1 : r = 1 := by
      have e : ps = [] := List.eq_nil_of_length_eq_zero hz
      have := HDe.out; rw [e] at this; simp [Tr.depL] at this; rw [← HR.out, this]; omega
    subst hr1
    clear hz
    go_wp2_with fail
    go_ret
    exact ⟨rfl, h1'.of_alloc⟩
  have d2 : ((ps.length : Int) == 0) = false := beq_eq_false_iff_ne.2 (by omega)
  clear hz
  have hw := wrap_i64_val (most - 1) (by omega) (by omega)
  go_wp2_with fail
  go_loopw [6, 7] (fun b c wr => ∃ j : Nat, j ≤ ps.length ∧ c = .int .i64 j ∧ b = .int .i64 (min (Tr.depL (ps.take j) : Int) (most - 1)) ∧ Hid (Ext w1 wr)) (fun _ c _ => ps.length - (intOf c).toNat)
  case atStart => exact ⟨0, by omega, rfl, by simp [Tr.depL]; omega, Ext.refl _⟩
  case round =>
    obtain ⟨j, hj, rfl, rfl, HE⟩ := hrel
    obtain ⟨m, hmm⟩ : ∃ m : Int, min (Tr.depL (ps.take j) : Int) (most - 1) = m := ⟨_, rfl⟩
    have hmb : 0 ≤ m ∧ m ≤ most - 1 := by omega
    rw [hmm]
    have HM := Lib.hid hmm
    clear hmm
    by_cases hlt : j < ps.length
    · obtain ⟨b, off, c0, c1, c2, c3, c4, rfl, e0, e1, e2, e3, e4, hv⟩ := LRep.at_ ps 0 j ps[j] Z3.out (List.getElem?_eq_getElem hlt)
      obtain ⟨k', i', s', la', ln', lc', da', dn', dc', rfl, rfl, rfl, rfl, rfl⟩ := hv.shape5
      have hEr := HE.out
      have q0 := hEr.keep e0
      have q1 := hEr.keep e1
      have q2 := hEr.keep e2
      have q3 := hEr.keep e3
      have q4 := hEr.keep e4
      rw [Nat.zero_add] at q0 q1 q2 q3 q4
      have HV1 := Lib.hid (VRep.ext hEr _ _ hv)
      clear e0 e1 e2 e3 e4 hv hEr
      have hsn := Tr.depL_snoc (ps.take j) ps[j]
      rw [← List.take_succ_eq_append_getElem hlt] at hsn
      obtain ⟨p, hp⟩ : ∃ p, ps[j] = p := ⟨_, rfl⟩
      have hmem : p ∈ ps := by rw [← hp]; exact List.getElem_mem hlt
      rw [hp] at HV1 hsn
      have HSn := Lib.hid hsn
      clear hp hsn
      go_wp2_with fail
      refine (HI.out p hmem _ _ _ HV1.out (by omega) (by omega)).mono ?_
      rintro e w2 ⟨rfl, h2'⟩
      have HE2 := Lib.hid (HE.out.trans h2')
      obtain ⟨x, hx⟩ : ∃ x : Int, min (p.dep : Int) (most - 1) = x := ⟨_, rfl⟩
      rw [hx]
      have HX := Lib.hid hx
      have hxb : 1 ≤ x ∧ x ≤ most - 1 := by rw [← hx]; have := p.dep_pos; omega
      clear hx
      go_wp2_with fail
      refine ⟨⟨j + 1, by omega, by go_num, ?_, HE2⟩, by simp [intOf]; omega⟩
      have e1 := HSn.out
      have e2 := HM.out
      have e3 := HX.out
      congr 1
      rw [e1]; omega
    · have hj2 : j = ps.length := by omega
      subst hj2
      have hr1 : r = m + 1 := by
        have := HM.out
        rw [List.take_length] at this
        have e := HDe.out
        rw [← HR.out, e]; omega
      subst hr1
      go_wp2_with fail
      go_ret
      exact ⟨rfl, h1'.of_alloc.trans HE.out⟩
theorem levels_ok (t : Tr) : LevelsOk t := by
  have : ∀ n (t : Tr), t.sz = n → LevelsOk t := by
    intro n
    induction n using Nat.strongRecOn with
    | _ n ih => intro t ht; exact levels_step t (fun p hp => ih p.sz (by rw [← ht]; exact Tr.sz_parts hp) p rfl)
  exact this _ t rfl
def CountOk (t : Tr) : Prop := ∀ (v : Value) (w : World) (most : Int), VRep w t v → 1 ≤ most → most ≤ 100000 → Calls Tryd.prog 55 #[v, .int .i64 most] w fun e w' => e = .returned (.int .i64 (min (t.cnt : Int) most)) ∧ Ext w w'
theorem Tr.cntL_mono (l : List Tr) (j : Nat) : Tr.cntL (l.take j) ≤ Tr.cntL l := by
  induction l generalizing j with
  | nil => simp [Tr.cntL]
  | cons x r ih =>
    cases j with
    | zero => simp [Tr.cntL]
    | succ j => simp only [List.take_succ_cons, Tr.cntL]; have := ih j; omega
set_option maxRecDepth 20000 in
set_option maxHeartbeats 1000000 in
theorem count_step (t : Tr) (ih : ∀ p ∈ t.parts, CountOk p) : CountOk t := by
  intro v w most hV h1 h2
  obtain ⟨k, i, s, la, ln, lc, da, dn, dc, rfl⟩ := hV.shape
  have HV := Lib.hid hV
  have HI := Lib.hid ih
  clear hV ih
  obtain ⟨ps, hps⟩ : ∃ ps, t.parts = ps := ⟨_, rfl⟩
  have hde := t.cnt_eq
  rw [hps] at HI hde
  have HDe := Lib.hid hde
  have HPs := Lib.hid hps
  obtain ⟨r, hr⟩ : ∃ r : Int, min (t.cnt : Int) most = r := ⟨_, rfl⟩
  rw [hr]
  have HR := Lib.hid hr
  clear hr hde hps
  go_enter Tryd.func55, Tryd.ntmps55
  go_wp2_with fail
  refine (Parts_ok t _ _ (VRep.ext ((Ext.refl w).alloc _) _ _ HV.out)).mono ?_
  rintro e w1 ⟨⟨a, c, rfl, z1, z2, z3⟩, h1'⟩
  rw [HPs.out] at z1 z3 ⊢
  unfold maxLen at z2
  have Z3 := Lib.hid z3
  have l1 := h1'.lt
  clear z3
  go_wp2_with fail
  go_loopw [5, 7] (fun b c wr => ∃ j : Nat, j ≤ ps.length ∧ c = .int .i64 j ∧ b = .int .i64 (min (1 + Tr.cntL (ps.take j) : Int) most) ∧ Hid (Ext w1 wr)) (fun _ c _ => ps.length - (intOf c).toNat)
  case atStart => exact ⟨0, by omega, rfl, by simp [Tr.cntL]; omega, Ext.refl _⟩
  case round =>
    obtain ⟨j, hj, rfl, rfl, HE⟩ := hrel
    obtain ⟨m, hmm⟩ : ∃ m : Int, min (1 + Tr.cntL (ps.take j) : Int) most = m := ⟨_, rfl⟩
    have hmb : 1 ≤ m ∧ m ≤ most := by omega
    rw [hmm]
    have HM := Lib.hid hmm
    clear hmm
    by_cases hlt : j < ps.length
    · have d0 : decide (j < ps.length) = true := by simpa using hlt
      by_cases hmo : m < most
      · have d1 : decide (m < most) = true := by simpa using hmo
        have hw := wrap_i64_val (most - m) (by omega) (by omega)
        obtain ⟨b, off, c0, c1, c2, c3, c4, rfl, e0, e1, e2, e3, e4, hv⟩ := LRep.at_ ps 0 j ps[j] Z3.out (List.getElem?_eq_getElem hlt)
        obtain ⟨k', i', s', la', ln', lc', da', dn', dc', rfl, rfl, rfl, rfl, rfl⟩ := hv.shape5
        have hEr := HE.out
        have q0 := hEr.keep e0
        have q1 := hEr.keep e1
        have q2 := hEr.keep e2
        have q3 := hEr.keep e3
        have q4 := hEr.keep e4
        rw [Nat.zero_add] at q0 q1 q2 q3 q4
        have HV1 := Lib.hid (VRep.ext hEr _ _ hv)
        clear e0 e1 e2 e3 e4 hv hEr
        have hsn := Tr.cntL_snoc (ps.take j) ps[j]
        rw [← List.take_succ_eq_append_getElem hlt] at hsn
        obtain ⟨p, hp⟩ : ∃ p, ps[j] = p := ⟨_, rfl⟩
        have hmem : p ∈ ps := by rw [← hp]; exact List.getElem_mem hlt
        rw [hp] at HV1 hsn
        have HSn := Lib.hid hsn
        clear hp hsn
        go_wp2_with fail
        refine (HI.out p hmem _ _ _ HV1.out (by omega) (by omega)).mono ?_
        rintro e w2 ⟨rfl, h2'⟩
        have HE2 := Lib.hid (HE.out.trans h2')
        obtain ⟨x, hx⟩ : ∃ x : Int, min (p.cnt : Int) (most - m) = x := ⟨_, rfl⟩
        rw [hx]
        have HX := Lib.hid hx
        have hxb : 1 ≤ x ∧ x ≤ most - m := by rw [← hx]; have := p.cnt_pos; omega
        clear hx
        go_wp2_with fail
        refine ⟨⟨j + 1, by omega, by go_num, ?_, HE2⟩, by simp [intOf]; omega⟩
        have e1 := HSn.out
        have e2 := HM.out
        have e3 := HX.out
        congr 1
        rw [e1]; omega
      · have d1 : decide (m < most) = false := by simpa using hmo
        have hr1 : r = m := by
          have e := HDe.out
          have e1 := HM.out
          have e2 := Tr.cntL_mono ps j
          rw [← HR.out, e]; omega
        subst hr1
        go_wp2_with fail
        go_ret
        exact ⟨rfl, h1'.of_alloc.trans HE.out⟩
    · have d0 : decide (j < ps.length) = false := by simpa using hlt
      have hj2 : j = ps.length := by omega
      subst hj2
      have hr1 : r = m := by
        have := HM.out
        rw [List.take_length] at this
        have e := HDe.out
        rw [← HR.out, e]; omega
      subst hr1
      go_wp2_with fail
      go_ret
      exact ⟨rfl, h1'.of_alloc.trans HE.out⟩
theorem count_ok (t : Tr) : CountOk t := by
  have : ∀ n (t : Tr), t.sz = n → CountOk t := by
    intro n
    induction n using Nat.strongRecOn with
    | _ n ih => intro t ht; exact count_step t (fun p hp => ih p.sz (by rw [← ht]; exact Tr.sz_parts hp) p rfl)
  exact this _ t rfl
set_option maxHeartbeats 1000000 in
theorem RNodes_ok (t : Tr) (v : Value) (w : World) (hV : VRep w t v) : Calls Tryd.prog 36 #[v] w fun e w' => e = .returned (.int .i64 (min (t.cnt : Int) 1025)) ∧ Ext w w' := by
  obtain ⟨k, i, s, la, ln, lc, da, dn, dc, rfl⟩ := hV.shape
  have HV := Lib.hid hV
  clear hV
  go_enter Tryd.func36, Tryd.ntmps36
  go_wp2_with fail
  refine (count_ok t _ _ _ (VRep.ext ((Ext.refl w).alloc _) _ _ HV.out) (by omega) (by omega)).mono ?_
  rintro e w1 ⟨rfl, h1⟩
  go_wp2_with fail
  go_ret
  exact ⟨rfl, h1.of_alloc⟩
set_option maxHeartbeats 1000000 in
theorem RDepth_ok (t : Tr) (v : Value) (w : World) (hV : VRep w t v) : Calls Tryd.prog 35 #[v] w fun e w' => e = .returned (.int .i64 (min (t.dep : Int) 17)) ∧ Ext w w' := by
  obtain ⟨k, i, s, la, ln, lc, da, dn, dc, rfl⟩ := hV.shape
  have HV := Lib.hid hV
  clear hV
  go_enter Tryd.func35, Tryd.ntmps35
  go_wp2_with fail
  refine (levels_ok t _ _ _ (VRep.ext ((Ext.refl w).alloc _) _ _ HV.out) (by omega) (by omega)).mono ?_
  rintro e w1 ⟨rfl, h1⟩
  go_wp2_with fail
  go_ret
  exact ⟨rfl, h1.of_alloc⟩
end Go.Proofs.YtipphlhaaienpaaDoor
