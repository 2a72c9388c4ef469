/- codec.Encode; how long encodings are. -/
import Derived.Test.YtdoofmohoamkbaaDoorApp
set_option linter.unusedSimpArgs false
set_option linter.unusedVariables false
namespace Go.Proofs.YtdoofmohoamkbaaDoor
open Go.RowKit
theorem encL_le (l : List Tr) (h : ∀ t ∈ l, (enc t).length + 50 ≤ 4200 * t.cnt) : (encL l).length ≤ 4200 * Tr.cntL l := by
  induction l with
  | nil => simp [encL]
  | cons x r ih =>
    simp only [encL, Tr.cntL, List.length_append]
    have := h x (by simp)
    have := ih (fun t ht => h t (by simp [ht]))
    omega
theorem encF_le (ns : List ByteArray) (ds : List Tr) (hn : ∀ n ∈ ns, n.size ≤ 32) (h : ∀ t ∈ ds, (enc t).length + 50 ≤ 4200 * t.cnt) : (encF ns ds).length ≤ 4200 * Tr.cntL ds := by
  induction ds generalizing ns with
  | nil => cases ns <;> simp [encF]
  | cons x r ih =>
    cases ns with
    | nil => simp [encF]
    | cons n nr =>
      simp only [encF, Tr.cntL, List.length_append]
      have h1 := h x (by simp)
      have h2 := ih nr (fun m hm => hn m (by simp [hm])) (fun t ht => h t (by simp [ht]))
      have h3 := hn n (by simp)
      have h4 := numL_10 _ (zz_lt _ (I64_nat n.size (by unfold maxLen; omega)))
      have h5 : n.data.toList.length = n.size := by simp
      omega
theorem enc_le (w : World) : ∀ (m : Nat) (t : Tr), t.sz = m → ∀ v, VRep w t v → snd t = true → (enc t).length + 50 ≤ 4200 * t.cnt := by
  intro m
  induction m using Nat.strongRecOn with
  | _ m ih =>
    intro t hm v hV hsd
    obtain ⟨k, i, s, lt, ns, ds⟩ := t
    have hsz : ∀ t, t ∈ lt ∨ t ∈ ds → t.sz < m := fun t ht => by
      rw [← hm]; rcases ht with h | h; exact Tr.sz_list h; exact Tr.sz_docs h
    unfold VRep at hV
    obtain ⟨la, lc, da, dc, rfl, ⟨hs, hk, hi⟩, hl1, hl2, hd1, hd2, hnd, hL, hD⟩ := hV
    obtain ⟨h1, h2, h3, h4⟩ := snd_list hsd
    have hLv : ∀ t ∈ lt, (enc t).length + 50 ≤ 4200 * t.cnt := fun t ht => by
      obtain ⟨j, hj, rfl⟩ := List.mem_iff_getElem.1 ht
      obtain ⟨b, off, c0, c1, c2, c3, c4, _, _, _, _, _, _, hv⟩ := LRep.at_ lt 0 j lt[j] hL (List.getElem?_eq_getElem hj)
      exact ih _ (hsz _ (.inl ht)) _ rfl _ hv (sndL_mem h3 _ ht)
    have hDv : ∀ t ∈ ds, (enc t).length + 50 ≤ 4200 * t.cnt := fun t ht => by
      obtain ⟨j, hj, rfl⟩ := List.mem_iff_getElem.1 ht
      obtain ⟨b, off, c0, c1, c2, c3, c4, _, _, _, _, _, _, _, _, hv⟩ := DRep.at_ ns ds 0 j (ns[j]'(by omega)) ds[j] hD (List.getElem?_eq_getElem (by omega)) (List.getElem?_eq_getElem hj)
      exact ih _ (hsz _ (.inr ht)) _ rfl _ hv (sndF_mem h4 _ ht)
    have hiN := numL_10 _ (zz_lt _ hi)
    have hsN := numL_10 _ (zz_lt _ (I64_nat s.size hs))
    have hlN := numL_10 _ (zz_lt _ (I64_nat lt.length (by omega)))
    have hdN := numL_10 _ (zz_lt _ (I64_nat ds.length (by omega)))
    have hsl : s.data.toList.length = s.size := by simp
    simp only [enc, Tr.cnt, List.length_append, List.length_singleton]
    by_cases k3 : k = 3 ∨ k = 10
    · rw [if_pos k3]; omega
    rw [if_neg k3]
    by_cases k9 : k = 9
    · rw [if_pos k9]; simp; omega
    rw [if_neg k9]
    by_cases k4 : k = 4 ∨ k = 7
    · rw [if_pos k4]
      have : s.size ≤ 4096 := by
        rcases k4 with rfl | rfl
        · simp [leafOk] at h2; exact h2.1
        · simpa [leafOk] using h2
      rw [List.length_append]; omega
    rw [if_neg k4]
    by_cases k8 : k = 8
    · subst k8
      have : s.size = 12 := by simpa [leafOk] using h2
      rw [if_pos rfl]; omega
    rw [if_neg k8]
    by_cases k6 : k = 6
    · rw [if_pos k6, if_pos k6]
      have := encL_le lt hLv
      rw [List.length_append]; omega
    rw [if_neg k6, if_neg k6]
    by_cases k5 : k = 5
    · rw [if_pos k5, if_pos k5]
      have := encF_le ns ds (fun n hn => nameB_le (sndF_names h4 hnd n hn)) hDv
      rw [List.length_append]; omega
    rw [if_neg k5, if_neg k5]
    simp
theorem enc_small {w : World} {t : Tr} {v : Value} (hV : VRep w t v) (h : validB t = true) : (enc t).length ≤ 4300800 ∧ snd t = true := by
  simp only [validB, Bool.and_eq_true, decide_eq_true_eq] at h
  have := enc_le w _ t rfl v hV h.2
  exact ⟨by omega, h.2⟩
/-- what Encode returns -/
def encR (t : Tr) : ByteArray × Int := if validB t then (⟨(enc t).toArray⟩, 0) else (⟨#[]⟩, 8)
theorem ret_str_int {a a' : ByteArray} {b b' : Int} (h1 : a = a') (h2 : b = b') : Ending.returned (.tuple #[.string a, .int .i64 b]) = .returned (.tuple #[.string a', .int .i64 b']) := by rw [h1, h2]
set_option maxRecDepth 20000 in
set_option maxHeartbeats 1000000 in
theorem Encode_ok (t : Tr) (v : Value) (w : World) (hV : VRep w t v) (hT : Tabs w) : Calls Tryd.prog 21 #[v] w fun e w' => e = .returned (.tuple #[.string (encR t).1, .int .i64 (encR t).2]) ∧ Ext w w' := by
  obtain ⟨k, i, s, la, ln, lc, da, dn, dc, rfl⟩ := hV.shape
  have HV := Lib.hid hV
  have HT := Lib.hid hT
  clear hV hT
  go_enter Tryd.func21, Tryd.ntmps21
  go_wp2_with fail
  refine (Valid_ok t _ _ (VRep.ext ((Ext.refl w).alloc _) _ _ HV.out) (HT.out.ext ((Ext.refl w).alloc _))).mono ?_
  rintro e w1 ⟨rfl, h1⟩
  have k1 := h1.ownc
  have l1 := h1.lt
  cases hb : validB t
  · have HF : Hid (encR t = (⟨#[]⟩, 8)) := by show _ = _; unfold encR; rw [hb]; rfl
    clear hb
    go_wp2_with fail
    go_ret2
    exact ⟨by rw [HF.out]; rfl, h1.of_alloc⟩
  · have HF : Hid (encR t = (⟨(enc t).toArray⟩, 0)) := by show _ = _; unfold encR; rw [hb]; rfl
    have HS := Lib.hid (enc_small HV.out hb)
    clear hb
    go_wp2_with fail
    refine (app_ok t _ _ [] w1.heap.size w w1 HS.out.2 HV.out h1.of_alloc (by omega) (Nat.le_refl _) (Buf.nil _ _) (by have := HS.out.1; simp; omega)).mono ?_
    rintro e w2 ⟨v2, rfl, hb2, hk2⟩
    rw [List.nil_append] at hb2
    have hc := hb2.str
    obtain ⟨ad2, c2, rfl⟩ := hb2.shape
    have HE := Lib.hid (h1.of_alloc.trans (hk2.ext (Ext.refl w1) (Nat.le_refl _)))
    clear hb2 hk2
    go_wp2_with fail
    go_ret2
    exact ⟨by rw [HF.out]; rfl, HE.out⟩
set_option maxRecDepth 20000 in
set_option maxHeartbeats 1000000 in
theorem numLength_ok (n : Int) (w : World) (h : I64 n) : Calls Tryd.prog 59 #[.int .i64 n] w fun e w' => e = .returned (.int .i64 ((numL (zz n)).length : Nat)) ∧ w = w' := by
  have H := Lib.hid h
  have HZ := Lib.hid (numL_10 _ (zz_lt n h))
  clear h
  obtain ⟨u, hu⟩ : ∃ u, zz n = u := ⟨_, rfl⟩
  rw [hu] at HZ ⊢
  obtain ⟨r, hr⟩ : ∃ r, (numL u).length = r := ⟨_, rfl⟩
  rw [hr] at HZ ⊢
  have HR := Lib.hid hr
  have HE := Lib.hid hu
  clear hu hr
  go_enter Tryd.func59, Tryd.ntmps59
  go_wp2_with fail
  refine (zigzag_ok n _ H.out).mono ?_
  rintro e w' ⟨rfl, rfl⟩
  rw [HE.out]
  go_wp2_with fail
  go_loopw [3, 4] (fun b x wr => ∃ y j : Nat, j ≤ 10 ∧ b = .int .i64 j ∧ x = .int .u64 y ∧ Hid (j + (numL y).length = r + 1) ∧ wr = w) (fun _ x _ => (intOf x).toNat)
  case atStart => exact ⟨u, 1, by omega, rfl, rfl, by show _ = _; rw [HR.out]; omega, rfl⟩
  case round =>
    obtain ⟨y, j, hj, rfl, rfl, HJ, rfl⟩ := hrel
    by_cases hlt : y < 128
    · have e := HJ.out
      rw [numL_lo hlt] at e
      have e2 : j = r := by simp at e; omega
      subst e2
      go_wp2_with fail
      go_ret
      exact ⟨rfl, rfl⟩
    · have e := HJ.out
      rw [numL_hi hlt] at e
      have HJ2 : Hid (j + 1 + (numL (y / 128)).length = r + 1) := by show _ = _; simp at e; omega
      have hj9 : j ≤ 9 := by have := numL_pos (y / 128); have := HZ.out; simp at e; omega
      clear e
      go_wp2_with fail
      exact ⟨⟨y / 128, j + 1, by omega, by go_num, by go_num, HJ2, trivial⟩, by simp [intOf]; omega⟩
end Go.Proofs.YtdoofmohoamkbaaDoor
