/- KeyencPrefix: for every input the law returns true: keys with the same first values lie in the range of their common prefix (the card, tied to the program's text). -/
import Derived.Test.YtipphlhaaienpaaDoorKBk
import Derived.Test.YtipphlhaaienpaaDoorD0
import Derived.Test.YtipphlhaaienpaaDoorKT
import Derived.Test.YtipphlhaaienpaaDoorTab
set_option linter.unusedSimpArgs false
set_option linter.unusedVariables false
namespace Go.Proofs.YtipphlhaaienpaaDoor
open Go.RowKit
theorem LRep.take {w : World} {a : Option Addr} : ∀ (l : List Tr) (o n : Nat), LRep w a o l → LRep w a o (l.take n)
  | [], _, n, _ => by simp [LRep]
  | t :: r, o, 0, _ => by simp [LRep]
  | t :: r, o, n + 1, h => by
    unfold LRep at h
    rw [List.take_succ_cons]
    unfold LRep
    exact ⟨h.1, LRep.take r (o + 5) n h.2⟩
theorem BRep.take {w : World} {a : Option Addr} {ds : List Bool} (h : BRep w a ds) (n : Nat) : BRep w a (ds.take n) := fun j d hj => by
  rw [List.getElem?_take] at hj
  split at hj
  · exact h j d hj
  · cases hj
theorem kencs_split : ∀ (n : Nat) (ts : List Tr) (ds : List Bool), kencs ts ds = kencs (ts.take n) (ds.take n) ++ kencs (ts.drop n) (ds.drop n)
  | 0, ts, ds => by simp [kencs]
  | n + 1, [], ds => by simp [kencs]
  | n + 1, t :: r, [] => by simp [kencs]
  | n + 1, t :: r, d :: e => by simp only [List.take_succ_cons, List.drop_succ_cons, kencs, kencs_split n r e, List.append_assoc]
theorem ip_app (p x : List UInt8) : p.isPrefixOf (p ++ x) = true := by
  induction p with
  | nil => rfl
  | cons a p ih => rw [List.cons_append, ip_cons]; exact ih
theorem ip_dif (p : List UInt8) {a b : UInt8} (h : a ≠ b) (x y : List UInt8) : (p ++ a :: x).isPrefixOf (p ++ b :: y) = false := by
  induction p with
  | nil => exact ip_cons_ne h x y
  | cons c p ih => rw [List.cons_append, List.cons_append, ip_cons]; exact ih
theorem Dif.pre {x y : List UInt8} {c : Int} (h : Dif x y c) : x = y ∨ ((x == y) = false ∧ x.isPrefixOf y = false ∧ y.isPrefixOf x = false) := by
  cases h with
  | eq => exact .inl rfl
  | ne p a b x y hab => exact .inr ⟨by simp [hab], ip_dif p hab x y, ip_dif p (fun e => hab e.symm) y x⟩
theorem one_list {w : World} {g : Nat} {t : Tr} {c0 c1 c2 c3 c4 : Value} (h : w.heap[g]? = some (.cells #[c0, c1, c2, c3, c4] 41 (0, 0))) (hv : VRep w t (.agg #[c0, c1, c2, c3, c4])) : LRep w (some ⟨g, 0, none⟩) 0 [t] := by
  have hc := blk_cell h
  unfold LRep
  refine ⟨⟨g, 0, _, _, _, _, _, rfl, hc 0, hc 1, hc 2, hc 3, hc 4, hv⟩, ?_⟩
  unfold LRep; trivial
theorem wrap_u8n (n : Nat) (h : n ≤ 255) : IntKind.i64.wrap (n : Int) = n := wrap_i64_val (n : Int) (by omega) (by omega)
theorem fits_one (t : Tr) (d : Bool) : fitsB [t] [d] = allowB t := by simp [fitsB]
set_option maxRecDepth 20000 in
set_option maxHeartbeats 4000000 in
theorem prefix_walk (ts : List Tr) (ds : List Bool) (u : Tr) (v : Value) (n : Nat) (la da : Option Addr) (lc dc : Nat) (w : World) (hL : LRep w la 0 ts) (hl1 : ts.length ≤ lc) (hl2 : lc ≤ maxLen) (hD : BRep w da ds) (hd1 : ds.length ≤ dc) (hd2 : dc ≤ maxLen) (hn : n ≤ 255) (hV : VRep w u v) (hT : Tabs w) :
    Calls Tryd.prog 9 #[.slice la ts.length lc, .slice da ds.length dc, .int .u8 (n : Int), v] w fun e w' => e = .returned (.bool true) ∧ Ext w w' := by
  have HT := Lib.hid hT
  have HD := Lib.hid hD
  have HL := Lib.hid hL
  have HV := Lib.hid hV
  have HM := Lib.hid hl2
  have HN := Lib.hid hd2
  obtain ⟨k1, i1, s1, la1, ln1, lc1, da1, dn1, dc1, rfl⟩ := hV.shape
  clear hT hD hL hV
  unfold maxLen at hl2 hd2
  have hw := wrap_u8n n hn
  obtain ⟨fb, hfb⟩ : ∃ b, fitsB ts ds = b := ⟨_, rfl⟩
  have HFb := Lib.hid hfb
  go_enter Tryd.func9, Tryd.ntmps9
  go_wp2_with fail
  refine (fits_ok ts ds la da lc dc _ (LRep.ext ((Ext.refl w).alloc _) _ _ _ HL.out) hl1 HM.out hd1 HN.out).mono ?_
  rw [HFb.out]
  rintro e w1 ⟨rfl, h1⟩
  have HE1 := Lib.hid h1.of_alloc
  have HX1 := Lib.hid (blk_ext (blk_at0 w _) h1)
  clear h1
  cases fb
  · clear hfb
    go_wp2_with fail
    refine (awake_ok _ (HT.out.ext HE1.out)).mono ?_
    rintro e w2 ⟨rfl, h2⟩
    go_wp2_with fail
    go_ret
    exact ⟨rfl, HE1.out.trans h2⟩
  by_cases hnl : n ≤ ts.length
  case neg =>
    have d : decide ((ts.length : Int) < (n : Int)) = true := by simp; omega
    clear hfb
    go_wp2_with fail
    refine (awake_ok _ (HT.out.ext HE1.out)).mono ?_
    rintro e w2 ⟨rfl, h2⟩
    go_wp2_with fail
    go_ret
    exact ⟨rfl, HE1.out.trans h2⟩
  have d : decide ((ts.length : Int) < (n : Int)) = false := by simp; omega
  obtain ⟨hlen, h40, hall⟩ := fits_parts hfb
  have hok : ∀ t ∈ ts, t.Ok ∧ allowB t = true := fun t ht => ⟨Tr.OkL_mem (LRep.trok _ _ _ HL.out) t ht, hall t ht⟩
  have hB := (kdec_back ts ds hlen hok).1
  have hBn := (kdec_back (ts.take n) (ds.take n) (by simp [hlen]) (fun t ht => hok t (List.mem_of_mem_take ht))).1
  have hks := kencs_le ts ds hall
  have hsp := kencs_split n ts ds
  obtain ⟨s, hs⟩ : ∃ s : ByteArray, ⟨(kencs ts ds).toArray⟩ = s := ⟨_, rfl⟩
  obtain ⟨p, hp⟩ : ∃ s : ByteArray, ⟨(kencs (ts.take n) (ds.take n)).toArray⟩ = s := ⟨_, rfl⟩
  have es : s.data.toList = kencs ts ds := by rw [← hs]
  have ep : p.data.toList = kencs (ts.take n) (ds.take n) := by rw [← hp]
  have hpre : preB p s = true := by unfold preB; rw [es, ep, hsp]; exact ip_app _ _
  have hsz : s.size ≤ 1000000000 := by
    have e : s.size = s.data.toList.length := by simp
    rw [e, es]; omega
  have hpz : p.size ≤ 1000000000 := by
    have e : p.size = p.data.toList.length := by simp
    have e2 : s.size = s.data.toList.length := by simp
    rw [hsp, ← ep] at es
    rw [es, List.length_append] at e2
    omega
  rw [hs] at hB
  rw [hp] at hBn
  have HBe := Lib.hid hB
  have HBn := Lib.hid hBn
  have HPre := Lib.hid hpre
  have HOk := Lib.hid hok
  have HLen := Lib.hid hlen
  have hnd : n ≤ ds.length := by omega
  have ltn : (ts.take n).length = n := by simp; omega
  have dtn : (ds.take n).length = n := by simp; omega
  have LTN := Lib.hid ltn
  have DTN := Lib.hid dtn
  clear hB hBn hks hsp hs hp es ep hpre hall hfb hlen hok ltn dtn
  go_wp2_with fail
  refine (Encode_ok ts ds la da lc dc _ (LRep.ext HE1.out _ _ _ HL.out) hl1 HM.out (HD.out.ext HE1.out) hd1 HN.out h40 (HT.out.ext HE1.out)).mono ?_
  rw [HBe.out]
  rintro e w2 ⟨rfl, h2⟩
  have HE2 := Lib.hid (HE1.out.trans h2)
  have HX2 := Lib.hid (blk_ext HX1.out h2)
  clear h2
  go_wp2_with fail
  refine wp_region_mix (Ext w2) [(true, 0), (true, 1), (true, 2), (true, 3), (true, 4), (true, 5), (false, 6), (true, 7), (true, 8), (true, 9), (true, 10), (true, 11)] (by kernel_rfl) (by kernel_rfl) (by kernel_rfl) (by kernel_rfl) ?hS ?_
  case hS => exact (Ext.refl _).drew
  have hnlc : n ≤ lc := by omega
  have hndc : n ≤ dc := by omega
  repeat (first | (refine wpMix_q (v := ?_) rfl rfl ?_ ?_; rotate_left; (· intro wq hSq; have cq := hSq.cells; go_simp; try (with_reducible rfl)); simp only [Act.put, List.setIfInBounds_toArray, List.set_cons_zero, List.set_cons_succ, List.getElem_toArray, List.getElem_cons_zero, List.getElem_cons_succ]) | (refine wpMix_u rfl rfl ?_; simp only [Act.put, List.setIfInBounds_toArray, List.set_cons_zero, List.set_cons_succ, List.getElem_toArray, List.getElem_cons_zero, List.getElem_cons_succ]))
  refine wpMix_l rfl rfl (fun K hK => ?_)
  go_simp
  have hEn := Encode_ok (ts.take n) (ds.take n) la da lc dc w2.drew (LRep.ext (HE2.out.trans (Ext.refl _).drew) _ _ _ (LRep.take _ _ n HL.out)) (by rw [LTN.out]; omega) HM.out ((HD.out.take n).ext (HE2.out.trans (Ext.refl _).drew)) (by rw [DTN.out]; omega) HN.out (by rw [LTN.out]; omega) (HT.out.ext (HE2.out.trans (Ext.refl _).drew))
  rw [LTN.out, DTN.out, HBn.out] at hEn
  refine hEn.mono ?_
  clear hEn
  rintro e w3 ⟨rfl, h3⟩
  have hR3 : Ext w2 w3 := (Ext.refl _).drew.trans h3
  have HE3 := Lib.hid (HE2.out.trans hR3)
  have HX3 := Lib.hid (blk_ext HX2.out hR3)
  refine hK _ _ hR3 ?_
  clear hK K hR3 h3
  repeat (first | (refine wpMix_q (v := ?_) rfl rfl ?_ ?_; rotate_left; (· intro wq hSq; have cq := hSq.cells; go_simp; try (with_reducible rfl)); simp only [Act.put, List.setIfInBounds_toArray, List.set_cons_zero, List.set_cons_succ, List.getElem_toArray, List.getElem_cons_zero, List.getElem_cons_succ]) | (refine wpMix_u rfl rfl ?_; simp only [Act.put, List.setIfInBounds_toArray, List.set_cons_zero, List.set_cons_succ, List.getElem_toArray, List.getElem_cons_zero, List.getElem_cons_succ]))
  refine wpMix_nil ?_
  go_wp2_with fail
  refine (HasPrefix_ok s p _ (by omega) (by omega)).mono ?_
  rintro e w4 ⟨rfl, rfl⟩
  rw [HPre.out]
  obtain ⟨ar, har⟩ : ∃ r, aftR p = r := ⟨_, rfl⟩
  have HAr := Lib.hid har
  obtain ⟨a, ab⟩ := ar
  have hlt : ab = true → Op.bytesLess s.toList a.toList = true := by
    rintro rfl
    obtain ⟨u, b, r, hb, hs, ep, ea⟩ := aft_split har
    have h2 := aft_range b hb r hs u s.data.toList
    rw [← ep, ← ea] at h2
    have h3 : preB p s = (!Op.bytesLess s.data.toList p.data.toList && Op.bytesLess s.data.toList a.data.toList) := h2
    rw [HPre.out] at h3
    have h4 := h3.symm
    rw [Bool.and_eq_true] at h4
    rw [ByteArray.toList_eq, ByteArray.toList_eq]; exact h4.2
  have HLt := Lib.hid hlt
  clear hlt har
  go_wp2_with fail
  refine (After_ok p _ (by omega)).mono ?_
  rw [HAr.out]
  rintro e w5 ⟨rfl, h5⟩
  have HE5 := Lib.hid (HE3.out.trans h5)
  have HX5 := Lib.hid (blk_ext HX3.out h5)
  clear h5
  have c5 := blk_cell HX5.out
  have l5 := blk_lt HX5.out
  by_cases hn0 : n = 0
  · subst hn0
    cases ab
    · go_wp2_with fail
      refine wp_region_mix (Ext w5) [(true, 0), (true, 1), (true, 2), (true, 3), (true, 5), (true, 6), (false, 4), (false, 7), (true, 8), (true, 9)] (by kernel_rfl) (by kernel_rfl) (by kernel_rfl) (by kernel_rfl) ?hS ?_
      case hS => exact (Ext.refl _).drew
      repeat (first | (refine wpMix_q (v := ?_) rfl rfl ?_ ?_; rotate_left; (· intro wq hSq; have cq := hSq.cells; go_simp; try (with_reducible rfl)); simp only [Act.put, List.setIfInBounds_toArray, List.set_cons_zero, List.set_cons_succ, List.getElem_toArray, List.getElem_cons_zero, List.getElem_cons_succ]) | (refine wpMix_u rfl rfl ?_; simp only [Act.put, List.setIfInBounds_toArray, List.set_cons_zero, List.set_cons_succ, List.getElem_toArray, List.getElem_cons_zero, List.getElem_cons_succ]))
      refine wpMix_n rfl rfl (Ext.refl _).drew ?_
      (try simp only [Act.put, List.setIfInBounds_toArray, List.set_cons_zero, List.set_cons_succ, List.getElem_toArray, List.getElem_cons_zero, List.getElem_cons_succ])
      refine wpMix_n rfl rfl (Ext.refl _).drew ?_
      (try simp only [Act.put, List.setIfInBounds_toArray, List.set_cons_zero, List.set_cons_succ, List.getElem_toArray, List.getElem_cons_zero, List.getElem_cons_succ])
      repeat (first | (refine wpMix_q (v := ?_) rfl rfl ?_ ?_; rotate_left; (· intro wq hSq; have cq := hSq.cells; go_simp; try (with_reducible rfl)); simp only [Act.put, List.setIfInBounds_toArray, List.set_cons_zero, List.set_cons_succ, List.getElem_toArray, List.getElem_cons_zero, List.getElem_cons_succ]) | (refine wpMix_u rfl rfl ?_; simp only [Act.put, List.setIfInBounds_toArray, List.set_cons_zero, List.set_cons_succ, List.getElem_toArray, List.getElem_cons_zero, List.getElem_cons_succ]))
      refine wpMix_nil ?_
      go_wp2_with fail
      refine (awake_ok _ (HT.out.ext HE5.out.drew)).mono ?_
      rintro e w6 ⟨rfl, h6⟩
      go_wp2_with fail
      go_ret
      exact ⟨rfl, HE5.out.drew.trans h6⟩
    · have d6 := HLt.out (by trivial)
      go_wp2_with fail
      refine wp_region_mix (Ext w5) [(true, 0), (true, 1), (true, 2), (true, 3), (true, 5), (true, 6), (false, 4), (false, 7), (true, 8), (true, 9)] (by kernel_rfl) (by kernel_rfl) (by kernel_rfl) (by kernel_rfl) ?hS ?_
      case hS => exact (Ext.refl _).drew
      repeat (first | (refine wpMix_q (v := ?_) rfl rfl ?_ ?_; rotate_left; (· intro wq hSq; have cq := hSq.cells; go_simp; try (with_reducible rfl)); simp only [Act.put, List.setIfInBounds_toArray, List.set_cons_zero, List.set_cons_succ, List.getElem_toArray, List.getElem_cons_zero, List.getElem_cons_succ]) | (refine wpMix_u rfl rfl ?_; simp only [Act.put, List.setIfInBounds_toArray, List.set_cons_zero, List.set_cons_succ, List.getElem_toArray, List.getElem_cons_zero, List.getElem_cons_succ]))
      refine wpMix_n rfl rfl (Ext.refl _).drew ?_
      (try simp only [Act.put, List.setIfInBounds_toArray, List.set_cons_zero, List.set_cons_succ, List.getElem_toArray, List.getElem_cons_zero, List.getElem_cons_succ])
      refine wpMix_n rfl rfl (Ext.refl _).drew ?_
      (try simp only [Act.put, List.setIfInBounds_toArray, List.set_cons_zero, List.set_cons_succ, List.getElem_toArray, List.getElem_cons_zero, List.getElem_cons_succ])
      repeat (first | (refine wpMix_q (v := ?_) rfl rfl ?_ ?_; rotate_left; (· intro wq hSq; have cq := hSq.cells; go_simp; try (with_reducible rfl)); simp only [Act.put, List.setIfInBounds_toArray, List.set_cons_zero, List.set_cons_succ, List.getElem_toArray, List.getElem_cons_zero, List.getElem_cons_succ]) | (refine wpMix_u rfl rfl ?_; simp only [Act.put, List.setIfInBounds_toArray, List.set_cons_zero, List.set_cons_succ, List.getElem_toArray, List.getElem_cons_zero, List.getElem_cons_succ]))
      refine wpMix_nil ?_
      go_wp2_with fail
      refine (awake_ok _ (HT.out.ext HE5.out.drew)).mono ?_
      rintro e w6 ⟨rfl, h6⟩
      go_wp2_with fail
      go_ret
      exact ⟨rfl, HE5.out.drew.trans h6⟩
  have hn1 : 1 ≤ n := by omega
  have dn : ((n : Int) == 0) = false := beq_eq_false_iff_ne.2 (by omega)
  have hdc1 : 1 ≤ dc := by omega
  have hlc1 : 1 ≤ lc := by omega
  have hlc0 : ¬ lc = 0 := by omega
  have hdc0 : ¬ dc = 0 := by omega
  have hdcI : (1 : Int) ≤ (dc : Int) := by omega
  have hlcI : (1 : Int) ≤ (lc : Int) := by omega
  obtain ⟨t0, tr, hts⟩ : ∃ t r, ts = t :: r := by cases ts with
    | nil => simp at hnl; omega
    | cons t r => exact ⟨t, r, rfl⟩
  obtain ⟨d0, dr, hds⟩ : ∃ t r, ds = t :: r := by cases ds with
    | nil => simp at hnd; omega
    | cons t r => exact ⟨t, r, rfl⟩
  have LT1 : Hid ((ts.take 1).length = 1) := by show _ = _; rw [hts]; simp
  have DT1 : Hid ((ds.take 1).length = 1) := by show _ = _; rw [hds]; simp
  have HD1 : Hid (ds.take 1 = [d0]) := by show _ = _; rw [hds]; simp
  have hot := HOk.out t0 (by rw [hts]; simp)
  have huo := VRep.trok _ _ HV.out
  obtain ⟨xs, hxs⟩ : ∃ s : ByteArray, ⟨(kone d0 t0).toArray⟩ = s := ⟨_, rfl⟩
  obtain ⟨ys, hys⟩ : ∃ s : ByteArray, ⟨(if allowB u then kone d0 u else []).toArray⟩ = s := ⟨_, rfl⟩
  have hfin : allowB u = true → kencE (ts.take 1) (ds.take 1) = (xs, 0) ∧ kencE [u] (ds.take 1) = (ys, 0) ∧ (xs = ys ∨ ((xs.toList == ys.toList) = false ∧ preB xs ys = false ∧ preB ys xs = false)) := fun hal => by
    rw [hal, if_pos rfl] at hys
    have e1 : kencE [t0] [d0] = (xs, 0) := by rw [(kdec_back [t0] [d0] rfl (by simpa using hot)).1, ← hxs]; simp [kencs]
    have e2 : kencE [u] [d0] = (ys, 0) := by rw [(kdec_back [u] [d0] rfl (by simpa using ⟨huo, hal⟩)).1, ← hys]; simp [kencs]
    refine ⟨by rw [hts, hds]; simpa using e1, by rw [hds]; simpa using e2, ?_⟩
    have hd := (kone_dif d0 (kencA_dif t0 u hot.2 hal hot.1 huo)).pre
    rw [ByteArray.toList_eq, ByteArray.toList_eq]
    rcases hd with h | h
    · left; rw [← hxs, ← hys, h]
    · right; rw [← hxs, ← hys]; exact h
  have hxz : xs.size ≤ 10000000 := by
    have e : xs.size = xs.data.toList.length := by simp
    rw [e, ← hxs]; show (kone d0 t0).length ≤ _; rw [kone_len]; have := kenc_small hot.2; omega
  have hyz : ys.size ≤ 10000000 := by
    have e : ys.size = ys.data.toList.length := by simp
    rw [e, ← hys]; show (if allowB u then kone d0 u else []).length ≤ _
    cases hal : allowB u
    · simp
    · rw [if_pos rfl, kone_len]; have := kenc_small hal; omega
  have HFin := Lib.hid hfin
  clear hfin hxs hys hts hds huo hot
  cases ab
  · go_wp2_with fail
    refine wp_region_mix (Ext w5) [(true, 0), (true, 1), (true, 2), (true, 3), (true, 5), (true, 6), (false, 4), (false, 7), (true, 8), (true, 9)] (by kernel_rfl) (by kernel_rfl) (by kernel_rfl) (by kernel_rfl) ?hS ?_
    case hS => exact (Ext.refl _).drew
    repeat (first | (refine wpMix_q (v := ?_) rfl rfl ?_ ?_; rotate_left; (· intro wq hSq; have cq := hSq.cells; go_simp; try (with_reducible rfl)); simp only [Act.put, List.setIfInBounds_toArray, List.set_cons_zero, List.set_cons_succ, List.getElem_toArray, List.getElem_cons_zero, List.getElem_cons_succ]) | (refine wpMix_u rfl rfl ?_; simp only [Act.put, List.setIfInBounds_toArray, List.set_cons_zero, List.set_cons_succ, List.getElem_toArray, List.getElem_cons_zero, List.getElem_cons_succ]))
    refine wpMix_l rfl rfl (fun K hK => ?_)
    go_simp
    refine hK _ _ ((Ext.refl _).drew.alloc _) ?_
    clear hK K
    refine wpMix_l rfl rfl (fun K hK => ?_)
    go_simp
    have hF1 := fits_ok [u] (ds.take 1) (some ⟨w5.heap.size, 0, none⟩) da 1 dc (w5.drew.alloc (.cells #[.int .i64 k1, .int .i64 i1, .string s1, .slice la1 ln1 lc1, .slice da1 dn1 dc1] 41)) (one_list (blk_at0 w5.drew _) (VRep.ext ((HE5.out.drew).alloc _) _ _ HV.out)) (by simp) (by unfold maxLen; omega) (by rw [DT1.out]; omega) HN.out
    rw [DT1.out, HD1.out, fits_one] at hF1
    refine hF1.mono ?_
    clear hF1
    rintro e w6 ⟨rfl, h6⟩
    have hR6 : Ext w5 w6 := ((Ext.refl _).drew.alloc _).trans h6
    have HE6 := Lib.hid (HE5.out.trans hR6)
    have HX6 := Lib.hid (blk_ext HX5.out hR6)
    have HV6 := Lib.hid (VRep.ext HE6.out _ _ HV.out)
    refine hK _ _ hR6 ?_
    clear hK K hR6 h6
    repeat (first | (refine wpMix_q (v := ?_) rfl rfl ?_ ?_; rotate_left; (· intro wq hSq; have cq := hSq.cells; go_simp; try (with_reducible rfl)); simp only [Act.put, List.setIfInBounds_toArray, List.set_cons_zero, List.set_cons_succ, List.getElem_toArray, List.getElem_cons_zero, List.getElem_cons_succ]) | (refine wpMix_u rfl rfl ?_; simp only [Act.put, List.setIfInBounds_toArray, List.set_cons_zero, List.set_cons_succ, List.getElem_toArray, List.getElem_cons_zero, List.getElem_cons_succ]))
    refine wpMix_nil ?_
    obtain ⟨al, hal⟩ : ∃ b, allowB u = b := ⟨_, rfl⟩
    rw [hal]
    cases al
    · clear hal
      go_wp2_with fail
      refine (awake_ok _ (HT.out.ext HE6.out)).mono ?_
      rintro e w7 ⟨rfl, h7⟩
      go_wp2_with fail
      go_ret
      exact ⟨rfl, HE6.out.trans h7⟩
    have c6 := blk_cell HX6.out
    have l6 := blk_lt HX6.out
    obtain ⟨hx, hy, hxy⟩ := HFin.out hal
    have HX := Lib.hid hx
    have HY := Lib.hid hy
    have HXY := Lib.hid hxy
    clear hx hy hxy hal
    go_wp2_with fail
    refine wp_region_mix (Ext w6) [(true, 0), (true, 1), (true, 2), (true, 3), (false, 4), (true, 5), (true, 6), (true, 7), (true, 8), (true, 9)] (by kernel_rfl) (by kernel_rfl) (by kernel_rfl) (by kernel_rfl) ?hS ?_
    case hS => exact (Ext.refl _).drew
    repeat (first | (refine wpMix_q (v := ?_) rfl rfl ?_ ?_; rotate_left; (· intro wq hSq; have cq := hSq.cells; go_simp; try (with_reducible rfl)); simp only [Act.put, List.setIfInBounds_toArray, List.set_cons_zero, List.set_cons_succ, List.getElem_toArray, List.getElem_cons_zero, List.getElem_cons_succ]) | (refine wpMix_u rfl rfl ?_; simp only [Act.put, List.setIfInBounds_toArray, List.set_cons_zero, List.set_cons_succ, List.getElem_toArray, List.getElem_cons_zero, List.getElem_cons_succ]))
    refine wpMix_l rfl rfl (fun K hK => ?_)
    go_simp
    have hEn := Encode_ok (ts.take 1) (ds.take 1) la da lc dc w6.drew (LRep.ext HE6.out.drew _ _ _ (LRep.take _ _ 1 HL.out)) (by rw [LT1.out]; omega) HM.out ((HD.out.take 1).ext HE6.out.drew) (by rw [DT1.out]; omega) HN.out (by rw [LT1.out]; omega) (HT.out.ext HE6.out.drew)
    rw [LT1.out, DT1.out, HX.out] at hEn
    refine hEn.mono ?_
    clear hEn
    rintro e w7 ⟨rfl, h7⟩
    have hR7 : Ext w6 w7 := (Ext.refl _).drew.trans h7
    have HE7 := Lib.hid (HE6.out.trans hR7)
    have HX7 := Lib.hid (blk_ext HX6.out hR7)
    refine hK _ _ hR7 ?_
    clear hK K hR7 h7 c6
    repeat (first | (refine wpMix_q (v := ?_) rfl rfl ?_ ?_; rotate_left; (· intro wq hSq; have cq := hSq.cells; go_simp; try (with_reducible rfl)); simp only [Act.put, List.setIfInBounds_toArray, List.set_cons_zero, List.set_cons_succ, List.getElem_toArray, List.getElem_cons_zero, List.getElem_cons_succ]) | (refine wpMix_u rfl rfl ?_; simp only [Act.put, List.setIfInBounds_toArray, List.set_cons_zero, List.set_cons_succ, List.getElem_toArray, List.getElem_cons_zero, List.getElem_cons_succ]))
    refine wpMix_nil ?_
    have c7 := blk_cell HX7.out
    have l7 := blk_lt HX7.out
    go_wp2_with fail
    refine wp_region_mix (Ext w7) [(true, 0), (true, 2), (true, 3), (false, 1), (false, 4), (true, 5), (true, 6), (true, 7), (true, 8), (true, 9)] (by kernel_rfl) (by kernel_rfl) (by kernel_rfl) (by kernel_rfl) ?hS ?_
    case hS => exact (Ext.refl _).drew
    repeat (first | (refine wpMix_q (v := ?_) rfl rfl ?_ ?_; rotate_left; (· intro wq hSq; have cq := hSq.cells; go_simp; try (with_reducible rfl)); simp only [Act.put, List.setIfInBounds_toArray, List.set_cons_zero, List.set_cons_succ, List.getElem_toArray, List.getElem_cons_zero, List.getElem_cons_succ]) | (refine wpMix_u rfl rfl ?_; simp only [Act.put, List.setIfInBounds_toArray, List.set_cons_zero, List.set_cons_succ, List.getElem_toArray, List.getElem_cons_zero, List.getElem_cons_succ]))
    refine wpMix_l rfl rfl (fun K hK => ?_)
    go_simp
    refine hK _ _ ((Ext.refl _).drew.alloc _) ?_
    clear hK K
    refine wpMix_l rfl rfl (fun K hK => ?_)
    go_simp
    have hEn := Encode_ok [u] (ds.take 1) (some ⟨w7.heap.size, 0, none⟩) da 1 dc (w7.drew.alloc (.cells #[.int .i64 k1, .int .i64 i1, .string s1, .slice la1 ln1 lc1, .slice da1 dn1 dc1] 41)) (one_list (blk_at0 w7.drew _) (VRep.ext ((HE7.out.drew).alloc _) _ _ HV.out)) (by simp) (by unfold maxLen; omega) ((HD.out.take 1).ext ((HE7.out.drew).alloc _)) (by rw [DT1.out]; omega) HN.out (by simp) (HT.out.ext ((HE7.out.drew).alloc _))
    rw [DT1.out, HY.out] at hEn
    refine hEn.mono ?_
    clear hEn
    rintro e w8 ⟨rfl, h8⟩
    have hR8 : Ext w7 w8 := ((Ext.refl _).drew.alloc _).trans h8
    have HE8 := Lib.hid (HE7.out.trans hR8)
    refine hK _ _ hR8 ?_
    clear hK K hR8 h8 c7
    repeat (first | (refine wpMix_q (v := ?_) rfl rfl ?_ ?_; rotate_left; (· intro wq hSq; have cq := hSq.cells; go_simp; try (with_reducible rfl)); simp only [Act.put, List.setIfInBounds_toArray, List.set_cons_zero, List.set_cons_succ, List.getElem_toArray, List.getElem_cons_zero, List.getElem_cons_succ]) | (refine wpMix_u rfl rfl ?_; simp only [Act.put, List.setIfInBounds_toArray, List.set_cons_zero, List.set_cons_succ, List.getElem_toArray, List.getElem_cons_zero, List.getElem_cons_succ]))
    refine wpMix_nil ?_
    rcases HXY.out with hxy | ⟨e1, e2, e3⟩
    · have dxy : (xs.toList == ys.toList) = true := by rw [hxy]; simp
      clear hxy
      go_wp2_with fail
      refine (awake_ok _ (HT.out.ext HE8.out)).mono ?_
      rintro e w9 ⟨rfl, h9⟩
      go_wp2_with fail
      go_ret
      exact ⟨rfl, HE8.out.trans h9⟩
    · have P2 := Lib.hid e2
      have P3 := Lib.hid e3
      clear e2 e3
      go_wp2_with fail
      refine (HasPrefix_ok xs ys _ (by omega) (by omega)).mono ?_
      rintro e w9 ⟨rfl, rfl⟩
      rw [P3.out]
      go_wp2_with fail
      refine (HasPrefix_ok ys xs _ (by omega) (by omega)).mono ?_
      rintro e w9 ⟨rfl, rfl⟩
      rw [P2.out]
      go_wp2_with fail
      refine (awake_ok _ (HT.out.ext HE8.out)).mono ?_
      rintro e w9 ⟨rfl, h9⟩
      go_wp2_with fail
      go_ret
      exact ⟨rfl, HE8.out.trans h9⟩
  · have d6 := HLt.out (by trivial)
    go_wp2_with fail
    refine wp_region_mix (Ext w5) [(true, 0), (true, 1), (true, 2), (true, 3), (true, 5), (true, 6), (false, 4), (false, 7), (true, 8), (true, 9)] (by kernel_rfl) (by kernel_rfl) (by kernel_rfl) (by kernel_rfl) ?hS ?_
    case hS => exact (Ext.refl _).drew
    repeat (first | (refine wpMix_q (v := ?_) rfl rfl ?_ ?_; rotate_left; (· intro wq hSq; have cq := hSq.cells; go_simp; try (with_reducible rfl)); simp only [Act.put, List.setIfInBounds_toArray, List.set_cons_zero, List.set_cons_succ, List.getElem_toArray, List.getElem_cons_zero, List.getElem_cons_succ]) | (refine wpMix_u rfl rfl ?_; simp only [Act.put, List.setIfInBounds_toArray, List.set_cons_zero, List.set_cons_succ, List.getElem_toArray, List.getElem_cons_zero, List.getElem_cons_succ]))
    refine wpMix_l rfl rfl (fun K hK => ?_)
    go_simp
    refine hK _ _ ((Ext.refl _).drew.alloc _) ?_
    clear hK K
    refine wpMix_l rfl rfl (fun K hK => ?_)
    go_simp
    have hF1 := fits_ok [u] (ds.take 1) (some ⟨w5.heap.size, 0, none⟩) da 1 dc (w5.drew.alloc (.cells #[.int .i64 k1, .int .i64 i1, .string s1, .slice la1 ln1 lc1, .slice da1 dn1 dc1] 41)) (one_list (blk_at0 w5.drew _) (VRep.ext ((HE5.out.drew).alloc _) _ _ HV.out)) (by simp) (by unfold maxLen; omega) (by rw [DT1.out]; omega) HN.out
    rw [DT1.out, HD1.out, fits_one] at hF1
    refine hF1.mono ?_
    clear hF1
    rintro e w6 ⟨rfl, h6⟩
    have hR6 : Ext w5 w6 := ((Ext.refl _).drew.alloc _).trans h6
    have HE6 := Lib.hid (HE5.out.trans hR6)
    have HX6 := Lib.hid (blk_ext HX5.out hR6)
    have HV6 := Lib.hid (VRep.ext HE6.out _ _ HV.out)
    refine hK _ _ hR6 ?_
    clear hK K hR6 h6
    repeat (first | (refine wpMix_q (v := ?_) rfl rfl ?_ ?_; rotate_left; (· intro wq hSq; have cq := hSq.cells; go_simp; try (with_reducible rfl)); simp only [Act.put, List.setIfInBounds_toArray, List.set_cons_zero, List.set_cons_succ, List.getElem_toArray, List.getElem_cons_zero, List.getElem_cons_succ]) | (refine wpMix_u rfl rfl ?_; simp only [Act.put, List.setIfInBounds_toArray, List.set_cons_zero, List.set_cons_succ, List.getElem_toArray, List.getElem_cons_zero, List.getElem_cons_succ]))
    refine wpMix_nil ?_
    obtain ⟨al, hal⟩ : ∃ b, allowB u = b := ⟨_, rfl⟩
    rw [hal]
    cases al
    · clear hal
      go_wp2_with fail
      refine (awake_ok _ (HT.out.ext HE6.out)).mono ?_
      rintro e w7 ⟨rfl, h7⟩
      go_wp2_with fail
      go_ret
      exact ⟨rfl, HE6.out.trans h7⟩
    have c6 := blk_cell HX6.out
    have l6 := blk_lt HX6.out
    obtain ⟨hx, hy, hxy⟩ := HFin.out hal
    have HX := Lib.hid hx
    have HY := Lib.hid hy
    have HXY := Lib.hid hxy
    clear hx hy hxy hal
    go_wp2_with fail
    refine wp_region_mix (Ext w6) [(true, 0), (true, 1), (true, 2), (true, 3), (false, 4), (true, 5), (true, 6), (true, 7), (true, 8), (true, 9)] (by kernel_rfl) (by kernel_rfl) (by kernel_rfl) (by kernel_rfl) ?hS ?_
    case hS => exact (Ext.refl _).drew
    repeat (first | (refine wpMix_q (v := ?_) rfl rfl ?_ ?_; rotate_left; (· intro wq hSq; have cq := hSq.cells; go_simp; try (with_reducible rfl)); simp only [Act.put, List.setIfInBounds_toArray, List.set_cons_zero, List.set_cons_succ, List.getElem_toArray, List.getElem_cons_zero, List.getElem_cons_succ]) | (refine wpMix_u rfl rfl ?_; simp only [Act.put, List.setIfInBounds_toArray, List.set_cons_zero, List.set_cons_succ, List.getElem_toArray, List.getElem_cons_zero, List.getElem_cons_succ]))
    refine wpMix_l rfl rfl (fun K hK => ?_)
    go_simp
    have hEn := Encode_ok (ts.take 1) (ds.take 1) la da lc dc w6.drew (LRep.ext HE6.out.drew _ _ _ (LRep.take _ _ 1 HL.out)) (by rw [LT1.out]; omega) HM.out ((HD.out.take 1).ext HE6.out.drew) (by rw [DT1.out]; omega) HN.out (by rw [LT1.out]; omega) (HT.out.ext HE6.out.drew)
    rw [LT1.out, DT1.out, HX.out] at hEn
    refine hEn.mono ?_
    clear hEn
    rintro e w7 ⟨rfl, h7⟩
    have hR7 : Ext w6 w7 := (Ext.refl _).drew.trans h7
    have HE7 := Lib.hid (HE6.out.trans hR7)
    have HX7 := Lib.hid (blk_ext HX6.out hR7)
    refine hK _ _ hR7 ?_
    clear hK K hR7 h7 c6
    repeat (first | (refine wpMix_q (v := ?_) rfl rfl ?_ ?_; rotate_left; (· intro wq hSq; have cq := hSq.cells; go_simp; try (with_reducible rfl)); simp only [Act.put, List.setIfInBounds_toArray, List.set_cons_zero, List.set_cons_succ, List.getElem_toArray, List.getElem_cons_zero, List.getElem_cons_succ]) | (refine wpMix_u rfl rfl ?_; simp only [Act.put, List.setIfInBounds_toArray, List.set_cons_zero, List.set_cons_succ, List.getElem_toArray, List.getElem_cons_zero, List.getElem_cons_succ]))
    refine wpMix_nil ?_
    have c7 := blk_cell HX7.out
    have l7 := blk_lt HX7.out
    go_wp2_with fail
    refine wp_region_mix (Ext w7) [(true, 0), (true, 2), (true, 3), (false, 1), (false, 4), (true, 5), (true, 6), (true, 7), (true, 8), (true, 9)] (by kernel_rfl) (by kernel_rfl) (by kernel_rfl) (by kernel_rfl) ?hS ?_
    case hS => exact (Ext.refl _).drew
    repeat (first | (refine wpMix_q (v := ?_) rfl rfl ?_ ?_; rotate_left; (· intro wq hSq; have cq := hSq.cells; go_simp; try (with_reducible rfl)); simp only [Act.put, List.setIfInBounds_toArray, List.set_cons_zero, List.set_cons_succ, List.getElem_toArray, List.getElem_cons_zero, List.getElem_cons_succ]) | (refine wpMix_u rfl rfl ?_; simp only [Act.put, List.setIfInBounds_toArray, List.set_cons_zero, List.set_cons_succ, List.getElem_toArray, List.getElem_cons_zero, List.getElem_cons_succ]))
    refine wpMix_l rfl rfl (fun K hK => ?_)
    go_simp
    refine hK _ _ ((Ext.refl _).drew.alloc _) ?_
    clear hK K
    refine wpMix_l rfl rfl (fun K hK => ?_)
    go_simp
    have hEn := Encode_ok [u] (ds.take 1) (some ⟨w7.heap.size, 0, none⟩) da 1 dc (w7.drew.alloc (.cells #[.int .i64 k1, .int .i64 i1, .string s1, .slice la1 ln1 lc1, .slice da1 dn1 dc1] 41)) (one_list (blk_at0 w7.drew _) (VRep.ext ((HE7.out.drew).alloc _) _ _ HV.out)) (by simp) (by unfold maxLen; omega) ((HD.out.take 1).ext ((HE7.out.drew).alloc _)) (by rw [DT1.out]; omega) HN.out (by simp) (HT.out.ext ((HE7.out.drew).alloc _))
    rw [DT1.out, HY.out] at hEn
    refine hEn.mono ?_
    clear hEn
    rintro e w8 ⟨rfl, h8⟩
    have hR8 : Ext w7 w8 := ((Ext.refl _).drew.alloc _).trans h8
    have HE8 := Lib.hid (HE7.out.trans hR8)
    refine hK _ _ hR8 ?_
    clear hK K hR8 h8 c7
    repeat (first | (refine wpMix_q (v := ?_) rfl rfl ?_ ?_; rotate_left; (· intro wq hSq; have cq := hSq.cells; go_simp; try (with_reducible rfl)); simp only [Act.put, List.setIfInBounds_toArray, List.set_cons_zero, List.set_cons_succ, List.getElem_toArray, List.getElem_cons_zero, List.getElem_cons_succ]) | (refine wpMix_u rfl rfl ?_; simp only [Act.put, List.setIfInBounds_toArray, List.set_cons_zero, List.set_cons_succ, List.getElem_toArray, List.getElem_cons_zero, List.getElem_cons_succ]))
    refine wpMix_nil ?_
    rcases HXY.out with hxy | ⟨e1, e2, e3⟩
    · have dxy : (xs.toList == ys.toList) = true := by rw [hxy]; simp
      clear hxy
      go_wp2_with fail
      refine (awake_ok _ (HT.out.ext HE8.out)).mono ?_
      rintro e w9 ⟨rfl, h9⟩
      go_wp2_with fail
      go_ret
      exact ⟨rfl, HE8.out.trans h9⟩
    · have P2 := Lib.hid e2
      have P3 := Lib.hid e3
      clear e2 e3
      go_wp2_with fail
      refine (HasPrefix_ok xs ys _ (by omega) (by omega)).mono ?_
      rintro e w9 ⟨rfl, rfl⟩
      rw [P3.out]
      go_wp2_with fail
      refine (HasPrefix_ok ys xs _ (by omega) (by omega)).mono ?_
      rintro e w9 ⟨rfl, rfl⟩
      rw [P2.out]
      go_wp2_with fail
      refine (awake_ok _ (HT.out.ext HE8.out)).mono ?_
      rintro e w9 ⟨rfl, h9⟩
      go_wp2_with fail
      go_ret
      exact ⟨rfl, HE8.out.trans h9⟩
end Go.Proofs.YtipphlhaaienpaaDoor
set_option linter.unusedSimpArgs false
set_option linter.unusedVariables false
namespace Go.Proofs.YtipphlhaaienpaaDoor.keyencPrefix
open Go.ChangeShapes Go.WideShapes Go.ChangeAt Go.RowKit

/-- What the walk gives, for every argument and every world. -/
theorem contract (H : Type) (enc : TypeId × Value → H) (W : World) (base : Nat) (args : Array Value) (ds gs : List (DataW H)) (before : List MemPlace)
    (hval : ∀ (j : Nat) t v, Tryd.f9.params[j]? = some t → args[j]? = some v → Value.okWide Tryd.prog W .any base t v)
    (hW : DataW.Whole enc Tryd.prog Tryd.f9.params.toList Rows.keyencPrefixSpec.vars false W args.toList ds gs before) (_hL : laidMetH Tryd.prog Rows.keyencPrefixRow.laid W) (hWt : (DataW.weightsEach Tryd.prog (Tryd.f9.params.toList ++ (OpenSpec.ofChange Rows.keyencPrefixSpec).bare.plain.varTypes Tryd.prog) (ds ++ gs)).all (· ≤ reachBytes) = true) :
    Calls Tryd.prog 9 args W fun e W' => ∃ v, e = .returned v ∧ Rows.keyencPrefixSpec.post enc Tryd.prog Tryd.f9 false true false false W args v W' := by
  have hW' := hW
  obtain ⟨p, q, hA0, hV, rfl, hfz, hnd⟩ := hW
  have hA : DataW.TrodAll enc Tryd.prog W 0 (fun _ => true) true Tryd.f9.params.toList args.toList ds p := hA0
  rw [Tryd.params9] at hA hval hWt
  obtain ⟨v0, vs0, d0, ds0, p0, q0, hargs, rfl, rfl, h0, r0⟩ := trodAll_cons hA
  obtain ⟨v1, vs1, d1, ds1, p1, q1, rfl, rfl, rfl, h1, r1⟩ := trodAll_cons r0
  obtain ⟨v2, vs2, d2, ds2, p2, q2, rfl, rfl, rfl, h2, r2⟩ := trodAll_cons r1
  obtain ⟨v3, vs3, d3, ds3, p3, q3, rfl, rfl, rfl, h3, r3⟩ := trodAll_cons r2
  obtain ⟨rfl, rfl, rfl⟩ := trodAll_nil r3
  obtain rfl : args = #[v0, v1, v2, v3] := by cases args; simp_all
  obtain ⟨rfl, rfl⟩ := trodVars_none hV
  clear hA0 hargs
  suffices walk : Calls Tryd.prog 9 #[v0, v1, v2, v3] W fun e W' => e = .returned (.bool true) ∧ Ext W W' by
    refine walk.mono fun e W' ⟨he, hg⟩ => ?_
    subst he
    exact ⟨_, rfl, law_post (by kernel_rfl) (by kernel_rfl) rfl rfl Tryd.underlying4 hW' rfl hg⟩
  have hT : Tabs W := tabs_of_laid _hL
  obtain ⟨a0, c0, ts0, rfl, hc01, hc02, hL0⟩ := lrep_arg (hval 0 22 v0 rfl rfl) h0 (fun n hn => by
    have := List.all_eq_true.1 hWt n (by simp [DataW.weightsEach, hn])
    exact of_decide_eq_true this)
  obtain ⟨a1, ds1, c1, rfl, hc11, hc12, hB1⟩ := brep_arg (hval 1 23 v1 rfl rfl) h1
  obtain ⟨n, rfl, rfl, rfl, wn⟩ := open_int Tryd.underlying5 (hval 2 5 v2 rfl rfl) h2
  have hn := bounds_u8 wn
  obtain ⟨m, rfl⟩ : ∃ m : Nat, n = (m : Int) := ⟨n.toNat, by omega⟩
  obtain ⟨u3, hV3⟩ := vrep_arg (hval 3 41 v3 rfl rfl) h3 (fun n hn => by
    have := List.all_eq_true.1 hWt n (by simp [DataW.weightsEach, hn])
    exact of_decide_eq_true this)
  exact prefix_walk ts0 ds1 u3 v3 m a0 a1 c0 c1 W hL0 hc01.1 hc02 hB1 hc11 hc12 (by omega) hV3 hT

theorem laid_met (os : Os) : laidMet Tryd.prog Rows.keyencPrefixRow.laid ((laidWorld os).forCall (fun _ _ => 0) ⟨#[], #[.slice none 0 0, .slice none 0 0, .int .u8 0, .agg #[.int .i64 0, .int .i64 0, .string ⟨#[]⟩, .slice none 0 0, .slice none 0 0]], []⟩).memory :=
  laidMet_of_run' 8 (by kernel_rfl) (by kernel_rfl)
theorem reads (os : Os) {H : Type} (enc : TypeId × Value → H) : ∃ places, DataW.whole enc Tryd.prog ((laidWorld os).forCall (fun _ _ => 0) ⟨#[], #[.slice none 0 0, .slice none 0 0, .int .u8 0, .agg #[.int .i64 0, .int .i64 0, .string ⟨#[]⟩, .slice none 0 0, .slice none 0 0]], []⟩).memory Tryd.f9.params.toList Rows.keyencPrefixSpec.vars false #[.slice none 0 0, .slice none 0 0, .int .u8 0, .agg #[.int .i64 0, .int .i64 0, .string ⟨#[]⟩, .slice none 0 0, .slice none 0 0]].toList 8 = some ([.nil, .nil, .lit (.int .u8 0), .agg [.lit (.int .i64 0), .lit (.int .i64 0), .lit (.string []), .nil, .nil]], [], places) :=
  ⟨[], by kernel_rfl⟩

set_option maxRecDepth 100000 in
theorem lifted (os : Os) (started : os.Started) (H : Type) (enc : TypeId × Value → H) (F : Stop.Interp) :
    ReturnsInHanded {} Tryd.checked os 9 .any ((OpenSpec.ofChange Rows.keyencPrefixSpec).preRow enc Tryd.prog Tryd.f9 Rows.keyencPrefixRow.domain false Rows.keyencPrefixRow.laid) (((OpenSpec.ofChange Rows.keyencPrefixSpec).at F).post enc Tryd.prog Tryd.f9 false true false false) := by
  obtain ⟨places, hx⟩ := reads os enc
  refine returnsInHanded_of_row (C := Tryd.checked) (s := OpenSpec.ofChange Rows.keyencPrefixSpec) own started (by kernel_rfl) Tryd.func9
    (witness_row_at (enc := enc) (C := Tryd.checked) false (laidWorld os) #[.slice none 0 0, .slice none 0 0, .int .u8 0, .agg #[.int .i64 0, .int .i64 0, .string ⟨#[]⟩, .slice none 0 0, .slice none 0 0]] rfl (by kernel_rfl) (by kernel_rfl) (by kernel_rfl)
      (OpenSpec.preRow_of_cond 8 hx (by kernel_rfl) (fun k hk => by cases hk) (by kernel_rfl) (laid_met os))) ?_
  intro W base args ds gs before hval hW _ _ hWt hL _ _
  exact contract H enc W base args ds gs before hval hW hL hWt

theorem said : Rows.KeyencPrefixSaid :=
  OpenClaim.holds_of_cond 9 Tryd.f9 rfl rfl rfl rfl rfl rfl rfl ⟨rfl, rfl, rfl, rfl, rfl⟩ rfl rfl rfl rfl rfl (by kernel_rfl) Tryd.func9 (by kernel_rfl)
    (of_decide_eq_true (by kernel_rfl)) (by unfold Func.isWrapper; first | (rw [if_pos (by decide +kernel)]; kernel_rfl) | (rw [if_neg (by decide +kernel)]; exact ⟨rfl, rfl⟩))
    (fun os started H enc _ F => by rw [OpenClaim.pre_eq_preRow]; exact lifted os started H enc F)

theorem plain (f : FuncId) (fn : Func) (hf : Tryd.pinned.checked.prog.funcNamed "docstore/docstorelaw03.KeyencPrefix" = some f) (hfn : Tryd.pinned.checked.prog.funcs[f]? = some fn) :
    false = Tryd.pinned.checked.prog.looks [] ∧ ∀ (j : Nat) t, fn.params[j]? = some t → Tryd.pinned.checked.prog.wantsStandIn t = false := by
  obtain rfl : f = 9 := Option.some.inj ((show Tryd.prog.funcNamed "docstore/docstorelaw03.KeyencPrefix" = some 9 by kernel_rfl).symm.trans hf) |>.symm
  obtain rfl : fn = Tryd.f9 := (Option.some.inj (Tryd.func9.symm.trans hfn)).symm
  refine ⟨by kernel_rfl, fun j t ht => ?_⟩
  have hall : (Tryd.f9.params.all fun t => !Tryd.prog.wantsStandIn t) = true := by kernel_rfl
  have h1 := Array.all_eq_true'.1 hall t (Array.mem_of_getElem? ht)
  have h2 : Tryd.prog.wantsStandIn t = false := by simpa using h1
  exact h2

/-- The card. -/
theorem card : Rows.KeyencPrefixCardSaid :=
  Claim7.holds_tied_plain_at .later [] _ _ _ _ said (fun _ h => by cases h) (by kernel_rfl) (fun _ h => by cases h) keyencPrefix_row_tie rfl ⟨rfl, rfl⟩ (by kernel_rfl) rfl plain (by kernel_rfl)
end Go.Proofs.YtipphlhaaienpaaDoor.keyencPrefix
