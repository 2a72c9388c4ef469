/- keyenc.Encode: the walk. -/
import Derived.Test.YtipphlhaaienpaaDoorKEn2
set_option linter.unusedSimpArgs false
set_option linter.unusedVariables false
namespace Go.Proofs.YtipphlhaaienpaaDoor
open Go.RowKit
set_option maxRecDepth 20000 in
set_option maxHeartbeats 4000000 in
theorem Encode_ok (ts : List Tr) (ds : List Bool) (la da : Option Addr) (lc dc : Nat) (w : World) (hL : LRep w la 0 ts) (hl1 : ts.length ≤ lc) (hl2 : lc ≤ maxLen) (hD : BRep w da ds) (hd1 : ds.length ≤ dc) (hd2 : dc ≤ maxLen) (h40 : ts.length ≤ 40) (hT : Tabs w) :
    Calls Tryd.prog 11 #[.slice la ts.length lc, .slice da ds.length dc] w fun e w' => e = .returned (.tuple #[.string (kencE ts ds).1, .int .i64 (kencE ts ds).2]) ∧ Ext w w' := by
  have HL := Lib.hid hL
  have HD := Lib.hid hD
  have HT := Lib.hid hT
  clear hL hD hT
  unfold maxLen at hl2 hd2
  obtain ⟨r, hr⟩ : ∃ r, kencE ts ds = r := ⟨_, rfl⟩
  rw [hr]
  unfold kencE at hr
  by_cases hlen : ts.length = ds.length
  case neg =>
    rw [if_pos hlen] at hr
    have HR := Lib.hid hr
    have d : ((ts.length : Int) != (ds.length : Int)) = true := by simp; omega
    have d' : (ts.length != ds.length) = true := by simpa using hlen
    clear hr
    go_enter Tryd.func11, Tryd.ntmps11
    go_wp2_with fail
    go_ret2
    exact ⟨by rw [← HR.out]; rfl, Ext.refl _⟩
  rw [if_neg (by simpa using hlen)] at hr
  have HR := Lib.hid hr
  have d : ((ts.length : Int) != (ds.length : Int)) = false := by simp; omega
  have d' : (ts.length != ds.length) = false := by simpa using hlen
  have HLen := Lib.hid hlen
  have hle : ts.length ≤ ds.length := by omega
  clear hr hlen
  go_enter Tryd.func11, Tryd.ntmps11
  go_wp2_with fail
  clear d d'
  go_loopw [6, 18] (fun b x wr => ∃ j : Nat, j ≤ ts.length ∧ x = .int .i64 j ∧ Hid (∀ t ∈ ts.take j, allowB t = true) ∧ Hid (Buf wr w.heap.size b (kencs (ts.take j) (ds.take j))) ∧ Hid (Ext w wr)) (fun _ x _ => ts.length - (intOf x).toNat)
  case atStart => exact ⟨0, by omega, rfl, by intro t ht; simp at ht, Buf.nil _ _, Ext.refl _⟩
  case round =>
    obtain ⟨j, hj, rfl, HA, HB, HE⟩ := hrel
    obtain ⟨cur, hcur⟩ : ∃ x, kencs (ts.take j) (ds.take j) = x := ⟨_, rfl⟩
    have hcl : cur.length ≤ 8601600 * 40 := by
      rw [← hcur]; have := kencs_le (ts.take j) (ds.take j) HA.out; have : (ts.take j).length ≤ 40 := by simp; omega
      omega
    rw [hcur] at HB
    have HC := Lib.hid hcur
    clear hcur
    obtain ⟨ad, ca, rfl⟩ := HB.out.shape
    have hsz := HE.out.size
    by_cases hlt : j < ts.length
    · obtain ⟨bb, off, c0, c1, c2, c3, c4, rfl, e0, e1, e2, e3, e4, hv⟩ := LRep.at_ ts 0 j ts[j] HL.out (List.getElem?_eq_getElem hlt)
      obtain ⟨k', i', s', la', ln', lc', da', dn', dc', rfl, rfl, rfl, rfl, rfl⟩ := hv.shape5
      have hEr := HE.out
      have q0 := hEr.keep e0
      have q1 := hEr.keep e1
      have q2 := hEr.keep e2
      have q3 := hEr.keep e3
      have q4 := hEr.keep e4
      rw [Nat.zero_add] at q0 q1 q2 q3 q4
      have HV := Lib.hid hv
      clear e0 e1 e2 e3 e4 hEr hv
      obtain ⟨p, hp⟩ : ∃ p, ts[j] = p := ⟨_, rfl⟩
      obtain ⟨dd, hdd⟩ : ∃ d, ds[j]'(by omega) = d := ⟨_, rfl⟩
      have hmem : p ∈ ts := by rw [← hp]; exact List.getElem_mem hlt
      obtain ⟨db, doff, rfl, hdc⟩ := HD.out j dd (by rw [← hdd]; exact List.getElem?_eq_getElem (by omega))
      have htk : ts.take (j + 1) = ts.take j ++ [p] := by rw [List.take_succ_eq_append_getElem hlt, hp]
      have hdk : ds.take (j + 1) = ds.take j ++ [dd] := by rw [List.take_succ_eq_append_getElem (by omega), hdd]
      have hsn : kencs (ts.take (j + 1)) (ds.take (j + 1)) = cur ++ kone dd p := by rw [htk, hdk, kencs_snoc _ _ _ _ (by simp; omega), HC.out]
      rw [hp] at HV
      have HSn := Lib.hid hsn
      have HTk := Lib.hid htk
      clear hp hdd htk hdk hsn
      have hdb := World.block_lt_of_cell? _ _ hdc
      go_wp2_with fail
      refine (allowed_ok p _ _ (VRep.ext (HE.out.alloc _) _ _ HV.out) (HT.out.ext (HE.out.alloc _))).mono ?_
      rintro e w1 ⟨rfl, h1⟩
      have HE1 := Lib.hid (HE.out.trans h1.of_alloc)
      have k1 := h1.ownc
      have l1 := h1.lt
      have HB1 := Lib.hid (HB.out.ext h1.of_alloc)
      have HX1 := Lib.hid h1
      clear h1 q0 q1 q2 q3 q4
      cases hal : allowB p
      · have hf : ts.all allowB = false := by
          rw [List.all_eq_false]; exact ⟨p, hmem, by simp [hal]⟩
        have e := HR.out
        rw [hf] at e
        have HR2 := Lib.hid e
        clear hal hf e
        go_wp2_with fail
        go_ret2
        exact ⟨by rw [← HR2.out]; rfl, HE1.out⟩
      have hks := kenc_small hal
      have HAl := Lib.hid hal
      clear hal
      go_wp2_with fail
      refine (kappA p _ _ cur w.heap.size w _ HAl.out HV.out HE1.out (Nat.le_refl _) (by have := HE1.out.size; omega) HB1.out (by omega)).mono ?_
      rintro e w2 ⟨v2, rfl, hb2, hk2⟩
      obtain ⟨x2, hx2⟩ : ∃ x, cur ++ kenc p = x := ⟨_, rfl⟩
      rw [hx2] at hb2
      have hx2l : x2.length = cur.length + (kenc p).length := by rw [← hx2]; simp
      have hkp := kenc_pos p
      have HX2 := Lib.hid hx2
      have HB2 := Lib.hid hb2
      have HE2 := Lib.hid (hk2.ext HE1.out (Nat.le_refl _))
      have s2 : w1.heap.size ≤ w2.heap.size := hk2.size
      obtain ⟨ad2, c2, rfl⟩ := HB2.out.shape
      have hdc2 := HE2.out.keep hdc
      have hdb2 : db < w2.heap.size := by have := HE2.out.size; omega
      clear hb2 hk2 hx2 hdc k1 HX1
      have hal2 : ∀ t ∈ ts.take (j + 1), allowB t = true := by
        rw [HTk.out]; intro t ht
        rcases List.mem_append.1 ht with h | h
        · exact HA.out t h
        · rw [List.mem_singleton.1 h]; exact HAl.out
      have HA2 := Lib.hid hal2
      have hjd : j < ds.length := by omega
      clear hal2
      cases dd
      · have hfin : x2 = kencs (ts.take (j + 1)) (ds.take (j + 1)) := by rw [HSn.out, ← HX2.out]; rfl
        have HFin := Lib.hid hfin
        have HL2 := Lib.hid hx2l
        clear hfin hx2l
        go_wp2_with fail
        exact ⟨⟨j + 1, by omega, by go_num, HA2, by rw [← HFin.out]; exact HB2, HE2⟩, by simp [intOf]; omega⟩
      · obtain ⟨g, rfl⟩ : ∃ g, ad2 = some ⟨g, 0, none⟩ := by
          rcases HB2.out.2 with ⟨h, h'⟩ | ⟨g, cap, cu, h, _⟩
          · exact absurd h' (by omega)
          · injection h with h _ _; exact ⟨g, h⟩
        obtain ⟨X, hX⟩ : ∃ X, kenc p = X := ⟨_, rfl⟩
        rw [hX] at hx2l hkp hks
        have hfin : kencs (ts.take (j + 1)) (ds.take (j + 1)) = cur ++ turned X X.length := by rw [HSn.out, turned_all, ← hX]; rfl
        have HFin := Lib.hid hfin
        have hb0 : Buf w2 w.heap.size (.slice (some ⟨g, 0, none⟩) x2.length c2) (cur ++ turned X 0) := by
          have h := HB2.out
          have e : x2 = cur ++ turned X 0 := by rw [← HX2.out, hX]; simp [turned]
          rw [← e]; exact h
        have HB3 := Lib.hid hb0
        have HLn := Lib.hid hx2l
        have hn2 : x2.length ≤ 1000000000 := by omega
        clear hfin hb0 hX hx2l
        obtain ⟨wo, rfl⟩ : ∃ wo : World, wo = wr := ⟨_, rfl⟩
        go_wp2_with fail
        go_loopw [10] (fun x wr => ∃ i : Nat, i ≤ X.length ∧ x = .int .i64 ((cur.length + i : Nat) : Int) ∧ Hid (Buf wr w.heap.size (.slice (some ⟨g, 0, none⟩) x2.length c2) (cur ++ turned X i)) ∧ Hid (Ext w wr)) (fun x _ => x2.length - (intOf x).toNat)
        case atStart => exact ⟨0, by omega, rfl, HB3, HE2⟩
        case round =>
          obtain ⟨i, hi, rfl, HB4, HE4⟩ := hrel
          have hLn := HLn.out
          clear hdc2 hdb2
          by_cases hlt2 : i < X.length
          · obtain ⟨f1, f2, f3, f4⟩ := HB4.out.cellAt (by rw [hLn]; simp [turned]; omega) (cur.length + i) X[i] (turned_get cur X i hlt2)
            have hst := HB4.out.stored (by rw [hLn]; simp [turned]; omega) (cur.length + i) (flipC X[i])
            rw [turned_set cur X i hlt2, flipC_nat] at hst
            obtain ⟨cc, hcc⟩ : ∃ c, X[i] = c := ⟨_, rfl⟩
            rw [hcc] at f1 hst
            have hcb := cc.toNat_lt
            have HSt := Lib.hid hst
            have dlt : cur.length + i < x2.length := by omega
            have HE5 := Lib.hid (HE4.out.setCell (p := ⟨g, cur.length + i, none⟩) f4 (.int .u8 (255 - (cc.toNat : Int))))
            clear hst hcc hLn HB3
            go_wp2_with fail
            exact ⟨⟨i + 1, by omega, by go_num, HSt, HE5⟩, by simp [intOf]; omega⟩
          · obtain rfl : i = X.length := by omega
            have hLn2 : x2.length = cur.length + X.length := hLn
            clear hLn HB3
            have dlt : ¬ cur.length + X.length < x2.length := by omega
            go_wp2_with fail
            exact ⟨⟨j + 1, by omega, by go_num, HA2, by rw [HFin.out]; exact HB4, HE4⟩, by simp [intOf]; omega⟩
    · have hj2 : j = ts.length := by omega
      subst hj2
      have hall : ts.all allowB = true := by
        rw [List.all_eq_true]; have := HA.out; rw [List.take_length] at this; exact this
      have e := HR.out
      rw [hall, if_pos rfl] at e
      have hc2 : kencs ts ds = cur := by have := HC.out; rw [List.take_length, List.take_of_length_le (by have := HLen.out; omega)] at this; exact this
      rw [hc2] at e
      have HR2 := Lib.hid e
      have hcv := HB.out.str
      clear hall e hc2
      go_wp2_with fail
      go_ret2
      exact ⟨by rw [← HR2.out]; rfl, HE.out⟩
end Go.Proofs.YtipphlhaaienpaaDoor
