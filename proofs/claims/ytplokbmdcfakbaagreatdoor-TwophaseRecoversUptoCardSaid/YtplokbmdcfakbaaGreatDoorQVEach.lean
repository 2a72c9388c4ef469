/- value.each, with a closure that keeps a number. -/
import Derived.Test.YtplokbmdcfakbaaGreatDoorQVTrN
import Derived.Test.YtplokbmdcfakbaaGreatDoorQV1
import Derived.Test.YtplokbmdcfakbaaGreatDoorQV2
set_option linter.unusedSimpArgs false
set_option linter.unusedVariables false
namespace Go.Proofs.YtplokbmdcfakbaaGreatDoor
open Go.RowKit
/-- What the closure C, with its number in block g and its bound in block gm, does at one part. -/
def CloOk (C g gm : Nat) (most : Int) (step : Int → Tr → Int) (goes pre : Int → Bool) (t : Tr) : Prop :=
  ∀ (v : Value) (W : World) (x : Int), VRep W t v → pre x = true → W.heap[g]? = some (.cells #[.int .i64 x] 3 (0, 0)) → W.heap[gm]? = some (.cells #[.int .i64 most] 3 (0, 0)) →
    Calls Tryz.prog C #[v, .pointer (some ⟨g, 0, none⟩), .pointer (some ⟨gm, 0, none⟩)] W fun e w' => e = .returned (.bool (goes (step x t))) ∧ w'.heap[g]? = some (.cells #[.int .i64 (step x t)] 3 (0, 0)) ∧ W.grownBy w' (some g)
def EachPost (g : Nat) (W : World) (r : Int) (e : Ending) (w' : World) : Prop := e = .returned (.tuple #[]) ∧ w'.heap[g]? = some (.cells #[.int .i64 r] 3 (0, 0)) ∧ W.grownBy w' (some g)
set_option maxHeartbeats 1000000 in
theorem each_ok (C g gm : Nat) (hcf : ∀ (a : Array Value) (W : World), (callFunc C a).run Tryz.prog W = .ok (.enter C a) W) (most : Int) (step : Int → Tr → Int) (goes pre : Int → Bool) (hpre : ∀ x t, pre x = true → goes (step x t) = true → pre (step x t) = true)
    (t : Tr) (hC : ∀ p ∈ t.parts, CloOk C g gm most step goes pre p) (v : Value) (W0 W : World) (x : Int) (hV : VRep W0 t v) (hE : Ext W0 W) (hg : W0.heap.size ≤ g) (hne : gm ≠ g) (hx : pre x = true)
    (hB : W.heap[g]? = some (.cells #[.int .i64 x] 3 (0, 0))) (hM : W.heap[gm]? = some (.cells #[.int .i64 most] 3 (0, 0))) :
    Calls Tryz.prog 94 #[v, .func (.func C) #[] #[.pointer (some ⟨g, 0, none⟩), .pointer (some ⟨gm, 0, none⟩)]] W (EachPost g W (eachF step goes t.parts x)) := by
  obtain ⟨k, i, s, l, ns, ds⟩ := t
  unfold VRep at hV
  obtain ⟨la, lc, da, dc, rfl, hs, hl1, hl2, hd1, hd2, hnd, hL, hD⟩ := hV
  replace hl1 := hl1.1
  replace hd1 := hd1.1
  unfold maxLen at hl2 hd2
  have hgW := blk_lt hB
  have HB := Lib.hid hB
  have HM := Lib.hid hM
  have HC := Lib.hid hC
  have HL := Lib.hid hL
  have HD := Lib.hid hD
  have HP := Lib.hid hpre
  clear hB hM hC hL hD hpre
  by_cases h6 : k = 6
  · subst h6
    have hpt : (Tr.mk 6 i s l ns ds).parts = l := by simp [Tr.parts]
    rw [hpt]
    have HC2 : Hid (∀ p ∈ l, CloOk C g gm most step goes pre p) := by rw [← hpt]; exact HC.out
    clear hpt HC
    go_enter Tryz.func94, Tryz.ntmps94
    go_wp2_with fail
    go_loopw [15] (fun c wr => ∃ (j : Nat) (y : Int), j ≤ l.length ∧ c = .int .i64 j ∧ pre y = true ∧ Hid (eachF step goes (l.drop j) y = eachF step goes l x) ∧ wr.heap[g]? = some (.cells #[.int .i64 y] 3 (0, 0)) ∧ W.grownBy wr (some g)) (fun c _ => l.length - (intOf c).toNat)
    case atStart => exact ⟨0, x, by omega, rfl, hx, rfl, blk_alloc HB.out _, only_alloc (World.grownBy.refl _ _) _⟩
    case round =>
      obtain ⟨j, y, hj, rfl, hy, HF, hBy, hgr⟩ := hrel
      by_cases hlt : j < l.length
      · obtain ⟨b, off, c0, c1, c2, c3, c4, rfl, e0, e1, e2, e3, e4, hv⟩ := LRep.at_ l 0 j l[j] HL.out (List.getElem?_eq_getElem hlt)
        obtain ⟨k', i', s', la', ln', lc', da', dn', dc', rfl, rfl, rfl, rfl, rfl⟩ := hv.shape5
        have hEr : Ext W0 wr := hE.of_only hgr hg
        have q0 := hEr.keep e0
        have q1 := hEr.keep e1
        have q2 := hEr.keep e2
        have q3 := hEr.keep e3
        have q4 := hEr.keep e4
        rw [Nat.zero_add] at q0 q1 q2 q3 q4
        have HV := Lib.hid (VRep.ext hEr _ _ hv)
        have HBy := Lib.hid hBy
        clear e0 e1 e2 e3 e4 hv hBy
        obtain ⟨p, hp⟩ : ∃ p, l[j] = p := ⟨_, rfl⟩
        have hmem : p ∈ l := by rw [← hp]; exact List.getElem_mem hlt
        rw [hp] at HV
        have HP2 := Lib.hid hp
        clear hp
        have hM2 := Lib.hid (blk_only HM.out hgr hne)
        go_wp2_with fail
        refine (HC2.out p hmem _ _ y (VRep.ext ((Ext.refl wr).alloc _) _ _ HV.out) hy (blk_alloc HBy.out _) (blk_alloc hM2.out _)).mono ?_
        rintro e w1 ⟨rfl, hB1, g1⟩
        have hg1 : W.grownBy w1 (some g) := only_trans (only_alloc hgr _) g1
        have hdr : l.drop j = p :: l.drop (j + 1) := by rw [← HP2.out]; exact List.drop_eq_getElem_cons hlt
        have hF := HF.out
        rw [hdr] at hF
        simp only [eachF] at hF
        have HB1 := Lib.hid hB1
        cases hgo : goes (step y p)
        · rw [hgo, if_neg (by simp)] at hF
          have HF1 := Lib.hid hF
          clear hF hdr hB1
          go_wp2_with fail
          refine bodyPost_ret (results_none rfl _ _ _) rfl ?_
          exact ⟨rfl, by rw [← HF1.out]; exact HB1.out, hg1⟩
        · rw [hgo, if_pos rfl] at hF
          have HF1 := Lib.hid hF
          have hpy := HP.out y p hy hgo
          clear hF hdr hB1
          go_wp2_with fail
          exact ⟨⟨j + 1, step y p, by omega, by go_num, hpy, HF1, HB1.out, hg1⟩, by simp [intOf]; omega⟩
      · have hj2 : j = l.length := by omega
        subst hj2
        have hF := HF.out
        rw [List.drop_length] at hF
        simp only [eachF] at hF
        have HF1 := Lib.hid hF
        have HBy := Lib.hid hBy
        clear hF hBy
        go_wp2_with fail
        go_end0
        exact ⟨rfl, by rw [← HF1.out]; exact HBy.out, hgr⟩
  · by_cases h5 : k = 5
    · subst h5
      have hpt : (Tr.mk 5 i s l ns ds).parts = ds := by simp [Tr.parts]
      rw [hpt]
      have HC2 : Hid (∀ p ∈ ds, CloOk C g gm most step goes pre p) := by rw [← hpt]; exact HC.out
      clear hpt HC
      go_enter Tryz.func94, Tryz.ntmps94
      go_wp2_with fail
      go_loopw [29] (fun c wr => ∃ (j : Nat) (y : Int), j ≤ ds.length ∧ c = .int .i64 j ∧ pre y = true ∧ Hid (eachF step goes (ds.drop j) y = eachF step goes ds x) ∧ wr.heap[g]? = some (.cells #[.int .i64 y] 3 (0, 0)) ∧ W.grownBy wr (some g)) (fun c _ => ds.length - (intOf c).toNat)
      case atStart => exact ⟨0, x, by omega, rfl, hx, rfl, blk_alloc HB.out _, only_alloc (World.grownBy.refl _ _) _⟩
      case round =>
        obtain ⟨j, y, hj, rfl, hy, HF, hBy, hgr⟩ := hrel
        by_cases hlt : j < ds.length
        · obtain ⟨b, off, c0, c1, c2, c3, c4, rfl, hnm, en, e0, e1, e2, e3, e4, hv⟩ := DRep.at_ ns ds 0 j (ns[j]'(by omega)) ds[j] HD.out (List.getElem?_eq_getElem (by omega)) (List.getElem?_eq_getElem hlt)
          obtain ⟨k', i', s', la', ln', lc', da', dn', dc', rfl, rfl, rfl, rfl, rfl⟩ := hv.shape5
          have hEr : Ext W0 wr := hE.of_only hgr hg
          have qn := hEr.keep en
          have q0 := hEr.keep e0
          have q1 := hEr.keep e1
          have q2 := hEr.keep e2
          have q3 := hEr.keep e3
          have q4 := hEr.keep e4
          rw [Nat.zero_add] at qn q0 q1 q2 q3 q4
          have HV := Lib.hid (VRep.ext hEr _ _ hv)
          have HBy := Lib.hid hBy
          clear en e0 e1 e2 e3 e4 hv hBy
          obtain ⟨p, hp⟩ : ∃ p, ds[j] = p := ⟨_, rfl⟩
          have hmem : p ∈ ds := by rw [← hp]; exact List.getElem_mem hlt
          rw [hp] at HV
          have HP2 := Lib.hid hp
          clear hp
          have hM2 := Lib.hid (blk_only HM.out hgr hne)
          go_wp2_with fail
          refine (HC2.out p hmem _ _ y (VRep.ext ((Ext.refl wr).alloc _) _ _ HV.out) hy (blk_alloc HBy.out _) (blk_alloc hM2.out _)).mono ?_
          rintro e w1 ⟨rfl, hB1, g1⟩
          have hg1 : W.grownBy w1 (some g) := only_trans (only_alloc hgr _) g1
          have hdr : ds.drop j = p :: ds.drop (j + 1) := by rw [← HP2.out]; exact List.drop_eq_getElem_cons hlt
          have hF := HF.out
          rw [hdr] at hF
          simp only [eachF] at hF
          have HB1 := Lib.hid hB1
          cases hgo : goes (step y p)
          · rw [hgo, if_neg (by simp)] at hF
            have HF1 := Lib.hid hF
            clear hF hdr hB1
            go_wp2_with fail
            refine bodyPost_ret (results_none rfl _ _ _) rfl ?_
            exact ⟨rfl, by rw [← HF1.out]; exact HB1.out, hg1⟩
          · rw [hgo, if_pos rfl] at hF
            have HF1 := Lib.hid hF
            have hpy := HP.out y p hy hgo
            clear hF hdr hB1
            go_wp2_with fail
            exact ⟨⟨j + 1, step y p, by omega, by go_num, hpy, HF1, HB1.out, hg1⟩, by simp [intOf]; omega⟩
        · have hj2 : j = ds.length := by omega
          subst hj2
          have hF := HF.out
          rw [List.drop_length] at hF
          simp only [eachF] at hF
          have HF1 := Lib.hid hF
          have HBy := Lib.hid hBy
          clear hF hBy
          go_wp2_with fail
          go_end0
          exact ⟨rfl, by rw [← HF1.out]; exact HBy.out, hgr⟩
    · have hpt : (Tr.mk k i s l ns ds).parts = [] := by simp [Tr.parts, h6, h5]
      rw [hpt]
      have d6 : (k == 6) = false := by simpa using h6
      have d5 : (k == 5) = false := by simpa using h5
      clear hpt h6 h5
      go_enter Tryz.func94, Tryz.ntmps94
      go_wp2_with fail
      go_end0
      exact ⟨rfl, blk_alloc HB.out _, only_alloc (World.grownBy.refl _ _) _⟩
end Go.Proofs.YtplokbmdcfakbaaGreatDoor
