/- docstoreref01: fields. -/
import Derived.Test.YtipphlhaaienpaaDoorR1b
import Derived.Test.YtipphlhaaienpaaDoorR1c
import Derived.Deep.QuietTactic
import Derived.BigQuiet
import Derived.Test.YtipphlhaaienpaaDoorStr
set_option linter.unusedSimpArgs false
set_option linter.unusedVariables false
namespace Go.Proofs.YtipphlhaaienpaaDoor
open Go.RowKit
def FormedOk (t : Tr) : Prop := ∀ (v : Value) (w : World), VRep w t v → Calls Tryd.prog 37 #[v, .bool true] w fun e w' => e = .returned (.bool (snd t)) ∧ Ext w w'
theorem hasN_rev (ns : List ByteArray) (i : Nat) (n : ByteArray) (h : ∀ j (hj : j < i) (hl : j < ns.length), ns[j] ≠ n) : hasN (ns.take i).reverse n = false := by
  unfold hasN
  rw [List.any_eq_false]
  intro x hx
  rw [List.mem_reverse] at hx
  obtain ⟨j, hj, rfl⟩ := List.mem_iff_getElem.1 hx
  simp only [List.length_take] at hj
  simp only [List.getElem_take, decide_eq_true_eq]
  exact fun e => h j (by omega) (by omega) (bytes_inj e)
theorem hasN_yes (ns : List ByteArray) (i j : Nat) (n : ByteArray) (hj : j < i) (hl : j < ns.length) (e : ns[j] = n) : hasN (ns.take i).reverse n = true := by
  unfold hasN
  rw [List.any_eq_true]
  refine ⟨ns[j], ?_, by rw [e]; simp⟩
  rw [List.mem_reverse]
  exact List.mem_of_getElem? (i := j) (by rw [List.getElem?_take, if_pos hj, List.getElem?_eq_getElem hl])
set_option maxRecDepth 20000 in
set_option maxHeartbeats 2000000 in
theorem fields_ok (k i : Int) (s : ByteArray) (l : List Tr) (ns : List ByteArray) (ds : List Tr) (v : Value) (w : World) (hV : VRep w (.mk k i s l ns ds) v) (ih : ∀ t ∈ ds, FormedOk t) :
    Calls Tryd.prog 57 #[v, .bool true] w fun e w' => e = .returned (.bool (sndF [] ns ds)) ∧ Ext w w' := by
  unfold VRep at hV
  obtain ⟨la, lc, da, dc, rfl, hs, ⟨hl1, hl3⟩, hl2, ⟨hd1, hd3⟩, hd2, hnd, hL, hD⟩ := hV
  unfold maxLen at hl2 hd2
  have HD := Lib.hid hD
  have HI := Lib.hid ih
  clear hL hD hl3 hd3 hs ih hl1 hl2
  obtain ⟨r, hr⟩ : ∃ r, sndF [] ns ds = r := ⟨_, rfl⟩
  rw [hr]
  have HR := Lib.hid hr
  clear hr
  go_enter Tryd.func57, Tryd.ntmps57
  go_wp2_with fail
  go_loopw [5] (fun c wr => ∃ j : Nat, j ≤ ds.length ∧ c = .int .i64 j ∧ Hid (sndF (ns.take j).reverse (ns.drop j) (ds.drop j) = r) ∧ Hid (Ext (w.alloc (.cells #[.int .i64 k, .int .i64 i, .string s, .slice la l.length lc, .slice da ds.length dc] 41)) wr)) (fun c _ => ds.length - (intOf c).toNat)
  case atStart => exact ⟨0, by omega, rfl, HR, Ext.refl _⟩
  case round =>
    obtain ⟨j, hj, rfl, HF, HE⟩ := hrel
    obtain ⟨wo, rfl⟩ : ∃ wo : World, wo = wr := ⟨_, rfl⟩
    have k1 := HE.out.ownc
    have l1 := HE.out.lt
    by_cases hlt : j < ds.length
    · obtain ⟨b, off, c0, c1, c2, c3, c4, rfl, hnm, en, e0, e1, e2, e3, e4, hv⟩ := DRep.at_ ns ds 0 j (ns[j]'(by omega)) ds[j] HD.out (List.getElem?_eq_getElem (by omega)) (List.getElem?_eq_getElem hlt)
      obtain ⟨k', i', s', la', ln', lc', da', dn', dc', rfl, rfl, rfl, rfl, rfl⟩ := hv.shape5
      have hEr := HE.out.of_alloc
      have qn := hEr.keep en
      have q0 := hEr.keep e0
      have q1 := hEr.keep e1
      have q2 := hEr.keep e2
      have q3 := hEr.keep e3
      have q4 := hEr.keep e4
      rw [Nat.zero_add] at qn q0 q1 q2 q3 q4
      have HV := Lib.hid (VRep.ext hEr _ _ hv)
      clear en e0 e1 e2 e3 e4 hv hEr
      obtain ⟨p, hp⟩ : ∃ p, ds[j] = p := ⟨_, rfl⟩
      obtain ⟨nm, hn⟩ : ∃ n, ns[j]'(by omega) = n := ⟨_, rfl⟩
      have hmem : p ∈ ds := by rw [← hp]; exact List.getElem_mem hlt
      rw [hp] at HV
      rw [hn] at qn hnm
      have hdr : ds.drop j = p :: ds.drop (j + 1) := by rw [← hp]; exact List.drop_eq_getElem_cons hlt
      have hdn : ns.drop j = nm :: ns.drop (j + 1) := by rw [← hn]; exact List.drop_eq_getElem_cons (by omega)
      have htk : (ns.take (j + 1)).reverse = nm :: (ns.take j).reverse := by
        rw [List.take_succ_eq_append_getElem (by omega), hn, List.reverse_append]; rfl
      have hF := HF.out
      rw [hdr, hdn] at hF
      simp only [sndF, ← htk] at hF
      have HF1 := Lib.hid hF
      clear hp hdr hdn hF HF htk
      have HN := Lib.hid hn
      clear hn
      go_wp2_with fail
      refine (RName_ok _ _ hnm).mono ?_
      rintro e w1 ⟨rfl, h1⟩
      have k2 := h1.ownc
      have l2 := h1.lt
      have HE1 := Lib.hid (HE.out.trans h1.of_alloc)
      have kb1 := HE1.out.ownc
      clear k1
      cases hnb : nameB nm
      · have hF := HF1.out
        rw [hnb] at hF
        simp only [Bool.false_and] at hF
        subst hF
        clear hnb HF1
        go_wp2_with fail
        go_ret
        exact ⟨rfl, HE1.out.of_alloc⟩
      · have hF := HF1.out
        rw [hnb, Bool.true_and] at hF
        have HF2 := Lib.hid hF
        clear hF hnb HF1
        go_wp2_with fail
        refine (HI.out p hmem _ _ (VRep.ext h1.of_alloc _ _ HV.out)).mono ?_
        rintro e w2 ⟨rfl, h2⟩
        have h12 := h1.trans h2
        have k3 := h12.ownc
        have l3 := h12.lt
        have HE2 := Lib.hid (HE1.out.trans h2)
        have kb2 := HE2.out.ownc
        clear k2 kb1
        cases hsp : snd p
        · have hF := HF2.out
          rw [hsp] at hF
          simp only [Bool.false_and, Bool.and_false] at hF
          subst hF
          clear hsp HF2
          go_wp2_with fail
          go_ret
          exact ⟨rfl, HE2.out.of_alloc⟩
        · have hF := HF2.out
          rw [hsp, Bool.and_true] at hF
          have HF3 := Lib.hid hF
          clear hF hsp HF2
          have l4 : wo.heap.size < w2.heap.size := l3
          go_wp2_with fail
          go_loopw [7] (fun c wr => ∃ m : Nat, m ≤ j ∧ c = .int .i64 m ∧ Hid (∀ x (hx : x < m) (hl : x < ns.length), ns[x] ≠ nm) ∧ Hid (Ext w2 wr)) (fun c _ => j - (intOf c).toNat)
          case atStart => exact ⟨0, by omega, rfl, (fun x hx => by omega), Ext.refl _⟩
          case round =>
            obtain ⟨m, hm, rfl, HA, HE3⟩ := hrel
            have k4 := (h12.trans HE3.out).ownc
            have l5 := (h12.trans HE3.out).lt
            have kb3 := (HE2.out.trans HE3.out).ownc
            clear k3 kb2
            have HE4 := Lib.hid (HE2.out.trans HE3.out)
            by_cases hmj : m < j
            · obtain ⟨b', off', c0', c1', c2', c3', c4', hbo, hnm', en', e0', e1', e2', e3', e4', hv'⟩ := DRep.at_ ns ds 0 m (ns[m]'(by omega)) (ds[m]'(by omega)) HD.out (List.getElem?_eq_getElem (by omega)) (List.getElem?_eq_getElem (by omega))
              injection hbo with hbo
              injection hbo with hb1 hb2
              subst hb1 hb2
              have qm := HE4.out.of_alloc.keep en'
              rw [Nat.zero_add] at qm
              clear en' e0' e1' e2' e3' e4' hv'
              obtain ⟨nx, hnx⟩ : ∃ n, ns[m]'(by omega) = n := ⟨_, rfl⟩
              rw [hnx] at qm
              have HNX := Lib.hid hnx
              clear hnx
              by_cases heq : nx = nm
              · have hf : r = false := by
                  rw [← HF3.out, hasN_yes ns j m nm hmj (by omega) (HNX.out.trans heq)]; rfl
                subst hf
                subst heq
                go_wp2_with fail
                go_quiet (fail)
                go_wp2_with fail
                go_ret
                exact ⟨rfl, HE4.out.of_alloc.drewN _⟩
              · have hne := str_ne heq
                have HA2 : Hid (∀ x (hx : x < m + 1) (hl : x < ns.length), ns[x] ≠ nm) := by
                  intro x hx hl
                  by_cases hxm : x = m
                  · subst hxm; rw [HNX.out]; exact heq
                  · exact HA.out x (by omega) hl
                clear heq
                go_wp2_with fail
                go_quiet (fail)
                go_wp2_with fail
                exact ⟨⟨m + 1, by omega, by go_num, HA2, HE3.out.drewN _⟩, by simp [intOf]; omega⟩
            · have hm2 : m = j := by omega
              subst hm2
              have hF := HF3.out
              rw [hasN_rev ns m nm HA.out, Bool.not_false, Bool.true_and] at hF
              have HF4 := Lib.hid hF
              clear hF HF3
              go_wp2_with fail
              exact ⟨⟨m + 1, by omega, by go_num, HF4, HE4⟩, by simp [intOf]; omega⟩
    · have hj2 : j = ds.length := by omega
      subst hj2
      have hF := HF.out
      rw [List.drop_length] at hF
      simp only [sndF] at hF
      subst hF
      go_wp2_with fail
      go_ret
      exact ⟨rfl, HE.out.of_alloc⟩
end Go.Proofs.YtipphlhaaienpaaDoor
