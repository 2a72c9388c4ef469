/- value.soundFields and value.sound. -/
import Derived.Test.YtplokbmdcfakbaaGreatDoorQVSnd
set_option linter.unusedSimpArgs false
set_option linter.unusedVariables false
namespace Go.Proofs.YtplokbmdcfakbaaGreatDoor
open Go.RowKit Go.Maps
def SoundOk (t : Tr) : Prop := ∀ (v : Value) (w : World), VRep w t v → Tabs w → Calls Tryz.prog 52 #[v] w fun e w' => e = .returned (.bool (snd t)) ∧ Ext w w'
set_option maxHeartbeats 1000000 in
theorem soundFields_ok (ns : List ByteArray) (ds : List Tr) (da : Option Addr) (dc : Nat) (w : World) (hln : ns.length = ds.length) (hc1 : ds.length ≤ dc) (hc2 : dc ≤ maxLen) (hD : DRep w da 0 ns ds) (hT : Tabs w) (ih : ∀ t ∈ ds, SoundOk t) :
    Calls Tryz.prog 71 #[.slice da ds.length dc] w fun e w' => e = .returned (.bool (sndF [] ns ds)) ∧ Ext w w' := by
  have HD := Lib.hid hD
  have HT := Lib.hid hT
  have HI := Lib.hid ih
  clear hD hT ih
  obtain ⟨r, hr⟩ : ∃ r, sndF [] ns ds = r := ⟨_, rfl⟩
  rw [hr]
  have HR := Lib.hid hr
  clear hr
  unfold maxLen at hc2
  have hmm := @run_makeMap Tryz.prog
  go_enter Tryz.func71, Tryz.ntmps71
  go_wp2_with fail
  go_loopw [9] (fun c wr => ∃ (j : Nat) (sl : List ByteArray), j ≤ ds.length ∧ c = .int .i64 j ∧ Hid (sndF sl (ns.drop j) (ds.drop j) = r) ∧ Hid (Seen wr w.heap.size j sl) ∧ Hid (Ext w wr)) (fun c _ => ds.length - (intOf c).toNat)
  case atStart => exact ⟨0, [], by omega, rfl, HR, Seen.made w, (Ext.refl w).alloc _⟩
  case round =>
    obtain ⟨j, sl, hj, rfl, HF, HS, HE⟩ := hrel
    by_cases hlt : j < ds.length
    · obtain ⟨b, off, c0, c1, c2, c3, c4, rfl, hnm, en, e0, e1, e2, e3, e4, hv⟩ := DRep.at_ ns ds 0 j (ns[j]'(by omega)) ds[j] HD.out (List.getElem?_eq_getElem (by omega)) (List.getElem?_eq_getElem hlt)
      obtain ⟨k', i', s', la', ln', lc', da', dn', dc', rfl, rfl, rfl, rfl, rfl⟩ := hv.shape5
      have hEr := HE.out
      have qn := hEr.keep en
      have q0 := hEr.keep e0
      have q1 := hEr.keep e1
      have q2 := hEr.keep e2
      have q3 := hEr.keep e3
      have q4 := hEr.keep e4
      rw [Nat.zero_add] at qn q0 q1 q2 q3 q4
      have HV := Lib.hid (VRep.ext hEr _ _ hv)
      clear en e0 e1 e2 e3 e4 hv hEr
      obtain ⟨p, hp⟩ : ∃ p, ds[j] = p := ⟨_, rfl⟩
      obtain ⟨nm, hn⟩ : ∃ n, ns[j]'(by omega) = n := ⟨_, rfl⟩
      have hmem : p ∈ ds := by rw [← hp]; exact List.getElem_mem hlt
      rw [hp] at HV
      rw [hn] at qn hnm
      have hdr : ds.drop j = p :: ds.drop (j + 1) := by rw [← hp]; exact List.drop_eq_getElem_cons hlt
      have hdn : ns.drop j = nm :: ns.drop (j + 1) := by rw [← hn]; exact List.drop_eq_getElem_cons (by omega)
      have hF := HF.out
      rw [hdr, hdn] at hF
      simp only [sndF] at hF
      have HF1 := Lib.hid hF
      clear hp hn hdr hdn hF HF
      go_wp2_with fail
      refine (isName_ok _ _).mono ?_
      rintro e w1 ⟨rfl, h1⟩
      have k1 := h1.ownc
      have l1 := h1.lt
      have HS1 := Lib.hid (HS.out.kept h1.of_alloc)
      have HE1 := Lib.hid (HE.out.trans h1.of_alloc)
      cases hnb : nameB nm
      · have hF := HF1.out
        rw [hnb] at hF
        simp only [Bool.false_and] at hF
        subst hF
        clear hnb HF1
        go_wp2_with fail
        go_ret
        exact ⟨rfl, HE1.out⟩
      · have hF := HF1.out
        rw [hnb, Bool.true_and] at hF
        have HF2 := Lib.hid hF
        clear hF hnb HF1
        have hlk := HS1.out.look nm hnm
        cases hhs : hasN sl nm
        · rw [hhs] at hlk
          have hF := HF2.out
          rw [hhs, Bool.not_false, Bool.true_and] at hF
          have HF3 := Lib.hid hF
          clear hF hhs HF2
          go_wp2_with fail
          clear hlk k1
          refine (HI.out p hmem _ _ (VRep.ext h1.of_alloc _ _ HV.out) (HT.out.ext HE1.out)).mono ?_
          rintro e w2 ⟨rfl, h2⟩
          have h12 := h1.trans h2
          have k2 := h12.ownc
          have l2 := h12.lt
          have HE2 := Lib.hid (HE1.out.trans h2)
          have HS2 := Lib.hid (HS1.out.kept h2)
          cases hsp : snd p
          · have hF := HF3.out
            rw [hsp] at hF
            simp only [Bool.false_and] at hF
            subst hF
            clear hsp HF3
            go_wp2_with fail
            go_ret
            exact ⟨rfl, HE2.out⟩
          · have hF := HF3.out
            rw [hsp, Bool.true_and] at hF
            have HF4 := Lib.hid hF
            clear hF hsp HF3
            obtain ⟨w3, hmu, hS3, g3⟩ := HS2.out.put nm hnm (by unfold maxLen; omega)
            have HS3 := Lib.hid hS3
            have HE3 := Lib.hid (HE2.out.of_only g3 (Nat.le_refl _))
            clear hS3
            go_wp2_with fail
            exact ⟨⟨j + 1, nm :: sl, by omega, by go_num, HF4, HS3, HE3⟩, by simp [intOf]; omega⟩
        · rw [hhs] at hlk
          have hF := HF2.out
          rw [hhs] at hF
          simp only [Bool.not_true, Bool.false_and] at hF
          subst hF
          clear hhs HF2
          go_wp2_with fail
          go_ret
          exact ⟨rfl, HE1.out⟩
    · have hj2 : j = ds.length := by omega
      subst hj2
      have hF := HF.out
      rw [List.drop_length] at hF
      simp only [sndF] at hF
      subst hF
      go_wp2_with fail
      go_ret
      exact ⟨rfl, HE.out⟩
end Go.Proofs.YtplokbmdcfakbaaGreatDoor
