/- value.Valid. -/
import Derived.Test.YtplokbmdcfakbaaGreatDoorQVDepth
import Derived.Test.YtplokbmdcfakbaaGreatDoorQVSound2
set_option linter.unusedSimpArgs false
set_option linter.unusedVariables false
namespace Go.Proofs.YtplokbmdcfakbaaGreatDoor
open Go.RowKit
/-- a valid value -/
def validB (t : Tr) : Bool := decide (t.cnt ≤ 1024) && decide (t.dep ≤ 16) && snd t
set_option maxHeartbeats 1000000 in
theorem Valid_ok (t : Tr) (v : Value) (w : World) (hV : VRep w t v) (hT : Tabs w) : Calls Tryz.prog 35 #[v] w fun e w' => e = .returned (.bool (validB t)) ∧ Ext w w' := by
  obtain ⟨k, i, s, la, ln, lc, da, dn, dc, rfl⟩ := hV.shape
  have HV := Lib.hid hV
  have HT := Lib.hid hT
  clear hV hT
  obtain ⟨r, hr⟩ : ∃ r, validB t = r := ⟨_, rfl⟩
  rw [hr]
  have HR := Lib.hid hr
  clear hr
  have n1 := t.cnt_pos
  have n2 := t.dep_pos
  go_enter Tryz.func35, Tryz.ntmps35
  go_wp2_with fail
  refine (Nodes_ok t _ _ (VRep.ext ((Ext.refl w).alloc _) _ _ HV.out)).mono ?_
  rintro e w1 ⟨rfl, h1⟩
  have k1 := h1.ownc
  have l1 := h1.lt
  by_cases hc : t.cnt ≤ 1024
  case neg =>
    have hf : r = false := by rw [← HR.out]; unfold validB; rw [decide_eq_false hc]; rfl
    subst hf
    have d1 : decide (min (t.cnt : Int) 1025 ≤ 1024) = false := by simp; omega
    clear HR
    go_wp2_with fail
    go_ret
    exact ⟨rfl, h1.of_alloc⟩
  have d1 : decide (min (t.cnt : Int) 1025 ≤ 1024) = true := by simp; omega
  go_wp2_with fail
  refine (Depth_ok t _ _ (VRep.ext h1.of_alloc _ _ HV.out)).mono ?_
  rintro e w2 ⟨rfl, h2⟩
  have h12 := h1.trans h2
  have k2 := h12.ownc
  have l2 := h12.lt
  clear k1
  by_cases hd : t.dep ≤ 16
  case neg =>
    have hf : r = false := by rw [← HR.out]; unfold validB; rw [decide_eq_false hd]; simp
    subst hf
    have d2 : decide (min (t.dep : Int) 17 ≤ 16) = false := by simp; omega
    clear HR
    go_wp2_with fail
    go_ret
    exact ⟨rfl, h12.of_alloc⟩
  have d2 : decide (min (t.dep : Int) 17 ≤ 16) = true := by simp; omega
  have hR := HR.out
  unfold validB at hR
  rw [decide_eq_true hc, decide_eq_true hd, Bool.true_and, Bool.true_and] at hR
  have HR2 := Lib.hid hR
  clear hR HR
  go_wp2_with fail
  refine (sound_ok t _ _ (VRep.ext h12.of_alloc _ _ HV.out) (HT.out.ext h12.of_alloc)).mono ?_
  rintro e w3 ⟨rfl, h3⟩
  rw [HR2.out]
  go_wp2_with fail
  go_ret
  exact ⟨rfl, h12.of_alloc.trans h3⟩
end Go.Proofs.YtplokbmdcfakbaaGreatDoor
