/- value.isName. -/
import Derived.Test.YtplokbmdcfakbaaGreatDoorQV1
set_option linter.unusedSimpArgs false
set_option linter.unusedVariables false
namespace Go.Proofs.YtplokbmdcfakbaaGreatDoor
open Go.RowKit
/-- a byte of a name -/
def nameC (c : Nat) : Bool := decide (33 ≤ c) && decide (c ≤ 126) && !(c == 46)
def nameL (l : List UInt8) : Bool := match l with
  | [] => false
  | c :: _ => decide (l.length ≤ 32) && !(c.toNat == 36) && l.all fun c => nameC c.toNat
def nameB (s : ByteArray) : Bool := nameL s.data.toList
theorem byte_at (s : ByteArray) (k : Nat) (h : k < s.size) : s.data.toList[k]? = some s[k] := by
  rw [List.getElem?_eq_getElem (by simpa using h)]; rfl
theorem nameB_big (s : ByteArray) (h : 32 < s.size) : nameB s = false := by
  unfold nameB nameL
  split
  · rfl
  · rename_i c r hc
    have : (c :: r).length = s.size := by rw [← hc]; simp
    rw [decide_eq_false (by rw [← hc] at this; omega)]; simp
theorem nameB_nil (s : ByteArray) (h : s.size = 0) : nameB s = false := by
  have h1 : s.data.toList.length = 0 := by rw [← h]; simp
  have : s.data.toList = [] := List.length_eq_zero_iff.1 h1
  unfold nameB nameL; rw [this]
theorem nameB_some (s : ByteArray) (h0 : 0 < s.size) (h1 : s.size ≤ 32) : nameB s = (!(s[0].toNat == 36) && s.data.toList.all fun c => nameC c.toNat) := by
  have hb := byte_at s 0 h0
  have h2 : s.data.toList.length = s.size := by simp
  unfold nameB nameL
  cases hl : s.data.toList with
  | nil => rw [hl] at h2; simp at h2; omega
  | cons c r =>
    rw [hl] at hb h2
    have hc : c = s[0] := by simpa using hb
    simp only
    rw [decide_eq_true (by omega), hc]; simp
theorem all_no (s : ByteArray) (f : UInt8 → Bool) (k : Nat) (h : k < s.size) (e : f s[k] = false) : s.data.toList.all f = false := by
  rw [List.all_eq_false]
  exact ⟨s[k], List.mem_of_getElem? (byte_at s k h), by simp [e]⟩
theorem all_yes (s : ByteArray) (f : UInt8 → Bool) (h : ∀ i (hi : i < s.size), f s[i] = true) : s.data.toList.all f = true := by
  rw [List.all_eq_true]
  intro c hc
  obtain ⟨i, hi, rfl⟩ := List.mem_iff_getElem.1 hc
  exact h i (by simpa using hi)
set_option maxHeartbeats 1000000 in
theorem isName_ok (s : ByteArray) (w : World) : Calls Tryz.prog 98 #[.string s] w fun e w' => e = .returned (.bool (nameB s)) ∧ Ext w w' := by
  by_cases h0 : s.size = 0
  · rw [nameB_nil s h0]
    have d0 : decide ((s.size : Int) < 1) = true := by simp; omega
    go_enter Tryz.func98, Tryz.ntmps98
    go_wp2_with fail
    go_ret
    exact ⟨rfl, by repeat (first | with_reducible assumption | with_reducible exact Ext.refl _ | with_reducible refine Ext.drew ?_ | with_reducible refine Ext.alloc ?_ _ | ((with_reducible refine Ext.setCell ?_ ?_ _); rotate_left; (· first | exact Nat.le_refl _ | (simp; done) | omega | (simp; omega))))⟩
  have d0 : decide ((s.size : Int) < 1) = false := by simp; omega
  by_cases h1 : 32 < s.size
  · rw [nameB_big s h1]
    have d1 : decide (32 < (s.size : Int)) = true := by simp; omega
    clear h0
    go_enter Tryz.func98, Tryz.ntmps98
    go_wp2_with fail
    go_ret
    exact ⟨rfl, by repeat (first | with_reducible assumption | with_reducible exact Ext.refl _ | with_reducible refine Ext.drew ?_ | with_reducible refine Ext.alloc ?_ _ | ((with_reducible refine Ext.setCell ?_ ?_ _); rotate_left; (· first | exact Nat.le_refl _ | (simp; done) | omega | (simp; omega))))⟩
  have d1 : decide (32 < (s.size : Int)) = false := by simp; omega
  rw [nameB_some s (by omega) (by omega)]
  have z0 : 0 < s.size := by omega
  by_cases h2 : s[0].toNat = 36
  · rw [beq_iff_eq.2 h2]
    have d2 : ((s[0].toNat : Int) == 36) = true := by simp; omega
    clear h0
    go_enter Tryz.func98, Tryz.ntmps98
    go_wp2_with fail
    go_ret
    exact ⟨rfl, by repeat (first | with_reducible assumption | with_reducible exact Ext.refl _ | with_reducible refine Ext.drew ?_ | with_reducible refine Ext.alloc ?_ _ | ((with_reducible refine Ext.setCell ?_ ?_ _); rotate_left; (· first | exact Nat.le_refl _ | (simp; done) | omega | (simp; omega))))⟩
  have d2 : ((s[0].toNat : Int) == 36) = false := by simp; omega
  rw [beq_eq_false_iff_ne.2 h2]
  clear h0
  obtain ⟨r, hr⟩ : ∃ r, (!false && s.data.toList.all fun c => nameC c.toNat) = r := ⟨_, rfl⟩
  rw [hr]
  have HR := Lib.hid hr
  clear hr
  go_enter Tryz.func98, Tryz.ntmps98
  go_wp2_with fail
  go_loopw [19] (fun c wr => ∃ k : Nat, k ≤ s.size ∧ c = .int .i64 k ∧ (∀ i (hi : i < k) (hs : i < s.size), nameC s[i].toNat = true) ∧ wr = w) (fun c _ => s.size - (intOf c).toNat)
  case atStart => exact ⟨0, by omega, rfl, fun i hi => by omega, rfl⟩
  case round =>
    obtain ⟨k, hk, rfl, hall, rfl⟩ := hrel
    by_cases hlt : k < s.size
    · have hA := Lib.hid hall
      clear hall
      obtain ⟨b, hb⟩ : ∃ b : Nat, s[k].toNat = b := ⟨_, rfl⟩
      have HBb := Lib.hid hb
      by_cases hc : nameC b = true
      · have hc' : 33 ≤ b ∧ b ≤ 126 ∧ ¬ b = 46 := by simpa [nameC, and_assoc] using hc
        have HC := Lib.hid hc
        clear hc
        have e1 : decide ((b : Int) < 33) = false := by simp; omega
        have e2 : decide (126 < (b : Int)) = false := by simp; omega
        have e3 : ((b : Int) == 46) = false := by simp; omega
        go_wp2_with fail
        refine ⟨⟨k + 1, by omega, by go_num, fun i hi hs => ?_, trivial⟩, by simp [intOf]; omega⟩
        by_cases hik : i = k
        · subst hik; rw [HBb.out]; exact HC.out
        · exact hA.out i (by omega) hs
      · have hc0 : nameC b = false := by simpa using hc
        have hrf : r = false := by
          rw [← HR.out, all_no s (fun c => nameC c.toNat) k hlt (by rw [HBb.out]; exact hc0)]; rfl
        subst hrf
        have hc' : b < 33 ∨ 126 < b ∨ b = 46 := by
          simp [nameC] at hc0; omega
        clear hc hc0
        by_cases f1 : b < 33
        · have e1 : decide ((b : Int) < 33) = true := by simp; omega
          go_wp2_with fail
          go_ret
          exact ⟨rfl, by repeat (first | with_reducible assumption | with_reducible exact Ext.refl _ | with_reducible refine Ext.drew ?_ | with_reducible refine Ext.alloc ?_ _ | ((with_reducible refine Ext.setCell ?_ ?_ _); rotate_left; (· first | exact Nat.le_refl _ | (simp; done) | omega | (simp; omega))))⟩
        · have e1 : decide ((b : Int) < 33) = false := by simp; omega
          by_cases f2 : 126 < b
          · have e2 : decide (126 < (b : Int)) = true := by simp; omega
            go_wp2_with fail
            go_ret
            exact ⟨rfl, by repeat (first | with_reducible assumption | with_reducible exact Ext.refl _ | with_reducible refine Ext.drew ?_ | with_reducible refine Ext.alloc ?_ _ | ((with_reducible refine Ext.setCell ?_ ?_ _); rotate_left; (· first | exact Nat.le_refl _ | (simp; done) | omega | (simp; omega))))⟩
          · have e2 : decide (126 < (b : Int)) = false := by simp; omega
            have e3 : ((b : Int) == 46) = true := by simp; omega
            go_wp2_with fail
            go_ret
            exact ⟨rfl, by repeat (first | with_reducible assumption | with_reducible exact Ext.refl _ | with_reducible refine Ext.drew ?_ | with_reducible refine Ext.alloc ?_ _ | ((with_reducible refine Ext.setCell ?_ ?_ _); rotate_left; (· first | exact Nat.le_refl _ | (simp; done) | omega | (simp; omega))))⟩
    · have hrt : r = true := by
        rw [← HR.out, all_yes s (fun c => nameC c.toNat) (fun i hi => hall i (by omega) hi)]; rfl
      subst hrt
      have hk2 : k = s.size := by omega
      subst hk2
      clear hall
      go_wp2_with fail
      go_ret
      exact ⟨rfl, by repeat (first | with_reducible assumption | with_reducible exact Ext.refl _ | with_reducible refine Ext.drew ?_ | with_reducible refine Ext.alloc ?_ _ | ((with_reducible refine Ext.setCell ?_ ?_ _); rotate_left; (· first | exact Nat.le_refl _ | (simp; done) | omega | (simp; omega))))⟩
end Go.Proofs.YtplokbmdcfakbaaGreatDoor
