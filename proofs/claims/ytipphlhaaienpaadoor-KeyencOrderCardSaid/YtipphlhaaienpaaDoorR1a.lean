/- docstoreref01: Name, tail, UTF8. -/
import Derived.Test.YtipphlhaaienpaaDoorName
import Derived.Test.YtipphlhaaienpaaDoorUtfP
set_option linter.unusedSimpArgs false
set_option linter.unusedVariables false
namespace Go.Proofs.YtipphlhaaienpaaDoor
open Go.RowKit Go.Lib
set_option maxRecDepth 20000 in
set_option maxHeartbeats 1000000 in
theorem RName_ok (s : ByteArray) (w : World) (hs : s.size ≤ maxLen) : Calls Tryd.prog 64 #[.string s] w fun e w' => e = .returned (.bool (nameB s)) ∧ Ext w w' := by
  unfold maxLen at hs
  by_cases h0 : s.size = 0
  · rw [nameB_nil s h0]
    have d0 : decide ((s.size : Int) < 1) = true := by simp; omega
    go_enter Tryd.func64, Tryd.ntmps64
    go_wp2_with fail
    go_ret
    exact ⟨rfl, by repeat (first | with_reducible assumption | with_reducible exact Ext.refl _ | with_reducible refine Ext.drew ?_ | with_reducible refine Ext.alloc ?_ _ | ((with_reducible refine Ext.setCell ?_ ?_ _); rotate_left; (· first | exact Nat.le_refl _ | (simp; done) | omega | (simp; omega))))⟩
  have d0 : decide ((s.size : Int) < 1) = false := by simp; omega
  by_cases h1 : 32 < s.size
  · rw [nameB_big s h1]
    have d1 : decide (32 < (s.size : Int)) = true := by simp; omega
    clear h0
    go_enter Tryd.func64, Tryd.ntmps64
    go_wp2_with fail
    go_ret
    exact ⟨rfl, by repeat (first | with_reducible assumption | with_reducible exact Ext.refl _ | with_reducible refine Ext.drew ?_ | with_reducible refine Ext.alloc ?_ _ | ((with_reducible refine Ext.setCell ?_ ?_ _); rotate_left; (· first | exact Nat.le_refl _ | (simp; done) | omega | (simp; omega))))⟩
  have d1 : decide (32 < (s.size : Int)) = false := by simp; omega
  rw [nameB_some s (by omega) (by omega)]
  have z0 : 0 < s.size := by omega
  by_cases h2 : s[0].toNat = 36
  · rw [beq_iff_eq.2 h2]
    have d2 : ((s[0].toNat : Int) == 36) = true := by simp; omega
    clear h0
    go_enter Tryd.func64, Tryd.ntmps64
    go_wp2_with fail
    go_ret
    exact ⟨rfl, by repeat (first | with_reducible assumption | with_reducible exact Ext.refl _ | with_reducible refine Ext.drew ?_ | with_reducible refine Ext.alloc ?_ _ | ((with_reducible refine Ext.setCell ?_ ?_ _); rotate_left; (· first | exact Nat.le_refl _ | (simp; done) | omega | (simp; omega))))⟩
  have d2 : ((s[0].toNat : Int) == 36) = false := by simp; omega
  rw [beq_eq_false_iff_ne.2 h2]
  clear h0
  obtain ⟨r, hr⟩ : ∃ r, (!false && s.data.toList.all fun c => nameC c.toNat) = r := ⟨_, rfl⟩
  rw [hr]
  have HR := Lib.hid hr
  clear hr
  go_enter Tryd.func64, Tryd.ntmps64
  go_wp2_with fail
  go_loopw [3] (fun c wr => ∃ k : Nat, k ≤ s.size ∧ c = .int .i64 k ∧ (∀ i (hi : i < k) (hs : i < s.size), nameC s[i].toNat = true) ∧ wr = w) (fun c _ => s.size - (intOf c).toNat)
  case atStart => exact ⟨0, by omega, rfl, fun i hi => by omega, rfl⟩
  case round =>
    obtain ⟨k, hk, rfl, hall, rfl⟩ := hrel
    by_cases hlt : k < s.size
    · have hA := Lib.hid hall
      clear hall
      obtain ⟨b, hb⟩ : ∃ b : Nat, s[k].toNat = b := ⟨_, rfl⟩
      have HBb := Lib.hid hb
      by_cases hc : nameC b = true
      · have hc' : 33 ≤ b ∧ b ≤ 126 ∧ ¬ b = 46 := by simpa [nameC, and_assoc] using hc
        have HC := Lib.hid hc
        clear hc
        have e1 : decide ((b : Int) < 33) = false := by simp; omega
        have e2 : decide (126 < (b : Int)) = false := by simp; omega
        have e3 : ((b : Int) == 46) = false := by simp; omega
        go_wp2_with fail
        refine ⟨⟨k + 1, by omega, by go_num, fun i hi hs => ?_, trivial⟩, by simp [intOf]; omega⟩
        by_cases hik : i = k
        · subst hik; rw [HBb.out]; exact HC.out
        · exact hA.out i (by omega) hs
      · have hc0 : nameC b = false := by simpa using hc
        have hrf : r = false := by
          rw [← HR.out, all_no s (fun c => nameC c.toNat) k hlt (by rw [HBb.out]; exact hc0)]; rfl
        subst hrf
        have hc' : b < 33 ∨ 126 < b ∨ b = 46 := by
          simp [nameC] at hc0; omega
        clear hc hc0
        by_cases f1 : b < 33
        · have e1 : decide ((b : Int) < 33) = true := by simp; omega
          go_wp2_with fail
          go_ret
          exact ⟨rfl, by repeat (first | with_reducible assumption | with_reducible exact Ext.refl _ | with_reducible refine Ext.drew ?_ | with_reducible refine Ext.alloc ?_ _ | ((with_reducible refine Ext.setCell ?_ ?_ _); rotate_left; (· first | exact Nat.le_refl _ | (simp; done) | omega | (simp; omega))))⟩
        · have e1 : decide ((b : Int) < 33) = false := by simp; omega
          by_cases f2 : 126 < b
          · have e2 : decide (126 < (b : Int)) = true := by simp; omega
            go_wp2_with fail
            go_ret
            exact ⟨rfl, by repeat (first | with_reducible assumption | with_reducible exact Ext.refl _ | with_reducible refine Ext.drew ?_ | with_reducible refine Ext.alloc ?_ _ | ((with_reducible refine Ext.setCell ?_ ?_ _); rotate_left; (· first | exact Nat.le_refl _ | (simp; done) | omega | (simp; omega))))⟩
          · have e2 : decide (126 < (b : Int)) = false := by simp; omega
            have e3 : ((b : Int) == 46) = true := by simp; omega
            go_wp2_with fail
            go_ret
            exact ⟨rfl, by repeat (first | with_reducible assumption | with_reducible exact Ext.refl _ | with_reducible refine Ext.drew ?_ | with_reducible refine Ext.alloc ?_ _ | ((with_reducible refine Ext.setCell ?_ ?_ _); rotate_left; (· first | exact Nat.le_refl _ | (simp; done) | omega | (simp; omega))))⟩
    · have hrt : r = true := by
        rw [← HR.out, all_yes s (fun c => nameC c.toNat) (fun i hi => hall i (by omega) hi)]; rfl
      subst hrt
      have hk2 : k = s.size := by omega
      subst hk2
      clear hall
      go_wp2_with fail
      go_ret
      exact ⟨rfl, by repeat (first | with_reducible assumption | with_reducible exact Ext.refl _ | with_reducible refine Ext.drew ?_ | with_reducible refine Ext.alloc ?_ _ | ((with_reducible refine Ext.setCell ?_ ?_ _); rotate_left; (· first | exact Nat.le_refl _ | (simp; done) | omega | (simp; omega))))⟩
/-- the bytes from i on -/
def rest (s : ByteArray) (i : Nat) : List UInt8 := s.data.toList.drop i
theorem rest_len (s : ByteArray) (i : Nat) : (rest s i).length = s.size - i := by simp [rest]
theorem rest_get (s : ByteArray) (i k : Nat) (h : i + k < s.size) : (rest s i)[k]? = some s[i + k] := by
  unfold rest; rw [List.getElem?_drop]; exact byte_at s (i + k) h
theorem rest_getD (s : ByteArray) (i k : Nat) (h : i + k < s.size) : (rest s i).getD k 0 = s[i + k] := by
  rw [List.getD_eq_getElem?_getD, rest_get s i k h]; rfl
theorem tailL_no (s : ByteArray) (i n k : Nat) (hk : k < n) (h : i + k < s.size) (hc : contB s[i + k].toNat = false) : tailL (rest s i) n = false := by
  unfold tailL
  have : ((rest s i).take n).all (fun c => contB c.toNat) = false := by
    rw [List.all_eq_false]
    refine ⟨s[i + k], ?_, by simp [hc]⟩
    exact List.mem_of_getElem? (i := k) (by rw [List.getElem?_take, if_pos hk]; exact rest_get s i k h)
  rw [this, Bool.and_false]
theorem tailL_short (s : ByteArray) (i n : Nat) (h : s.size < i + n) (hn : 0 < n) : tailL (rest s i) n = false := by
  unfold tailL; rw [decide_eq_false (by rw [rest_len]; omega)]; rfl
theorem tailL_yes (s : ByteArray) (i n : Nat) (h : i + n ≤ s.size) (hc : ∀ k (hk : k < n), contB (s[i + k]'(by omega)).toNat = true) : tailL (rest s i) n = true := by
  unfold tailL
  rw [decide_eq_true (by rw [rest_len]; omega), Bool.true_and, List.all_eq_true]
  intro c hcm
  obtain ⟨k, hk, rfl⟩ := List.mem_iff_getElem.1 hcm
  have hk' : k < n := by simp at hk; omega
  have : ((rest s i).take n)[k]? = some (s[i + k]'(by omega)) := by rw [List.getElem?_take, if_pos hk']; exact rest_get s i k (by omega)
  rw [List.getElem?_eq_getElem hk] at this
  injection this with this
  rw [this]; exact hc k hk'
set_option maxRecDepth 20000 in
set_option maxHeartbeats 1000000 in
theorem tail_ok (s : ByteArray) (i n : Nat) (x y : Int) (w : World) (hx : x = i) (hy : y = n) (hs : s.size ≤ 4096) (hi : i ≤ s.size) (hn : n ≤ 3) : Calls Tryd.prog 63 #[.string s, .int .i64 x, .int .i64 y] w fun e w' => e = .returned (.bool (tailL (rest s i) n)) ∧ w = w' := by
  subst hx hy
  by_cases h : s.size < i + n
  · rw [tailL_short s i n h (by omega)]
    have d : decide (s.size < i + n) = true := by simpa using h
    have d2 : decide ((s.size : Int) < (i : Int) + (n : Int)) = true := by simp; omega
    go_enter Tryd.func63, Tryd.ntmps63
    go_wp2_with fail
    go_ret
    exact ⟨rfl, rfl⟩
  have d : decide (s.size < i + n) = false := by simpa using h
  have d2 : decide ((s.size : Int) < (i : Int) + (n : Int)) = false := by simp; omega
  obtain ⟨r, hr⟩ : ∃ r, tailL (rest s i) n = r := ⟨_, rfl⟩
  rw [hr]
  have HR := Lib.hid hr
  clear hr
  go_enter Tryd.func63, Tryd.ntmps63
  go_wp2_with fail
  go_loopw [7] (fun c wr => ∃ k : Nat, k ≤ n ∧ c = .int .i64 k ∧ (∀ j (hj : j < k) (hs : i + j < s.size), contB s[i + j].toNat = true) ∧ wr = w) (fun c _ => n - (intOf c).toNat)
  case atStart => exact ⟨0, by omega, rfl, fun j hj => by omega, rfl⟩
  case round =>
    obtain ⟨k, hk, rfl, hall, rfl⟩ := hrel
    have hA := Lib.hid hall
    clear hall
    by_cases hlt : k < n
    · have hik : i + k < s.size := by omega
      obtain ⟨b, hb⟩ : ∃ b : Nat, s[i + k].toNat = b := ⟨_, rfl⟩
      have HBb := Lib.hid hb
      by_cases hc : contB b = true
      · have hc' : 128 ≤ b ∧ b ≤ 191 := by simpa [contB] using hc
        have HC := Lib.hid hc
        clear hc
        have e1 : decide ((b : Int) < 128) = false := by simp; omega
        have e2 : decide (191 < (b : Int)) = false := by simp; omega
        go_wp2_with fail
        refine ⟨⟨k + 1, by omega, by go_num, fun j hj hs => ?_, trivial⟩, by simp [intOf]; omega⟩
        by_cases hjk : j = k
        · subst hjk; rw [HBb.out]; exact HC.out
        · exact hA.out j (by omega) hs
      · have hc0 : contB b = false := by simpa using hc
        have hrf : r = false := by rw [← HR.out]; exact tailL_no s i n k hlt hik (by rw [HBb.out]; exact hc0)
        subst hrf
        have hc' : b < 128 ∨ 191 < b := by simp [contB] at hc0; omega
        clear hc hc0
        by_cases f1 : b < 128
        · have e1 : decide ((b : Int) < 128) = true := by simp; omega
          go_wp2_with fail
          go_ret
          exact ⟨rfl, rfl⟩
        · have e1 : decide ((b : Int) < 128) = false := by simp; omega
          have e2 : decide (191 < (b : Int)) = true := by simp; omega
          go_wp2_with fail
          go_ret
          exact ⟨rfl, rfl⟩
    · have hk2 : k = n := by omega
      subst hk2
      have hrt : r = true := by rw [← HR.out]; exact tailL_yes s i k (by omega) (fun j hj => hA.out j hj _)
      subst hrt
      go_wp2_with fail
      go_ret
      exact ⟨rfl, rfl⟩
end Go.Proofs.YtipphlhaaienpaaDoor
