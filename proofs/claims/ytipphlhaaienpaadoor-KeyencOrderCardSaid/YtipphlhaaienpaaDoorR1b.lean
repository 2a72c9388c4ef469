/- docstoreref01: UTF8. -/
import Derived.Test.YtipphlhaaienpaaDoorR1a
import Derived.Test.YtipphlhaaienpaaDoorSnd
set_option linter.unusedSimpArgs false
set_option linter.unusedVariables false
namespace Go.Proofs.YtipphlhaaienpaaDoor
open Go.RowKit
open Go.Lib hiding intOf
theorem rest_ne (s : ByteArray) (i : Nat) (h : i < s.size) : rest s i ≠ [] := by
  intro e; have := rest_len s i; rw [e] at this; simp at this; omega
theorem rest_tail (s : ByteArray) (i : Nat) : (rest s i).tail = rest s (i + 1) := by simp [rest]
theorem rest_drop (s : ByteArray) (i k : Nat) : (rest s i).drop k = rest s (i + k) := by simp [rest]
theorem utf_none (s : ByteArray) (i : Nat) (h : i < s.size) (hu : utfN s[i].toNat = none) : validD (rest s i) = false := by
  rw [validD_ref _ (rest_ne s i h)]
  unfold utfStep
  rw [show (rest s i).getD 0 0 = s[i] from rest_getD s i 0 h, hu]
theorem utf_tail (s : ByteArray) (i n : Nat) (h : i < s.size) (hu : utfN s[i].toNat = some n) (ht : tailL (rest s (i + 1)) n = false) : validD (rest s i) = false := by
  rw [validD_ref _ (rest_ne s i h)]
  unfold utfStep
  rw [show (rest s i).getD 0 0 = s[i] from rest_getD s i 0 h, hu]
  simp only [rest_tail, ht, Bool.false_and]
  rfl
theorem utf_odd (s : ByteArray) (i n c : Nat) (h : i < s.size) (hu : utfN s[i].toNat = some n) (hc : ((rest s i).getD 1 0).toNat = c) (ho : oddB s[i].toNat c = true) : validD (rest s i) = false := by
  rw [validD_ref _ (rest_ne s i h)]
  unfold utfStep
  rw [show (rest s i).getD 0 0 = s[i] from rest_getD s i 0 h, hu, hc, ho]
  simp
theorem utf_go (s : ByteArray) (i n c : Nat) (h : i < s.size) (hu : utfN s[i].toNat = some n) (ht : tailL (rest s (i + 1)) n = true) (hc : ((rest s i).getD 1 0).toNat = c) (ho : oddB s[i].toNat c = false) : validD (rest s i) = validD (rest s (i + n + 1)) := by
  rw [validD_ref _ (rest_ne s i h)]
  unfold utfStep
  rw [show (rest s i).getD 0 0 = s[i] from rest_getD s i 0 h, hu, hc, ho]
  simp only [rest_tail, ht, Bool.not_false, Bool.and_self]
  simp only [if_true, rest_drop]; rfl
theorem tailL_len (s : ByteArray) (i n : Nat) (ht : tailL (rest s i) n = true) : n ≤ s.size - i := by
  unfold tailL at ht
  simp only [Bool.and_eq_true, decide_eq_true_eq, rest_len] at ht
  exact ht.1
theorem oddB_other (b c : Nat) (h1 : ¬ b = 224) (h2 : ¬ b = 237) (h3 : ¬ b = 240) (h4 : ¬ b = 244) : oddB b c = false := by simp [oddB, h1, h2, h3, h4]
/-- what is left behind a rune -/
def UtfGoes (s : ByteArray) (i : Nat) (r : Bool) (k : Nat) : Prop := k ≤ s.size ∧ i < k ∧ validD (rest s k) = r
set_option maxRecDepth 20000 in
set_option maxHeartbeats 2000000 in
theorem UTF8_ok (s : ByteArray) (w : World) (hs : s.size ≤ 4096) : Calls Tryd.prog 56 #[.string s] w fun e w' => e = .returned (.bool (utf8B s)) ∧ w = w' := by
  obtain ⟨r, hr⟩ : ∃ r, utf8B s = r := ⟨_, rfl⟩
  rw [hr]
  have HR := Lib.hid hr
  clear hr
  go_enter Tryd.func56, Tryd.ntmps56
  go_wp2_with fail
  go_loopw [3] (fun c wr => ∃ i : Nat, i ≤ s.size ∧ c = .int .i64 i ∧ Hid (validD (rest s i) = r) ∧ wr = w) (fun c _ => s.size - (intOf c).toNat)
  case atStart => exact ⟨0, by omega, rfl, HR, rfl⟩
  case round =>
    obtain ⟨i, hi, rfl, HV, rfl⟩ := hrel
    by_cases hlt : i < s.size
    case neg =>
      have hi2 : i = s.size := by omega
      subst hi2
      have hv : r = true := by rw [← HV.out]; have : rest s s.size = [] := List.eq_nil_of_length_eq_zero (by rw [rest_len]; omega); rw [this]; rfl
      subst hv
      go_wp2_with fail
      go_ret
      exact ⟨rfl, rfl⟩
    obtain ⟨b, hb⟩ : ∃ b : Nat, s[i].toNat = b := ⟨_, rfl⟩
    have HB := Lib.hid hb
    have hb2 : b < 256 := by rw [← hb]; exact s[i].toNat_lt
    have HN := Lib.hid (fun hu => utf_none s i hlt hu)
    have HT := Lib.hid (fun n hu => utf_tail s i n hlt hu)
    have HO := Lib.hid (fun n c hu => utf_odd s i n c hlt hu)
    have HG := Lib.hid (fun n c hu => utf_go s i n c hlt hu)
    rw [hb] at HN HT HO HG
    by_cases c1 : b < 128
    · have HU : Hid (utfN b = some 0) := by show utfN b = some 0; simp [utfN, c1]
      have e0 : decide ((b : Int) < 128) = true := by simp; omega
      have o1 : ((b : Int) == 224) = false := by simp; omega
      have o2 : ((b : Int) == 237) = false := by simp; omega
      have o3 : ((b : Int) == 240) = false := by simp; omega
      have o4 : ((b : Int) == 244) = false := by simp; omega
      have HOdd := Lib.hid (oddB_other b ((rest s i).getD 1 0).toNat (by omega) (by omega) (by omega) (by omega))
      go_wp2_with fail
      refine (tail_ok s (i + 1) 0 _ _ _ (by omega) rfl hs (by omega) (by omega)).mono ?_
      rintro e w' ⟨rfl, rfl⟩
      rw [tailL_0]
      go_wp2_with fail
      refine ⟨⟨i + 1, by omega, by go_num, ?_, trivial⟩, by simp [intOf]; omega⟩
      show validD _ = _
      rw [← HG.out 0 _ HU.out (tailL_0 _) rfl HOdd.out]; exact HV.out
    have e0 : decide ((b : Int) < 128) = false := by simp; omega
    by_cases c2 : b < 194
    · have HU : Hid (utfN b = none) := by show utfN b = none; unfold utfN; repeat (first | rw [if_neg (by omega)] | rw [if_pos (by omega)])
      have hf : r = false := by rw [← HV.out]; exact HN.out HU.out
      subst hf
      have e1 : decide (194 ≤ (b : Int)) = false := by simp; omega
      have e2 : decide (224 ≤ (b : Int)) = false := by simp; omega
      have e3 : decide (240 ≤ (b : Int)) = false := by simp; omega
      go_wp2_with fail
      go_ret
      exact ⟨rfl, rfl⟩
    have e1 : decide (194 ≤ (b : Int)) = true := by simp; omega
    by_cases c3 : 244 < b
    · have HU : Hid (utfN b = none) := by show utfN b = none; unfold utfN; repeat (first | rw [if_neg (by omega)] | rw [if_pos (by omega)])
      have hf : r = false := by rw [← HV.out]; exact HN.out HU.out
      subst hf
      have e2 : decide ((b : Int) ≤ 223) = false := by simp; omega
      have e3 : decide (224 ≤ (b : Int)) = true := by simp; omega
      have e4 : decide ((b : Int) ≤ 239) = false := by simp; omega
      have e5 : decide (240 ≤ (b : Int)) = true := by simp; omega
      have e6 : decide ((b : Int) ≤ 244) = false := by simp; omega
      go_wp2_with fail
      go_ret
      exact ⟨rfl, rfl⟩
    obtain ⟨n, hn⟩ : ∃ n : Nat, n = if b ≤ 223 then 1 else if b ≤ 239 then 2 else 3 := ⟨_, rfl⟩
    have HU : Hid (utfN b = some n) := by
      show utfN b = some n
      rw [hn]; unfold utfN
      by_cases p1 : b ≤ 223
      · repeat (first | rw [if_neg (by omega)] | rw [if_pos (by omega)])
      · by_cases p2 : b ≤ 239
        · repeat (first | rw [if_neg (by omega)] | rw [if_pos (by omega)])
        · repeat (first | rw [if_neg (by omega)] | rw [if_pos (by omega)])
    obtain ⟨q, hq⟩ : ∃ q, tailL (rest s (i + 1)) n = q := ⟨_, rfl⟩
    have HQ := Lib.hid hq
    have hql : q = true → n ≤ s.size - (i + 1) := fun h => tailL_len s (i + 1) n (by rw [hq]; exact h)
    clear hq
    have hcall : ∀ (x y : Int) (W : World), x = (i : Int) + 1 → y = n → Calls Tryd.prog 63 #[.string s, .int .i64 x, .int .i64 y] W fun e w' => e = .returned (.bool q) ∧ W = w' := fun x y W hx hy => by
      have := tail_ok s (i + 1) n x y W (by rw [hx]; omega) hy hs (by omega) (by rw [hn]; split <;> (try split) <;> omega)
      rw [HQ.out] at this; exact this
    have HC := Lib.hid hcall
    clear hcall
    have fin : ∀ c : Nat, ((rest s i).getD 1 0).toNat = c → q = true → (oddB b c = true → r = false) ∧ (oddB b c = false → UtfGoes s i r (i + n + 1)) := fun c hc hqt => by
      refine ⟨fun ho => ?_, fun ho => ⟨?_, by omega, ?_⟩⟩
      · rw [← HV.out]; exact HO.out n c HU.out hc ho
      · have := hql hqt; omega
      · rw [← HG.out n c HU.out (by rw [HQ.out]; exact hqt) hc ho]; exact HV.out
    have FIN := Lib.hid fin
    have hnq : q = false → r = false := fun h => by rw [← HV.out]; exact HT.out n HU.out (by rw [HQ.out]; exact h)
    have HNQ := Lib.hid hnq
    clear fin hnq HQ HU HN HT HO HG HV HR
    by_cases p1 : b ≤ 223
    · have e2 : decide ((b : Int) ≤ 223) = true := by simp; omega
      have o1 : ((b : Int) == 224) = false := by simp; omega
      have o2 : ((b : Int) == 237) = false := by simp; omega
      have o3 : ((b : Int) == 240) = false := by simp; omega
      have o4 : ((b : Int) == 244) = false := by simp; omega
      rw [if_pos p1] at hn
      subst hn
      go_wp2_with fail
      refine (HC.out _ _ _ rfl rfl).mono ?_
      rintro e w' ⟨rfl, rfl⟩
      cases q
      · have hf := HNQ.out rfl
        subst hf
        go_wp2_with fail
        go_ret
        exact ⟨rfl, rfl⟩
      · have hg := (FIN.out _ rfl rfl).2 (oddB_other b _ (by omega) (by omega) (by omega) (by omega))
        have HGo := Lib.hid hg
        clear hg hql
        go_wp2_with fail
        exact ⟨⟨i + 1 + 1, HGo.out.1, by go_num, HGo.out.2.2, trivial⟩, by have := HGo.out.1; simp [intOf]; omega⟩
    have e2 : decide ((b : Int) ≤ 223) = false := by simp; omega
    have e3 : decide (224 ≤ (b : Int)) = true := by simp; omega
    rw [if_neg p1] at hn
    by_cases p2 : b ≤ 239
    · have e4 : decide ((b : Int) ≤ 239) = true := by simp; omega
      have o3 : ((b : Int) == 240) = false := by simp; omega
      have o4 : ((b : Int) == 244) = false := by simp; omega
      rw [if_pos p2] at hn
      subst hn
      go_wp2_with fail
      refine (HC.out _ _ _ rfl rfl).mono ?_
      rintro e w' ⟨rfl, rfl⟩
      cases q
      · have hf := HNQ.out rfl
        subst hf
        go_wp2_with fail
        go_ret
        exact ⟨rfl, rfl⟩
      · have h1 : i + 1 < s.size := by have := hql rfl; omega
        obtain ⟨c, hc⟩ : ∃ c : Nat, s[i + 1].toNat = c := ⟨_, rfl⟩
        have hfin := FIN.out c (by rw [rest_getD s i 1 h1]; exact hc) rfl
        have HFin := Lib.hid hfin
        clear hfin hql
        by_cases q1 : b = 224
        · have o1 : ((b : Int) == 224) = true := by simp; omega
          have o2 : ((b : Int) == 237) = false := by simp; omega
          by_cases t1 : c < 160
          · have d1 : decide ((c : Int) < 160) = true := by simp; omega
            have hf := HFin.out.1 (by simp [oddB, q1, t1])
            subst hf
            clear q1
            go_wp2_with fail
            go_ret
            exact ⟨rfl, rfl⟩
          · have d1 : decide ((c : Int) < 160) = false := by simp; omega
            have HGo := Lib.hid (HFin.out.2 (by simp [oddB, q1, t1]))
            clear q1
            go_wp2_with fail
            exact ⟨⟨i + 2 + 1, HGo.out.1, by go_num, HGo.out.2.2, trivial⟩, by have := HGo.out.1; simp [intOf]; omega⟩
        have o1 : ((b : Int) == 224) = false := by simp; omega
        by_cases q2 : b = 237
        · have o2 : ((b : Int) == 237) = true := by simp; omega
          by_cases t1 : 159 < c
          · have d1 : decide (159 < (c : Int)) = true := by simp; omega
            have hf := HFin.out.1 (by simp [oddB, q2, t1])
            subst hf
            clear q2
            go_wp2_with fail
            go_ret
            exact ⟨rfl, rfl⟩
          · have d1 : decide (159 < (c : Int)) = false := by simp; omega
            have HGo := Lib.hid (HFin.out.2 (by simp [oddB, q2, t1]))
            clear q2
            go_wp2_with fail
            exact ⟨⟨i + 2 + 1, HGo.out.1, by go_num, HGo.out.2.2, trivial⟩, by have := HGo.out.1; simp [intOf]; omega⟩
        have o2 : ((b : Int) == 237) = false := by simp; omega
        have HGo := Lib.hid (HFin.out.2 (oddB_other b c q1 q2 (by omega) (by omega)))
        go_wp2_with fail
        exact ⟨⟨i + 2 + 1, HGo.out.1, by go_num, HGo.out.2.2, trivial⟩, by have := HGo.out.1; simp [intOf]; omega⟩
    have e4 : decide ((b : Int) ≤ 239) = false := by simp; omega
    have e5 : decide (240 ≤ (b : Int)) = true := by simp; omega
    have e6 : decide ((b : Int) ≤ 244) = true := by simp; omega
    have o1 : ((b : Int) == 224) = false := by simp; omega
    have o2 : ((b : Int) == 237) = false := by simp; omega
    rw [if_neg p2] at hn
    subst hn
    go_wp2_with fail
    refine (HC.out _ _ _ rfl rfl).mono ?_
    rintro e w' ⟨rfl, rfl⟩
    cases q
    · have hf := HNQ.out rfl
      subst hf
      go_wp2_with fail
      go_ret
      exact ⟨rfl, rfl⟩
    · have h1 : i + 1 < s.size := by have := hql rfl; omega
      obtain ⟨c, hc⟩ : ∃ c : Nat, s[i + 1].toNat = c := ⟨_, rfl⟩
      have hfin := FIN.out c (by rw [rest_getD s i 1 h1]; exact hc) rfl
      have HFin := Lib.hid hfin
      clear hfin hql
      by_cases q1 : b = 240
      · have o3 : ((b : Int) == 240) = true := by simp; omega
        have o4 : ((b : Int) == 244) = false := by simp; omega
        by_cases t1 : c < 144
        · have d1 : decide ((c : Int) < 144) = true := by simp; omega
          have hf := HFin.out.1 (by simp [oddB, q1, t1])
          subst hf
          clear q1
          go_wp2_with fail
          go_ret
          exact ⟨rfl, rfl⟩
        · have d1 : decide ((c : Int) < 144) = false := by simp; omega
          have HGo := Lib.hid (HFin.out.2 (by simp [oddB, q1, t1]))
          clear q1
          go_wp2_with fail
          exact ⟨⟨i + 3 + 1, HGo.out.1, by go_num, HGo.out.2.2, trivial⟩, by have := HGo.out.1; simp [intOf]; omega⟩
      have o3 : ((b : Int) == 240) = false := by simp; omega
      by_cases q2 : b = 244
      · have o4 : ((b : Int) == 244) = true := by simp; omega
        by_cases t1 : 143 < c
        · have d1 : decide (143 < (c : Int)) = true := by simp; omega
          have hf := HFin.out.1 (by simp [oddB, q2, t1])
          subst hf
          clear q2
          go_wp2_with fail
          go_ret
          exact ⟨rfl, rfl⟩
        · have d1 : decide (143 < (c : Int)) = false := by simp; omega
          have HGo := Lib.hid (HFin.out.2 (by simp [oddB, q2, t1]))
          clear q2
          go_wp2_with fail
          exact ⟨⟨i + 3 + 1, HGo.out.1, by go_num, HGo.out.2.2, trivial⟩, by have := HGo.out.1; simp [intOf]; omega⟩
      have o4 : ((b : Int) == 244) = false := by simp; omega
      have HGo := Lib.hid (HFin.out.2 (oddB_other b c (by omega) (by omega) q1 q2))
      go_wp2_with fail
      exact ⟨⟨i + 3 + 1, HGo.out.1, by go_num, HGo.out.2.2, trivial⟩, by have := HGo.out.1; simp [intOf]; omega⟩
end Go.Proofs.YtipphlhaaienpaaDoor
