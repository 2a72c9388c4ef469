/- docstoreref01.formed, kind by kind (printed by genformed.py), and Valid. -/
import Derived.Test.YtipphlhaaienpaaDoorR1d
import Derived.Test.YtipphlhaaienpaaDoorValid
set_option linter.unusedSimpArgs false
set_option linter.unusedVariables false
namespace Go.Proofs.YtipphlhaaienpaaDoor
open Go.RowKit
set_option maxRecDepth 20000 in
set_option maxHeartbeats 1000000 in
theorem formed_k1 (i : Int) (s : ByteArray) (l : List Tr) (ns : List ByteArray) (ds : List Tr) (la da : Option Addr) (lc dc : Nat) (w : World) (HV : Hid (VRep w (.mk 1 i s l ns ds) (.agg #[.int .i64 1, .int .i64 i, .string s, .slice la l.length lc, .slice da ds.length dc]))) (H : s.size ≤ maxLen ∧ l.length ≤ lc ∧ lc ≤ maxLen ∧ LRep w la 0 l ∧ ∀ t, t ∈ l ∨ t ∈ ds → FormedOk t) :
    Calls Tryd.prog 37 #[.agg #[.int .i64 1, .int .i64 i, .string s, .slice la l.length lc, .slice da ds.length dc], .bool true] w fun e w' => e = .returned (.bool (snd (.mk 1 i s l ns ds))) ∧ Ext w w' := by
  obtain ⟨hs, hl1, hl2, hL, ih⟩ := H
  by_cases hz1 : 0 < l.length
  case pos =>
    have e0 : ¬ l = [] := fun e => by rw [e] at hz1; simp at hz1
    rw [show snd (.mk 1 i s l ns ds) = false by simp [snd, headOk, e0]]
    have e1 : decide (0 < l.length) = true := by simpa using hz1
    clear ih hL hl1 hl2 HV e0
    go_enter Tryd.func37, Tryd.ntmps37
    go_wp2_with fail
    go_ret
    exact ⟨rfl, by repeat (first | with_reducible assumption | with_reducible exact Ext.refl _ | with_reducible refine Ext.drew ?_ | with_reducible refine Ext.alloc ?_ _ | ((with_reducible refine Ext.setCell ?_ ?_ _); rotate_left; (· first | exact Nat.le_refl _ | (simp; done) | omega | (simp; omega))))⟩
  have d1 : decide (0 < l.length) = false := decide_eq_false hz1
  have z1 : l = [] := List.eq_nil_of_length_eq_zero (by omega)
  by_cases hz2 : 0 < ds.length
  case pos =>
    have e0 : ¬ ds = [] := fun e => by rw [e] at hz2; simp at hz2
    rw [show snd (.mk 1 i s l ns ds) = false by simp [snd, headOk, e0]]
    have e1 : decide (0 < ds.length) = true := by simpa using hz2
    clear ih hL hl1 hl2 HV e0 z1
    go_enter Tryd.func37, Tryd.ntmps37
    go_wp2_with fail
    go_ret
    exact ⟨rfl, by repeat (first | with_reducible assumption | with_reducible exact Ext.refl _ | with_reducible refine Ext.drew ?_ | with_reducible refine Ext.alloc ?_ _ | ((with_reducible refine Ext.setCell ?_ ?_ _); rotate_left; (· first | exact Nat.le_refl _ | (simp; done) | omega | (simp; omega))))⟩
  have d2 : decide (0 < ds.length) = false := decide_eq_false hz2
  have z2 : ds = [] := List.eq_nil_of_length_eq_zero (by omega)
  by_cases hz3 : s.size = 0
  case neg =>
    rw [show snd (.mk 1 i s l ns ds) = false by simp [snd, headOk, hz3]]
    have hz' := bytes_some hz3
    clear ih hL hl1 hl2 HV hz3 z1 z2
    go_enter Tryd.func37, Tryd.ntmps37
    go_wp2_with fail
    go_ret
    exact ⟨rfl, by repeat (first | with_reducible assumption | with_reducible exact Ext.refl _ | with_reducible refine Ext.drew ?_ | with_reducible refine Ext.alloc ?_ _ | ((with_reducible refine Ext.setCell ?_ ?_ _); rotate_left; (· first | exact Nat.le_refl _ | (simp; done) | omega | (simp; omega))))⟩
  obtain rfl := bytes_nil hz3
  clear hz3
  by_cases hi : i = 0
  case neg =>
    rw [show snd (.mk 1 i ⟨#[]⟩ l ns ds) = false by simp [snd, headOk, hi]]
    have hi' : (i != 0) = true := by simpa using hi
    clear ih hL hl1 hl2 HV hi z1 z2
    go_enter Tryd.func37, Tryd.ntmps37
    go_wp2_with fail
    go_ret
    exact ⟨rfl, by repeat (first | with_reducible assumption | with_reducible exact Ext.refl _ | with_reducible refine Ext.drew ?_ | with_reducible refine Ext.alloc ?_ _ | ((with_reducible refine Ext.setCell ?_ ?_ _); rotate_left; (· first | exact Nat.le_refl _ | (simp; done) | omega | (simp; omega))))⟩
  subst hi
  rw [show snd (.mk 1 0 ⟨#[]⟩ l ns ds) = (sndL l && sndF [] ns ds) by simp [snd, headOk, leafOk, bytes_e, z1, z2]]
  have HL := Lib.hid hL
  have HI := Lib.hid ih
  clear hL ih z1 z2
  unfold maxLen at hl2
  obtain ⟨r, hr⟩ : ∃ r, (sndL l && sndF [] ns ds) = r := ⟨_, rfl⟩
  rw [hr]
  have HR := Lib.hid hr
  clear hr
  go_enter Tryd.func37, Tryd.ntmps37
  go_wp2_with fail
  go_loopw [7] (fun c wr => ∃ j : Nat, j ≤ l.length ∧ c = .int .i64 j ∧ Hid ((sndL (l.drop j) && sndF [] ns ds) = r) ∧ Hid (Ext (w.alloc (.cells #[.int .i64 1, .int .i64 0, .string ⟨#[]⟩, .slice la l.length lc, .slice da ds.length dc] 41)) wr)) (fun c _ => l.length - (intOf c).toNat)
  case atStart => exact ⟨0, by omega, rfl, HR, Ext.refl _⟩
  case round =>
    obtain ⟨j, hj, rfl, HF, HE⟩ := hrel
    have k1 := HE.out.ownc
    have l1 := HE.out.lt
    by_cases hlt : j < l.length
    · exfalso; omega
    · have hj2 : j = l.length := by omega
      subst hj2
      have hF := HF.out
      rw [List.drop_length] at hF
      simp only [sndL, Bool.true_and] at hF
      have HF4 := Lib.hid hF
      clear hF HF HR
      go_wp2_with fail
      refine (fields_ok 1 0 ⟨#[]⟩ l ns ds _ _ (VRep.ext HE.out.of_alloc _ _ HV.out) (fun t ht => HI.out t (.inr ht))).mono ?_
      rintro e w1 ⟨rfl, h1⟩
      rw [HF4.out]
      go_wp2_with fail
      go_ret
      exact ⟨rfl, HE.out.of_alloc.trans h1⟩
set_option maxRecDepth 20000 in
set_option maxHeartbeats 1000000 in
theorem formed_k2 (i : Int) (s : ByteArray) (l : List Tr) (ns : List ByteArray) (ds : List Tr) (la da : Option Addr) (lc dc : Nat) (w : World) (HV : Hid (VRep w (.mk 2 i s l ns ds) (.agg #[.int .i64 2, .int .i64 i, .string s, .slice la l.length lc, .slice da ds.length dc]))) (H : s.size ≤ maxLen ∧ l.length ≤ lc ∧ lc ≤ maxLen ∧ LRep w la 0 l ∧ ∀ t, t ∈ l ∨ t ∈ ds → FormedOk t) :
    Calls Tryd.prog 37 #[.agg #[.int .i64 2, .int .i64 i, .string s, .slice la l.length lc, .slice da ds.length dc], .bool true] w fun e w' => e = .returned (.bool (snd (.mk 2 i s l ns ds))) ∧ Ext w w' := by
  obtain ⟨hs, hl1, hl2, hL, ih⟩ := H
  by_cases hz1 : 0 < l.length
  case pos =>
    have e0 : ¬ l = [] := fun e => by rw [e] at hz1; simp at hz1
    rw [show snd (.mk 2 i s l ns ds) = false by simp [snd, headOk, e0]]
    have e1 : decide (0 < l.length) = true := by simpa using hz1
    clear ih hL hl1 hl2 HV e0
    go_enter Tryd.func37, Tryd.ntmps37
    go_wp2_with fail
    go_ret
    exact ⟨rfl, by repeat (first | with_reducible assumption | with_reducible exact Ext.refl _ | with_reducible refine Ext.drew ?_ | with_reducible refine Ext.alloc ?_ _ | ((with_reducible refine Ext.setCell ?_ ?_ _); rotate_left; (· first | exact Nat.le_refl _ | (simp; done) | omega | (simp; omega))))⟩
  have d1 : decide (0 < l.length) = false := decide_eq_false hz1
  have z1 : l = [] := List.eq_nil_of_length_eq_zero (by omega)
  by_cases hz2 : 0 < ds.length
  case pos =>
    have e0 : ¬ ds = [] := fun e => by rw [e] at hz2; simp at hz2
    rw [show snd (.mk 2 i s l ns ds) = false by simp [snd, headOk, e0]]
    have e1 : decide (0 < ds.length) = true := by simpa using hz2
    clear ih hL hl1 hl2 HV e0 z1
    go_enter Tryd.func37, Tryd.ntmps37
    go_wp2_with fail
    go_ret
    exact ⟨rfl, by repeat (first | with_reducible assumption | with_reducible exact Ext.refl _ | with_reducible refine Ext.drew ?_ | with_reducible refine Ext.alloc ?_ _ | ((with_reducible refine Ext.setCell ?_ ?_ _); rotate_left; (· first | exact Nat.le_refl _ | (simp; done) | omega | (simp; omega))))⟩
  have d2 : decide (0 < ds.length) = false := decide_eq_false hz2
  have z2 : ds = [] := List.eq_nil_of_length_eq_zero (by omega)
  by_cases hz3 : s.size = 0
  case neg =>
    rw [show snd (.mk 2 i s l ns ds) = false by simp [snd, headOk, hz3]]
    have hz' := bytes_some hz3
    clear ih hL hl1 hl2 HV hz3 z1 z2
    go_enter Tryd.func37, Tryd.ntmps37
    go_wp2_with fail
    go_ret
    exact ⟨rfl, by repeat (first | with_reducible assumption | with_reducible exact Ext.refl _ | with_reducible refine Ext.drew ?_ | with_reducible refine Ext.alloc ?_ _ | ((with_reducible refine Ext.setCell ?_ ?_ _); rotate_left; (· first | exact Nat.le_refl _ | (simp; done) | omega | (simp; omega))))⟩
  obtain rfl := bytes_nil hz3
  clear hz3
  by_cases hi : i = 0
  case neg =>
    rw [show snd (.mk 2 i ⟨#[]⟩ l ns ds) = false by simp [snd, headOk, hi]]
    have hi' : (i != 0) = true := by simpa using hi
    clear ih hL hl1 hl2 HV hi z1 z2
    go_enter Tryd.func37, Tryd.ntmps37
    go_wp2_with fail
    go_ret
    exact ⟨rfl, by repeat (first | with_reducible assumption | with_reducible exact Ext.refl _ | with_reducible refine Ext.drew ?_ | with_reducible refine Ext.alloc ?_ _ | ((with_reducible refine Ext.setCell ?_ ?_ _); rotate_left; (· first | exact Nat.le_refl _ | (simp; done) | omega | (simp; omega))))⟩
  subst hi
  rw [show snd (.mk 2 0 ⟨#[]⟩ l ns ds) = (sndL l && sndF [] ns ds) by simp [snd, headOk, leafOk, bytes_e, z1, z2]]
  have HL := Lib.hid hL
  have HI := Lib.hid ih
  clear hL ih z1 z2
  unfold maxLen at hl2
  obtain ⟨r, hr⟩ : ∃ r, (sndL l && sndF [] ns ds) = r := ⟨_, rfl⟩
  rw [hr]
  have HR := Lib.hid hr
  clear hr
  go_enter Tryd.func37, Tryd.ntmps37
  go_wp2_with fail
  go_loopw [7] (fun c wr => ∃ j : Nat, j ≤ l.length ∧ c = .int .i64 j ∧ Hid ((sndL (l.drop j) && sndF [] ns ds) = r) ∧ Hid (Ext (w.alloc (.cells #[.int .i64 2, .int .i64 0, .string ⟨#[]⟩, .slice la l.length lc, .slice da ds.length dc] 41)) wr)) (fun c _ => l.length - (intOf c).toNat)
  case atStart => exact ⟨0, by omega, rfl, HR, Ext.refl _⟩
  case round =>
    obtain ⟨j, hj, rfl, HF, HE⟩ := hrel
    have k1 := HE.out.ownc
    have l1 := HE.out.lt
    by_cases hlt : j < l.length
    · exfalso; omega
    · have hj2 : j = l.length := by omega
      subst hj2
      have hF := HF.out
      rw [List.drop_length] at hF
      simp only [sndL, Bool.true_and] at hF
      have HF4 := Lib.hid hF
      clear hF HF HR
      go_wp2_with fail
      refine (fields_ok 2 0 ⟨#[]⟩ l ns ds _ _ (VRep.ext HE.out.of_alloc _ _ HV.out) (fun t ht => HI.out t (.inr ht))).mono ?_
      rintro e w1 ⟨rfl, h1⟩
      rw [HF4.out]
      go_wp2_with fail
      go_ret
      exact ⟨rfl, HE.out.of_alloc.trans h1⟩
set_option maxRecDepth 20000 in
set_option maxHeartbeats 1000000 in
theorem formed_k3 (i : Int) (s : ByteArray) (l : List Tr) (ns : List ByteArray) (ds : List Tr) (la da : Option Addr) (lc dc : Nat) (w : World) (HV : Hid (VRep w (.mk 3 i s l ns ds) (.agg #[.int .i64 3, .int .i64 i, .string s, .slice la l.length lc, .slice da ds.length dc]))) (H : s.size ≤ maxLen ∧ l.length ≤ lc ∧ lc ≤ maxLen ∧ LRep w la 0 l ∧ ∀ t, t ∈ l ∨ t ∈ ds → FormedOk t) :
    Calls Tryd.prog 37 #[.agg #[.int .i64 3, .int .i64 i, .string s, .slice la l.length lc, .slice da ds.length dc], .bool true] w fun e w' => e = .returned (.bool (snd (.mk 3 i s l ns ds))) ∧ Ext w w' := by
  obtain ⟨hs, hl1, hl2, hL, ih⟩ := H
  by_cases hz1 : 0 < l.length
  case pos =>
    have e0 : ¬ l = [] := fun e => by rw [e] at hz1; simp at hz1
    rw [show snd (.mk 3 i s l ns ds) = false by simp [snd, headOk, e0]]
    have e1 : decide (0 < l.length) = true := by simpa using hz1
    clear ih hL hl1 hl2 HV e0
    go_enter Tryd.func37, Tryd.ntmps37
    go_wp2_with fail
    go_ret
    exact ⟨rfl, by repeat (first | with_reducible assumption | with_reducible exact Ext.refl _ | with_reducible refine Ext.drew ?_ | with_reducible refine Ext.alloc ?_ _ | ((with_reducible refine Ext.setCell ?_ ?_ _); rotate_left; (· first | exact Nat.le_refl _ | (simp; done) | omega | (simp; omega))))⟩
  have d1 : decide (0 < l.length) = false := decide_eq_false hz1
  have z1 : l = [] := List.eq_nil_of_length_eq_zero (by omega)
  by_cases hz2 : 0 < ds.length
  case pos =>
    have e0 : ¬ ds = [] := fun e => by rw [e] at hz2; simp at hz2
    rw [show snd (.mk 3 i s l ns ds) = false by simp [snd, headOk, e0]]
    have e1 : decide (0 < ds.length) = true := by simpa using hz2
    clear ih hL hl1 hl2 HV e0 z1
    go_enter Tryd.func37, Tryd.ntmps37
    go_wp2_with fail
    go_ret
    exact ⟨rfl, by repeat (first | with_reducible assumption | with_reducible exact Ext.refl _ | with_reducible refine Ext.drew ?_ | with_reducible refine Ext.alloc ?_ _ | ((with_reducible refine Ext.setCell ?_ ?_ _); rotate_left; (· first | exact Nat.le_refl _ | (simp; done) | omega | (simp; omega))))⟩
  have d2 : decide (0 < ds.length) = false := decide_eq_false hz2
  have z2 : ds = [] := List.eq_nil_of_length_eq_zero (by omega)
  by_cases hz3 : s.size = 0
  case neg =>
    rw [show snd (.mk 3 i s l ns ds) = false by simp [snd, headOk, hz3]]
    have hz' := bytes_some hz3
    clear ih hL hl1 hl2 HV hz3 z1 z2
    go_enter Tryd.func37, Tryd.ntmps37
    go_wp2_with fail
    go_ret
    exact ⟨rfl, by repeat (first | with_reducible assumption | with_reducible exact Ext.refl _ | with_reducible refine Ext.drew ?_ | with_reducible refine Ext.alloc ?_ _ | ((with_reducible refine Ext.setCell ?_ ?_ _); rotate_left; (· first | exact Nat.le_refl _ | (simp; done) | omega | (simp; omega))))⟩
  obtain rfl := bytes_nil hz3
  clear hz3
  rw [show snd (.mk 3 i ⟨#[]⟩ l ns ds) = (sndL l && sndF [] ns ds) by simp [snd, headOk, leafOk, bytes_e, z1, z2]]
  have HL := Lib.hid hL
  have HI := Lib.hid ih
  clear hL ih z1 z2
  unfold maxLen at hl2
  obtain ⟨r, hr⟩ : ∃ r, (sndL l && sndF [] ns ds) = r := ⟨_, rfl⟩
  rw [hr]
  have HR := Lib.hid hr
  clear hr
  go_enter Tryd.func37, Tryd.ntmps37
  go_wp2_with fail
  go_loopw [7] (fun c wr => ∃ j : Nat, j ≤ l.length ∧ c = .int .i64 j ∧ Hid ((sndL (l.drop j) && sndF [] ns ds) = r) ∧ Hid (Ext (w.alloc (.cells #[.int .i64 3, .int .i64 i, .string ⟨#[]⟩, .slice la l.length lc, .slice da ds.length dc] 41)) wr)) (fun c _ => l.length - (intOf c).toNat)
  case atStart => exact ⟨0, by omega, rfl, HR, Ext.refl _⟩
  case round =>
    obtain ⟨j, hj, rfl, HF, HE⟩ := hrel
    have k1 := HE.out.ownc
    have l1 := HE.out.lt
    by_cases hlt : j < l.length
    · exfalso; omega
    · have hj2 : j = l.length := by omega
      subst hj2
      have hF := HF.out
      rw [List.drop_length] at hF
      simp only [sndL, Bool.true_and] at hF
      have HF4 := Lib.hid hF
      clear hF HF HR
      go_wp2_with fail
      refine (fields_ok 3 i ⟨#[]⟩ l ns ds _ _ (VRep.ext HE.out.of_alloc _ _ HV.out) (fun t ht => HI.out t (.inr ht))).mono ?_
      rintro e w1 ⟨rfl, h1⟩
      rw [HF4.out]
      go_wp2_with fail
      go_ret
      exact ⟨rfl, HE.out.of_alloc.trans h1⟩
set_option maxRecDepth 20000 in
set_option maxHeartbeats 1000000 in
theorem formed_k5 (i : Int) (s : ByteArray) (l : List Tr) (ns : List ByteArray) (ds : List Tr) (la da : Option Addr) (lc dc : Nat) (w : World) (HV : Hid (VRep w (.mk 5 i s l ns ds) (.agg #[.int .i64 5, .int .i64 i, .string s, .slice la l.length lc, .slice da ds.length dc]))) (H : s.size ≤ maxLen ∧ l.length ≤ lc ∧ lc ≤ maxLen ∧ LRep w la 0 l ∧ ∀ t, t ∈ l ∨ t ∈ ds → FormedOk t) :
    Calls Tryd.prog 37 #[.agg #[.int .i64 5, .int .i64 i, .string s, .slice la l.length lc, .slice da ds.length dc], .bool true] w fun e w' => e = .returned (.bool (snd (.mk 5 i s l ns ds))) ∧ Ext w w' := by
  obtain ⟨hs, hl1, hl2, hL, ih⟩ := H
  by_cases hz1 : 0 < l.length
  case pos =>
    have e0 : ¬ l = [] := fun e => by rw [e] at hz1; simp at hz1
    rw [show snd (.mk 5 i s l ns ds) = false by simp [snd, headOk, e0]]
    have e1 : decide (0 < l.length) = true := by simpa using hz1
    clear ih hL hl1 hl2 HV e0
    go_enter Tryd.func37, Tryd.ntmps37
    go_wp2_with fail
    go_ret
    exact ⟨rfl, by repeat (first | with_reducible assumption | with_reducible exact Ext.refl _ | with_reducible refine Ext.drew ?_ | with_reducible refine Ext.alloc ?_ _ | ((with_reducible refine Ext.setCell ?_ ?_ _); rotate_left; (· first | exact Nat.le_refl _ | (simp; done) | omega | (simp; omega))))⟩
  have d1 : decide (0 < l.length) = false := decide_eq_false hz1
  have z1 : l = [] := List.eq_nil_of_length_eq_zero (by omega)
  by_cases hz3 : s.size = 0
  case neg =>
    rw [show snd (.mk 5 i s l ns ds) = false by simp [snd, headOk, hz3]]
    have hz' := bytes_some hz3
    clear ih hL hl1 hl2 HV hz3 z1
    go_enter Tryd.func37, Tryd.ntmps37
    go_wp2_with fail
    go_ret
    exact ⟨rfl, by repeat (first | with_reducible assumption | with_reducible exact Ext.refl _ | with_reducible refine Ext.drew ?_ | with_reducible refine Ext.alloc ?_ _ | ((with_reducible refine Ext.setCell ?_ ?_ _); rotate_left; (· first | exact Nat.le_refl _ | (simp; done) | omega | (simp; omega))))⟩
  obtain rfl := bytes_nil hz3
  clear hz3
  by_cases hi : i = 0
  case neg =>
    rw [show snd (.mk 5 i ⟨#[]⟩ l ns ds) = false by simp [snd, headOk, hi]]
    have hi' : (i != 0) = true := by simpa using hi
    clear ih hL hl1 hl2 HV hi z1
    go_enter Tryd.func37, Tryd.ntmps37
    go_wp2_with fail
    go_ret
    exact ⟨rfl, by repeat (first | with_reducible assumption | with_reducible exact Ext.refl _ | with_reducible refine Ext.drew ?_ | with_reducible refine Ext.alloc ?_ _ | ((with_reducible refine Ext.setCell ?_ ?_ _); rotate_left; (· first | exact Nat.le_refl _ | (simp; done) | omega | (simp; omega))))⟩
  subst hi
  rw [show snd (.mk 5 0 ⟨#[]⟩ l ns ds) = (sndL l && sndF [] ns ds) by simp [snd, headOk, leafOk, bytes_e, z1]]
  have HL := Lib.hid hL
  have HI := Lib.hid ih
  clear hL ih z1
  unfold maxLen at hl2
  obtain ⟨r, hr⟩ : ∃ r, (sndL l && sndF [] ns ds) = r := ⟨_, rfl⟩
  rw [hr]
  have HR := Lib.hid hr
  clear hr
  go_enter Tryd.func37, Tryd.ntmps37
  go_wp2_with fail
  go_loopw [7] (fun c wr => ∃ j : Nat, j ≤ l.length ∧ c = .int .i64 j ∧ Hid ((sndL (l.drop j) && sndF [] ns ds) = r) ∧ Hid (Ext (w.alloc (.cells #[.int .i64 5, .int .i64 0, .string ⟨#[]⟩, .slice la l.length lc, .slice da ds.length dc] 41)) wr)) (fun c _ => l.length - (intOf c).toNat)
  case atStart => exact ⟨0, by omega, rfl, HR, Ext.refl _⟩
  case round =>
    obtain ⟨j, hj, rfl, HF, HE⟩ := hrel
    have k1 := HE.out.ownc
    have l1 := HE.out.lt
    by_cases hlt : j < l.length
    · exfalso; omega
    · have hj2 : j = l.length := by omega
      subst hj2
      have hF := HF.out
      rw [List.drop_length] at hF
      simp only [sndL, Bool.true_and] at hF
      have HF4 := Lib.hid hF
      clear hF HF HR
      go_wp2_with fail
      refine (fields_ok 5 0 ⟨#[]⟩ l ns ds _ _ (VRep.ext HE.out.of_alloc _ _ HV.out) (fun t ht => HI.out t (.inr ht))).mono ?_
      rintro e w1 ⟨rfl, h1⟩
      rw [HF4.out]
      go_wp2_with fail
      go_ret
      exact ⟨rfl, HE.out.of_alloc.trans h1⟩
set_option maxRecDepth 20000 in
set_option maxHeartbeats 1000000 in
theorem formed_k6 (i : Int) (s : ByteArray) (l : List Tr) (ns : List ByteArray) (ds : List Tr) (la da : Option Addr) (lc dc : Nat) (w : World) (HV : Hid (VRep w (.mk 6 i s l ns ds) (.agg #[.int .i64 6, .int .i64 i, .string s, .slice la l.length lc, .slice da ds.length dc]))) (H : s.size ≤ maxLen ∧ l.length ≤ lc ∧ lc ≤ maxLen ∧ LRep w la 0 l ∧ ∀ t, t ∈ l ∨ t ∈ ds → FormedOk t) :
    Calls Tryd.prog 37 #[.agg #[.int .i64 6, .int .i64 i, .string s, .slice la l.length lc, .slice da ds.length dc], .bool true] w fun e w' => e = .returned (.bool (snd (.mk 6 i s l ns ds))) ∧ Ext w w' := by
  obtain ⟨hs, hl1, hl2, hL, ih⟩ := H
  by_cases hz2 : 0 < ds.length
  case pos =>
    have e0 : ¬ ds = [] := fun e => by rw [e] at hz2; simp at hz2
    rw [show snd (.mk 6 i s l ns ds) = false by simp [snd, headOk, e0]]
    have e1 : decide (0 < ds.length) = true := by simpa using hz2
    clear ih hL hl1 hl2 HV e0
    go_enter Tryd.func37, Tryd.ntmps37
    go_wp2_with fail
    go_ret
    exact ⟨rfl, by repeat (first | with_reducible assumption | with_reducible exact Ext.refl _ | with_reducible refine Ext.drew ?_ | with_reducible refine Ext.alloc ?_ _ | ((with_reducible refine Ext.setCell ?_ ?_ _); rotate_left; (· first | exact Nat.le_refl _ | (simp; done) | omega | (simp; omega))))⟩
  have d2 : decide (0 < ds.length) = false := decide_eq_false hz2
  have z2 : ds = [] := List.eq_nil_of_length_eq_zero (by omega)
  by_cases hz3 : s.size = 0
  case neg =>
    rw [show snd (.mk 6 i s l ns ds) = false by simp [snd, headOk, hz3]]
    have hz' := bytes_some hz3
    clear ih hL hl1 hl2 HV hz3 z2
    go_enter Tryd.func37, Tryd.ntmps37
    go_wp2_with fail
    go_ret
    exact ⟨rfl, by repeat (first | with_reducible assumption | with_reducible exact Ext.refl _ | with_reducible refine Ext.drew ?_ | with_reducible refine Ext.alloc ?_ _ | ((with_reducible refine Ext.setCell ?_ ?_ _); rotate_left; (· first | exact Nat.le_refl _ | (simp; done) | omega | (simp; omega))))⟩
  obtain rfl := bytes_nil hz3
  clear hz3
  by_cases hi : i = 0
  case neg =>
    rw [show snd (.mk 6 i ⟨#[]⟩ l ns ds) = false by simp [snd, headOk, hi]]
    have hi' : (i != 0) = true := by simpa using hi
    clear ih hL hl1 hl2 HV hi z2
    go_enter Tryd.func37, Tryd.ntmps37
    go_wp2_with fail
    go_ret
    exact ⟨rfl, by repeat (first | with_reducible assumption | with_reducible exact Ext.refl _ | with_reducible refine Ext.drew ?_ | with_reducible refine Ext.alloc ?_ _ | ((with_reducible refine Ext.setCell ?_ ?_ _); rotate_left; (· first | exact Nat.le_refl _ | (simp; done) | omega | (simp; omega))))⟩
  subst hi
  rw [show snd (.mk 6 0 ⟨#[]⟩ l ns ds) = (sndL l && sndF [] ns ds) by simp [snd, headOk, leafOk, bytes_e, z2]]
  have HL := Lib.hid hL
  have HI := Lib.hid ih
  clear hL ih z2
  unfold maxLen at hl2
  obtain ⟨r, hr⟩ : ∃ r, (sndL l && sndF [] ns ds) = r := ⟨_, rfl⟩
  rw [hr]
  have HR := Lib.hid hr
  clear hr
  go_enter Tryd.func37, Tryd.ntmps37
  go_wp2_with fail
  go_loopw [7] (fun c wr => ∃ j : Nat, j ≤ l.length ∧ c = .int .i64 j ∧ Hid ((sndL (l.drop j) && sndF [] ns ds) = r) ∧ Hid (Ext (w.alloc (.cells #[.int .i64 6, .int .i64 0, .string ⟨#[]⟩, .slice la l.length lc, .slice da ds.length dc] 41)) wr)) (fun c _ => l.length - (intOf c).toNat)
  case atStart => exact ⟨0, by omega, rfl, HR, Ext.refl _⟩
  case round =>
    obtain ⟨j, hj, rfl, HF, HE⟩ := hrel
    have k1 := HE.out.ownc
    have l1 := HE.out.lt
    by_cases hlt : j < l.length
    · obtain ⟨b, off, c0, c1, c2, c3, c4, rfl, e0, e1, e2, e3, e4, hv⟩ := LRep.at_ l 0 j l[j] HL.out (List.getElem?_eq_getElem hlt)
      obtain ⟨k', i', s', la', ln', lc', da', dn', dc', rfl, rfl, rfl, rfl, rfl⟩ := hv.shape5
      have hEr := HE.out.of_alloc
      have q0 := hEr.keep e0
      have q1 := hEr.keep e1
      have q2 := hEr.keep e2
      have q3 := hEr.keep e3
      have q4 := hEr.keep e4
      rw [Nat.zero_add] at q0 q1 q2 q3 q4
      have HV2 := Lib.hid (VRep.ext hEr _ _ hv)
      clear e0 e1 e2 e3 e4 hv hEr
      obtain ⟨p, hp⟩ : ∃ p, l[j] = p := ⟨_, rfl⟩
      have hmem : p ∈ l := by rw [← hp]; exact List.getElem_mem hlt
      rw [hp] at HV2
      have hdr : l.drop j = p :: l.drop (j + 1) := by rw [← hp]; exact List.drop_eq_getElem_cons hlt
      have hF := HF.out
      rw [hdr] at hF
      simp only [sndL, Bool.and_assoc] at hF
      have HF1 := Lib.hid hF
      clear hp hdr hF HF
      go_wp2_with fail
      refine (HI.out p (.inl hmem) _ _ HV2.out).mono ?_
      rintro e w1 ⟨rfl, h1⟩
      have HE1 := Lib.hid (HE.out.trans h1)
      cases hsp : snd p
      · have hF := HF1.out
        rw [hsp] at hF
        simp only [Bool.false_and] at hF
        subst hF
        clear hsp HF1
        go_wp2_with fail
        go_ret
        exact ⟨rfl, HE1.out.of_alloc⟩
      · have hF := HF1.out
        rw [hsp, Bool.true_and] at hF
        have HF4 := Lib.hid hF
        clear hF hsp HF1
        go_wp2_with fail
        exact ⟨⟨j + 1, by omega, by go_num, HF4, HE1⟩, by simp [intOf]; omega⟩
    · have hj2 : j = l.length := by omega
      subst hj2
      have hF := HF.out
      rw [List.drop_length] at hF
      simp only [sndL, Bool.true_and] at hF
      have HF4 := Lib.hid hF
      clear hF HF HR
      go_wp2_with fail
      refine (fields_ok 6 0 ⟨#[]⟩ l ns ds _ _ (VRep.ext HE.out.of_alloc _ _ HV.out) (fun t ht => HI.out t (.inr ht))).mono ?_
      rintro e w1 ⟨rfl, h1⟩
      rw [HF4.out]
      go_wp2_with fail
      go_ret
      exact ⟨rfl, HE.out.of_alloc.trans h1⟩
set_option maxRecDepth 20000 in
set_option maxHeartbeats 1000000 in
theorem formed_k11 (i : Int) (s : ByteArray) (l : List Tr) (ns : List ByteArray) (ds : List Tr) (la da : Option Addr) (lc dc : Nat) (w : World) (HV : Hid (VRep w (.mk 11 i s l ns ds) (.agg #[.int .i64 11, .int .i64 i, .string s, .slice la l.length lc, .slice da ds.length dc]))) (H : s.size ≤ maxLen ∧ l.length ≤ lc ∧ lc ≤ maxLen ∧ LRep w la 0 l ∧ ∀ t, t ∈ l ∨ t ∈ ds → FormedOk t) :
    Calls Tryd.prog 37 #[.agg #[.int .i64 11, .int .i64 i, .string s, .slice la l.length lc, .slice da ds.length dc], .bool true] w fun e w' => e = .returned (.bool (snd (.mk 11 i s l ns ds))) ∧ Ext w w' := by
  obtain ⟨hs, hl1, hl2, hL, ih⟩ := H
  by_cases hz1 : 0 < l.length
  case pos =>
    have e0 : ¬ l = [] := fun e => by rw [e] at hz1; simp at hz1
    rw [show snd (.mk 11 i s l ns ds) = false by simp [snd, headOk, e0]]
    have e1 : decide (0 < l.length) = true := by simpa using hz1
    clear ih hL hl1 hl2 HV e0
    go_enter Tryd.func37, Tryd.ntmps37
    go_wp2_with fail
    go_ret
    exact ⟨rfl, by repeat (first | with_reducible assumption | with_reducible exact Ext.refl _ | with_reducible refine Ext.drew ?_ | with_reducible refine Ext.alloc ?_ _ | ((with_reducible refine Ext.setCell ?_ ?_ _); rotate_left; (· first | exact Nat.le_refl _ | (simp; done) | omega | (simp; omega))))⟩
  have d1 : decide (0 < l.length) = false := decide_eq_false hz1
  have z1 : l = [] := List.eq_nil_of_length_eq_zero (by omega)
  by_cases hz2 : 0 < ds.length
  case pos =>
    have e0 : ¬ ds = [] := fun e => by rw [e] at hz2; simp at hz2
    rw [show snd (.mk 11 i s l ns ds) = false by simp [snd, headOk, e0]]
    have e1 : decide (0 < ds.length) = true := by simpa using hz2
    clear ih hL hl1 hl2 HV e0 z1
    go_enter Tryd.func37, Tryd.ntmps37
    go_wp2_with fail
    go_ret
    exact ⟨rfl, by repeat (first | with_reducible assumption | with_reducible exact Ext.refl _ | with_reducible refine Ext.drew ?_ | with_reducible refine Ext.alloc ?_ _ | ((with_reducible refine Ext.setCell ?_ ?_ _); rotate_left; (· first | exact Nat.le_refl _ | (simp; done) | omega | (simp; omega))))⟩
  have d2 : decide (0 < ds.length) = false := decide_eq_false hz2
  have z2 : ds = [] := List.eq_nil_of_length_eq_zero (by omega)
  by_cases hz3 : s.size = 0
  case neg =>
    rw [show snd (.mk 11 i s l ns ds) = false by simp [snd, headOk, hz3]]
    have hz' := bytes_some hz3
    clear ih hL hl1 hl2 HV hz3 z1 z2
    go_enter Tryd.func37, Tryd.ntmps37
    go_wp2_with fail
    go_ret
    exact ⟨rfl, by repeat (first | with_reducible assumption | with_reducible exact Ext.refl _ | with_reducible refine Ext.drew ?_ | with_reducible refine Ext.alloc ?_ _ | ((with_reducible refine Ext.setCell ?_ ?_ _); rotate_left; (· first | exact Nat.le_refl _ | (simp; done) | omega | (simp; omega))))⟩
  obtain rfl := bytes_nil hz3
  clear hz3
  by_cases hi : i = 0
  case neg =>
    rw [show snd (.mk 11 i ⟨#[]⟩ l ns ds) = false by simp [snd, headOk, hi]]
    have hi' : (i != 0) = true := by simpa using hi
    clear ih hL hl1 hl2 HV hi z1 z2
    go_enter Tryd.func37, Tryd.ntmps37
    go_wp2_with fail
    go_ret
    exact ⟨rfl, by repeat (first | with_reducible assumption | with_reducible exact Ext.refl _ | with_reducible refine Ext.drew ?_ | with_reducible refine Ext.alloc ?_ _ | ((with_reducible refine Ext.setCell ?_ ?_ _); rotate_left; (· first | exact Nat.le_refl _ | (simp; done) | omega | (simp; omega))))⟩
  subst hi
  rw [show snd (.mk 11 0 ⟨#[]⟩ l ns ds) = (sndL l && sndF [] ns ds) by simp [snd, headOk, leafOk, bytes_e, z1, z2]]
  have HL := Lib.hid hL
  have HI := Lib.hid ih
  clear hL ih z1 z2
  unfold maxLen at hl2
  obtain ⟨r, hr⟩ : ∃ r, (sndL l && sndF [] ns ds) = r := ⟨_, rfl⟩
  rw [hr]
  have HR := Lib.hid hr
  clear hr
  go_enter Tryd.func37, Tryd.ntmps37
  go_wp2_with fail
  go_loopw [7] (fun c wr => ∃ j : Nat, j ≤ l.length ∧ c = .int .i64 j ∧ Hid ((sndL (l.drop j) && sndF [] ns ds) = r) ∧ Hid (Ext (w.alloc (.cells #[.int .i64 11, .int .i64 0, .string ⟨#[]⟩, .slice la l.length lc, .slice da ds.length dc] 41)) wr)) (fun c _ => l.length - (intOf c).toNat)
  case atStart => exact ⟨0, by omega, rfl, HR, Ext.refl _⟩
  case round =>
    obtain ⟨j, hj, rfl, HF, HE⟩ := hrel
    have k1 := HE.out.ownc
    have l1 := HE.out.lt
    by_cases hlt : j < l.length
    · exfalso; omega
    · have hj2 : j = l.length := by omega
      subst hj2
      have hF := HF.out
      rw [List.drop_length] at hF
      simp only [sndL, Bool.true_and] at hF
      have HF4 := Lib.hid hF
      clear hF HF HR
      go_wp2_with fail
      refine (fields_ok 11 0 ⟨#[]⟩ l ns ds _ _ (VRep.ext HE.out.of_alloc _ _ HV.out) (fun t ht => HI.out t (.inr ht))).mono ?_
      rintro e w1 ⟨rfl, h1⟩
      rw [HF4.out]
      go_wp2_with fail
      go_ret
      exact ⟨rfl, HE.out.of_alloc.trans h1⟩
set_option maxRecDepth 20000 in
set_option maxHeartbeats 1000000 in
theorem formed_k9 (i : Int) (s : ByteArray) (l : List Tr) (ns : List ByteArray) (ds : List Tr) (la da : Option Addr) (lc dc : Nat) (w : World) (HV : Hid (VRep w (.mk 9 i s l ns ds) (.agg #[.int .i64 9, .int .i64 i, .string s, .slice la l.length lc, .slice da ds.length dc]))) (H : s.size ≤ maxLen ∧ l.length ≤ lc ∧ lc ≤ maxLen ∧ LRep w la 0 l ∧ ∀ t, t ∈ l ∨ t ∈ ds → FormedOk t) :
    Calls Tryd.prog 37 #[.agg #[.int .i64 9, .int .i64 i, .string s, .slice la l.length lc, .slice da ds.length dc], .bool true] w fun e w' => e = .returned (.bool (snd (.mk 9 i s l ns ds))) ∧ Ext w w' := by
  obtain ⟨hs, hl1, hl2, hL, ih⟩ := H
  by_cases hz1 : 0 < l.length
  case pos =>
    have e0 : ¬ l = [] := fun e => by rw [e] at hz1; simp at hz1
    rw [show snd (.mk 9 i s l ns ds) = false by simp [snd, headOk, e0]]
    have e1 : decide (0 < l.length) = true := by simpa using hz1
    clear ih hL hl1 hl2 HV e0
    go_enter Tryd.func37, Tryd.ntmps37
    go_wp2_with fail
    go_ret
    exact ⟨rfl, by repeat (first | with_reducible assumption | with_reducible exact Ext.refl _ | with_reducible refine Ext.drew ?_ | with_reducible refine Ext.alloc ?_ _ | ((with_reducible refine Ext.setCell ?_ ?_ _); rotate_left; (· first | exact Nat.le_refl _ | (simp; done) | omega | (simp; omega))))⟩
  have d1 : decide (0 < l.length) = false := decide_eq_false hz1
  have z1 : l = [] := List.eq_nil_of_length_eq_zero (by omega)
  by_cases hz2 : 0 < ds.length
  case pos =>
    have e0 : ¬ ds = [] := fun e => by rw [e] at hz2; simp at hz2
    rw [show snd (.mk 9 i s l ns ds) = false by simp [snd, headOk, e0]]
    have e1 : decide (0 < ds.length) = true := by simpa using hz2
    clear ih hL hl1 hl2 HV e0 z1
    go_enter Tryd.func37, Tryd.ntmps37
    go_wp2_with fail
    go_ret
    exact ⟨rfl, by repeat (first | with_reducible assumption | with_reducible exact Ext.refl _ | with_reducible refine Ext.drew ?_ | with_reducible refine Ext.alloc ?_ _ | ((with_reducible refine Ext.setCell ?_ ?_ _); rotate_left; (· first | exact Nat.le_refl _ | (simp; done) | omega | (simp; omega))))⟩
  have d2 : decide (0 < ds.length) = false := decide_eq_false hz2
  have z2 : ds = [] := List.eq_nil_of_length_eq_zero (by omega)
  by_cases hz3 : s.size = 0
  case neg =>
    rw [show snd (.mk 9 i s l ns ds) = false by simp [snd, headOk, hz3]]
    have hz' := bytes_some hz3
    clear ih hL hl1 hl2 HV hz3 z1 z2
    go_enter Tryd.func37, Tryd.ntmps37
    go_wp2_with fail
    go_ret
    exact ⟨rfl, by repeat (first | with_reducible assumption | with_reducible exact Ext.refl _ | with_reducible refine Ext.drew ?_ | with_reducible refine Ext.alloc ?_ _ | ((with_reducible refine Ext.setCell ?_ ?_ _); rotate_left; (· first | exact Nat.le_refl _ | (simp; done) | omega | (simp; omega))))⟩
  obtain rfl := bytes_nil hz3
  clear hz3
  clear ih hL hl1 hl2 HV
  by_cases h0 : i = 0
  · subst h0
    rw [show snd (.mk 9 0 ⟨#[]⟩ l ns ds) = true by simp [snd, headOk, leafOk, sndL, sndF, bytes_e, z1, z2]]
    clear z1 z2
    go_enter Tryd.func37, Tryd.ntmps37
    go_wp2_with fail
    go_ret
    exact ⟨rfl, by repeat (first | with_reducible assumption | with_reducible exact Ext.refl _ | with_reducible refine Ext.drew ?_ | with_reducible refine Ext.alloc ?_ _ | ((with_reducible refine Ext.setCell ?_ ?_ _); rotate_left; (· first | exact Nat.le_refl _ | (simp; done) | omega | (simp; omega))))⟩
  have b0 : (i == 0) = false := by simpa using h0
  by_cases h1 : i = 1
  · subst h1
    rw [show snd (.mk 9 1 ⟨#[]⟩ l ns ds) = true by simp [snd, headOk, leafOk, sndL, sndF, bytes_e, z1, z2]]
    clear z1 z2
    go_enter Tryd.func37, Tryd.ntmps37
    go_wp2_with fail
    go_ret
    exact ⟨rfl, by repeat (first | with_reducible assumption | with_reducible exact Ext.refl _ | with_reducible refine Ext.drew ?_ | with_reducible refine Ext.alloc ?_ _ | ((with_reducible refine Ext.setCell ?_ ?_ _); rotate_left; (· first | exact Nat.le_refl _ | (simp; done) | omega | (simp; omega))))⟩
  have b1 : (i == 1) = false := by simpa using h1
  rw [show snd (.mk 9 i ⟨#[]⟩ l ns ds) = false by simp [snd, headOk, leafOk, sndL, sndF, bytes_e, h0, h1]]
  clear h0 h1 z1 z2
  go_enter Tryd.func37, Tryd.ntmps37
  go_wp2_with fail
  go_ret
  exact ⟨rfl, by repeat (first | with_reducible assumption | with_reducible exact Ext.refl _ | with_reducible refine Ext.drew ?_ | with_reducible refine Ext.alloc ?_ _ | ((with_reducible refine Ext.setCell ?_ ?_ _); rotate_left; (· first | exact Nat.le_refl _ | (simp; done) | omega | (simp; omega))))⟩
set_option maxRecDepth 20000 in
set_option maxHeartbeats 1000000 in
theorem formed_k10 (i : Int) (s : ByteArray) (l : List Tr) (ns : List ByteArray) (ds : List Tr) (la da : Option Addr) (lc dc : Nat) (w : World) (HV : Hid (VRep w (.mk 10 i s l ns ds) (.agg #[.int .i64 10, .int .i64 i, .string s, .slice la l.length lc, .slice da ds.length dc]))) (H : s.size ≤ maxLen ∧ l.length ≤ lc ∧ lc ≤ maxLen ∧ LRep w la 0 l ∧ ∀ t, t ∈ l ∨ t ∈ ds → FormedOk t) :
    Calls Tryd.prog 37 #[.agg #[.int .i64 10, .int .i64 i, .string s, .slice la l.length lc, .slice da ds.length dc], .bool true] w fun e w' => e = .returned (.bool (snd (.mk 10 i s l ns ds))) ∧ Ext w w' := by
  obtain ⟨hs, hl1, hl2, hL, ih⟩ := H
  by_cases hz1 : 0 < l.length
  case pos =>
    have e0 : ¬ l = [] := fun e => by rw [e] at hz1; simp at hz1
    rw [show snd (.mk 10 i s l ns ds) = false by simp [snd, headOk, e0]]
    have e1 : decide (0 < l.length) = true := by simpa using hz1
    clear ih hL hl1 hl2 HV e0
    go_enter Tryd.func37, Tryd.ntmps37
    go_wp2_with fail
    go_ret
    exact ⟨rfl, by repeat (first | with_reducible assumption | with_reducible exact Ext.refl _ | with_reducible refine Ext.drew ?_ | with_reducible refine Ext.alloc ?_ _ | ((with_reducible refine Ext.setCell ?_ ?_ _); rotate_left; (· first | exact Nat.le_refl _ | (simp; done) | omega | (simp; omega))))⟩
  have d1 : decide (0 < l.length) = false := decide_eq_false hz1
  have z1 : l = [] := List.eq_nil_of_length_eq_zero (by omega)
  by_cases hz2 : 0 < ds.length
  case pos =>
    have e0 : ¬ ds = [] := fun e => by rw [e] at hz2; simp at hz2
    rw [show snd (.mk 10 i s l ns ds) = false by simp [snd, headOk, e0]]
    have e1 : decide (0 < ds.length) = true := by simpa using hz2
    clear ih hL hl1 hl2 HV e0 z1
    go_enter Tryd.func37, Tryd.ntmps37
    go_wp2_with fail
    go_ret
    exact ⟨rfl, by repeat (first | with_reducible assumption | with_reducible exact Ext.refl _ | with_reducible refine Ext.drew ?_ | with_reducible refine Ext.alloc ?_ _ | ((with_reducible refine Ext.setCell ?_ ?_ _); rotate_left; (· first | exact Nat.le_refl _ | (simp; done) | omega | (simp; omega))))⟩
  have d2 : decide (0 < ds.length) = false := decide_eq_false hz2
  have z2 : ds = [] := List.eq_nil_of_length_eq_zero (by omega)
  by_cases hz3 : s.size = 0
  case neg =>
    rw [show snd (.mk 10 i s l ns ds) = false by simp [snd, headOk, hz3]]
    have hz' := bytes_some hz3
    clear ih hL hl1 hl2 HV hz3 z1 z2
    go_enter Tryd.func37, Tryd.ntmps37
    go_wp2_with fail
    go_ret
    exact ⟨rfl, by repeat (first | with_reducible assumption | with_reducible exact Ext.refl _ | with_reducible refine Ext.drew ?_ | with_reducible refine Ext.alloc ?_ _ | ((with_reducible refine Ext.setCell ?_ ?_ _); rotate_left; (· first | exact Nat.le_refl _ | (simp; done) | omega | (simp; omega))))⟩
  obtain rfl := bytes_nil hz3
  clear hz3
  clear ih hL hl1 hl2 HV
  by_cases h0 : 0 ≤ i
  · rw [show snd (.mk 10 i ⟨#[]⟩ l ns ds) = true by simp [snd, headOk, leafOk, sndL, sndF, bytes_e, z1, z2, h0]]
    have b0 : decide (0 ≤ i) = true := by simpa using h0
    clear z1 z2
    go_enter Tryd.func37, Tryd.ntmps37
    go_wp2_with fail
    go_ret
    exact ⟨rfl, by repeat (first | with_reducible assumption | with_reducible exact Ext.refl _ | with_reducible refine Ext.drew ?_ | with_reducible refine Ext.alloc ?_ _ | ((with_reducible refine Ext.setCell ?_ ?_ _); rotate_left; (· first | exact Nat.le_refl _ | (simp; done) | omega | (simp; omega))))⟩
  rw [show snd (.mk 10 i ⟨#[]⟩ l ns ds) = false by simp [snd, headOk, leafOk, sndL, sndF, bytes_e, h0]]
  have b0 : decide (0 ≤ i) = false := by simpa using h0
  clear h0 z1 z2
  go_enter Tryd.func37, Tryd.ntmps37
  go_wp2_with fail
  go_ret
  exact ⟨rfl, by repeat (first | with_reducible assumption | with_reducible exact Ext.refl _ | with_reducible refine Ext.drew ?_ | with_reducible refine Ext.alloc ?_ _ | ((with_reducible refine Ext.setCell ?_ ?_ _); rotate_left; (· first | exact Nat.le_refl _ | (simp; done) | omega | (simp; omega))))⟩
set_option maxRecDepth 20000 in
set_option maxHeartbeats 1000000 in
theorem formed_k4 (i : Int) (s : ByteArray) (l : List Tr) (ns : List ByteArray) (ds : List Tr) (la da : Option Addr) (lc dc : Nat) (w : World) (HV : Hid (VRep w (.mk 4 i s l ns ds) (.agg #[.int .i64 4, .int .i64 i, .string s, .slice la l.length lc, .slice da ds.length dc]))) (H : s.size ≤ maxLen ∧ l.length ≤ lc ∧ lc ≤ maxLen ∧ LRep w la 0 l ∧ ∀ t, t ∈ l ∨ t ∈ ds → FormedOk t) :
    Calls Tryd.prog 37 #[.agg #[.int .i64 4, .int .i64 i, .string s, .slice la l.length lc, .slice da ds.length dc], .bool true] w fun e w' => e = .returned (.bool (snd (.mk 4 i s l ns ds))) ∧ Ext w w' := by
  obtain ⟨hs, hl1, hl2, hL, ih⟩ := H
  by_cases hz1 : 0 < l.length
  case pos =>
    have e0 : ¬ l = [] := fun e => by rw [e] at hz1; simp at hz1
    rw [show snd (.mk 4 i s l ns ds) = false by simp [snd, headOk, e0]]
    have e1 : decide (0 < l.length) = true := by simpa using hz1
    clear ih hL hl1 hl2 HV e0
    go_enter Tryd.func37, Tryd.ntmps37
    go_wp2_with fail
    go_ret
    exact ⟨rfl, by repeat (first | with_reducible assumption | with_reducible exact Ext.refl _ | with_reducible refine Ext.drew ?_ | with_reducible refine Ext.alloc ?_ _ | ((with_reducible refine Ext.setCell ?_ ?_ _); rotate_left; (· first | exact Nat.le_refl _ | (simp; done) | omega | (simp; omega))))⟩
  have d1 : decide (0 < l.length) = false := decide_eq_false hz1
  have z1 : l = [] := List.eq_nil_of_length_eq_zero (by omega)
  by_cases hz2 : 0 < ds.length
  case pos =>
    have e0 : ¬ ds = [] := fun e => by rw [e] at hz2; simp at hz2
    rw [show snd (.mk 4 i s l ns ds) = false by simp [snd, headOk, e0]]
    have e1 : decide (0 < ds.length) = true := by simpa using hz2
    clear ih hL hl1 hl2 HV e0 z1
    go_enter Tryd.func37, Tryd.ntmps37
    go_wp2_with fail
    go_ret
    exact ⟨rfl, by repeat (first | with_reducible assumption | with_reducible exact Ext.refl _ | with_reducible refine Ext.drew ?_ | with_reducible refine Ext.alloc ?_ _ | ((with_reducible refine Ext.setCell ?_ ?_ _); rotate_left; (· first | exact Nat.le_refl _ | (simp; done) | omega | (simp; omega))))⟩
  have d2 : decide (0 < ds.length) = false := decide_eq_false hz2
  have z2 : ds = [] := List.eq_nil_of_length_eq_zero (by omega)
  by_cases hi : i = 0
  case neg =>
    rw [show snd (.mk 4 i s l ns ds) = false by simp [snd, headOk, hi]]
    have hi' : (i != 0) = true := by simpa using hi
    clear ih hL hl1 hl2 HV hi z1 z2
    go_enter Tryd.func37, Tryd.ntmps37
    go_wp2_with fail
    go_ret
    exact ⟨rfl, by repeat (first | with_reducible assumption | with_reducible exact Ext.refl _ | with_reducible refine Ext.drew ?_ | with_reducible refine Ext.alloc ?_ _ | ((with_reducible refine Ext.setCell ?_ ?_ _); rotate_left; (· first | exact Nat.le_refl _ | (simp; done) | omega | (simp; omega))))⟩
  subst hi
  clear ih hL hl1 hl2 HV
  by_cases h0 : s.size ≤ 4096
  · have b0 : decide ((s.size : Int) ≤ 4096) = true := by simp; omega
    rw [show snd (.mk 4 0 s l ns ds) = utf8B s by simp [snd, headOk, leafOk, sndL, sndF, bytes_e, z1, z2, h0]]
    clear z1 z2
    go_enter Tryd.func37, Tryd.ntmps37
    go_wp2_with fail
    refine (UTF8_ok _ _ h0).mono ?_
    rintro e w1 ⟨rfl, rfl⟩
    go_wp2_with fail
    go_ret
    exact ⟨rfl, by repeat (first | with_reducible assumption | with_reducible exact Ext.refl _ | with_reducible refine Ext.drew ?_ | with_reducible refine Ext.alloc ?_ _ | ((with_reducible refine Ext.setCell ?_ ?_ _); rotate_left; (· first | exact Nat.le_refl _ | (simp; done) | omega | (simp; omega))))⟩
  have b0 : decide ((s.size : Int) ≤ 4096) = false := by simp; omega
  rw [show snd (.mk 4 0 s l ns ds) = false by simp [snd, headOk, leafOk, sndL, sndF, bytes_e, h0]]
  clear h0 z1 z2
  go_enter Tryd.func37, Tryd.ntmps37
  go_wp2_with fail
  go_ret
  exact ⟨rfl, by repeat (first | with_reducible assumption | with_reducible exact Ext.refl _ | with_reducible refine Ext.drew ?_ | with_reducible refine Ext.alloc ?_ _ | ((with_reducible refine Ext.setCell ?_ ?_ _); rotate_left; (· first | exact Nat.le_refl _ | (simp; done) | omega | (simp; omega))))⟩
set_option maxRecDepth 20000 in
set_option maxHeartbeats 1000000 in
theorem formed_k7 (i : Int) (s : ByteArray) (l : List Tr) (ns : List ByteArray) (ds : List Tr) (la da : Option Addr) (lc dc : Nat) (w : World) (HV : Hid (VRep w (.mk 7 i s l ns ds) (.agg #[.int .i64 7, .int .i64 i, .string s, .slice la l.length lc, .slice da ds.length dc]))) (H : s.size ≤ maxLen ∧ l.length ≤ lc ∧ lc ≤ maxLen ∧ LRep w la 0 l ∧ ∀ t, t ∈ l ∨ t ∈ ds → FormedOk t) :
    Calls Tryd.prog 37 #[.agg #[.int .i64 7, .int .i64 i, .string s, .slice la l.length lc, .slice da ds.length dc], .bool true] w fun e w' => e = .returned (.bool (snd (.mk 7 i s l ns ds))) ∧ Ext w w' := by
  obtain ⟨hs, hl1, hl2, hL, ih⟩ := H
  by_cases hz1 : 0 < l.length
  case pos =>
    have e0 : ¬ l = [] := fun e => by rw [e] at hz1; simp at hz1
    rw [show snd (.mk 7 i s l ns ds) = false by simp [snd, headOk, e0]]
    have e1 : decide (0 < l.length) = true := by simpa using hz1
    clear ih hL hl1 hl2 HV e0
    go_enter Tryd.func37, Tryd.ntmps37
    go_wp2_with fail
    go_ret
    exact ⟨rfl, by repeat (first | with_reducible assumption | with_reducible exact Ext.refl _ | with_reducible refine Ext.drew ?_ | with_reducible refine Ext.alloc ?_ _ | ((with_reducible refine Ext.setCell ?_ ?_ _); rotate_left; (· first | exact Nat.le_refl _ | (simp; done) | omega | (simp; omega))))⟩
  have d1 : decide (0 < l.length) = false := decide_eq_false hz1
  have z1 : l = [] := List.eq_nil_of_length_eq_zero (by omega)
  by_cases hz2 : 0 < ds.length
  case pos =>
    have e0 : ¬ ds = [] := fun e => by rw [e] at hz2; simp at hz2
    rw [show snd (.mk 7 i s l ns ds) = false by simp [snd, headOk, e0]]
    have e1 : decide (0 < ds.length) = true := by simpa using hz2
    clear ih hL hl1 hl2 HV e0 z1
    go_enter Tryd.func37, Tryd.ntmps37
    go_wp2_with fail
    go_ret
    exact ⟨rfl, by repeat (first | with_reducible assumption | with_reducible exact Ext.refl _ | with_reducible refine Ext.drew ?_ | with_reducible refine Ext.alloc ?_ _ | ((with_reducible refine Ext.setCell ?_ ?_ _); rotate_left; (· first | exact Nat.le_refl _ | (simp; done) | omega | (simp; omega))))⟩
  have d2 : decide (0 < ds.length) = false := decide_eq_false hz2
  have z2 : ds = [] := List.eq_nil_of_length_eq_zero (by omega)
  by_cases hi : i = 0
  case neg =>
    rw [show snd (.mk 7 i s l ns ds) = false by simp [snd, headOk, hi]]
    have hi' : (i != 0) = true := by simpa using hi
    clear ih hL hl1 hl2 HV hi z1 z2
    go_enter Tryd.func37, Tryd.ntmps37
    go_wp2_with fail
    go_ret
    exact ⟨rfl, by repeat (first | with_reducible assumption | with_reducible exact Ext.refl _ | with_reducible refine Ext.drew ?_ | with_reducible refine Ext.alloc ?_ _ | ((with_reducible refine Ext.setCell ?_ ?_ _); rotate_left; (· first | exact Nat.le_refl _ | (simp; done) | omega | (simp; omega))))⟩
  subst hi
  clear ih hL hl1 hl2 HV
  by_cases h0 : s.size ≤ 4096
  · have b0 : decide ((s.size : Int) ≤ 4096) = true := by simp; omega
    rw [show snd (.mk 7 0 s l ns ds) = true by simp [snd, headOk, leafOk, sndL, sndF, bytes_e, z1, z2, h0]]
    clear z1 z2
    go_enter Tryd.func37, Tryd.ntmps37
    go_wp2_with fail
    go_ret
    exact ⟨rfl, by repeat (first | with_reducible assumption | with_reducible exact Ext.refl _ | with_reducible refine Ext.drew ?_ | with_reducible refine Ext.alloc ?_ _ | ((with_reducible refine Ext.setCell ?_ ?_ _); rotate_left; (· first | exact Nat.le_refl _ | (simp; done) | omega | (simp; omega))))⟩
  have b0 : decide ((s.size : Int) ≤ 4096) = false := by simp; omega
  rw [show snd (.mk 7 0 s l ns ds) = false by simp [snd, headOk, leafOk, sndL, sndF, bytes_e, h0]]
  clear h0 z1 z2
  go_enter Tryd.func37, Tryd.ntmps37
  go_wp2_with fail
  go_ret
  exact ⟨rfl, by repeat (first | with_reducible assumption | with_reducible exact Ext.refl _ | with_reducible refine Ext.drew ?_ | with_reducible refine Ext.alloc ?_ _ | ((with_reducible refine Ext.setCell ?_ ?_ _); rotate_left; (· first | exact Nat.le_refl _ | (simp; done) | omega | (simp; omega))))⟩
set_option maxRecDepth 20000 in
set_option maxHeartbeats 1000000 in
theorem formed_k8 (i : Int) (s : ByteArray) (l : List Tr) (ns : List ByteArray) (ds : List Tr) (la da : Option Addr) (lc dc : Nat) (w : World) (HV : Hid (VRep w (.mk 8 i s l ns ds) (.agg #[.int .i64 8, .int .i64 i, .string s, .slice la l.length lc, .slice da ds.length dc]))) (H : s.size ≤ maxLen ∧ l.length ≤ lc ∧ lc ≤ maxLen ∧ LRep w la 0 l ∧ ∀ t, t ∈ l ∨ t ∈ ds → FormedOk t) :
    Calls Tryd.prog 37 #[.agg #[.int .i64 8, .int .i64 i, .string s, .slice la l.length lc, .slice da ds.length dc], .bool true] w fun e w' => e = .returned (.bool (snd (.mk 8 i s l ns ds))) ∧ Ext w w' := by
  obtain ⟨hs, hl1, hl2, hL, ih⟩ := H
  by_cases hz1 : 0 < l.length
  case pos =>
    have e0 : ¬ l = [] := fun e => by rw [e] at hz1; simp at hz1
    rw [show snd (.mk 8 i s l ns ds) = false by simp [snd, headOk, e0]]
    have e1 : decide (0 < l.length) = true := by simpa using hz1
    clear ih hL hl1 hl2 HV e0
    go_enter Tryd.func37, Tryd.ntmps37
    go_wp2_with fail
    go_ret
    exact ⟨rfl, by repeat (first | with_reducible assumption | with_reducible exact Ext.refl _ | with_reducible refine Ext.drew ?_ | with_reducible refine Ext.alloc ?_ _ | ((with_reducible refine Ext.setCell ?_ ?_ _); rotate_left; (· first | exact Nat.le_refl _ | (simp; done) | omega | (simp; omega))))⟩
  have d1 : decide (0 < l.length) = false := decide_eq_false hz1
  have z1 : l = [] := List.eq_nil_of_length_eq_zero (by omega)
  by_cases hz2 : 0 < ds.length
  case pos =>
    have e0 : ¬ ds = [] := fun e => by rw [e] at hz2; simp at hz2
    rw [show snd (.mk 8 i s l ns ds) = false by simp [snd, headOk, e0]]
    have e1 : decide (0 < ds.length) = true := by simpa using hz2
    clear ih hL hl1 hl2 HV e0 z1
    go_enter Tryd.func37, Tryd.ntmps37
    go_wp2_with fail
    go_ret
    exact ⟨rfl, by repeat (first | with_reducible assumption | with_reducible exact Ext.refl _ | with_reducible refine Ext.drew ?_ | with_reducible refine Ext.alloc ?_ _ | ((with_reducible refine Ext.setCell ?_ ?_ _); rotate_left; (· first | exact Nat.le_refl _ | (simp; done) | omega | (simp; omega))))⟩
  have d2 : decide (0 < ds.length) = false := decide_eq_false hz2
  have z2 : ds = [] := List.eq_nil_of_length_eq_zero (by omega)
  by_cases hi : i = 0
  case neg =>
    rw [show snd (.mk 8 i s l ns ds) = false by simp [snd, headOk, hi]]
    have hi' : (i != 0) = true := by simpa using hi
    clear ih hL hl1 hl2 HV hi z1 z2
    go_enter Tryd.func37, Tryd.ntmps37
    go_wp2_with fail
    go_ret
    exact ⟨rfl, by repeat (first | with_reducible assumption | with_reducible exact Ext.refl _ | with_reducible refine Ext.drew ?_ | with_reducible refine Ext.alloc ?_ _ | ((with_reducible refine Ext.setCell ?_ ?_ _); rotate_left; (· first | exact Nat.le_refl _ | (simp; done) | omega | (simp; omega))))⟩
  subst hi
  clear ih hL hl1 hl2 HV
  by_cases h0 : s.size = 12
  · have b0 : ((s.size : Int) == 12) = true := by simp; omega
    rw [show snd (.mk 8 0 s l ns ds) = true by simp [snd, headOk, leafOk, sndL, sndF, bytes_e, z1, z2, h0]]
    clear h0 z1 z2
    go_enter Tryd.func37, Tryd.ntmps37
    go_wp2_with fail
    go_ret
    exact ⟨rfl, by repeat (first | with_reducible assumption | with_reducible exact Ext.refl _ | with_reducible refine Ext.drew ?_ | with_reducible refine Ext.alloc ?_ _ | ((with_reducible refine Ext.setCell ?_ ?_ _); rotate_left; (· first | exact Nat.le_refl _ | (simp; done) | omega | (simp; omega))))⟩
  have b0 : ((s.size : Int) == 12) = false := by simp; omega
  rw [show snd (.mk 8 0 s l ns ds) = false by simp [snd, headOk, leafOk, sndL, sndF, bytes_e, h0]]
  clear h0 z1 z2
  go_enter Tryd.func37, Tryd.ntmps37
  go_wp2_with fail
  go_ret
  exact ⟨rfl, by repeat (first | with_reducible assumption | with_reducible exact Ext.refl _ | with_reducible refine Ext.drew ?_ | with_reducible refine Ext.alloc ?_ _ | ((with_reducible refine Ext.setCell ?_ ?_ _); rotate_left; (· first | exact Nat.le_refl _ | (simp; done) | omega | (simp; omega))))⟩
set_option maxRecDepth 20000 in
set_option maxHeartbeats 1000000 in
theorem formed_ko (k : Int) (hk : ¬ k = 1 ∧ ¬ k = 2 ∧ ¬ k = 3 ∧ ¬ k = 4 ∧ ¬ k = 5 ∧ ¬ k = 6 ∧ ¬ k = 7 ∧ ¬ k = 8 ∧ ¬ k = 9 ∧ ¬ k = 10 ∧ ¬ k = 11) (i : Int) (s : ByteArray) (l : List Tr) (ns : List ByteArray) (ds : List Tr) (la da : Option Addr) (lc dc : Nat) (w : World) (HV : Hid (VRep w (.mk k i s l ns ds) (.agg #[.int .i64 k, .int .i64 i, .string s, .slice la l.length lc, .slice da ds.length dc]))) (H : s.size ≤ maxLen ∧ l.length ≤ lc ∧ lc ≤ maxLen ∧ LRep w la 0 l ∧ ∀ t, t ∈ l ∨ t ∈ ds → FormedOk t) :
    Calls Tryd.prog 37 #[.agg #[.int .i64 k, .int .i64 i, .string s, .slice la l.length lc, .slice da ds.length dc], .bool true] w fun e w' => e = .returned (.bool (snd (.mk k i s l ns ds))) ∧ Ext w w' := by
  obtain ⟨hs, hl1, hl2, hL, ih⟩ := H
  obtain ⟨n1, n2, n3, n4, n5, n6, n7, n8, n9, n10, n11⟩ := hk
  have b3 : (k == 3) = false := by simpa using n3
  have b4 : (k == 4) = false := by simpa using n4
  have b7 : (k == 7) = false := by simpa using n7
  have b8 : (k == 8) = false := by simpa using n8
  have b9 : (k == 9) = false := by simpa using n9
  have b10 : (k == 10) = false := by simpa using n10
  have c5 : (k != 5) = true := by simpa using n5
  have c6 : (k != 6) = true := by simpa using n6
  by_cases hz1 : 0 < l.length
  case pos =>
    have e0 : ¬ l = [] := fun e => by rw [e] at hz1; simp at hz1
    rw [show snd (.mk k i s l ns ds) = false by simp [snd, headOk, e0, n1, n2, n3, n4, n5, n6, n7, n8, n9, n10, n11]]
    have e1 : decide (0 < l.length) = true := by simpa using hz1
    clear ih hL hl1 hl2 HV n1 n2 n3 n4 n5 n6 n7 n8 n9 n10 n11 e0
    go_enter Tryd.func37, Tryd.ntmps37
    go_wp2_with fail
    go_ret
    exact ⟨rfl, by repeat (first | with_reducible assumption | with_reducible exact Ext.refl _ | with_reducible refine Ext.drew ?_ | with_reducible refine Ext.alloc ?_ _ | ((with_reducible refine Ext.setCell ?_ ?_ _); rotate_left; (· first | exact Nat.le_refl _ | (simp; done) | omega | (simp; omega))))⟩
  have d1 : decide (0 < l.length) = false := decide_eq_false hz1
  have z1 : l = [] := List.eq_nil_of_length_eq_zero (by omega)
  by_cases hz2 : 0 < ds.length
  case pos =>
    have e0 : ¬ ds = [] := fun e => by rw [e] at hz2; simp at hz2
    rw [show snd (.mk k i s l ns ds) = false by simp [snd, headOk, e0, n1, n2, n3, n4, n5, n6, n7, n8, n9, n10, n11]]
    have e1 : decide (0 < ds.length) = true := by simpa using hz2
    clear ih hL hl1 hl2 HV n1 n2 n3 n4 n5 n6 n7 n8 n9 n10 n11 e0 z1
    go_enter Tryd.func37, Tryd.ntmps37
    go_wp2_with fail
    go_ret
    exact ⟨rfl, by repeat (first | with_reducible assumption | with_reducible exact Ext.refl _ | with_reducible refine Ext.drew ?_ | with_reducible refine Ext.alloc ?_ _ | ((with_reducible refine Ext.setCell ?_ ?_ _); rotate_left; (· first | exact Nat.le_refl _ | (simp; done) | omega | (simp; omega))))⟩
  have d2 : decide (0 < ds.length) = false := decide_eq_false hz2
  have z2 : ds = [] := List.eq_nil_of_length_eq_zero (by omega)
  by_cases hz3 : s.size = 0
  case neg =>
    rw [show snd (.mk k i s l ns ds) = false by simp [snd, headOk, hz3, n1, n2, n3, n4, n5, n6, n7, n8, n9, n10, n11]]
    have hz' := bytes_some hz3
    clear ih hL hl1 hl2 HV n1 n2 n3 n4 n5 n6 n7 n8 n9 n10 n11 hz3 z1 z2
    go_enter Tryd.func37, Tryd.ntmps37
    go_wp2_with fail
    go_ret
    exact ⟨rfl, by repeat (first | with_reducible assumption | with_reducible exact Ext.refl _ | with_reducible refine Ext.drew ?_ | with_reducible refine Ext.alloc ?_ _ | ((with_reducible refine Ext.setCell ?_ ?_ _); rotate_left; (· first | exact Nat.le_refl _ | (simp; done) | omega | (simp; omega))))⟩
  obtain rfl := bytes_nil hz3
  clear hz3
  by_cases hi : i = 0
  case neg =>
    rw [show snd (.mk k i ⟨#[]⟩ l ns ds) = false by simp [snd, headOk, hi, n1, n2, n3, n4, n5, n6, n7, n8, n9, n10, n11]]
    have hi' : (i != 0) = true := by simpa using hi
    clear ih hL hl1 hl2 HV n1 n2 n3 n4 n5 n6 n7 n8 n9 n10 n11 hi z1 z2
    go_enter Tryd.func37, Tryd.ntmps37
    go_wp2_with fail
    go_ret
    exact ⟨rfl, by repeat (first | with_reducible assumption | with_reducible exact Ext.refl _ | with_reducible refine Ext.drew ?_ | with_reducible refine Ext.alloc ?_ _ | ((with_reducible refine Ext.setCell ?_ ?_ _); rotate_left; (· first | exact Nat.le_refl _ | (simp; done) | omega | (simp; omega))))⟩
  subst hi
  rw [show snd (.mk k 0 ⟨#[]⟩ l ns ds) = false by simp [snd, leafOk, n1, n2, n3, n4, n5, n6, n7, n8, n9, n10, n11]]
  by_cases h1 : k < 1
  · have b1 : decide (k < 1) = true := by simpa using h1
    clear ih hL hl1 hl2 HV n1 n2 n3 n4 n5 n6 n7 n8 n9 n10 n11 z1 z2 h1
    go_enter Tryd.func37, Tryd.ntmps37
    go_wp2_with fail
    go_ret
    exact ⟨rfl, by repeat (first | with_reducible assumption | with_reducible exact Ext.refl _ | with_reducible refine Ext.drew ?_ | with_reducible refine Ext.alloc ?_ _ | ((with_reducible refine Ext.setCell ?_ ?_ _); rotate_left; (· first | exact Nat.le_refl _ | (simp; done) | omega | (simp; omega))))⟩
  have b1 : decide (k < 1) = false := by simpa using h1
  have b2 : decide (11 < k) = true := by simp; omega
  clear ih hL hl1 hl2 HV n1 n2 n3 n4 n5 n6 n7 n8 n9 n10 n11 z1 z2 h1
  go_enter Tryd.func37, Tryd.ntmps37
  go_wp2_with fail
  go_ret
  exact ⟨rfl, by repeat (first | with_reducible assumption | with_reducible exact Ext.refl _ | with_reducible refine Ext.drew ?_ | with_reducible refine Ext.alloc ?_ _ | ((with_reducible refine Ext.setCell ?_ ?_ _); rotate_left; (· first | exact Nat.le_refl _ | (simp; done) | omega | (simp; omega))))⟩
theorem formed_step (t : Tr) (ih : ∀ p, p.sz < t.sz → FormedOk p) : FormedOk t := by
  intro v w hV
  have HV := Lib.hid hV
  obtain ⟨k, i, s, l, ns, ds⟩ := t
  unfold VRep at hV
  obtain ⟨la, lc, da, dc, rfl, hs, hl1, hl2, hd1, hd2, hnd, hL, hD⟩ := hV
  have ih2 : ∀ t, t ∈ l ∨ t ∈ ds → FormedOk t := fun t ht => ih t (by rcases ht with h | h; exact Tr.sz_list h; exact Tr.sz_docs h)
  clear ih
  by_cases k1 : k = 1
  · subst k1; exact formed_k1 i s l ns ds la da lc dc w HV ⟨hs.1, hl1.1, hl2, hL, ih2⟩
  by_cases k2 : k = 2
  · subst k2; exact formed_k2 i s l ns ds la da lc dc w HV ⟨hs.1, hl1.1, hl2, hL, ih2⟩
  by_cases k3 : k = 3
  · subst k3; exact formed_k3 i s l ns ds la da lc dc w HV ⟨hs.1, hl1.1, hl2, hL, ih2⟩
  by_cases k4 : k = 4
  · subst k4; exact formed_k4 i s l ns ds la da lc dc w HV ⟨hs.1, hl1.1, hl2, hL, ih2⟩
  by_cases k5 : k = 5
  · subst k5; exact formed_k5 i s l ns ds la da lc dc w HV ⟨hs.1, hl1.1, hl2, hL, ih2⟩
  by_cases k6 : k = 6
  · subst k6; exact formed_k6 i s l ns ds la da lc dc w HV ⟨hs.1, hl1.1, hl2, hL, ih2⟩
  by_cases k7 : k = 7
  · subst k7; exact formed_k7 i s l ns ds la da lc dc w HV ⟨hs.1, hl1.1, hl2, hL, ih2⟩
  by_cases k8 : k = 8
  · subst k8; exact formed_k8 i s l ns ds la da lc dc w HV ⟨hs.1, hl1.1, hl2, hL, ih2⟩
  by_cases k9 : k = 9
  · subst k9; exact formed_k9 i s l ns ds la da lc dc w HV ⟨hs.1, hl1.1, hl2, hL, ih2⟩
  by_cases k10 : k = 10
  · subst k10; exact formed_k10 i s l ns ds la da lc dc w HV ⟨hs.1, hl1.1, hl2, hL, ih2⟩
  by_cases k11 : k = 11
  · subst k11; exact formed_k11 i s l ns ds la da lc dc w HV ⟨hs.1, hl1.1, hl2, hL, ih2⟩
  exact formed_ko k ⟨k1, k2, k3, k4, k5, k6, k7, k8, k9, k10, k11⟩ i s l ns ds la da lc dc w HV ⟨hs.1, hl1.1, hl2, hL, ih2⟩
theorem formed_ok (t : Tr) : FormedOk t := by
  have : ∀ n (t : Tr), t.sz = n → FormedOk t := by
    intro n
    induction n using Nat.strongRecOn with
    | _ n ih => intro t ht; exact formed_step t (fun p hp => ih p.sz (by rw [← ht]; exact hp) p rfl)
  exact this _ t rfl
set_option maxHeartbeats 1000000 in
theorem RValid_ok (t : Tr) (v : Value) (w : World) (hV : VRep w t v) : Calls Tryd.prog 24 #[v] w fun e w' => e = .returned (.bool (validB t)) ∧ Ext w w' := by
  obtain ⟨k, i, s, la, ln, lc, da, dn, dc, rfl⟩ := hV.shape
  have HV := Lib.hid hV
  clear hV
  obtain ⟨r, hr⟩ : ∃ r, validB t = r := ⟨_, rfl⟩
  rw [hr]
  have HR := Lib.hid hr
  clear hr
  have n1 := t.cnt_pos
  have n2 := t.dep_pos
  go_enter Tryd.func24, Tryd.ntmps24
  go_wp2_with fail
  refine (RDepth_ok t _ _ (VRep.ext ((Ext.refl w).alloc _) _ _ HV.out)).mono ?_
  rintro e w1 ⟨rfl, h1⟩
  have k1 := h1.ownc
  have l1 := h1.lt
  by_cases hd : t.dep ≤ 16
  case neg =>
    have hf : r = false := by rw [← HR.out]; unfold validB; rw [decide_eq_false hd]; simp
    subst hf
    have d2 : decide (min (t.dep : Int) 17 ≤ 16) = false := by simp; omega
    clear HR
    go_wp2_with fail
    go_ret
    exact ⟨rfl, h1.of_alloc⟩
  have d2 : decide (min (t.dep : Int) 17 ≤ 16) = true := by simp; omega
  go_wp2_with fail
  refine (RNodes_ok t _ _ (VRep.ext h1.of_alloc _ _ HV.out)).mono ?_
  rintro e w2 ⟨rfl, h2⟩
  have h12 := h1.trans h2
  have k2 := h12.ownc
  have l2 := h12.lt
  clear k1
  by_cases hc : t.cnt ≤ 1024
  case neg =>
    have hf : r = false := by rw [← HR.out]; unfold validB; rw [decide_eq_false hc]; rfl
    subst hf
    have d1 : decide (min (t.cnt : Int) 1025 ≤ 1024) = false := by simp; omega
    clear HR
    go_wp2_with fail
    go_ret
    exact ⟨rfl, h12.of_alloc⟩
  have d1 : decide (min (t.cnt : Int) 1025 ≤ 1024) = true := by simp; omega
  have hR := HR.out
  unfold validB at hR
  rw [decide_eq_true hc, decide_eq_true hd, Bool.true_and, Bool.true_and] at hR
  have HR2 := Lib.hid hR
  clear hR HR
  go_wp2_with fail
  refine (formed_ok t _ _ (VRep.ext h12.of_alloc _ _ HV.out)).mono ?_
  rintro e w3 ⟨rfl, h3⟩
  rw [HR2.out]
  go_wp2_with fail
  go_ret
  exact ⟨rfl, h12.of_alloc.trans h3⟩
end Go.Proofs.YtipphlhaaienpaaDoor
