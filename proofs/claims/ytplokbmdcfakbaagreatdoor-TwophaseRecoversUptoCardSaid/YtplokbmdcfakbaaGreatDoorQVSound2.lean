/- value.sound, kind by kind (printed by gensound.py). -/
import Derived.Test.YtplokbmdcfakbaaGreatDoorQVSound
set_option linter.unusedSimpArgs false
set_option linter.unusedVariables false
namespace Go.Proofs.YtplokbmdcfakbaaGreatDoor
open Go.RowKit Go.Maps
theorem bytes_nil {s : ByteArray} (h : s.size = 0) : s = ⟨#[]⟩ := by
  rcases s with ⟨⟨l⟩⟩
  have : l = [] := List.eq_nil_of_length_eq_zero h
  subst this; rfl
theorem bytes_e : (⟨#[]⟩ : ByteArray) = ByteArray.empty := rfl
theorem bytes_some {s : ByteArray} (h : ¬ s.size = 0) : s.toList.isEmpty = false := by
  rw [ByteArray.toList_eq]
  cases hl : s.data.toList with
  | nil => exact absurd (by have := congrArg List.length hl; simpa using this) h
  | cons a r => rfl

set_option maxHeartbeats 1000000 in
theorem sound_k1 (i : Int) (s : ByteArray) (l : List Tr) (ns : List ByteArray) (ds : List Tr) (la da : Option Addr) (lc dc : Nat) (w : World) (H : s.size ≤ maxLen ∧ l.length ≤ lc ∧ lc ≤ maxLen ∧ ds.length ≤ dc ∧ dc ≤ maxLen ∧ ns.length = ds.length ∧ LRep w la 0 l ∧ DRep w da 0 ns ds ∧ Tabs w ∧ ∀ t, t ∈ l ∨ t ∈ ds → SoundOk t) :
    Calls Tryz.prog 52 #[.agg #[.int .i64 1, .int .i64 i, .string s, .slice la l.length lc, .slice da ds.length dc]] w fun e w' => e = .returned (.bool (snd (.mk 1 i s l ns ds))) ∧ Ext w w' := by
  obtain ⟨hs, hl1, hl2, hd1, hd2, hln, hL, hD, hT, ih⟩ := H
  by_cases hi : i = 0
  case neg =>
    rw [show snd (.mk 1 i s l ns ds) = false by simp [snd, headOk, hi]]
    have hi' : (i != 0) = true := by simpa using hi
    clear ih hL hD hT hi hl1 hl2 hd1 hd2 hln
    go_enter Tryz.func52, Tryz.ntmps52
    go_wp2_with fail
    go_ret
    exact ⟨rfl, by repeat (first | with_reducible assumption | with_reducible exact Ext.refl _ | with_reducible refine Ext.drew ?_ | with_reducible refine Ext.alloc ?_ _ | ((with_reducible refine Ext.setCell ?_ ?_ _); rotate_left; (· first | exact Nat.le_refl _ | (simp; done) | omega | (simp; omega))))⟩
  subst hi
  by_cases hz : s.size = 0
  case neg =>
    rw [show snd (.mk 1 0 s l ns ds) = false by simp [snd, headOk, hz]]
    have hz' := bytes_some hz
    clear ih hL hD hT hz hl1 hl2 hd1 hd2 hln
    go_enter Tryz.func52, Tryz.ntmps52
    go_wp2_with fail
    go_ret
    exact ⟨rfl, by repeat (first | with_reducible assumption | with_reducible exact Ext.refl _ | with_reducible refine Ext.drew ?_ | with_reducible refine Ext.alloc ?_ _ | ((with_reducible refine Ext.setCell ?_ ?_ _); rotate_left; (· first | exact Nat.le_refl _ | (simp; done) | omega | (simp; omega))))⟩
  obtain rfl := bytes_nil hz
  clear hz
  by_cases hz : l = []
  case neg =>
    have hz' : 0 < l.length := List.length_pos_iff.2 hz
    rw [show snd (.mk 1 0 ⟨#[]⟩ l ns ds) = false by simp [snd, headOk, hz]]
    have e1 : decide (0 < (l.length : Int)) = true := by simpa using hz'
    clear ih hL hD hT hz hl1 hl2 hd1 hd2 hln
    go_enter Tryz.func52, Tryz.ntmps52
    go_wp2_with fail
    go_ret
    exact ⟨rfl, by repeat (first | with_reducible assumption | with_reducible exact Ext.refl _ | with_reducible refine Ext.drew ?_ | with_reducible refine Ext.alloc ?_ _ | ((with_reducible refine Ext.setCell ?_ ?_ _); rotate_left; (· first | exact Nat.le_refl _ | (simp; done) | omega | (simp; omega))))⟩
  subst hz
  by_cases hz : ds = []
  case neg =>
    have hz' : 0 < ds.length := List.length_pos_iff.2 hz
    rw [show snd (.mk 1 0 ⟨#[]⟩ [] ns ds) = false by simp [snd, headOk, hz]]
    have e1 : decide (0 < (ds.length : Int)) = true := by simpa using hz'
    clear ih hL hD hT hz hl1 hl2 hd1 hd2 hln
    go_enter Tryz.func52, Tryz.ntmps52
    go_wp2_with fail
    go_ret
    exact ⟨rfl, by repeat (first | with_reducible assumption | with_reducible exact Ext.refl _ | with_reducible refine Ext.drew ?_ | with_reducible refine Ext.alloc ?_ _ | ((with_reducible refine Ext.setCell ?_ ?_ _); rotate_left; (· first | exact Nat.le_refl _ | (simp; done) | omega | (simp; omega))))⟩
  subst hz
  rw [show snd (.mk 1 0 ⟨#[]⟩ [] ns []) = true by simp [snd, headOk, leafOk, sndL, sndF, bytes_e]]
  clear ih hL hD hT hl1 hl2 hd1 hd2 hln
  go_enter Tryz.func52, Tryz.ntmps52
  go_wp2_with fail
  go_ret
  exact ⟨rfl, by repeat (first | with_reducible assumption | with_reducible exact Ext.refl _ | with_reducible refine Ext.drew ?_ | with_reducible refine Ext.alloc ?_ _ | ((with_reducible refine Ext.setCell ?_ ?_ _); rotate_left; (· first | exact Nat.le_refl _ | (simp; done) | omega | (simp; omega))))⟩
set_option maxHeartbeats 1000000 in
theorem sound_k2 (i : Int) (s : ByteArray) (l : List Tr) (ns : List ByteArray) (ds : List Tr) (la da : Option Addr) (lc dc : Nat) (w : World) (H : s.size ≤ maxLen ∧ l.length ≤ lc ∧ lc ≤ maxLen ∧ ds.length ≤ dc ∧ dc ≤ maxLen ∧ ns.length = ds.length ∧ LRep w la 0 l ∧ DRep w da 0 ns ds ∧ Tabs w ∧ ∀ t, t ∈ l ∨ t ∈ ds → SoundOk t) :
    Calls Tryz.prog 52 #[.agg #[.int .i64 2, .int .i64 i, .string s, .slice la l.length lc, .slice da ds.length dc]] w fun e w' => e = .returned (.bool (snd (.mk 2 i s l ns ds))) ∧ Ext w w' := by
  obtain ⟨hs, hl1, hl2, hd1, hd2, hln, hL, hD, hT, ih⟩ := H
  by_cases hi : i = 0
  case neg =>
    rw [show snd (.mk 2 i s l ns ds) = false by simp [snd, headOk, hi]]
    have hi' : (i != 0) = true := by simpa using hi
    clear ih hL hD hT hi hl1 hl2 hd1 hd2 hln
    go_enter Tryz.func52, Tryz.ntmps52
    go_wp2_with fail
    go_ret
    exact ⟨rfl, by repeat (first | with_reducible assumption | with_reducible exact Ext.refl _ | with_reducible refine Ext.drew ?_ | with_reducible refine Ext.alloc ?_ _ | ((with_reducible refine Ext.setCell ?_ ?_ _); rotate_left; (· first | exact Nat.le_refl _ | (simp; done) | omega | (simp; omega))))⟩
  subst hi
  by_cases hz : s.size = 0
  case neg =>
    rw [show snd (.mk 2 0 s l ns ds) = false by simp [snd, headOk, hz]]
    have hz' := bytes_some hz
    clear ih hL hD hT hz hl1 hl2 hd1 hd2 hln
    go_enter Tryz.func52, Tryz.ntmps52
    go_wp2_with fail
    go_ret
    exact ⟨rfl, by repeat (first | with_reducible assumption | with_reducible exact Ext.refl _ | with_reducible refine Ext.drew ?_ | with_reducible refine Ext.alloc ?_ _ | ((with_reducible refine Ext.setCell ?_ ?_ _); rotate_left; (· first | exact Nat.le_refl _ | (simp; done) | omega | (simp; omega))))⟩
  obtain rfl := bytes_nil hz
  clear hz
  by_cases hz : l = []
  case neg =>
    have hz' : 0 < l.length := List.length_pos_iff.2 hz
    rw [show snd (.mk 2 0 ⟨#[]⟩ l ns ds) = false by simp [snd, headOk, hz]]
    have e1 : decide (0 < (l.length : Int)) = true := by simpa using hz'
    clear ih hL hD hT hz hl1 hl2 hd1 hd2 hln
    go_enter Tryz.func52, Tryz.ntmps52
    go_wp2_with fail
    go_ret
    exact ⟨rfl, by repeat (first | with_reducible assumption | with_reducible exact Ext.refl _ | with_reducible refine Ext.drew ?_ | with_reducible refine Ext.alloc ?_ _ | ((with_reducible refine Ext.setCell ?_ ?_ _); rotate_left; (· first | exact Nat.le_refl _ | (simp; done) | omega | (simp; omega))))⟩
  subst hz
  by_cases hz : ds = []
  case neg =>
    have hz' : 0 < ds.length := List.length_pos_iff.2 hz
    rw [show snd (.mk 2 0 ⟨#[]⟩ [] ns ds) = false by simp [snd, headOk, hz]]
    have e1 : decide (0 < (ds.length : Int)) = true := by simpa using hz'
    clear ih hL hD hT hz hl1 hl2 hd1 hd2 hln
    go_enter Tryz.func52, Tryz.ntmps52
    go_wp2_with fail
    go_ret
    exact ⟨rfl, by repeat (first | with_reducible assumption | with_reducible exact Ext.refl _ | with_reducible refine Ext.drew ?_ | with_reducible refine Ext.alloc ?_ _ | ((with_reducible refine Ext.setCell ?_ ?_ _); rotate_left; (· first | exact Nat.le_refl _ | (simp; done) | omega | (simp; omega))))⟩
  subst hz
  rw [show snd (.mk 2 0 ⟨#[]⟩ [] ns []) = true by simp [snd, headOk, leafOk, sndL, sndF, bytes_e]]
  clear ih hL hD hT hl1 hl2 hd1 hd2 hln
  go_enter Tryz.func52, Tryz.ntmps52
  go_wp2_with fail
  go_ret
  exact ⟨rfl, by repeat (first | with_reducible assumption | with_reducible exact Ext.refl _ | with_reducible refine Ext.drew ?_ | with_reducible refine Ext.alloc ?_ _ | ((with_reducible refine Ext.setCell ?_ ?_ _); rotate_left; (· first | exact Nat.le_refl _ | (simp; done) | omega | (simp; omega))))⟩
set_option maxHeartbeats 1000000 in
theorem sound_k11 (i : Int) (s : ByteArray) (l : List Tr) (ns : List ByteArray) (ds : List Tr) (la da : Option Addr) (lc dc : Nat) (w : World) (H : s.size ≤ maxLen ∧ l.length ≤ lc ∧ lc ≤ maxLen ∧ ds.length ≤ dc ∧ dc ≤ maxLen ∧ ns.length = ds.length ∧ LRep w la 0 l ∧ DRep w da 0 ns ds ∧ Tabs w ∧ ∀ t, t ∈ l ∨ t ∈ ds → SoundOk t) :
    Calls Tryz.prog 52 #[.agg #[.int .i64 11, .int .i64 i, .string s, .slice la l.length lc, .slice da ds.length dc]] w fun e w' => e = .returned (.bool (snd (.mk 11 i s l ns ds))) ∧ Ext w w' := by
  obtain ⟨hs, hl1, hl2, hd1, hd2, hln, hL, hD, hT, ih⟩ := H
  by_cases hi : i = 0
  case neg =>
    rw [show snd (.mk 11 i s l ns ds) = false by simp [snd, headOk, hi]]
    have hi' : (i != 0) = true := by simpa using hi
    clear ih hL hD hT hi hl1 hl2 hd1 hd2 hln
    go_enter Tryz.func52, Tryz.ntmps52
    go_wp2_with fail
    go_ret
    exact ⟨rfl, by repeat (first | with_reducible assumption | with_reducible exact Ext.refl _ | with_reducible refine Ext.drew ?_ | with_reducible refine Ext.alloc ?_ _ | ((with_reducible refine Ext.setCell ?_ ?_ _); rotate_left; (· first | exact Nat.le_refl _ | (simp; done) | omega | (simp; omega))))⟩
  subst hi
  by_cases hz : s.size = 0
  case neg =>
    rw [show snd (.mk 11 0 s l ns ds) = false by simp [snd, headOk, hz]]
    have hz' := bytes_some hz
    clear ih hL hD hT hz hl1 hl2 hd1 hd2 hln
    go_enter Tryz.func52, Tryz.ntmps52
    go_wp2_with fail
    go_ret
    exact ⟨rfl, by repeat (first | with_reducible assumption | with_reducible exact Ext.refl _ | with_reducible refine Ext.drew ?_ | with_reducible refine Ext.alloc ?_ _ | ((with_reducible refine Ext.setCell ?_ ?_ _); rotate_left; (· first | exact Nat.le_refl _ | (simp; done) | omega | (simp; omega))))⟩
  obtain rfl := bytes_nil hz
  clear hz
  by_cases hz : l = []
  case neg =>
    have hz' : 0 < l.length := List.length_pos_iff.2 hz
    rw [show snd (.mk 11 0 ⟨#[]⟩ l ns ds) = false by simp [snd, headOk, hz]]
    have e1 : decide (0 < (l.length : Int)) = true := by simpa using hz'
    clear ih hL hD hT hz hl1 hl2 hd1 hd2 hln
    go_enter Tryz.func52, Tryz.ntmps52
    go_wp2_with fail
    go_ret
    exact ⟨rfl, by repeat (first | with_reducible assumption | with_reducible exact Ext.refl _ | with_reducible refine Ext.drew ?_ | with_reducible refine Ext.alloc ?_ _ | ((with_reducible refine Ext.setCell ?_ ?_ _); rotate_left; (· first | exact Nat.le_refl _ | (simp; done) | omega | (simp; omega))))⟩
  subst hz
  by_cases hz : ds = []
  case neg =>
    have hz' : 0 < ds.length := List.length_pos_iff.2 hz
    rw [show snd (.mk 11 0 ⟨#[]⟩ [] ns ds) = false by simp [snd, headOk, hz]]
    have e1 : decide (0 < (ds.length : Int)) = true := by simpa using hz'
    clear ih hL hD hT hz hl1 hl2 hd1 hd2 hln
    go_enter Tryz.func52, Tryz.ntmps52
    go_wp2_with fail
    go_ret
    exact ⟨rfl, by repeat (first | with_reducible assumption | with_reducible exact Ext.refl _ | with_reducible refine Ext.drew ?_ | with_reducible refine Ext.alloc ?_ _ | ((with_reducible refine Ext.setCell ?_ ?_ _); rotate_left; (· first | exact Nat.le_refl _ | (simp; done) | omega | (simp; omega))))⟩
  subst hz
  rw [show snd (.mk 11 0 ⟨#[]⟩ [] ns []) = true by simp [snd, headOk, leafOk, sndL, sndF, bytes_e]]
  clear ih hL hD hT hl1 hl2 hd1 hd2 hln
  go_enter Tryz.func52, Tryz.ntmps52
  go_wp2_with fail
  go_ret
  exact ⟨rfl, by repeat (first | with_reducible assumption | with_reducible exact Ext.refl _ | with_reducible refine Ext.drew ?_ | with_reducible refine Ext.alloc ?_ _ | ((with_reducible refine Ext.setCell ?_ ?_ _); rotate_left; (· first | exact Nat.le_refl _ | (simp; done) | omega | (simp; omega))))⟩
set_option maxHeartbeats 1000000 in
theorem sound_k3 (i : Int) (s : ByteArray) (l : List Tr) (ns : List ByteArray) (ds : List Tr) (la da : Option Addr) (lc dc : Nat) (w : World) (H : s.size ≤ maxLen ∧ l.length ≤ lc ∧ lc ≤ maxLen ∧ ds.length ≤ dc ∧ dc ≤ maxLen ∧ ns.length = ds.length ∧ LRep w la 0 l ∧ DRep w da 0 ns ds ∧ Tabs w ∧ ∀ t, t ∈ l ∨ t ∈ ds → SoundOk t) :
    Calls Tryz.prog 52 #[.agg #[.int .i64 3, .int .i64 i, .string s, .slice la l.length lc, .slice da ds.length dc]] w fun e w' => e = .returned (.bool (snd (.mk 3 i s l ns ds))) ∧ Ext w w' := by
  obtain ⟨hs, hl1, hl2, hd1, hd2, hln, hL, hD, hT, ih⟩ := H
  by_cases hz : s.size = 0
  case neg =>
    rw [show snd (.mk 3 i s l ns ds) = false by simp [snd, headOk, hz]]
    have hz' := bytes_some hz
    clear ih hL hD hT hz hl1 hl2 hd1 hd2 hln
    go_enter Tryz.func52, Tryz.ntmps52
    go_wp2_with fail
    go_ret
    exact ⟨rfl, by repeat (first | with_reducible assumption | with_reducible exact Ext.refl _ | with_reducible refine Ext.drew ?_ | with_reducible refine Ext.alloc ?_ _ | ((with_reducible refine Ext.setCell ?_ ?_ _); rotate_left; (· first | exact Nat.le_refl _ | (simp; done) | omega | (simp; omega))))⟩
  obtain rfl := bytes_nil hz
  clear hz
  by_cases hz : l = []
  case neg =>
    have hz' : 0 < l.length := List.length_pos_iff.2 hz
    rw [show snd (.mk 3 i ⟨#[]⟩ l ns ds) = false by simp [snd, headOk, hz]]
    have e1 : decide (0 < (l.length : Int)) = true := by simpa using hz'
    clear ih hL hD hT hz hl1 hl2 hd1 hd2 hln
    go_enter Tryz.func52, Tryz.ntmps52
    go_wp2_with fail
    go_ret
    exact ⟨rfl, by repeat (first | with_reducible assumption | with_reducible exact Ext.refl _ | with_reducible refine Ext.drew ?_ | with_reducible refine Ext.alloc ?_ _ | ((with_reducible refine Ext.setCell ?_ ?_ _); rotate_left; (· first | exact Nat.le_refl _ | (simp; done) | omega | (simp; omega))))⟩
  subst hz
  by_cases hz : ds = []
  case neg =>
    have hz' : 0 < ds.length := List.length_pos_iff.2 hz
    rw [show snd (.mk 3 i ⟨#[]⟩ [] ns ds) = false by simp [snd, headOk, hz]]
    have e1 : decide (0 < (ds.length : Int)) = true := by simpa using hz'
    clear ih hL hD hT hz hl1 hl2 hd1 hd2 hln
    go_enter Tryz.func52, Tryz.ntmps52
    go_wp2_with fail
    go_ret
    exact ⟨rfl, by repeat (first | with_reducible assumption | with_reducible exact Ext.refl _ | with_reducible refine Ext.drew ?_ | with_reducible refine Ext.alloc ?_ _ | ((with_reducible refine Ext.setCell ?_ ?_ _); rotate_left; (· first | exact Nat.le_refl _ | (simp; done) | omega | (simp; omega))))⟩
  subst hz
  rw [show snd (.mk 3 i ⟨#[]⟩ [] ns []) = true by simp [snd, headOk, leafOk, sndL, sndF, bytes_e]]
  clear ih hL hD hT hl1 hl2 hd1 hd2 hln
  go_enter Tryz.func52, Tryz.ntmps52
  go_wp2_with fail
  go_ret
  exact ⟨rfl, by repeat (first | with_reducible assumption | with_reducible exact Ext.refl _ | with_reducible refine Ext.drew ?_ | with_reducible refine Ext.alloc ?_ _ | ((with_reducible refine Ext.setCell ?_ ?_ _); rotate_left; (· first | exact Nat.le_refl _ | (simp; done) | omega | (simp; omega))))⟩
set_option maxHeartbeats 1000000 in
theorem sound_k9 (i : Int) (s : ByteArray) (l : List Tr) (ns : List ByteArray) (ds : List Tr) (la da : Option Addr) (lc dc : Nat) (w : World) (H : s.size ≤ maxLen ∧ l.length ≤ lc ∧ lc ≤ maxLen ∧ ds.length ≤ dc ∧ dc ≤ maxLen ∧ ns.length = ds.length ∧ LRep w la 0 l ∧ DRep w da 0 ns ds ∧ Tabs w ∧ ∀ t, t ∈ l ∨ t ∈ ds → SoundOk t) :
    Calls Tryz.prog 52 #[.agg #[.int .i64 9, .int .i64 i, .string s, .slice la l.length lc, .slice da ds.length dc]] w fun e w' => e = .returned (.bool (snd (.mk 9 i s l ns ds))) ∧ Ext w w' := by
  obtain ⟨hs, hl1, hl2, hd1, hd2, hln, hL, hD, hT, ih⟩ := H
  by_cases hz : s.size = 0
  case neg =>
    rw [show snd (.mk 9 i s l ns ds) = false by simp [snd, headOk, hz]]
    have hz' := bytes_some hz
    clear ih hL hD hT hz hl1 hl2 hd1 hd2 hln
    go_enter Tryz.func52, Tryz.ntmps52
    go_wp2_with fail
    go_ret
    exact ⟨rfl, by repeat (first | with_reducible assumption | with_reducible exact Ext.refl _ | with_reducible refine Ext.drew ?_ | with_reducible refine Ext.alloc ?_ _ | ((with_reducible refine Ext.setCell ?_ ?_ _); rotate_left; (· first | exact Nat.le_refl _ | (simp; done) | omega | (simp; omega))))⟩
  obtain rfl := bytes_nil hz
  clear hz
  by_cases hz : l = []
  case neg =>
    have hz' : 0 < l.length := List.length_pos_iff.2 hz
    rw [show snd (.mk 9 i ⟨#[]⟩ l ns ds) = false by simp [snd, headOk, hz]]
    have e1 : decide (0 < (l.length : Int)) = true := by simpa using hz'
    clear ih hL hD hT hz hl1 hl2 hd1 hd2 hln
    go_enter Tryz.func52, Tryz.ntmps52
    go_wp2_with fail
    go_ret
    exact ⟨rfl, by repeat (first | with_reducible assumption | with_reducible exact Ext.refl _ | with_reducible refine Ext.drew ?_ | with_reducible refine Ext.alloc ?_ _ | ((with_reducible refine Ext.setCell ?_ ?_ _); rotate_left; (· first | exact Nat.le_refl _ | (simp; done) | omega | (simp; omega))))⟩
  subst hz
  by_cases hz : ds = []
  case neg =>
    have hz' : 0 < ds.length := List.length_pos_iff.2 hz
    rw [show snd (.mk 9 i ⟨#[]⟩ [] ns ds) = false by simp [snd, headOk, hz]]
    have e1 : decide (0 < (ds.length : Int)) = true := by simpa using hz'
    clear ih hL hD hT hz hl1 hl2 hd1 hd2 hln
    go_enter Tryz.func52, Tryz.ntmps52
    go_wp2_with fail
    go_ret
    exact ⟨rfl, by repeat (first | with_reducible assumption | with_reducible exact Ext.refl _ | with_reducible refine Ext.drew ?_ | with_reducible refine Ext.alloc ?_ _ | ((with_reducible refine Ext.setCell ?_ ?_ _); rotate_left; (· first | exact Nat.le_refl _ | (simp; done) | omega | (simp; omega))))⟩
  subst hz
  clear ih hL hD hT hl1 hl2 hd1 hd2 hln
  by_cases h0 : i = 0
  · subst h0
    rw [show snd (.mk 9 0 ⟨#[]⟩ [] ns []) = true by simp [snd, headOk, leafOk, sndL, sndF, bytes_e]]
    go_enter Tryz.func52, Tryz.ntmps52
    go_wp2_with fail
    go_ret
    exact ⟨rfl, by repeat (first | with_reducible assumption | with_reducible exact Ext.refl _ | with_reducible refine Ext.drew ?_ | with_reducible refine Ext.alloc ?_ _ | ((with_reducible refine Ext.setCell ?_ ?_ _); rotate_left; (· first | exact Nat.le_refl _ | (simp; done) | omega | (simp; omega))))⟩
  have b0 : (i == 0) = false := by simpa using h0
  by_cases h1 : i = 1
  · subst h1
    rw [show snd (.mk 9 1 ⟨#[]⟩ [] ns []) = true by simp [snd, headOk, leafOk, sndL, sndF, bytes_e]]
    go_enter Tryz.func52, Tryz.ntmps52
    go_wp2_with fail
    go_ret
    exact ⟨rfl, by repeat (first | with_reducible assumption | with_reducible exact Ext.refl _ | with_reducible refine Ext.drew ?_ | with_reducible refine Ext.alloc ?_ _ | ((with_reducible refine Ext.setCell ?_ ?_ _); rotate_left; (· first | exact Nat.le_refl _ | (simp; done) | omega | (simp; omega))))⟩
  have b1 : (i == 1) = false := by simpa using h1
  rw [show snd (.mk 9 i ⟨#[]⟩ [] ns []) = false by simp [snd, headOk, leafOk, sndL, sndF, bytes_e, h0, h1]]
  clear h0 h1
  go_enter Tryz.func52, Tryz.ntmps52
  go_wp2_with fail
  go_ret
  exact ⟨rfl, by repeat (first | with_reducible assumption | with_reducible exact Ext.refl _ | with_reducible refine Ext.drew ?_ | with_reducible refine Ext.alloc ?_ _ | ((with_reducible refine Ext.setCell ?_ ?_ _); rotate_left; (· first | exact Nat.le_refl _ | (simp; done) | omega | (simp; omega))))⟩
set_option maxHeartbeats 1000000 in
theorem sound_k10 (i : Int) (s : ByteArray) (l : List Tr) (ns : List ByteArray) (ds : List Tr) (la da : Option Addr) (lc dc : Nat) (w : World) (H : s.size ≤ maxLen ∧ l.length ≤ lc ∧ lc ≤ maxLen ∧ ds.length ≤ dc ∧ dc ≤ maxLen ∧ ns.length = ds.length ∧ LRep w la 0 l ∧ DRep w da 0 ns ds ∧ Tabs w ∧ ∀ t, t ∈ l ∨ t ∈ ds → SoundOk t) :
    Calls Tryz.prog 52 #[.agg #[.int .i64 10, .int .i64 i, .string s, .slice la l.length lc, .slice da ds.length dc]] w fun e w' => e = .returned (.bool (snd (.mk 10 i s l ns ds))) ∧ Ext w w' := by
  obtain ⟨hs, hl1, hl2, hd1, hd2, hln, hL, hD, hT, ih⟩ := H
  by_cases hz : s.size = 0
  case neg =>
    rw [show snd (.mk 10 i s l ns ds) = false by simp [snd, headOk, hz]]
    have hz' := bytes_some hz
    clear ih hL hD hT hz hl1 hl2 hd1 hd2 hln
    go_enter Tryz.func52, Tryz.ntmps52
    go_wp2_with fail
    go_ret
    exact ⟨rfl, by repeat (first | with_reducible assumption | with_reducible exact Ext.refl _ | with_reducible refine Ext.drew ?_ | with_reducible refine Ext.alloc ?_ _ | ((with_reducible refine Ext.setCell ?_ ?_ _); rotate_left; (· first | exact Nat.le_refl _ | (simp; done) | omega | (simp; omega))))⟩
  obtain rfl := bytes_nil hz
  clear hz
  by_cases hz : l = []
  case neg =>
    have hz' : 0 < l.length := List.length_pos_iff.2 hz
    rw [show snd (.mk 10 i ⟨#[]⟩ l ns ds) = false by simp [snd, headOk, hz]]
    have e1 : decide (0 < (l.length : Int)) = true := by simpa using hz'
    clear ih hL hD hT hz hl1 hl2 hd1 hd2 hln
    go_enter Tryz.func52, Tryz.ntmps52
    go_wp2_with fail
    go_ret
    exact ⟨rfl, by repeat (first | with_reducible assumption | with_reducible exact Ext.refl _ | with_reducible refine Ext.drew ?_ | with_reducible refine Ext.alloc ?_ _ | ((with_reducible refine Ext.setCell ?_ ?_ _); rotate_left; (· first | exact Nat.le_refl _ | (simp; done) | omega | (simp; omega))))⟩
  subst hz
  by_cases hz : ds = []
  case neg =>
    have hz' : 0 < ds.length := List.length_pos_iff.2 hz
    rw [show snd (.mk 10 i ⟨#[]⟩ [] ns ds) = false by simp [snd, headOk, hz]]
    have e1 : decide (0 < (ds.length : Int)) = true := by simpa using hz'
    clear ih hL hD hT hz hl1 hl2 hd1 hd2 hln
    go_enter Tryz.func52, Tryz.ntmps52
    go_wp2_with fail
    go_ret
    exact ⟨rfl, by repeat (first | with_reducible assumption | with_reducible exact Ext.refl _ | with_reducible refine Ext.drew ?_ | with_reducible refine Ext.alloc ?_ _ | ((with_reducible refine Ext.setCell ?_ ?_ _); rotate_left; (· first | exact Nat.le_refl _ | (simp; done) | omega | (simp; omega))))⟩
  subst hz
  clear ih hL hD hT hl1 hl2 hd1 hd2 hln
  by_cases h0 : 0 ≤ i
  · rw [show snd (.mk 10 i ⟨#[]⟩ [] ns []) = true by simp [snd, headOk, leafOk, sndL, sndF, bytes_e, h0]]
    have b0 : decide (0 ≤ i) = true := by simpa using h0
    go_enter Tryz.func52, Tryz.ntmps52
    go_wp2_with fail
    go_ret
    exact ⟨rfl, by repeat (first | with_reducible assumption | with_reducible exact Ext.refl _ | with_reducible refine Ext.drew ?_ | with_reducible refine Ext.alloc ?_ _ | ((with_reducible refine Ext.setCell ?_ ?_ _); rotate_left; (· first | exact Nat.le_refl _ | (simp; done) | omega | (simp; omega))))⟩
  rw [show snd (.mk 10 i ⟨#[]⟩ [] ns []) = false by simp [snd, headOk, leafOk, sndL, sndF, bytes_e, h0]]
  have b0 : decide (0 ≤ i) = false := by simpa using h0
  clear h0
  go_enter Tryz.func52, Tryz.ntmps52
  go_wp2_with fail
  go_ret
  exact ⟨rfl, by repeat (first | with_reducible assumption | with_reducible exact Ext.refl _ | with_reducible refine Ext.drew ?_ | with_reducible refine Ext.alloc ?_ _ | ((with_reducible refine Ext.setCell ?_ ?_ _); rotate_left; (· first | exact Nat.le_refl _ | (simp; done) | omega | (simp; omega))))⟩
set_option maxHeartbeats 1000000 in
theorem sound_k4 (i : Int) (s : ByteArray) (l : List Tr) (ns : List ByteArray) (ds : List Tr) (la da : Option Addr) (lc dc : Nat) (w : World) (H : s.size ≤ maxLen ∧ l.length ≤ lc ∧ lc ≤ maxLen ∧ ds.length ≤ dc ∧ dc ≤ maxLen ∧ ns.length = ds.length ∧ LRep w la 0 l ∧ DRep w da 0 ns ds ∧ Tabs w ∧ ∀ t, t ∈ l ∨ t ∈ ds → SoundOk t) :
    Calls Tryz.prog 52 #[.agg #[.int .i64 4, .int .i64 i, .string s, .slice la l.length lc, .slice da ds.length dc]] w fun e w' => e = .returned (.bool (snd (.mk 4 i s l ns ds))) ∧ Ext w w' := by
  obtain ⟨hs, hl1, hl2, hd1, hd2, hln, hL, hD, hT, ih⟩ := H
  by_cases hi : i = 0
  case neg =>
    rw [show snd (.mk 4 i s l ns ds) = false by simp [snd, headOk, hi]]
    have hi' : (i != 0) = true := by simpa using hi
    clear ih hL hD hT hi hl1 hl2 hd1 hd2 hln
    go_enter Tryz.func52, Tryz.ntmps52
    go_wp2_with fail
    go_ret
    exact ⟨rfl, by repeat (first | with_reducible assumption | with_reducible exact Ext.refl _ | with_reducible refine Ext.drew ?_ | with_reducible refine Ext.alloc ?_ _ | ((with_reducible refine Ext.setCell ?_ ?_ _); rotate_left; (· first | exact Nat.le_refl _ | (simp; done) | omega | (simp; omega))))⟩
  subst hi
  by_cases hz : l = []
  case neg =>
    have hz' : 0 < l.length := List.length_pos_iff.2 hz
    rw [show snd (.mk 4 0 s l ns ds) = false by simp [snd, headOk, hz]]
    have e1 : decide (0 < (l.length : Int)) = true := by simpa using hz'
    clear ih hL hD hT hz hl1 hl2 hd1 hd2 hln
    go_enter Tryz.func52, Tryz.ntmps52
    go_wp2_with fail
    go_ret
    exact ⟨rfl, by repeat (first | with_reducible assumption | with_reducible exact Ext.refl _ | with_reducible refine Ext.drew ?_ | with_reducible refine Ext.alloc ?_ _ | ((with_reducible refine Ext.setCell ?_ ?_ _); rotate_left; (· first | exact Nat.le_refl _ | (simp; done) | omega | (simp; omega))))⟩
  subst hz
  by_cases hz : ds = []
  case neg =>
    have hz' : 0 < ds.length := List.length_pos_iff.2 hz
    rw [show snd (.mk 4 0 s [] ns ds) = false by simp [snd, headOk, hz]]
    have e1 : decide (0 < (ds.length : Int)) = true := by simpa using hz'
    clear ih hL hD hT hz hl1 hl2 hd1 hd2 hln
    go_enter Tryz.func52, Tryz.ntmps52
    go_wp2_with fail
    go_ret
    exact ⟨rfl, by repeat (first | with_reducible assumption | with_reducible exact Ext.refl _ | with_reducible refine Ext.drew ?_ | with_reducible refine Ext.alloc ?_ _ | ((with_reducible refine Ext.setCell ?_ ?_ _); rotate_left; (· first | exact Nat.le_refl _ | (simp; done) | omega | (simp; omega))))⟩
  subst hz
  have HT := Lib.hid hT
  clear ih hL hD hT hl1 hl2 hd1 hd2 hln
  by_cases h0 : s.size ≤ 4096
  · have b0 : decide ((s.size : Int) ≤ 4096) = true := by simp; omega
    rw [show snd (.mk 4 0 s [] ns []) = utf8B s by simp [snd, headOk, leafOk, sndL, sndF, bytes_e, h0]]
    go_enter Tryz.func52, Tryz.ntmps52
    go_wp2_with fail
    refine (validString_ok _ _ hs (HT.out.ext ((Ext.refl w).alloc _))).mono ?_
    rintro e w1 ⟨rfl, h1⟩
    go_wp2_with fail
    go_ret
    exact ⟨rfl, h1.of_alloc⟩
  have b0 : decide ((s.size : Int) ≤ 4096) = false := by simp; omega
  rw [show snd (.mk 4 0 s [] ns []) = false by simp [snd, headOk, leafOk, sndL, sndF, bytes_e, h0]]
  clear h0 HT
  go_enter Tryz.func52, Tryz.ntmps52
  go_wp2_with fail
  go_ret
  exact ⟨rfl, by repeat (first | with_reducible assumption | with_reducible exact Ext.refl _ | with_reducible refine Ext.drew ?_ | with_reducible refine Ext.alloc ?_ _ | ((with_reducible refine Ext.setCell ?_ ?_ _); rotate_left; (· first | exact Nat.le_refl _ | (simp; done) | omega | (simp; omega))))⟩
set_option maxHeartbeats 1000000 in
theorem sound_k7 (i : Int) (s : ByteArray) (l : List Tr) (ns : List ByteArray) (ds : List Tr) (la da : Option Addr) (lc dc : Nat) (w : World) (H : s.size ≤ maxLen ∧ l.length ≤ lc ∧ lc ≤ maxLen ∧ ds.length ≤ dc ∧ dc ≤ maxLen ∧ ns.length = ds.length ∧ LRep w la 0 l ∧ DRep w da 0 ns ds ∧ Tabs w ∧ ∀ t, t ∈ l ∨ t ∈ ds → SoundOk t) :
    Calls Tryz.prog 52 #[.agg #[.int .i64 7, .int .i64 i, .string s, .slice la l.length lc, .slice da ds.length dc]] w fun e w' => e = .returned (.bool (snd (.mk 7 i s l ns ds))) ∧ Ext w w' := by
  obtain ⟨hs, hl1, hl2, hd1, hd2, hln, hL, hD, hT, ih⟩ := H
  by_cases hi : i = 0
  case neg =>
    rw [show snd (.mk 7 i s l ns ds) = false by simp [snd, headOk, hi]]
    have hi' : (i != 0) = true := by simpa using hi
    clear ih hL hD hT hi hl1 hl2 hd1 hd2 hln
    go_enter Tryz.func52, Tryz.ntmps52
    go_wp2_with fail
    go_ret
    exact ⟨rfl, by repeat (first | with_reducible assumption | with_reducible exact Ext.refl _ | with_reducible refine Ext.drew ?_ | with_reducible refine Ext.alloc ?_ _ | ((with_reducible refine Ext.setCell ?_ ?_ _); rotate_left; (· first | exact Nat.le_refl _ | (simp; done) | omega | (simp; omega))))⟩
  subst hi
  by_cases hz : l = []
  case neg =>
    have hz' : 0 < l.length := List.length_pos_iff.2 hz
    rw [show snd (.mk 7 0 s l ns ds) = false by simp [snd, headOk, hz]]
    have e1 : decide (0 < (l.length : Int)) = true := by simpa using hz'
    clear ih hL hD hT hz hl1 hl2 hd1 hd2 hln
    go_enter Tryz.func52, Tryz.ntmps52
    go_wp2_with fail
    go_ret
    exact ⟨rfl, by repeat (first | with_reducible assumption | with_reducible exact Ext.refl _ | with_reducible refine Ext.drew ?_ | with_reducible refine Ext.alloc ?_ _ | ((with_reducible refine Ext.setCell ?_ ?_ _); rotate_left; (· first | exact Nat.le_refl _ | (simp; done) | omega | (simp; omega))))⟩
  subst hz
  by_cases hz : ds = []
  case neg =>
    have hz' : 0 < ds.length := List.length_pos_iff.2 hz
    rw [show snd (.mk 7 0 s [] ns ds) = false by simp [snd, headOk, hz]]
    have e1 : decide (0 < (ds.length : Int)) = true := by simpa using hz'
    clear ih hL hD hT hz hl1 hl2 hd1 hd2 hln
    go_enter Tryz.func52, Tryz.ntmps52
    go_wp2_with fail
    go_ret
    exact ⟨rfl, by repeat (first | with_reducible assumption | with_reducible exact Ext.refl _ | with_reducible refine Ext.drew ?_ | with_reducible refine Ext.alloc ?_ _ | ((with_reducible refine Ext.setCell ?_ ?_ _); rotate_left; (· first | exact Nat.le_refl _ | (simp; done) | omega | (simp; omega))))⟩
  subst hz
  clear ih hL hD hT hl1 hl2 hd1 hd2 hln
  by_cases h0 : s.size ≤ 4096
  · have b0 : decide ((s.size : Int) ≤ 4096) = true := by simp; omega
    rw [show snd (.mk 7 0 s [] ns []) = true by simp [snd, headOk, leafOk, sndL, sndF, bytes_e, h0]]
    go_enter Tryz.func52, Tryz.ntmps52
    go_wp2_with fail
    go_ret
    exact ⟨rfl, by repeat (first | with_reducible assumption | with_reducible exact Ext.refl _ | with_reducible refine Ext.drew ?_ | with_reducible refine Ext.alloc ?_ _ | ((with_reducible refine Ext.setCell ?_ ?_ _); rotate_left; (· first | exact Nat.le_refl _ | (simp; done) | omega | (simp; omega))))⟩
  have b0 : decide ((s.size : Int) ≤ 4096) = false := by simp; omega
  rw [show snd (.mk 7 0 s [] ns []) = false by simp [snd, headOk, leafOk, sndL, sndF, bytes_e, h0]]
  clear h0
  go_enter Tryz.func52, Tryz.ntmps52
  go_wp2_with fail
  go_ret
  exact ⟨rfl, by repeat (first | with_reducible assumption | with_reducible exact Ext.refl _ | with_reducible refine Ext.drew ?_ | with_reducible refine Ext.alloc ?_ _ | ((with_reducible refine Ext.setCell ?_ ?_ _); rotate_left; (· first | exact Nat.le_refl _ | (simp; done) | omega | (simp; omega))))⟩
set_option maxHeartbeats 1000000 in
theorem sound_k8 (i : Int) (s : ByteArray) (l : List Tr) (ns : List ByteArray) (ds : List Tr) (la da : Option Addr) (lc dc : Nat) (w : World) (H : s.size ≤ maxLen ∧ l.length ≤ lc ∧ lc ≤ maxLen ∧ ds.length ≤ dc ∧ dc ≤ maxLen ∧ ns.length = ds.length ∧ LRep w la 0 l ∧ DRep w da 0 ns ds ∧ Tabs w ∧ ∀ t, t ∈ l ∨ t ∈ ds → SoundOk t) :
    Calls Tryz.prog 52 #[.agg #[.int .i64 8, .int .i64 i, .string s, .slice la l.length lc, .slice da ds.length dc]] w fun e w' => e = .returned (.bool (snd (.mk 8 i s l ns ds))) ∧ Ext w w' := by
  obtain ⟨hs, hl1, hl2, hd1, hd2, hln, hL, hD, hT, ih⟩ := H
  by_cases hi : i = 0
  case neg =>
    rw [show snd (.mk 8 i s l ns ds) = false by simp [snd, headOk, hi]]
    have hi' : (i != 0) = true := by simpa using hi
    clear ih hL hD hT hi hl1 hl2 hd1 hd2 hln
    go_enter Tryz.func52, Tryz.ntmps52
    go_wp2_with fail
    go_ret
    exact ⟨rfl, by repeat (first | with_reducible assumption | with_reducible exact Ext.refl _ | with_reducible refine Ext.drew ?_ | with_reducible refine Ext.alloc ?_ _ | ((with_reducible refine Ext.setCell ?_ ?_ _); rotate_left; (· first | exact Nat.le_refl _ | (simp; done) | omega | (simp; omega))))⟩
  subst hi
  by_cases hz : l = []
  case neg =>
    have hz' : 0 < l.length := List.length_pos_iff.2 hz
    rw [show snd (.mk 8 0 s l ns ds) = false by simp [snd, headOk, hz]]
    have e1 : decide (0 < (l.length : Int)) = true := by simpa using hz'
    clear ih hL hD hT hz hl1 hl2 hd1 hd2 hln
    go_enter Tryz.func52, Tryz.ntmps52
    go_wp2_with fail
    go_ret
    exact ⟨rfl, by repeat (first | with_reducible assumption | with_reducible exact Ext.refl _ | with_reducible refine Ext.drew ?_ | with_reducible refine Ext.alloc ?_ _ | ((with_reducible refine Ext.setCell ?_ ?_ _); rotate_left; (· first | exact Nat.le_refl _ | (simp; done) | omega | (simp; omega))))⟩
  subst hz
  by_cases hz : ds = []
  case neg =>
    have hz' : 0 < ds.length := List.length_pos_iff.2 hz
    rw [show snd (.mk 8 0 s [] ns ds) = false by simp [snd, headOk, hz]]
    have e1 : decide (0 < (ds.length : Int)) = true := by simpa using hz'
    clear ih hL hD hT hz hl1 hl2 hd1 hd2 hln
    go_enter Tryz.func52, Tryz.ntmps52
    go_wp2_with fail
    go_ret
    exact ⟨rfl, by repeat (first | with_reducible assumption | with_reducible exact Ext.refl _ | with_reducible refine Ext.drew ?_ | with_reducible refine Ext.alloc ?_ _ | ((with_reducible refine Ext.setCell ?_ ?_ _); rotate_left; (· first | exact Nat.le_refl _ | (simp; done) | omega | (simp; omega))))⟩
  subst hz
  clear ih hL hD hT hl1 hl2 hd1 hd2 hln
  by_cases h0 : s.size = 12
  · have b0 : ((s.size : Int) == 12) = true := by simp; omega
    rw [show snd (.mk 8 0 s [] ns []) = true by simp [snd, headOk, leafOk, sndL, sndF, bytes_e, h0]]
    clear h0
    go_enter Tryz.func52, Tryz.ntmps52
    go_wp2_with fail
    go_ret
    exact ⟨rfl, by repeat (first | with_reducible assumption | with_reducible exact Ext.refl _ | with_reducible refine Ext.drew ?_ | with_reducible refine Ext.alloc ?_ _ | ((with_reducible refine Ext.setCell ?_ ?_ _); rotate_left; (· first | exact Nat.le_refl _ | (simp; done) | omega | (simp; omega))))⟩
  have b0 : ((s.size : Int) == 12) = false := by simp; omega
  rw [show snd (.mk 8 0 s [] ns []) = false by simp [snd, headOk, leafOk, sndL, sndF, bytes_e, h0]]
  clear h0
  go_enter Tryz.func52, Tryz.ntmps52
  go_wp2_with fail
  go_ret
  exact ⟨rfl, by repeat (first | with_reducible assumption | with_reducible exact Ext.refl _ | with_reducible refine Ext.drew ?_ | with_reducible refine Ext.alloc ?_ _ | ((with_reducible refine Ext.setCell ?_ ?_ _); rotate_left; (· first | exact Nat.le_refl _ | (simp; done) | omega | (simp; omega))))⟩
set_option maxHeartbeats 1000000 in
theorem sound_k5 (i : Int) (s : ByteArray) (l : List Tr) (ns : List ByteArray) (ds : List Tr) (la da : Option Addr) (lc dc : Nat) (w : World) (H : s.size ≤ maxLen ∧ l.length ≤ lc ∧ lc ≤ maxLen ∧ ds.length ≤ dc ∧ dc ≤ maxLen ∧ ns.length = ds.length ∧ LRep w la 0 l ∧ DRep w da 0 ns ds ∧ Tabs w ∧ ∀ t, t ∈ l ∨ t ∈ ds → SoundOk t) :
    Calls Tryz.prog 52 #[.agg #[.int .i64 5, .int .i64 i, .string s, .slice la l.length lc, .slice da ds.length dc]] w fun e w' => e = .returned (.bool (snd (.mk 5 i s l ns ds))) ∧ Ext w w' := by
  obtain ⟨hs, hl1, hl2, hd1, hd2, hln, hL, hD, hT, ih⟩ := H
  by_cases hi : i = 0
  case neg =>
    rw [show snd (.mk 5 i s l ns ds) = false by simp [snd, headOk, hi]]
    have hi' : (i != 0) = true := by simpa using hi
    clear ih hL hD hT hi hl1 hl2 hd1 hd2 hln
    go_enter Tryz.func52, Tryz.ntmps52
    go_wp2_with fail
    go_ret
    exact ⟨rfl, by repeat (first | with_reducible assumption | with_reducible exact Ext.refl _ | with_reducible refine Ext.drew ?_ | with_reducible refine Ext.alloc ?_ _ | ((with_reducible refine Ext.setCell ?_ ?_ _); rotate_left; (· first | exact Nat.le_refl _ | (simp; done) | omega | (simp; omega))))⟩
  subst hi
  by_cases hz : s.size = 0
  case neg =>
    rw [show snd (.mk 5 0 s l ns ds) = false by simp [snd, headOk, hz]]
    have hz' := bytes_some hz
    clear ih hL hD hT hz hl1 hl2 hd1 hd2 hln
    go_enter Tryz.func52, Tryz.ntmps52
    go_wp2_with fail
    go_ret
    exact ⟨rfl, by repeat (first | with_reducible assumption | with_reducible exact Ext.refl _ | with_reducible refine Ext.drew ?_ | with_reducible refine Ext.alloc ?_ _ | ((with_reducible refine Ext.setCell ?_ ?_ _); rotate_left; (· first | exact Nat.le_refl _ | (simp; done) | omega | (simp; omega))))⟩
  obtain rfl := bytes_nil hz
  clear hz
  by_cases hz : l = []
  case neg =>
    have hz' : 0 < l.length := List.length_pos_iff.2 hz
    rw [show snd (.mk 5 0 ⟨#[]⟩ l ns ds) = false by simp [snd, headOk, hz]]
    have e1 : decide (0 < (l.length : Int)) = true := by simpa using hz'
    clear ih hL hD hT hz hl1 hl2 hd1 hd2 hln
    go_enter Tryz.func52, Tryz.ntmps52
    go_wp2_with fail
    go_ret
    exact ⟨rfl, by repeat (first | with_reducible assumption | with_reducible exact Ext.refl _ | with_reducible refine Ext.drew ?_ | with_reducible refine Ext.alloc ?_ _ | ((with_reducible refine Ext.setCell ?_ ?_ _); rotate_left; (· first | exact Nat.le_refl _ | (simp; done) | omega | (simp; omega))))⟩
  subst hz
  have HD := Lib.hid hD
  have HT := Lib.hid hT
  have HI := Lib.hid ih
  clear hL hD hT ih hl1 hl2
  rw [show snd (.mk 5 0 ⟨#[]⟩ [] ns ds) = sndF [] ns ds by simp [snd, headOk, leafOk, sndL, bytes_e]]
  go_enter Tryz.func52, Tryz.ntmps52
  go_wp2_with fail
  refine (soundFields_ok ns ds _ _ _ hln hd1 hd2 (DRep.ext ((Ext.refl w).alloc _) _ _ _ _ HD.out) (HT.out.ext ((Ext.refl w).alloc _)) (fun t ht => HI.out t (.inr ht))).mono ?_
  rintro e w1 ⟨rfl, h1⟩
  go_wp2_with fail
  go_ret
  exact ⟨rfl, h1.of_alloc⟩
set_option maxHeartbeats 1000000 in
theorem sound_k6 (i : Int) (s : ByteArray) (l : List Tr) (ns : List ByteArray) (ds : List Tr) (la da : Option Addr) (lc dc : Nat) (w : World) (H : s.size ≤ maxLen ∧ l.length ≤ lc ∧ lc ≤ maxLen ∧ ds.length ≤ dc ∧ dc ≤ maxLen ∧ ns.length = ds.length ∧ LRep w la 0 l ∧ DRep w da 0 ns ds ∧ Tabs w ∧ ∀ t, t ∈ l ∨ t ∈ ds → SoundOk t) :
    Calls Tryz.prog 52 #[.agg #[.int .i64 6, .int .i64 i, .string s, .slice la l.length lc, .slice da ds.length dc]] w fun e w' => e = .returned (.bool (snd (.mk 6 i s l ns ds))) ∧ Ext w w' := by
  obtain ⟨hs, hl1, hl2, hd1, hd2, hln, hL, hD, hT, ih⟩ := H
  by_cases hi : i = 0
  case neg =>
    rw [show snd (.mk 6 i s l ns ds) = false by simp [snd, headOk, hi]]
    have hi' : (i != 0) = true := by simpa using hi
    clear ih hL hD hT hi hl1 hl2 hd1 hd2 hln
    go_enter Tryz.func52, Tryz.ntmps52
    go_wp2_with fail
    go_ret
    exact ⟨rfl, by repeat (first | with_reducible assumption | with_reducible exact Ext.refl _ | with_reducible refine Ext.drew ?_ | with_reducible refine Ext.alloc ?_ _ | ((with_reducible refine Ext.setCell ?_ ?_ _); rotate_left; (· first | exact Nat.le_refl _ | (simp; done) | omega | (simp; omega))))⟩
  subst hi
  by_cases hz : s.size = 0
  case neg =>
    rw [show snd (.mk 6 0 s l ns ds) = false by simp [snd, headOk, hz]]
    have hz' := bytes_some hz
    clear ih hL hD hT hz hl1 hl2 hd1 hd2 hln
    go_enter Tryz.func52, Tryz.ntmps52
    go_wp2_with fail
    go_ret
    exact ⟨rfl, by repeat (first | with_reducible assumption | with_reducible exact Ext.refl _ | with_reducible refine Ext.drew ?_ | with_reducible refine Ext.alloc ?_ _ | ((with_reducible refine Ext.setCell ?_ ?_ _); rotate_left; (· first | exact Nat.le_refl _ | (simp; done) | omega | (simp; omega))))⟩
  obtain rfl := bytes_nil hz
  clear hz
  by_cases hz : ds = []
  case neg =>
    have hz' : 0 < ds.length := List.length_pos_iff.2 hz
    rw [show snd (.mk 6 0 ⟨#[]⟩ l ns ds) = false by simp [snd, headOk, hz]]
    have e1 : decide (0 < (ds.length : Int)) = true := by simpa using hz'
    clear ih hL hD hT hz hl1 hl2 hd1 hd2 hln
    go_enter Tryz.func52, Tryz.ntmps52
    go_wp2_with fail
    go_ret
    exact ⟨rfl, by repeat (first | with_reducible assumption | with_reducible exact Ext.refl _ | with_reducible refine Ext.drew ?_ | with_reducible refine Ext.alloc ?_ _ | ((with_reducible refine Ext.setCell ?_ ?_ _); rotate_left; (· first | exact Nat.le_refl _ | (simp; done) | omega | (simp; omega))))⟩
  subst hz
  have HL := Lib.hid hL
  have HT := Lib.hid hT
  have HI := Lib.hid ih
  clear hL hD hT ih hd1 hd2
  unfold maxLen at hl2
  rw [show snd (.mk 6 0 ⟨#[]⟩ l ns []) = sndL l by simp [snd, headOk, leafOk, sndF, bytes_e]]
  obtain ⟨r, hr⟩ : ∃ r, sndL l = r := ⟨_, rfl⟩
  rw [hr]
  have HR := Lib.hid hr
  clear hr
  go_enter Tryz.func52, Tryz.ntmps52
  go_wp2_with fail
  go_loopw [119] (fun c wr => ∃ j : Nat, j ≤ l.length ∧ c = .int .i64 j ∧ Hid (sndL (l.drop j) = r) ∧ Hid (Ext w wr)) (fun c _ => l.length - (intOf c).toNat)
  case atStart => exact ⟨0, by omega, rfl, HR, (Ext.refl w).alloc _⟩
  case round =>
    obtain ⟨j, hj, rfl, HF, HE⟩ := hrel
    by_cases hlt : j < l.length
    · obtain ⟨b, off, c0, c1, c2, c3, c4, rfl, e0, e1, e2, e3, e4, hv⟩ := LRep.at_ l 0 j l[j] HL.out (List.getElem?_eq_getElem hlt)
      obtain ⟨k', i', s', la', ln', lc', da', dn', dc', rfl, rfl, rfl, rfl, rfl⟩ := hv.shape5
      have hEr := HE.out
      have q0 := hEr.keep e0
      have q1 := hEr.keep e1
      have q2 := hEr.keep e2
      have q3 := hEr.keep e3
      have q4 := hEr.keep e4
      rw [Nat.zero_add] at q0 q1 q2 q3 q4
      have HV := Lib.hid (VRep.ext hEr _ _ hv)
      clear e0 e1 e2 e3 e4 hv hEr
      obtain ⟨p, hp⟩ : ∃ p, l[j] = p := ⟨_, rfl⟩
      have hmem : p ∈ l := by rw [← hp]; exact List.getElem_mem hlt
      rw [hp] at HV
      have hdr : l.drop j = p :: l.drop (j + 1) := by rw [← hp]; exact List.drop_eq_getElem_cons hlt
      have hF := HF.out
      rw [hdr] at hF
      simp only [sndL] at hF
      have HF1 := Lib.hid hF
      clear hp hdr hF HF
      go_wp2_with fail
      refine (HI.out p (.inl hmem) _ _ (VRep.ext ((Ext.refl wr).alloc _) _ _ HV.out) (HT.out.ext (HE.out.alloc _))).mono ?_
      rintro e w1 ⟨rfl, h1⟩
      have HE1 := Lib.hid (HE.out.trans h1.of_alloc)
      cases hsp : snd p
      · have hF := HF1.out
        rw [hsp] at hF
        simp only [Bool.false_and] at hF
        subst hF
        clear hsp HF1
        go_wp2_with fail
        go_ret
        exact ⟨rfl, HE1.out⟩
      · have hF := HF1.out
        rw [hsp, Bool.true_and] at hF
        have HF4 := Lib.hid hF
        clear hF hsp HF1
        go_wp2_with fail
        exact ⟨⟨j + 1, by omega, by go_num, HF4, HE1⟩, by simp [intOf]; omega⟩
    · have hj2 : j = l.length := by omega
      subst hj2
      have hF := HF.out
      rw [List.drop_length] at hF
      simp only [sndL] at hF
      subst hF
      go_wp2_with fail
      go_ret
      exact ⟨rfl, HE.out⟩
set_option maxHeartbeats 1000000 in
theorem sound_ko (k : Int) (hk : ¬ k = 1 ∧ ¬ k = 2 ∧ ¬ k = 3 ∧ ¬ k = 4 ∧ ¬ k = 5 ∧ ¬ k = 6 ∧ ¬ k = 7 ∧ ¬ k = 8 ∧ ¬ k = 9 ∧ ¬ k = 10 ∧ ¬ k = 11) (i : Int) (s : ByteArray) (l : List Tr) (ns : List ByteArray) (ds : List Tr) (la da : Option Addr) (lc dc : Nat) (w : World) (H : s.size ≤ maxLen ∧ l.length ≤ lc ∧ lc ≤ maxLen ∧ ds.length ≤ dc ∧ dc ≤ maxLen ∧ ns.length = ds.length ∧ LRep w la 0 l ∧ DRep w da 0 ns ds ∧ Tabs w ∧ ∀ t, t ∈ l ∨ t ∈ ds → SoundOk t) :
    Calls Tryz.prog 52 #[.agg #[.int .i64 k, .int .i64 i, .string s, .slice la l.length lc, .slice da ds.length dc]] w fun e w' => e = .returned (.bool (snd (.mk k i s l ns ds))) ∧ Ext w w' := by
  obtain ⟨hs, hl1, hl2, hd1, hd2, hln, hL, hD, hT, ih⟩ := H
  obtain ⟨n1, n2, n3, n4, n5, n6, n7, n8, n9, n10, n11⟩ := hk
  have b1 : (k == 1) = false := by simpa using n1
  have b2 : (k == 2) = false := by simpa using n2
  have b3 : (k == 3) = false := by simpa using n3
  have b4 : (k == 4) = false := by simpa using n4
  have b5 : (k == 5) = false := by simpa using n5
  have b6 : (k == 6) = false := by simpa using n6
  have b7 : (k == 7) = false := by simpa using n7
  have b8 : (k == 8) = false := by simpa using n8
  have b9 : (k == 9) = false := by simpa using n9
  have b10 : (k == 10) = false := by simpa using n10
  have b11 : (k == 11) = false := by simpa using n11
  have c5 : (k != 5) = true := by simpa using n5
  have c6 : (k != 6) = true := by simpa using n6
  by_cases hi : i = 0
  case neg =>
    rw [show snd (.mk k i s l ns ds) = false by simp [snd, headOk, hi, n1, n2, n3, n4, n5, n6, n7, n8, n9, n10, n11]]
    have hi' : (i != 0) = true := by simpa using hi
    clear ih hL hD hT hi hl1 hl2 hd1 hd2 hln n1 n2 n3 n4 n5 n6 n7 n8 n9 n10 n11
    go_enter Tryz.func52, Tryz.ntmps52
    go_wp2_with fail
    go_ret
    exact ⟨rfl, by repeat (first | with_reducible assumption | with_reducible exact Ext.refl _ | with_reducible refine Ext.drew ?_ | with_reducible refine Ext.alloc ?_ _ | ((with_reducible refine Ext.setCell ?_ ?_ _); rotate_left; (· first | exact Nat.le_refl _ | (simp; done) | omega | (simp; omega))))⟩
  subst hi
  by_cases hz : s.size = 0
  case neg =>
    rw [show snd (.mk k 0 s l ns ds) = false by simp [snd, headOk, hz, n1, n2, n3, n4, n5, n6, n7, n8, n9, n10, n11]]
    have hz' := bytes_some hz
    clear ih hL hD hT hz hl1 hl2 hd1 hd2 hln n1 n2 n3 n4 n5 n6 n7 n8 n9 n10 n11
    go_enter Tryz.func52, Tryz.ntmps52
    go_wp2_with fail
    go_ret
    exact ⟨rfl, by repeat (first | with_reducible assumption | with_reducible exact Ext.refl _ | with_reducible refine Ext.drew ?_ | with_reducible refine Ext.alloc ?_ _ | ((with_reducible refine Ext.setCell ?_ ?_ _); rotate_left; (· first | exact Nat.le_refl _ | (simp; done) | omega | (simp; omega))))⟩
  obtain rfl := bytes_nil hz
  clear hz
  by_cases hz : l = []
  case neg =>
    have hz' : 0 < l.length := List.length_pos_iff.2 hz
    rw [show snd (.mk k 0 ⟨#[]⟩ l ns ds) = false by simp [snd, headOk, hz, n1, n2, n3, n4, n5, n6, n7, n8, n9, n10, n11]]
    have e1 : decide (0 < (l.length : Int)) = true := by simpa using hz'
    clear ih hL hD hT hz hl1 hl2 hd1 hd2 hln n1 n2 n3 n4 n5 n6 n7 n8 n9 n10 n11
    go_enter Tryz.func52, Tryz.ntmps52
    go_wp2_with fail
    go_ret
    exact ⟨rfl, by repeat (first | with_reducible assumption | with_reducible exact Ext.refl _ | with_reducible refine Ext.drew ?_ | with_reducible refine Ext.alloc ?_ _ | ((with_reducible refine Ext.setCell ?_ ?_ _); rotate_left; (· first | exact Nat.le_refl _ | (simp; done) | omega | (simp; omega))))⟩
  subst hz
  by_cases hz : ds = []
  case neg =>
    have hz' : 0 < ds.length := List.length_pos_iff.2 hz
    rw [show snd (.mk k 0 ⟨#[]⟩ [] ns ds) = false by simp [snd, headOk, hz, n1, n2, n3, n4, n5, n6, n7, n8, n9, n10, n11]]
    have e1 : decide (0 < (ds.length : Int)) = true := by simpa using hz'
    clear ih hL hD hT hz hl1 hl2 hd1 hd2 hln n1 n2 n3 n4 n5 n6 n7 n8 n9 n10 n11
    go_enter Tryz.func52, Tryz.ntmps52
    go_wp2_with fail
    go_ret
    exact ⟨rfl, by repeat (first | with_reducible assumption | with_reducible exact Ext.refl _ | with_reducible refine Ext.drew ?_ | with_reducible refine Ext.alloc ?_ _ | ((with_reducible refine Ext.setCell ?_ ?_ _); rotate_left; (· first | exact Nat.le_refl _ | (simp; done) | omega | (simp; omega))))⟩
  subst hz
  rw [show snd (.mk k 0 ⟨#[]⟩ [] ns []) = false by simp [snd, leafOk, n1, n2, n3, n4, n5, n6, n7, n8, n9, n10, n11]]
  clear ih hL hD hT hl1 hl2 hd1 hd2 hln n1 n2 n3 n4 n5 n6 n7 n8 n9 n10 n11
  go_enter Tryz.func52, Tryz.ntmps52
  go_wp2_with fail
  go_ret
  exact ⟨rfl, by repeat (first | with_reducible assumption | with_reducible exact Ext.refl _ | with_reducible refine Ext.drew ?_ | with_reducible refine Ext.alloc ?_ _ | ((with_reducible refine Ext.setCell ?_ ?_ _); rotate_left; (· first | exact Nat.le_refl _ | (simp; done) | omega | (simp; omega))))⟩
theorem sound_step (t : Tr) (ih : ∀ p, p.sz < t.sz → SoundOk p) : SoundOk t := by
  intro v w hV hT
  obtain ⟨k, i, s, l, ns, ds⟩ := t
  unfold VRep at hV
  obtain ⟨la, lc, da, dc, rfl, hs, hl1, hl2, hd1, hd2, hnd, hL, hD⟩ := hV
  have ih2 : ∀ t, t ∈ l ∨ t ∈ ds → SoundOk t := fun t ht => ih t (by rcases ht with h | h; exact Tr.sz_list h; exact Tr.sz_docs h)
  clear ih
  by_cases k1 : k = 1
  · subst k1; exact sound_k1 i s l ns ds la da lc dc w ⟨hs.1, hl1.1, hl2, hd1.1, hd2, hnd, hL, hD, hT, ih2⟩
  by_cases k2 : k = 2
  · subst k2; exact sound_k2 i s l ns ds la da lc dc w ⟨hs.1, hl1.1, hl2, hd1.1, hd2, hnd, hL, hD, hT, ih2⟩
  by_cases k3 : k = 3
  · subst k3; exact sound_k3 i s l ns ds la da lc dc w ⟨hs.1, hl1.1, hl2, hd1.1, hd2, hnd, hL, hD, hT, ih2⟩
  by_cases k4 : k = 4
  · subst k4; exact sound_k4 i s l ns ds la da lc dc w ⟨hs.1, hl1.1, hl2, hd1.1, hd2, hnd, hL, hD, hT, ih2⟩
  by_cases k5 : k = 5
  · subst k5; exact sound_k5 i s l ns ds la da lc dc w ⟨hs.1, hl1.1, hl2, hd1.1, hd2, hnd, hL, hD, hT, ih2⟩
  by_cases k6 : k = 6
  · subst k6; exact sound_k6 i s l ns ds la da lc dc w ⟨hs.1, hl1.1, hl2, hd1.1, hd2, hnd, hL, hD, hT, ih2⟩
  by_cases k7 : k = 7
  · subst k7; exact sound_k7 i s l ns ds la da lc dc w ⟨hs.1, hl1.1, hl2, hd1.1, hd2, hnd, hL, hD, hT, ih2⟩
  by_cases k8 : k = 8
  · subst k8; exact sound_k8 i s l ns ds la da lc dc w ⟨hs.1, hl1.1, hl2, hd1.1, hd2, hnd, hL, hD, hT, ih2⟩
  by_cases k9 : k = 9
  · subst k9; exact sound_k9 i s l ns ds la da lc dc w ⟨hs.1, hl1.1, hl2, hd1.1, hd2, hnd, hL, hD, hT, ih2⟩
  by_cases k10 : k = 10
  · subst k10; exact sound_k10 i s l ns ds la da lc dc w ⟨hs.1, hl1.1, hl2, hd1.1, hd2, hnd, hL, hD, hT, ih2⟩
  by_cases k11 : k = 11
  · subst k11; exact sound_k11 i s l ns ds la da lc dc w ⟨hs.1, hl1.1, hl2, hd1.1, hd2, hnd, hL, hD, hT, ih2⟩
  exact sound_ko k ⟨k1, k2, k3, k4, k5, k6, k7, k8, k9, k10, k11⟩ i s l ns ds la da lc dc w ⟨hs.1, hl1.1, hl2, hd1.1, hd2, hnd, hL, hD, hT, ih2⟩
theorem sound_ok (t : Tr) : SoundOk t := by
  have : ∀ n (t : Tr), t.sz = n → SoundOk t := by
    intro n
    induction n using Nat.strongRecOn with
    | _ n ih => intro t ht; exact sound_step t (fun p hp => ih p.sz (by rw [← ht]; exact hp) p rfl)
  exact this _ t rfl
end Go.Proofs.YtplokbmdcfakbaaGreatDoor
