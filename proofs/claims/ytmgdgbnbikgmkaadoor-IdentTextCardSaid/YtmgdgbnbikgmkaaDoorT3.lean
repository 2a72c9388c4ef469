/- Split, Text and Parse, both of each, at every value and every string, in one form. -/
import Derived.Test.YtmgdgbnbikgmkaaDoorP2
namespace Go.Proofs.YtmgdgbnbikgmkaaDoor
open Go.RowKit
section
variable (k i : Int) (s : ByteArray) (la da : Option Addr) (ln lc dn dc : Nat) (w : World)
def valOk : Bool := k == 8 && idOk i s ln dn
theorem valOk_true (h : valOk k i s ln dn = true) : k = 8 ∧ i = 0 ∧ ln = 0 ∧ dn = 0 ∧ s.size = 12 := by
  simp only [valOk, idOk, Bool.and_eq_true, beq_iff_eq] at h
  exact ⟨h.1, h.2.1.1.1, h.2.1.1.2, h.2.1.2, h.2.2⟩
theorem isID_any :
    Calls Tryd.prog 28 #[.agg #[.int .i64 k, .int .i64 i, .string s, .slice la ln lc, .slice da dn dc]] w fun e w' => e = .returned (.bool (valOk k i s ln dn)) ∧ Ext w w' := by
  by_cases hk : k = 8
  · subst hk
    have : valOk 8 i s ln dn = idOk i s ln dn := by simp [valOk]
    rw [this]
    exact isID_id i s la da ln lc dn dc w
  · have : valOk k i s ln dn = false := by simp [valOk, hk]
    rw [this]
    exact isID_no i s la da ln lc dn dc w k (by simpa using hk)
def errK : Int := if valOk k i s ln dn then 0 else 8
def spl (j : Nat) : Int := if valOk k i s ln dn then part s j 12 else 0
def txt : ByteArray := if valOk k i s ln dn then strOfNums (hexL s.data.toList) else ⟨#[]⟩
set_option maxHeartbeats 400000 in
theorem split_any :
    Calls Tryd.prog 13 #[.agg #[.int .i64 k, .int .i64 i, .string s, .slice la ln lc, .slice da dn dc]] w fun e w' => e = .returned (.tuple #[.int .i64 (spl k i s ln dn 0), .int .i64 (spl k i s ln dn 1), .int .i64 (spl k i s ln dn 2), .int .i64 (errK k i s ln dn)]) ∧ Ext w w' := by
  cases h : valOk k i s ln dn
  · have h0 : ∀ j, spl k i s ln dn j = 0 := fun j => by simp [spl, h]
    have h1 : errK k i s ln dn = 8 := by simp [errK, h]
    rw [h0, h0, h0, h1]
    clear h0 h1
    go_enter Tryd.func13, Tryd.ntmps13
    go_wp2_with (go_at_call 28; refine (isID_any _ _ _ _ _ _ _ _ _ _).mono ?_; rintro e w1 ⟨rfl, h1⟩)
    refine bodyPost_ret (results_tmp4 rfl _ _ _) rfl ?_
    exact ⟨rfl, h1.of_alloc⟩
  · obtain ⟨rfl, rfl, rfl, rfl, hs⟩ := valOk_true k i s ln dn h
    have h0 : ∀ j, spl 8 0 s 0 0 j = part s j 12 := fun j => by simp [spl, h]
    have h1 : errK 8 0 s 0 0 = 0 := by simp [errK, h]
    rw [h0, h0, h0, h1]
    exact split_ok s hs la da lc dc w
set_option maxHeartbeats 400000 in
theorem text_any :
    Calls Tryd.prog 15 #[.agg #[.int .i64 k, .int .i64 i, .string s, .slice la ln lc, .slice da dn dc]] w fun e w' => e = .returned (.tuple #[.string (txt k i s ln dn), .int .i64 (errK k i s ln dn)]) ∧ Ext w w' := by
  cases h : valOk k i s ln dn
  · have h0 : txt k i s ln dn = ⟨#[]⟩ := by simp [txt, h]
    have h1 : errK k i s ln dn = 8 := by simp [errK, h]
    rw [h0, h1]
    clear h0 h1
    go_enter Tryd.func15, Tryd.ntmps15
    go_wp2_with (go_at_call 28; refine (isID_any _ _ _ _ _ _ _ _ _ _).mono ?_; rintro e w1 ⟨rfl, h1⟩)
    go_ret2
    exact ⟨rfl, h1.of_alloc⟩
  · obtain ⟨rfl, rfl, rfl, rfl, hs⟩ := valOk_true k i s ln dn h
    have h0 : txt 8 0 s 0 0 = strOfNums (hexL s.data.toList) := by simp [txt, h]
    have h1 : errK 8 0 s 0 0 = 0 := by simp [errK, h]
    rw [h0, h1]
    exact text_ok s hs la da lc dc w
set_option maxHeartbeats 400000 in
theorem rsplit_any :
    Calls Tryd.prog 14 #[.agg #[.int .i64 k, .int .i64 i, .string s, .slice la ln lc, .slice da dn dc]] w fun e w' => e = .returned (.tuple #[.int .i64 (spl k i s ln dn 0), .int .i64 (spl k i s ln dn 1), .int .i64 (spl k i s ln dn 2), .int .i64 (errK k i s ln dn)]) ∧ Ext w w' := by
  cases h : valOk k i s ln dn
  · have h0 : ∀ j, spl k i s ln dn j = 0 := fun j => by simp [spl, h]
    have h1 : errK k i s ln dn = 8 := by simp [errK, h]
    rw [h0, h0, h0, h1]
    clear h0 h1
    by_cases hk : k = 8
    · subst hk
      have hid : idOk i s ln dn = false := by simpa [valOk] using h
      clear h
      go_enter Tryd.func14, Tryd.ntmps14
      go_wp2_with (go_at_call 29; refine (RValid_id _ _ _ _ _ _ _ _ _).mono ?_; rintro e w1 ⟨rfl, h1⟩)
      refine bodyPost_ret (results_tmp4 rfl _ _ _) rfl ?_
      exact ⟨rfl, h1.of_alloc⟩
    · have hk' : (k != 8) = true := by simpa using hk
      clear h hk
      go_enter Tryd.func14, Tryd.ntmps14
      go_wp2_with fail
      refine bodyPost_ret (results_tmp4 rfl _ _ _) rfl ?_
      exact ⟨rfl, (Ext.refl w).alloc _⟩
  · obtain ⟨rfl, rfl, rfl, rfl, hs⟩ := valOk_true k i s ln dn h
    have h0 : ∀ j, spl 8 0 s 0 0 j = part s j 12 := fun j => by simp [spl, h]
    have h1 : errK 8 0 s 0 0 = 0 := by simp [errK, h]
    rw [h0, h0, h0, h1]
    exact rsplit_ok s hs la da lc dc w
set_option maxHeartbeats 400000 in
theorem rtext_any :
    Calls Tryd.prog 16 #[.agg #[.int .i64 k, .int .i64 i, .string s, .slice la ln lc, .slice da dn dc]] w fun e w' => e = .returned (.tuple #[.string (txt k i s ln dn), .int .i64 (errK k i s ln dn)]) ∧ Ext w w' := by
  cases h : valOk k i s ln dn
  · have h0 : txt k i s ln dn = ⟨#[]⟩ := by simp [txt, h]
    have h1 : errK k i s ln dn = 8 := by simp [errK, h]
    rw [h0, h1]
    clear h0 h1
    by_cases hk : k = 8
    · subst hk
      have hid : idOk i s ln dn = false := by simpa [valOk] using h
      clear h
      go_enter Tryd.func16, Tryd.ntmps16
      go_wp2_with (go_at_call 29; refine (RValid_id _ _ _ _ _ _ _ _ _).mono ?_; rintro e w1 ⟨rfl, h1⟩)
      go_ret2
      exact ⟨rfl, h1.of_alloc⟩
    · have hk' : (k != 8) = true := by simpa using hk
      clear h hk
      go_enter Tryd.func16, Tryd.ntmps16
      go_wp2_with fail
      go_ret2
      exact ⟨rfl, (Ext.refl w).alloc _⟩
  · obtain ⟨rfl, rfl, rfl, rfl, hs⟩ := valOk_true k i s ln dn h
    have h0 : txt 8 0 s 0 0 = strOfNums (hexL s.data.toList) := by simp [txt, h]
    have h1 : errK 8 0 s 0 0 = 0 := by simp [errK, h]
    rw [h0, h1]
    exact rtext_ok s hs la da lc dc w
end
section
variable (s : ByteArray) (w : World)
def prOk : Bool := s.size == 24 && allHex s
def prK : Int := if prOk s then 8 else 0
def prS : ByteArray := if prOk s then parsed s else ⟨#[]⟩
def prE : Int := if prOk s then 0 else 4
theorem parseRes_eq (hs : s.size = 24) : parseRes s = .tuple #[.agg #[.int .i64 (prK s), .int .i64 0, .string (prS s), .slice none 0 0, .slice none 0 0], .int .i64 (prE s)] := by
  cases h : allHex s
  · have h1 : prOk s = false := by simp [prOk, h]
    simp [parseRes, h, prK, prS, prE, h1, noVal]
  · have h1 : prOk s = true := by simp [prOk, h, hs]
    simp [parseRes, h, prK, prS, prE, h1, idVal]
theorem pr_no (hs : ¬ s.size = 24) : Value.tuple #[noVal, .int .i64 4] = .tuple #[.agg #[.int .i64 (prK s), .int .i64 0, .string (prS s), .slice none 0 0, .slice none 0 0], .int .i64 (prE s)] := by
  have h1 : prOk s = false := by simp [prOk, hs]
  simp [prK, prS, prE, h1, noVal]
theorem parse_any :
    Calls Tryd.prog 17 #[.string s] w fun e w' => e = .returned (.tuple #[.agg #[.int .i64 (prK s), .int .i64 0, .string (prS s), .slice none 0 0, .slice none 0 0], .int .i64 (prE s)]) ∧ Ext w w' := by
  by_cases hs : s.size = 24
  · rw [← parseRes_eq s hs]; exact parse_ok s hs w
  · rw [← pr_no s hs]; exact parse_no s (by simp; omega) w
theorem rparse_any :
    Calls Tryd.prog 18 #[.string s] w fun e w' => e = .returned (.tuple #[.agg #[.int .i64 (prK s), .int .i64 0, .string (prS s), .slice none 0 0, .slice none 0 0], .int .i64 (prE s)]) ∧ Ext w w' := by
  by_cases hs : s.size = 24
  · rw [← parseRes_eq s hs]; exact rparse_ok s hs w
  · rw [← pr_no s hs]; exact rparse_no s (by simp; omega) w
end
end Go.Proofs.YtmgdgbnbikgmkaaDoor
