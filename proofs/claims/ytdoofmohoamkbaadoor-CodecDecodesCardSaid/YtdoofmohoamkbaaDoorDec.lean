/- codec.Read, Decode. -/
import Derived.Test.YtdoofmohoamkbaaDoorRdRead
set_option linter.unusedSimpArgs false
set_option linter.unusedVariables false
namespace Go.Proofs.YtdoofmohoamkbaaDoor
open Go.RowKit
theorem Read_ok (s : ByteArray) (x : Int) (w : World) (hs : s.size ≤ 1000000000000000) (hT : Tabs w) : Calls Tryd.prog 16 #[.string s, .int .i64 x] w (ReadPost w (readR s x)) := by
  unfold readR
  by_cases h : x < 0 ∨ (s.size : Int) < x
  · rw [if_pos h]; exact Read_out s x w h hs
  · rw [if_neg h]
    obtain ⟨p, rfl⟩ := Int.eq_ofNat_of_zero_le (show 0 ≤ x by omega)
    exact Read_in s p w (by omega) hs hT
def decR (s : ByteArray) : Tr × Int := if (readR s 0).2.2 ≠ 0 then (zeroT, (readR s 0).2.2) else if (readR s 0).2.1 < s.size then (zeroT, 6) else ((readR s 0).1, 0)
/-- the end of Decode -/
def DecPost (w : World) (r : Tr × Int) (e : Ending) (w' : World) : Prop := ∃ v, e = .returned (.tuple #[v, .int .i64 r.2]) ∧ VRep w' r.1 v ∧ Ext w w'
set_option maxRecDepth 20000 in
set_option maxHeartbeats 1000000 in
theorem Decode_ok (s : ByteArray) (w : World) (hs : s.size ≤ 1000000000000000) (hT : Tabs w) : Calls Tryd.prog 19 #[.string s] w (DecPost w (decR s)) := by
  obtain ⟨r, hr⟩ : ∃ r, readR s 0 = r := ⟨_, rfl⟩
  obtain ⟨q, hq⟩ : ∃ q, decR s = q := ⟨_, rfl⟩
  have hD := hq
  unfold decR at hD
  rw [hr] at hD
  rw [hq]
  have HD := Lib.hid hD
  have HR := Lib.hid hr
  have HT := Lib.hid hT
  clear hD hr hq hT
  obtain ⟨t, n, c⟩ := r
  go_enter Tryd.func19, Tryd.ntmps19
  go_wp2_with fail
  refine (Read_ok s 0 _ hs (HT.out.ext ((Ext.refl w).alloc _))).mono ?_
  rw [HR.out]
  rintro e w1 ⟨v, rfl, hv, h1⟩
  have HV : Hid (VNew (w.heap.size + 1) w1.heap.size w1 t v) := by
    have := hv
    simp at this
    exact this
  have k1 := h1.ownc
  have f1 := h1.ownf
  have l1 := h1.lt
  have HE := Lib.hid h1.of_alloc
  obtain ⟨k', i', s', la', ln', lc', da', dn', dc', rfl⟩ := VRep.shape (show VRep (win _ w1) t v from HV.out)
  clear hv
  by_cases hc : c = 0
  case neg =>
    have e := HD.out
    rw [if_pos hc] at e
    subst e
    have d1 : (c != 0) = true := by simpa using hc
    clear hc
    go_wp2_with fail
    refine bodyPost_ret (v := .tuple #[zeroV, .int .i64 c]) (by simp only [results, Tryd.results19, zeroV]; go_simp) rfl ⟨_, rfl, zeroV_rep _, ?_⟩
    repeat (first | with_reducible exact HE.out | with_reducible refine Ext.drew ?_ | with_reducible refine Ext.alloc ?_ _ | with_reducible refine Ext.setCell ?_ (Nat.le_refl _) _)
  subst hc
  have e := HD.out
  rw [if_neg (by simp)] at e
  by_cases hn : n < (s.size : Int)
  · rw [if_pos hn] at e
    subst e
    have d1 : decide (n < (s.size : Int)) = true := by simpa using hn
    go_wp2_with fail
    refine bodyPost_ret (v := .tuple #[zeroV, .int .i64 6]) (by simp only [results, Tryd.results19, zeroV]; go_simp) rfl ⟨_, rfl, zeroV_rep _, ?_⟩
    repeat (first | with_reducible exact HE.out | with_reducible refine Ext.drew ?_ | with_reducible refine Ext.alloc ?_ _ | with_reducible refine Ext.setCell ?_ (Nat.le_refl _) _)
  · rw [if_neg hn] at e
    subst e
    have d1 : decide (n < (s.size : Int)) = false := by simpa using hn
    go_wp2_with fail
    refine bodyPost_ret (v := .tuple #[.agg #[.int .i64 k', .int .i64 i', .string s', .slice la' ln' lc', .slice da' dn' dc'], .int .i64 0]) (by simp only [results, Tryd.results19]; go_simp) rfl ⟨_, rfl, ?_, ?_⟩
    · refine (HV.out.keep (lo' := 0) (hi' := w1.heap.size) (by omega) (Nat.le_refl _) (fun i a b => ?_)).rep
      rw [Below.heap_alloc _ _ i (by simp [World.setCell]; omega), Below.heap_setCell _ _ _ i (by simp; omega), Below.heap_setCell _ _ _ i (by simp; omega), Below.heap_setCell _ _ _ i (by simp; omega), Below.heap_setCell _ _ _ i (by simp; omega), Below.heap_setCell _ _ _ i (by simp; omega)]
    · repeat (first | with_reducible exact HE.out | with_reducible refine Ext.drew ?_ | with_reducible refine Ext.alloc ?_ _ | with_reducible refine Ext.setCell ?_ (Nat.le_refl _) _)
end Go.Proofs.YtdoofmohoamkbaaDoor
