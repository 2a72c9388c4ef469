/- Contracts that were shown by hand, in the form that the printed ones have. -/
import Derived.Test.YtplokbmdcfakbaaGreatDoorQV5
import Derived.Test.YtplokbmdcfakbaaGreatDoorQVSl
import Derived.Test.YtplokbmdcfakbaaGreatDoorQVValid
import Derived.Deep.OwnRows
import Derived.Laws.OwnMore
import Derived.Laws.MakeOwn
set_option linter.unusedSimpArgs false
set_option linter.unusedVariables false
namespace Go.Proofs.YtplokbmdcfakbaaGreatDoor
open Go.RowKit
def oneT (t : ByteArray) : Tr := .mk 5 0 ⟨#[]⟩ [] [t] [.mk 2 0 ⟨#[]⟩ [] [] []]
theorem oneT_valid (t : ByteArray) : validB (oneT t) = nameB t := by
  have e : (⟨#[]⟩ : ByteArray) = ByteArray.empty := rfl
  unfold oneT validB
  simp [e, snd, sndL, sndF, headOk, leafOk, hasN, Tr.cnt, Tr.cntL, Tr.dep, Tr.depL]
theorem leaf_rep0 (w : World) (k : Int) (hk : I64 k) : VRep w (.mk k 0 ⟨#[]⟩ [] [] []) (.agg #[.int .i64 k, .int .i64 0, .string ⟨#[]⟩, .slice none 0 0, .slice none 0 0]) := by
  unfold VRep
  exact ⟨none, 0, none, 0, rfl, ⟨by unfold maxLen; decide, hk, by unfold I64; omega⟩, ⟨Nat.le_refl _, by simp⟩, by unfold maxLen; omega, ⟨Nat.le_refl _, by simp⟩, by unfold maxLen; omega, rfl, by unfold LRep; trivial, by unfold DRep; trivial⟩
theorem oneT_rep (w : World) (g : Nat) (t : ByteArray) (ht : t.size ≤ maxLen) (h : w.heap[g]? = some (.cells #[.string t, .int .i64 2, .int .i64 0, .string ⟨#[]⟩, .slice none 0 0, .slice none 0 0] 89 (0, 0))) : VRep w (oneT t) (.agg #[.int .i64 5, .int .i64 0, .string ⟨#[]⟩, .slice none 0 0, .slice (some ⟨g, 0, none⟩) 1 1]) := by
  unfold oneT VRep
  refine ⟨none, 0, some ⟨g, 0, none⟩, 1, rfl, ⟨by unfold maxLen; decide, by unfold I64; omega, by unfold I64; omega⟩, ⟨Nat.le_refl _, by simp⟩, by unfold maxLen; omega, ⟨Nat.le_refl _, by simp⟩, by unfold maxLen; omega, rfl, by unfold LRep; trivial, ?_⟩
  unfold DRep
  have hc := blk_cell h
  refine ⟨⟨g, 0, .int .i64 2, .int .i64 0, .string ⟨#[]⟩, .slice none 0 0, .slice none 0 0, rfl, ht, ?_, ?_, ?_, ?_, ?_, ?_, leaf_rep0 _ 2 (by unfold I64; omega)⟩, by unfold DRep; trivial⟩
  all_goals (rw [hc]; rfl)
set_option maxRecDepth 20000 in
set_option maxHeartbeats 4000000 in
theorem named_ok (s : ByteArray) (w : World) (hs : s.size ≤ maxLen) (hT : Tabs w) : Calls Tryz.prog 18 #[.string s] w fun e w' => e = .returned (.bool (nameB s)) ∧ Ext w w' := by
  have HT := Lib.hid hT
  clear hT
  rw [← oneT_valid]
  obtain ⟨r, hr⟩ : ∃ r, validB (oneT s) = r := ⟨_, rfl⟩
  rw [hr]
  have HR := Lib.hid hr
  clear hr
  go_enter Tryz.func18, Tryz.ntmps18
  go_wp2_with fail
  refine (Valid_ok (oneT s) _ _ (oneT_rep _ (w.heap.size + 1) s hs (blk_at1 w _ _)) (HT.out.ext (((Ext.refl w).alloc _).alloc _))).mono ?_
  rintro e w1 ⟨rfl, h1⟩
  rw [HR.out]
  have HE := Lib.hid h1.of_alloc.of_alloc
  clear h1
  go_wp2_with fail
  go_ret
  exact ⟨rfl, HE.out⟩
theorem VRs.cons1 {e : Env} {x : AV} {l : List AV} {vs : List Value} (h : VRs e (x :: l) vs) : ∃ v q, vs = v :: q ∧ VR e x v ∧ VRs e l q := by unfold VRs at h; exact h
theorem VRs.nil1 {e : Env} {vs : List Value} (h : VRs e [] vs) : vs = [] := by unfold VRs at h; exact h
noncomputable def Q73 (l : List Int) : Option (List Int) := if l.length ≤ 16777216 then some l else none
theorem Q73_ok (l : List Int) (r : List Int) (h : Q73 l = some r) : FnH Tryz.prog GI 16 [.lf (.rows 1 (l.map lfI))] [] (.own 0) [.row 3 1 (r.map lfI)] := by
  obtain ⟨hb, h⟩ := guard_some h
  injection h with h; subst h
  refine ⟨by kernel_rfl, fun e C w vs hG hM hvs => ?_⟩
  obtain ⟨v, q, rfl, h1, h2⟩ := VRs.cons1 hvs
  obtain rfl := VRs.nil1 h2
  refine (CloneI_ok l v e.I w (VR.lf.1 h1) hM.inv hb).mono ?_
  rintro en w' ⟨v', rfl, hA, he⟩
  obtain ⟨xs, k1, k2, k3, k4⟩ := hA
  have hn : ∀ b, ¬ e.ok b := fun b hb => by have := hM.bound b hb; simp at this
  have h0 : ∀ b (s : Slot), [Slot.row 3 1 (l.map lfI)][b]? = some s → b = 0 ∧ s = Slot.row 3 1 (l.map lfI) := fun b s hs => by
    cases b with
    | zero => simpa using hs.symm
    | succ b => simp at hs
  have hsh : ∃ a ln c, v' = .slice a ln c := by
    rcases k1.2 with ⟨rfl, _⟩ | ⟨g, cap, cur, rfl, _⟩
    · exact ⟨_, _, _, rfl⟩
    · exact ⟨_, _, _, rfl⟩
  have hlow : w'.ownsRow 0 3 1 v' (l.map lfI).length xs := by
    have := Acc.low (base' := 0) (⟨xs, k1, k2, k3, k4⟩ : Acc e.I w' w.heap.size 3 1 v' (ints l)) (Nat.zero_le _)
    refine ⟨k1.1, ?_⟩
    rcases k1.2 with h | ⟨g, cap, cur, h3, hg, hr⟩
    · exact .inl h
    · exact .inr ⟨g, cap, cur, h3, Nat.zero_le _, hr⟩
  refine ⟨⟨fun b => b = 0, e.m, fun _ => v', e.I⟩, fun _ => xs, v', rfl, ⟨⟨fun b hb => absurd hb (hn b), fun b hb => absurd hb (hn b), fun b hb => absurd hb (hn b), Le.refl _⟩, ?_, fun b o u h3 h4 => ?_, fun g h3 => ?_⟩, ⟨fun b s hs => ?_, fun b s hs => ?_, fun b hb => ?_, fun b b' s s' g h3 h4 _ _ => ?_, fun b s g hs hg => ?_, hM.inv.ext he⟩, ?_⟩
  · obtain ⟨q1, q2, q3, q4, q5⟩ := he
    exact ⟨q1, q2, q3, q4, fun i hi _ => q5 i hi⟩
  · have h3 : e.I b o = some u := h3
    rw [h4] at h3; cases h3
  · obtain ⟨b, s, hs, hg⟩ := h3
    obtain ⟨rfl, rfl⟩ := h0 b s hs
    left
    have hg : v'.ownBlock = some g := hg
    rcases k1.2 with ⟨rfl, _⟩ | ⟨g', cap, cur, rfl, hg', _⟩
    · cases hg
    · injection hg with hg; subst hg; exact hg'
  · obtain ⟨rfl, rfl⟩ := h0 b s hs
    refine ⟨rfl, k2, k3, ?_, ?_⟩
    · rw [List.length_map]; unfold maxLen; omega
    · rcases k1.2 with ⟨rfl, h5⟩ | ⟨g', cap, cur, rfl, _⟩
      · exact .inl ⟨rfl, List.eq_nil_of_length_eq_zero h5⟩
      · exact .inr ⟨g', cap, rfl⟩
  · obtain ⟨rfl, rfl⟩ := h0 b s hs
    exact hlow
  · obtain rfl : b = 0 := hb
    simp
  · rw [(h0 b s h3).1, (h0 b' s' h4).1]
  · obtain ⟨rfl, rfl⟩ := h0 b s hs
    exact k4 g hg
  · unfold VR; exact ⟨rfl, rfl, hsh⟩
theorem Fn.of {P : Program} {G : Gh → Prop} {f : FuncId} {args : List AV} {res : AV} (hc : callB P f = true) (h : ∀ I w vs, G I → Inv I w → VRs (env0 I) args vs → Calls P f vs.toArray w fun e w' => ∃ I' v, e = .returned v ∧ Gr I I' w w' ∧ VR (env0 I') res v) : Fn P G f args res := ⟨hc, h⟩
noncomputable def Q103 (s : ByteArray) : Option Bool := some (nameB s)
theorem Q103_ok (s : ByteArray) (r : Bool) (h : Q103 s = some r) : Fn Tryz.prog GI 18 [.lf (.str s)] (.lf (.bool r)) := by
  injection h with h; subst h
  refine Fn.of (by kernel_rfl) fun I w vs hG hi hvs => ?_
  obtain ⟨v, q, rfl, h1, h2⟩ := VRs.cons1 hvs
  obtain rfl := VRs.nil1 h2
  obtain ⟨rfl, hs⟩ := (VR.lf.1 h1).str
  refine (named_ok s w hs (hG w hi)).mono ?_
  rintro e w' ⟨rfl, he⟩
  exact ⟨I, _, rfl, Gr.of_ext hi he, VR.lf.2 (by unfold LRp; rfl)⟩
noncomputable def Q100 (l : List Bool) : Option (List Bool) := if l.length ≤ 16777216 then some l else none
theorem Q100_ok (l : List Bool) (r : List Bool) (h : Q100 l = some r) : Fn Tryz.prog GI 36 [.lf (.rows 1 (l.map lfB))] (.lf (.rows 1 (r.map lfB))) := by
  obtain ⟨hb, h⟩ := guard_some h
  injection h with h; subst h
  refine Fn.of (by kernel_rfl) fun I w vs hG hi hvs => ?_
  obtain ⟨v, q, rfl, h1, h2⟩ := VRs.cons1 hvs
  obtain rfl := VRs.nil1 h2
  refine (CloneB_ok l v I w (VR.lf.1 h1) hi hb).mono ?_
  rintro e w' ⟨v', rfl, hA, he⟩
  obtain ⟨I', g, hr⟩ := hA.done (hi.ext he) (Nat.le_refl _) he
  exact ⟨I', v', rfl, g, VR.lf.2 hr⟩
end Go.Proofs.YtplokbmdcfakbaaGreatDoor
