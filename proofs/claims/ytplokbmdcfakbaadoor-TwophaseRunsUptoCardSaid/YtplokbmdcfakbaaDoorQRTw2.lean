/- twophase.named, Start. -/
import Derived.Test.YtplokbmdcfakbaaDoorQRTw1
import Derived.Deep.OwnRows
import Derived.Laws.OwnMore
import Derived.Laws.MakeOwn
set_option linter.unusedSimpArgs false
set_option linter.unusedVariables false
namespace Go.Proofs.YtplokbmdcfakbaaDoor
open Go.RowKit
def oneT (t : ByteArray) : Tr := .mk 5 0 ⟨#[]⟩ [] [t] [.mk 2 0 ⟨#[]⟩ [] [] []]
theorem oneT_valid (t : ByteArray) : validB (oneT t) = nameB t := by
  have e : (⟨#[]⟩ : ByteArray) = ByteArray.empty := rfl
  unfold oneT validB
  simp [e, snd, sndL, sndF, headOk, leafOk, hasN, Tr.cnt, Tr.cntL, Tr.dep, Tr.depL]
theorem leaf_rep0 (w : World) (k : Int) (hk : I64 k) : VRep w (.mk k 0 ⟨#[]⟩ [] [] []) (.agg #[.int .i64 k, .int .i64 0, .string ⟨#[]⟩, .slice none 0 0, .slice none 0 0]) := by
  unfold VRep
  exact ⟨none, 0, none, 0, rfl, ⟨by unfold maxLen; decide, hk, by unfold I64; omega⟩, ⟨Nat.le_refl _, by simp⟩, by unfold maxLen; omega, ⟨Nat.le_refl _, by simp⟩, by unfold maxLen; omega, rfl, by unfold LRep; trivial, by unfold DRep; trivial⟩
theorem oneT_rep (w : World) (g : Nat) (t : ByteArray) (ht : t.size ≤ maxLen) (h : w.heap[g]? = some (.cells #[.string t, .int .i64 2, .int .i64 0, .string ⟨#[]⟩, .slice none 0 0, .slice none 0 0] 90 (0, 0))) : VRep w (oneT t) (.agg #[.int .i64 5, .int .i64 0, .string ⟨#[]⟩, .slice none 0 0, .slice (some ⟨g, 0, none⟩) 1 1]) := by
  unfold oneT VRep
  refine ⟨none, 0, some ⟨g, 0, none⟩, 1, rfl, ⟨by unfold maxLen; decide, by unfold I64; omega, by unfold I64; omega⟩, ⟨Nat.le_refl _, by simp⟩, by unfold maxLen; omega, ⟨Nat.le_refl _, by simp⟩, by unfold maxLen; omega, rfl, by unfold LRep; trivial, ?_⟩
  unfold DRep
  have hc := blk_cell h
  refine ⟨⟨g, 0, .int .i64 2, .int .i64 0, .string ⟨#[]⟩, .slice none 0 0, .slice none 0 0, rfl, ht, ?_, ?_, ?_, ?_, ?_, ?_, leaf_rep0 _ 2 (by unfold I64; omega)⟩, by unfold DRep; trivial⟩
  all_goals (rw [hc]; rfl)
set_option maxRecDepth 20000 in
set_option maxHeartbeats 4000000 in
theorem named_ok (s : ByteArray) (w : World) (hs : s.size ≤ maxLen) (hT : Tabs w) : Calls Tryd.prog 18 #[.string s] w fun e w' => e = .returned (.bool (nameB s)) ∧ Ext w w' := by
  have HT := Lib.hid hT
  clear hT
  rw [← oneT_valid]
  obtain ⟨r, hr⟩ : ∃ r, validB (oneT s) = r := ⟨_, rfl⟩
  rw [hr]
  have HR := Lib.hid hr
  clear hr
  go_enter Tryd.func18, Tryd.ntmps18
  go_wp2_with fail
  refine (Valid_ok (oneT s) _ _ (oneT_rep _ (w.heap.size + 1) s hs (blk_at1 w _ _)) (HT.out.ext (((Ext.refl w).alloc _).alloc _))).mono ?_
  rintro e w1 ⟨rfl, h1⟩
  rw [HR.out]
  have HE := Lib.hid h1.of_alloc.of_alloc
  clear h1
  go_wp2_with fail
  go_ret
  exact ⟨rfl, HE.out⟩
/-- numbers of shards, rising -/
def shR : List Int → Option Int → Bool
  | [], _ => true
  | x :: r, p => decide (0 ≤ x) && decide (x < 8) && (match p with | none => true | some y => decide (y < x)) && shR r (some x)
def startE (id : ByteArray) (l : List Int) : Dec × Int :=
  if nameB id = false then (zeroD, 9) else if l = [] then (zeroD, 1) else if shR l none = false then (zeroD, 1)
  else (⟨id, l, List.replicate l.length 0, 1, 0, List.replicate l.length false⟩, 0)
theorem acc_made_i {I : Gh} {w : World} {g n base : Nat} (h : w.heap[g]? = some (.cells (madeCells #[.int .i64 0] n) 3 (0, 0))) (hb : base ≤ g) (ha : Av I g) (hn : n ≤ maxLen) : Acc I w base 3 1 (.slice (some ⟨g, 0, none⟩) n n) (ints (List.replicate n 0)) := by
  refine ⟨(List.replicate n (0 : Int)).map fun x => .int .i64 x, ⟨by simp [ints_len], .inr ⟨g, n, _, by rw [ints_len]; simp, hb, h, by rw [ints_len]; simp, hn, by rw [size_madeCells]; omega, ?_⟩⟩, vs_ints I _ (fun x hx => by rw [List.eq_of_mem_replicate hx]; unfold I64; omega), fun r hr => ?_, fun g' hg => by injection hg with hg; subst hg; exact ha⟩
  · rw [toList_madeCells_one, ints_len]; simp
  · obtain ⟨x, _, rfl⟩ := List.mem_map.1 (show r ∈ List.map _ _ from hr); rfl
theorem acc_made_b {I : Gh} {w : World} {g n base : Nat} (h : w.heap[g]? = some (.cells (madeCells #[.bool false] n) 4 (0, 0))) (hb : base ≤ g) (ha : Av I g) (hn : n ≤ maxLen) : Acc I w base 4 1 (.slice (some ⟨g, 0, none⟩) n n) (bools (List.replicate n false)) := by
  refine ⟨(List.replicate n false).map fun x => .bool x, ⟨by simp [bools_len], .inr ⟨g, n, _, by rw [bools_len]; simp, hb, h, by rw [bools_len]; simp, hn, by rw [size_madeCells]; omega, ?_⟩⟩, vs_bools I _, fun r hr => ?_, fun g' hg => by injection hg with hg; subst hg; exact ha⟩
  · rw [toList_madeCells_one, bools_len]; simp
  · obtain ⟨x, _, rfl⟩ := List.mem_map.1 (show r ∈ List.map _ _ from hr); rfl
def DPost (I : Gh) (w : World) (x : Dec × Int) (e : Ending) (w' : World) : Prop := ∃ I' v, Gr I I' w w' ∧ e = .returned (.tuple #[v, .int .i64 x.2]) ∧ DR I' x.1 v
theorem DPost.zero {I : Gh} {w w' : World} {c : Int} (hi : Inv I w) (he : Ext w w') : DPost I w (zeroD, c) (.returned (.tuple #[.agg #[.string ⟨#[]⟩, .slice none 0 0, .slice none 0 0, .int .i64 0, .int .i64 0, .slice none 0 0], .int .i64 c])) w' :=
  ⟨I, _, Gr.of_ext hi he, rfl, zeroD_rep I⟩
set_option maxRecDepth 20000 in
set_option maxHeartbeats 4000000 in
theorem Start_ok (id : ByteArray) (l : List Int) (v : Value) (I : Gh) (w : World) (hid : id.size ≤ 16777216) (hv : SI I v l) (hi : Inv I w) (hb : l.length ≤ 16777216) (hT : Tabs w) :
    Calls Tryd.prog 7 #[.string id, v] w (DPost I w (startE id l)) := by
  obtain ⟨a, c, rfl, hc1, hc2⟩ := hv.shape
  have HV := Lib.hid hv
  have HI := Lib.hid hi
  have HT := Lib.hid hT
  have hcm := hc2
  unfold maxLen at hc2
  clear hv hi hT
  obtain ⟨R, hR⟩ : ∃ R, startE id l = R := ⟨_, rfl⟩
  rw [hR]
  have HR := Lib.hid hR
  clear hR
  obtain ⟨n, hn⟩ : ∃ n, nameB id = n := ⟨_, rfl⟩
  have HN := Lib.hid hn
  have HE0 : Hid (Ext w (w.alloc (.cells #[.string ⟨#[]⟩, .slice none 0 0, .slice none 0 0, .int .i64 0, .int .i64 0, .slice none 0 0] 27))) := (Ext.refl w).alloc _
  have HY0 := Lib.hid (blk_at0 w (.cells #[.string ⟨#[]⟩, .slice none 0 0, .slice none 0 0, .int .i64 0, .int .i64 0, .slice none 0 0] 27))
  go_enter Tryd.func7, Tryd.ntmps7
  go_wp2_with fail
  obtain ⟨w0, hw0⟩ : ∃ W, w.alloc (.cells #[.string ⟨#[]⟩, .slice none 0 0, .slice none 0 0, .int .i64 0, .int .i64 0, .slice none 0 0] 27) = W := ⟨_, rfl⟩
  rw [hw0] at HE0 HY0 ⊢
  clear hw0
  refine (named_ok id w0 (by unfold maxLen; omega) (HT.out.ext HE0.out)).mono ?_
  rw [HN.out]
  rintro e w1 ⟨rfl, h1⟩
  have HE1 := Lib.hid (HE0.out.trans h1)
  have HY1 := Lib.hid (blk_ext HY0.out h1)
  clear h1 HE0 HY0
  have ck := blk_cell HY1.out
  have cf := blk_free HY1.out
  have lx := blk_lt HY1.out
  cases n
  · have e : R = (zeroD, 9) := by rw [← HR.out]; unfold startE; rw [if_pos hn]
    subst e
    clear hn
    go_wp2_with fail
    refine bodyPost_ret (v := .tuple #[.agg #[.string ⟨#[]⟩, .slice none 0 0, .slice none 0 0, .int .i64 0, .int .i64 0, .slice none 0 0], .int .i64 9]) (by simp only [results, Tryd.results7]; go_simp) rfl (DPost.zero HI.out ?_)
    have h := HE1.out
    repeat (first | with_reducible assumption | with_reducible exact Ext.refl _ | with_reducible refine Ext.drew ?_ | with_reducible refine Ext.alloc ?_ _ | ((with_reducible refine Ext.setCell ?_ ?_ _); rotate_left; (· first | exact Nat.le_refl _ | (simp; done) | omega | (simp; omega))))
  by_cases hl0 : l = []
  · subst hl0
    have e : R = (zeroD, 1) := by rw [← HR.out]; unfold startE; rw [if_neg (by rw [hn]; simp), if_pos rfl]
    subst e
    clear hn
    go_wp2_with fail
    refine bodyPost_ret (v := .tuple #[.agg #[.string ⟨#[]⟩, .slice none 0 0, .slice none 0 0, .int .i64 0, .int .i64 0, .slice none 0 0], .int .i64 1]) (by simp only [results, Tryd.results7]; go_simp) rfl (DPost.zero HI.out ?_)
    have h := HE1.out
    repeat (first | with_reducible assumption | with_reducible exact Ext.refl _ | with_reducible refine Ext.drew ?_ | with_reducible refine Ext.alloc ?_ _ | ((with_reducible refine Ext.setCell ?_ ?_ _); rotate_left; (· first | exact Nat.le_refl _ | (simp; done) | omega | (simp; omega))))
  have hlp : 0 < l.length := List.length_pos_iff.2 hl0
  have d0 : ((l.length : Int) == 0) = false := beq_eq_false_iff_ne.2 (by omega)
  have hbad : shR l none = false → R = (zeroD, 1) := fun h => by rw [← HR.out]; unfold startE; rw [if_neg (by rw [hn]; simp), if_neg hl0, if_pos h]
  have hgood : shR l none = true → R = (⟨id, l, List.replicate l.length 0, 1, 0, List.replicate l.length false⟩, 0) := fun h => by rw [← HR.out]; unfold startE; rw [if_neg (by rw [hn]; simp), if_neg hl0, if_neg (by rw [h]; simp)]
  have HBad := Lib.hid hbad
  have HGood := Lib.hid hgood
  clear hbad hgood hn hl0
  go_wp2_with fail
  go_loopw [20] (fun x wr => ∃ j : Nat, j ≤ l.length ∧ x = .int .i64 j ∧ Hid (shR (l.drop j) (if j = 0 then none else l[j - 1]?) = shR l none) ∧ wr = w1) (fun x _ => l.length - (intOf x).toNat)
  case atStart => exact ⟨0, by omega, rfl, rfl, rfl⟩
  case round =>
    obtain ⟨j, hj, rfl, HF, rfl⟩ := hrel
    by_cases hlt : j < l.length
    · obtain ⟨s, hs⟩ : ∃ s, l[j] = s := ⟨_, rfl⟩
      have hsj : l[j]? = some s := by rw [List.getElem?_eq_getElem hlt, hs]
      obtain ⟨b, off, rfl, hI⟩ := SI.at_ HV.out j s hsj
      have hcl := (HI.out.ext HE1.out) _ _ _ hI
      have hbl := (HI.out.ext HE1.out).lt hI
      have hF := HF.out
      rw [List.drop_eq_getElem_cons hlt, hs] at hF
      simp only [shR] at hF
      by_cases h0 : s < 0
      · have e := HBad.out (by rw [← hF, decide_eq_false (show ¬ 0 ≤ s by omega)]; rfl)
        subst e
        have d1 : decide (s < 0) = true := by simpa using h0
        clear hF hs hsj hI h0
        go_wp2_with fail
        refine bodyPost_ret (v := .tuple #[.agg #[.string ⟨#[]⟩, .slice none 0 0, .slice none 0 0, .int .i64 0, .int .i64 0, .slice none 0 0], .int .i64 1]) (by simp only [results, Tryd.results7]; go_simp) rfl (DPost.zero HI.out ?_)
        have h := HE1.out
        repeat (first | with_reducible assumption | with_reducible exact Ext.refl _ | with_reducible refine Ext.drew ?_ | with_reducible refine Ext.alloc ?_ _ | ((with_reducible refine Ext.setCell ?_ ?_ _); rotate_left; (· first | exact Nat.le_refl _ | (simp; done) | omega | (simp; omega))))
      by_cases h8 : 8 ≤ s
      · have e := HBad.out (by rw [← hF, decide_eq_false (show ¬ s < 8 by omega)]; simp)
        subst e
        have d1 : decide (s < 0) = false := by simp; omega
        have d2 : decide (8 ≤ s) = true := by simpa using h8
        clear hF hs hsj hI h0 h8
        go_wp2_with fail
        refine bodyPost_ret (v := .tuple #[.agg #[.string ⟨#[]⟩, .slice none 0 0, .slice none 0 0, .int .i64 0, .int .i64 0, .slice none 0 0], .int .i64 1]) (by simp only [results, Tryd.results7]; go_simp) rfl (DPost.zero HI.out ?_)
        have h := HE1.out
        repeat (first | with_reducible assumption | with_reducible exact Ext.refl _ | with_reducible refine Ext.drew ?_ | with_reducible refine Ext.alloc ?_ _ | ((with_reducible refine Ext.setCell ?_ ?_ _); rotate_left; (· first | exact Nat.le_refl _ | (simp; done) | omega | (simp; omega))))
      have d1 : decide (s < 0) = false := by simp; omega
      have d2 : decide (8 ≤ s) = false := by simp; omega
      rw [decide_eq_true (show 0 ≤ s by omega), decide_eq_true (show s < 8 by omega), Bool.true_and, Bool.true_and] at hF
      by_cases hj0 : j = 0
      · subst hj0
        rw [Nat.add_zero] at hcl
        have HF2 : Hid (shR (l.drop (0 + 1)) (if 0 + 1 = 0 then none else l[0 + 1 - 1]?) = shR l none) := by
          show _ = _
          rw [← hF]; simp [hsj]
        clear hF hs hsj hI h0 h8
        go_wp2_with fail
        exact ⟨⟨0 + 1, by omega, by go_num, HF2, trivial⟩, by simp [intOf]; omega⟩
      obtain ⟨q, hq⟩ : ∃ q, l[j - 1]? = some q := ⟨_, List.getElem?_eq_getElem (by omega)⟩
      obtain ⟨b', off', hb', hI'⟩ := SI.at_ HV.out (j - 1) q hq
      injection hb' with hb'
      injection hb' with hb1 hb2
      subst hb1 hb2
      have hcl' := (HI.out.ext HE1.out) _ _ _ hI'
      have hjp : decide (0 < (j : Int)) = true := by simp; omega
      have hwp := wrap_i64_val ((j : Int) - 1) (by omega) (by omega)
      have hj1 : ((j : Int) - 1).toNat = j - 1 := by omega
      have hj2 : ((j : Int) - 1) = ((j - 1 : Nat) : Int) := by omega
      rw [if_neg hj0, hq] at hF
      simp only at hF
      by_cases hlq : s ≤ q
      · have e := HBad.out (by rw [← hF, decide_eq_false (show ¬ q < s by omega)]; rfl)
        subst e
        have d3 : decide (s ≤ q) = true := by simpa using hlq
        clear hF hs hsj hI h0 h8 hI' hq hlq
        go_wp2_with fail
        refine bodyPost_ret (v := .tuple #[.agg #[.string ⟨#[]⟩, .slice none 0 0, .slice none 0 0, .int .i64 0, .int .i64 0, .slice none 0 0], .int .i64 1]) (by simp only [results, Tryd.results7]; go_simp) rfl (DPost.zero HI.out ?_)
        have h := HE1.out
        repeat (first | with_reducible assumption | with_reducible exact Ext.refl _ | with_reducible refine Ext.drew ?_ | with_reducible refine Ext.alloc ?_ _ | ((with_reducible refine Ext.setCell ?_ ?_ _); rotate_left; (· first | exact Nat.le_refl _ | (simp; done) | omega | (simp; omega))))
      · have d3 : decide (s ≤ q) = false := by simpa using hlq
        rw [decide_eq_true (show q < s by omega), Bool.true_and] at hF
        have HF2 : Hid (shR (l.drop (j + 1)) (if j + 1 = 0 then none else l[j + 1 - 1]?) = shR l none) := by
          show _ = _
          rw [← hF]; simp [hsj]
        clear hF hs hsj hI h0 h8 hI' hq hlq
        go_wp2_with fail
        exact ⟨⟨j + 1, by omega, by go_num, HF2, trivial⟩, by simp [intOf]; omega⟩
    · have hj2 : j = l.length := by omega
      subst hj2
      have hF := HF.out
      rw [List.drop_length] at hF
      have e := HGood.out (by rw [← hF]; rfl)
      subst e
      clear hF hlt
      go_wp2_with fail
      refine (CloneI_ok l _ I _ HV.out (HI.out.ext HE1.out) hb).mono ?_
      rintro e w2 ⟨v1, rfl, r1, h2⟩
      obtain ⟨p1, q1, rfl⟩ := acc_si r1
      have HY2 := Lib.hid (blk_ext HY1.out h2)
      have HE2 := Lib.hid (HE1.out.trans h2)
      have R1 := Lib.hid r1
      have z2 := h2.size
      clear r1 h2
      have ck := blk_cell HY2.out
      have cf := blk_free HY2.out
      have lx2 := blk_lt HY2.out
      have hne1 : ¬ w2.heap.size = w.heap.size := by omega
      have hne2 : ¬ w.heap.size = w2.heap.size := by omega
      have lx3 : w.heap.size < w2.heap.size + 1 := by omega
      have lx4 : w.heap.size < w2.heap.size + 1 + 1 := by omega
      obtain ⟨iI, iI1, iI2, iI3, iI4⟩ := info_parts infoI
      obtain ⟨iB, iB1, iB2, iB3, iB4⟩ := info_parts infoB
      go_wp2_with (at_make; first | refine wpList_make_row _ rfl _ _ 22 rfl 3 iI (.int .i64 0) Tryd.underlying22 iI1 iI2 iI3 rfl _ _ l.length rfl rfl (by rw [iI4]; omega) (by omega) ?_ | refine wpList_make_row _ rfl _ _ 25 rfl 4 iB (.bool false) Tryd.underlying25 iB1 iB2 iB3 rfl _ _ l.length rfl rfl (by rw [iB4]; omega) (by omega) ?_)
      obtain ⟨U, hU⟩ : ∃ W, (((((w2.setCell ⟨w.heap.size, 0, none⟩ (.string id)).setCell ⟨w.heap.size, 1, none⟩ (.slice p1 l.length q1)).setCell ⟨w.heap.size, 2, none⟩ (.slice (some ⟨w2.heap.size + 1, 0, none⟩) l.length l.length)).setCell ⟨w.heap.size, 3, none⟩ (.int .i64 1)).setCell ⟨w.heap.size, 4, none⟩ (.int .i64 0)).setCell ⟨w.heap.size, 5, none⟩ (.slice (some ⟨w2.heap.size + 1 + 1, 0, none⟩) l.length l.length) = W := ⟨_, rfl⟩
      have hus : U.heap.size = w2.heap.size := by rw [← hU]; simp [size_setCell]
      have hub : ∀ g, w.heap.size < g → U.heap[g]? = w2.heap[g]? := fun g hg => by
        rw [← hU]
        have key : ∀ (p : Addr) (u : Value) (W : World), p.block < g → (W.setCell p u).heap[g]? = W.heap[g]? := fun p u W hp => Below.heap_setCell W p u g (by omega)
        rw [key _ _ _ (by simp; omega), key _ _ _ (by simp; omega), key _ _ _ (by simp; omega), key _ _ _ (by simp; omega), key _ _ _ (by simp; omega), key _ _ _ (by simp; omega)]
      have hue : Ext w U := by
        rw [← hU]
        have h := HE2.out
        repeat (first | with_reducible assumption | with_reducible exact Ext.refl _ | with_reducible refine Ext.drew ?_ | with_reducible refine Ext.alloc ?_ _ | ((with_reducible refine Ext.setCell ?_ ?_ _); rotate_left; (· first | exact Nat.le_refl _ | (simp; done) | omega | (simp; omega))))
      have HY3 : U.heap[w.heap.size]? = some (.cells #[.string id, .slice p1 l.length q1, .slice (some ⟨w2.heap.size + 1, 0, none⟩) l.length l.length, .int .i64 1, .int .i64 0, .slice (some ⟨w2.heap.size + 1 + 1, 0, none⟩) l.length l.length] 27 (0, 0)) := by
        rw [← hU]
        exact blk_set (blk_set (blk_set (blk_set (blk_set (blk_set HY2.out 0 _) 1 _) 2 _) 3 _) 4 _) 5 _
      simp only [hU]
      rw [← hus] at HY3 ⊢
      obtain ⟨b3, hb3⟩ : ∃ o : Obj, Obj.cells #[.string id, .slice p1 l.length q1, .slice (some ⟨U.heap.size + 1, 0, none⟩) l.length l.length, .int .i64 1, .int .i64 0, .slice (some ⟨U.heap.size + 1 + 1, 0, none⟩) l.length l.length] 27 = o := ⟨_, rfl⟩
      rw [hb3]
      have m1 := blk_alloc (blk_at1 U b3 (.cells (madeCells #[.int .i64 0] l.length) 3)) (.cells (madeCells #[.bool false] l.length) 4)
      have m2 := blk_at1 (U.alloc b3) (.cells (madeCells #[.int .i64 0] l.length) 3) (.cells (madeCells #[.bool false] l.length) 4)
      have hf : Ext U (((U.alloc b3).alloc (.cells (madeCells #[.int .i64 0] l.length) 3)).alloc (.cells (madeCells #[.bool false] l.length) 4)) := (((Ext.refl U).alloc _).alloc _).alloc _
      obtain ⟨W, hW⟩ : ∃ W, ((U.alloc b3).alloc (.cells (madeCells #[.int .i64 0] l.length) 3)).alloc (.cells (madeCells #[.bool false] l.length) 4) = W := ⟨_, rfl⟩
      have hsz : (U.alloc b3).heap.size = U.heap.size + 1 := by simp
      rw [hsz] at m2
      rw [hW] at m1 m2 hf ⊢
      have hY := blk_ext HY3 hf
      have hrk : ∀ g, (Value.slice p1 l.length q1).ownBlock = some g → wr.heap.size ≤ g ∧ g < U.heap.size := fun g hg => by have := R1.out.own g hg; omega
      have own : Own3 I W wr.heap.size ⟨id, l, List.replicate l.length 0, 1, 0, List.replicate l.length false⟩ (.slice p1 l.length q1) (.slice (some ⟨U.heap.size + 1, 0, none⟩) l.length l.length) (.slice (some ⟨U.heap.size + 1 + 1, 0, none⟩) l.length l.length) := by
        refine ⟨R1.out.keep fun g hg => ?_, acc_made_i m1 (by omega) (HI.out.av (by omega)) (by unfold maxLen; omega), acc_made_b m2 (by omega) (HI.out.av (by omega)) (by unfold maxLen; omega), fun g hg h => ?_, fun g hg h => ?_, fun g hg h => ?_⟩
        · have := hrk g hg
          rw [hf.below.block g (by omega), hub g (by omega)]
        · have := hrk g hg
          injection h with h; simp at h; omega
        · have := hrk g hg
          injection h with h; simp at h; omega
        · injection hg with hg; injection h with h; simp at hg h; omega
      obtain ⟨I', G, hD⟩ := own.data (HI.out.ext (hue.trans hf)) (by omega) (hue.trans hf) ⟨hid, hb, by simpa using hb, by simpa using hb, by show I64 1; unfold I64; omega, by show I64 0; unfold I64; omega⟩
      have ckY := blk_cell hY
      refine bodyPost_ret (v := .tuple #[.agg #[.string id, .slice p1 l.length q1, .slice (some ⟨U.heap.size + 1, 0, none⟩) l.length l.length, .int .i64 1, .int .i64 0, .slice (some ⟨U.heap.size + 1 + 1, 0, none⟩) l.length l.length], .int .i64 0]) (by simp only [results, Tryd.results7]; go_simp) rfl ⟨I', _, G, rfl, hD⟩
end Go.Proofs.YtplokbmdcfakbaaDoor
