/- awake (docstorelaw03). -/
import Derived.Test.YtipphlhaaienpaaDoorKR4
import Derived.Test.YtipphlhaaienpaaDoorKEn3
import Derived.Test.YtipphlhaaienpaaDoorAftP
import Derived.Test.YtipphlhaaienpaaDoorStr
set_option linter.unusedSimpArgs false
set_option linter.unusedVariables false
namespace Go.Proofs.YtipphlhaaienpaaDoor
open Go.RowKit
def awA : Tr := .mk 3 5 ⟨#[]⟩ [] [] []
def awB : Tr := .mk 4 0 ⟨#[97]⟩ [] [] []
theorem awA_ok : allowB awA = true := by simp [allowB, awA, Tr.kind, validB, Tr.cnt, Tr.cntL, Tr.dep, Tr.depL, snd, sndL, sndF, headOk, leafOk, bytes_e]
theorem awB_ok : allowB awB = true := by
  simp [allowB, awB, Tr.kind, validB, Tr.cnt, Tr.cntL, Tr.dep, Tr.depL, snd, sndL, sndF, headOk, leafOk, bytes_e]
  decide
theorem aw_enc : kencE [awA, awB] [false, true] = (⟨#[3, 128, 0, 0, 0, 0, 0, 0, 5, 251, 158, 255, 255]⟩, 0) := by
  unfold kencE
  rw [if_neg (by simp)]
  simp only [List.all_cons, awA_ok, awB_ok, List.all_nil, Bool.and_self, if_true]
  decide
theorem aw_dec : kdecE ⟨#[2, 253]⟩ [false, true] = .ok [.mk 2 0 ⟨#[]⟩ [] [] [], .mk 2 0 ⟨#[]⟩ [] [] []] := by
  rfl
theorem aw_aft : aftR ⟨#[97, 255]⟩ = (⟨#[98]⟩, true) := by decide
theorem leaf_rep (w : World) (k i : Int) (t : ByteArray) (hk : I64 k) (hi : I64 i) (ht : t.size ≤ maxLen) : VRep w (.mk k i t [] [] []) (.agg #[.int .i64 k, .int .i64 i, .string t, .slice none 0 0, .slice none 0 0]) := VNew.rep (VNew.leaf 0 0 w k i t hk hi ht)
theorem aw_list {w : World} {g : Nat} (h : w.heap[g]? = some (.cells #[.int .i64 3, .int .i64 5, .string ⟨#[]⟩, .slice none 0 0, .slice none 0 0, .int .i64 4, .int .i64 0, .string ⟨#[97]⟩, .slice none 0 0, .slice none 0 0] 41 (0, 0))) : LRep w (some ⟨g, 0, none⟩) 0 [awA, awB] := by
  have hc := blk_cell h
  unfold LRep
  refine ⟨⟨g, 0, _, _, _, _, _, rfl, hc 0, hc 1, hc 2, hc 3, hc 4, leaf_rep w 3 5 ⟨#[]⟩ (by unfold I64; omega) (by unfold I64; omega) (by unfold maxLen; decide)⟩, ?_⟩
  unfold LRep
  refine ⟨⟨g, 0, _, _, _, _, _, rfl, hc 5, hc 6, hc 7, hc 8, hc 9, leaf_rep w 4 0 ⟨#[97]⟩ (by unfold I64; omega) (by unfold I64; omega) (by unfold maxLen; decide)⟩, ?_⟩
  unfold LRep; trivial
theorem aw_bools {w : World} {g : Nat} (h : w.heap[g]? = some (.cells #[.bool false, .bool true] 4 (0, 0))) : BRep w (some ⟨g, 0, none⟩) [false, true] := by
  have hc := blk_cell h
  intro j d hj
  match j, hj with
  | 0, hj => injection hj with hj; subst hj; exact ⟨g, 0, rfl, hc 0⟩
  | 1, hj => injection hj with hj; subst hj; exact ⟨g, 0, rfl, hc 1⟩
  | j + 2, hj => simp at hj
set_option maxRecDepth 20000 in
set_option maxHeartbeats 2000000 in
theorem awake_ok (w : World) (hT : Tabs w) : Calls Tryd.prog 10 #[] w fun e w' => e = .returned (.bool true) ∧ Ext w w' := by
  have HT := Lib.hid hT
  clear hT
  go_enter Tryd.func10, Tryd.ntmps10
  go_wp2_with fail
  refine (Encode_ok [awA, awB] [false, true] _ _ 2 2 _ (aw_list (blk_alloc (blk_at0 w _) _)) (by simp) (by unfold maxLen; omega) (aw_bools (blk_at1 w _ _)) (by simp) (by unfold maxLen; omega) (by simp) (HT.out.ext (((Ext.refl w).alloc _).alloc _))).mono ?_
  rw [aw_enc]
  rintro e w1 ⟨rfl, h1⟩
  have HE1 := Lib.hid ((((Ext.refl w).alloc _).alloc _).trans h1)
  clear h1
  go_wp2_with fail
  refine (Decode_ok ⟨#[2, 253]⟩ [false, true] _ 2 _ (by decide) (aw_bools (blk_at0 w1 _)) (by simp) (by unfold maxLen; omega) (by simp) (HT.out.ext (HE1.out.alloc _))).mono ?_
  rw [aw_dec]
  rintro e w2 ⟨a, c, rfl, hc1, hc2, hL, h2⟩
  have HE2 := Lib.hid (HE1.out.trans h2.of_alloc)
  obtain ⟨b, off, c0, c1, c2, c3, c4, rfl, e0, -, -, -, -, hv⟩ := LRep.at_ _ 0 1 (.mk 2 0 ⟨#[]⟩ [] [] []) hL rfl
  unfold VRep at hv
  obtain ⟨_, _, _, _, ev, -⟩ := hv
  injection ev with ev
  simp only [Array.mk.injEq, List.cons.injEq] at ev
  obtain ⟨rfl, -⟩ := ev
  have HC0 := Lib.hid e0
  clear h2 hL e0
  go_wp2_with fail
  refine (After_ok ⟨#[97, 255]⟩ _ (by decide)).mono ?_
  rw [aw_aft]
  rintro e w3 ⟨rfl, h3⟩
  have HE3 := Lib.hid (HE2.out.trans h3)
  have q0 := h3.keep HC0.out
  have hb : b < w3.heap.size := World.block_lt_of_cell? _ _ q0
  simp only [Nat.zero_add, Nat.one_mul] at q0
  unfold maxLen at hc2
  simp at hc1
  clear h3 HC0
  go_wp2_with fail
  go_ret
  exact ⟨rfl, HE3.out⟩
def preB (p x : ByteArray) : Bool := p.data.toList.isPrefixOf x.data.toList
theorem isPre_take (p x : List UInt8) : p.isPrefixOf x = decide (x.take p.length = p) := by
  by_cases h : x.take p.length = p
  · rw [decide_eq_true h]; exact List.isPrefixOf_iff_prefix.2 (by rw [← h]; exact List.take_prefix _ _)
  · rw [decide_eq_false h, Bool.eq_false_iff]
    intro h2
    obtain ⟨y, hy⟩ := List.isPrefixOf_iff_prefix.1 h2
    exact h (by rw [← hy]; simp)
theorem extract_eq (x p : ByteArray) : (x.extract 0 p.size = p) ↔ x.data.toList.take p.data.toList.length = p.data.toList := by
  have hl : p.data.toList.length = p.size := by simp
  constructor
  · intro h
    have := congrArg (fun b : ByteArray => b.data.toList) h
    simp only [ByteArray.data_extract, Array.toList_extract] at this
    rw [hl, ← this]; simp
  · intro h
    apply bytes_ext
    rw [ByteArray.data_extract, Array.toList_extract, ← hl]
    simpa using h
set_option maxRecDepth 20000 in
set_option maxHeartbeats 2000000 in
theorem HasPrefix2_ok (x p : ByteArray) (w : World) (hp : p.size ≤ 140737488355327) (hx : x.size ≤ 140737488355327) : Calls Tryd.prog 31 #[.string x, .string p] w fun e w' => e = .returned (.bool (preB p x)) ∧ w = w' := by
  have hlp : p.data.toList.length = p.size := by simp
  have hlx : x.data.toList.length = x.size := by simp
  by_cases h : p.size ≤ x.size
  · have d : decide (p.size ≤ x.size) = true := by simpa using h
    have hr : preB p x = ((x.extract 0 p.size).toList == p.toList) := by
      unfold preB
      rw [isPre_take, str_eqv]
      by_cases e : x.extract 0 p.size = p
      · rw [decide_eq_true e, decide_eq_true ((extract_eq x p).1 e)]
      · rw [decide_eq_false e, decide_eq_false (fun e2 => e ((extract_eq x p).2 e2))]
    rw [hr]
    clear hr hlp hlx
    go_enter Tryd.func31, Tryd.ntmps31
    go_wp2_with fail
    go_ret
    exact ⟨rfl, rfl⟩
  · have d : decide (p.size ≤ x.size) = false := by simpa using h
    have hr : preB p x = false := by
      unfold preB
      rw [isPre_take, decide_eq_false]
      intro e
      have := congrArg List.length e
      rw [List.length_take, hlp, hlx] at this; omega
    rw [hr]
    clear hr hlp hlx
    go_enter Tryd.func31, Tryd.ntmps31
    go_wp2_with fail
    go_ret
    exact ⟨rfl, rfl⟩
set_option maxRecDepth 20000 in
theorem HasPrefix_ok (x p : ByteArray) (w : World) (hp : p.size ≤ 140737488355327) (hx : x.size ≤ 140737488355327) : Calls Tryd.prog 18 #[.string x, .string p] w fun e w' => e = .returned (.bool (preB p x)) ∧ w = w' := by
  go_enter Tryd.func18, Tryd.ntmps18
  go_wp2_with fail
  refine (HasPrefix2_ok x p _ hp hx).mono ?_
  rintro e w1 ⟨rfl, rfl⟩
  go_wp2_with fail
  go_ret
  exact ⟨rfl, rfl⟩
set_option maxRecDepth 20000 in
set_option maxHeartbeats 2000000 in
theorem after_walk (p x : ByteArray) (w : World) (hp : p.size ≤ 140737488355327) (hx : x.size ≤ 140737488355327) (hT : Tabs w) : Calls Tryd.prog 7 #[.string p, .string x] w fun e w' => e = .returned (.bool true) ∧ Ext w w' := by
  have HT := Lib.hid hT
  clear hT
  obtain ⟨r, hr⟩ : ∃ r, aftR p = r := ⟨_, rfl⟩
  obtain ⟨a, b⟩ := r
  have HR := Lib.hid hr
  cases b
  · obtain ⟨rfl, hall⟩ := aft_none hr
    have HAll := Lib.hid hall
    clear hr hall
    go_enter Tryd.func7, Tryd.ntmps7
    go_wp2_with fail
    refine (After_ok p _ hp).mono ?_
    rw [HR.out]
    rintro e w1 ⟨rfl, h1⟩
    have HE1 := Lib.hid h1
    clear h1
    go_wp2_with fail
    go_loopw [17] (fun i wr => ∃ j : Nat, j ≤ p.size ∧ i = .int .i64 j ∧ wr = w1) (fun i _ => p.size - (intOf i).toNat)
    case atStart => exact ⟨0, by omega, rfl, rfl⟩
    case round =>
      obtain ⟨j, hj, rfl, rfl⟩ := hrel
      by_cases hlt : j < p.size
      · have hb := kbyte_at' p j hlt
        rw [HAll.out j hlt] at hb
        go_wp2_with fail
        exact ⟨⟨j + 1, by omega, by go_num, trivial⟩, by simp [intOf]; omega⟩
      · go_wp2_with fail
        refine (awake_ok _ (HT.out.ext HE1.out)).mono ?_
        rintro e w2 ⟨rfl, h2⟩
        go_wp2_with fail
        go_ret
        exact ⟨rfl, HE1.out.trans h2⟩
  · obtain ⟨u, b, s, hb, hs, ep, ea⟩ := aft_split hr
    have h1 := aft_more b hb s u
    have h2 := aft_range b hb s hs u x.data.toList
    rw [← ep, ← ea] at h1 h2
    have d1 : Op.bytesLess a.toList p.toList = false := by rw [ByteArray.toList_eq, ByteArray.toList_eq]; exact h1.1
    have d2 : (a.toList == p.toList) = false := by rw [ByteArray.toList_eq, ByteArray.toList_eq, beq_eq_false_iff_ne]; exact h1.2
    have h2' : preB p x = (!Op.bytesLess x.toList p.toList && Op.bytesLess x.toList a.toList) := by
      rw [ByteArray.toList_eq, ByteArray.toList_eq, ByteArray.toList_eq]; exact h2
    have HP := Lib.hid h2'
    clear hr h1 h2 h2' ep ea hb hs
    go_enter Tryd.func7, Tryd.ntmps7
    go_wp2_with fail
    refine (After_ok p _ hp).mono ?_
    rw [HR.out]
    rintro e w1 ⟨rfl, h1⟩
    have HE1 := Lib.hid h1
    clear h1
    go_wp2_with fail
    refine (HasPrefix_ok x p _ hp hx).mono ?_
    rintro e w2 ⟨rfl, rfl⟩
    rw [HP.out]
    obtain ⟨b1, hb1⟩ : ∃ b, Op.bytesLess x.toList p.toList = b := ⟨_, rfl⟩
    obtain ⟨b2, hb2⟩ : ∃ b, Op.bytesLess x.toList a.toList = b := ⟨_, rfl⟩
    rw [hb1, hb2]
    cases b1 <;> cases b2
    all_goals
      go_wp2_with fail
      refine (awake_ok _ (HT.out.ext HE1.out)).mono ?_
      rintro e w3 ⟨rfl, h3⟩
      go_wp2_with fail
      go_ret
      exact ⟨rfl, HE1.out.trans h3⟩
end Go.Proofs.YtipphlhaaienpaaDoor
