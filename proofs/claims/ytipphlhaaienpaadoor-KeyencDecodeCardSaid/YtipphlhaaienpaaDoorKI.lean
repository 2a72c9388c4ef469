/- (*docstoreref03.in).value (printed by genki3.py). -/
import Derived.Test.YtipphlhaaienpaaDoorKR
import Derived.Test.YtipphlhaaienpaaDoorKOx
set_option linter.unusedSimpArgs false
set_option linter.unusedVariables false
namespace Go.Proofs.YtipphlhaaienpaaDoor
open Go.RowKit
def flOf (d : Bool) : UInt8 := if d then 255 else 0
/-- the cells of the reference's reader -/
def InCells (s : ByteArray) (p : Nat) (d : Bool) (c : Int) : Obj := .cells #[.string s, .int .i64 (p : Int), .bool d, .int .i64 c] 52 (0, 0)
def nxI (s : ByteArray) (d : Bool) (p : Nat) (c : Int) : Except Int (UInt8 × Nat) := if c = 0 then nextE s (flOf d) p else .error c
def NiPost (rb : Nat) (s : ByteArray) (d : Bool) (p : Nat) (w : World) (x : Except Int (UInt8 × Nat)) (e : Ending) (w' : World) : Prop :=
  ∃ (b : UInt8) (q : Nat) (c : Int), (p ≤ q ∧ q ≤ s.size) ∧ e = .returned (.int .u8 (b.toNat : Int)) ∧ w'.heap[rb]? = some (InCells s q d c) ∧ w.grownBy w' (some rb) ∧ Out x b q c ∧ (c ≠ 0 → b = 0)
theorem in_set1 {w : World} {rb : Nat} {s : ByteArray} {p p' : Nat} {d : Bool} {c : Int} (h : w.heap[rb]? = some (InCells s p d c)) (x : Int) (hx : x = p') : (w.setCell ⟨rb, 1, none⟩ (.int .i64 x)).heap[rb]? = some (InCells s p' d c) := by
  subst hx; exact blk_set h 1 _
theorem in_set3 {w : World} {rb : Nat} {s : ByteArray} {p : Nat} {d : Bool} {c : Int} (h : w.heap[rb]? = some (InCells s p d c)) (x : Int) : (w.setCell ⟨rb, 3, none⟩ (.int .i64 x)).heap[rb]? = some (InCells s p d x) := blk_set h 3 _
set_option maxRecDepth 20000 in
set_option maxHeartbeats 2000000 in
theorem inext_ok (s : ByteArray) (rb p : Nat) (d : Bool) (c : Int) (w : World) (hs : s.size ≤ 1000000000) (hp : p ≤ s.size) (h : w.heap[rb]? = some (InCells s p d c)) :
    Calls Tryd.prog 44 #[.pointer (some ⟨rb, 0, none⟩)] w (NiPost rb s d p w (nxI s d p c)) := by
  have ck := blk_cell h
  have cf := blk_free h
  have hrb := blk_lt h
  have H := Lib.hid h
  clear h
  by_cases hc : c = 0
  case neg =>
    rw [show nxI s d p c = .error c by unfold nxI; rw [if_neg hc]]
    have d1 : (c == 0) = false := beq_eq_false_iff_ne.2 hc
    have d2 : (c != 0) = true := by simpa using hc
    have HC := Lib.hid hc
    clear hc
    go_enter Tryd.func44, Tryd.ntmps44
    go_wp2_with fail
    refine wp_region_mix (Ext w) [(true, 0), (true, 1), (true, 2), (true, 3), (true, 4), (true, 5), (true, 6), (true, 7), (true, 8), (true, 9), (true, 10), (true, 11), (true, 12), (true, 13), (true, 14), (true, 15), (true, 16)] (by kernel_rfl) (by kernel_rfl) (by kernel_rfl) (by kernel_rfl) ?hS ?_
    case hS => exact (Ext.refl _).drew
    repeat (first | (refine wpMix_q (v := ?_) rfl rfl ?_ ?_; rotate_left; (· intro wq hSq; have cq := hSq.cells; go_simp; try (with_reducible rfl)); simp only [Act.put, List.setIfInBounds_toArray, List.set_cons_zero, List.set_cons_succ, List.getElem_toArray, List.getElem_cons_zero, List.getElem_cons_succ]) | (refine wpMix_u rfl rfl ?_; simp only [Act.put, List.setIfInBounds_toArray, List.set_cons_zero, List.set_cons_succ, List.getElem_toArray, List.getElem_cons_zero, List.getElem_cons_succ]))
    refine wpMix_nil ?_
    go_wp2_with fail
    go_ret
    refine ⟨0, p, c, ⟨Nat.le_refl _, hp⟩, rfl, H.out, ?_, ⟨rfl, HC.out⟩, fun _ => rfl⟩
    repeat (first | with_reducible exact World.grownBy.refl _ _ | with_reducible refine only_drew ?_)
  subst hc
  rw [show nxI s d p 0 = nextE s (flOf d) p by unfold nxI; rw [if_pos rfl]]
  by_cases hlt : p < s.size
  · have hR : nextE s (flOf d) p = .ok (kbyte s p ^^^ flOf d, p + 1) := by unfold nextE; rw [if_pos hlt]
    rw [hR]
    clear hR
    have d1 : decide ((s.size : Int) ≤ (p : Int)) = false := by simp; omega
    have hb := kbyte_at s p hlt
    obtain ⟨b, hb2⟩ : ∃ b, kbyte s p = b := ⟨_, rfl⟩
    rw [hb2] at hb ⊢
    go_enter Tryd.func44, Tryd.ntmps44
    go_wp2_with fail
    refine wp_region_mix (Ext w) [(true, 0), (true, 1), (true, 2), (true, 3), (true, 4), (true, 5), (true, 6), (true, 7), (true, 8), (true, 9), (true, 10), (true, 11), (true, 12), (true, 13), (true, 14), (true, 15), (true, 16)] (by kernel_rfl) (by kernel_rfl) (by kernel_rfl) (by kernel_rfl) ?hS ?_
    case hS => exact (Ext.refl _).drew
    repeat (first | (refine wpMix_q (v := ?_) rfl rfl ?_ ?_; rotate_left; (· intro wq hSq; have cq := hSq.cells; go_simp; try (with_reducible rfl)); simp only [Act.put, List.setIfInBounds_toArray, List.set_cons_zero, List.set_cons_succ, List.getElem_toArray, List.getElem_cons_zero, List.getElem_cons_succ]) | (refine wpMix_u rfl rfl ?_; simp only [Act.put, List.setIfInBounds_toArray, List.set_cons_zero, List.set_cons_succ, List.getElem_toArray, List.getElem_cons_zero, List.getElem_cons_succ]))
    refine wpMix_nil ?_
    go_wp2_with fail
    refine wp_region_mix (Ext w) [(true, 0), (true, 1), (true, 2), (true, 3), (true, 4), (true, 5), (true, 6), (true, 7), (true, 8), (true, 9)] (by kernel_rfl) (by kernel_rfl) (by kernel_rfl) (by kernel_rfl) ?hS ?_
    case hS => exact ((Ext.refl _).drew).drew
    repeat (first | (refine wpMix_q (v := ?_) rfl rfl ?_ ?_; rotate_left; (· intro wq hSq; have cq := hSq.cells; go_simp; try (with_reducible rfl)); simp only [Act.put, List.setIfInBounds_toArray, List.set_cons_zero, List.set_cons_succ, List.getElem_toArray, List.getElem_cons_zero, List.getElem_cons_succ]) | (refine wpMix_u rfl rfl ?_; simp only [Act.put, List.setIfInBounds_toArray, List.set_cons_zero, List.set_cons_succ, List.getElem_toArray, List.getElem_cons_zero, List.getElem_cons_succ]))
    refine wpMix_nil ?_
    have HB2 := Lib.hid (in_set1 H.out ((p : Int) + 1) (p' := p + 1) (by omega))
    have hwp := wrap_i64_val ((p : Int) + 1) (by omega) (by omega)
    have HX := Lib.hid (notx b)
    have HY : Hid (b ^^^ (255 : UInt8) = flipC b) := by show _ = _; unfold flipC; exact (flip_xor b).symm
    cases d
    · go_wp2_with fail
      go_ret
      refine ⟨b, p + 1, 0, ⟨by omega, by omega⟩, rfl, HB2.out, ?_, ⟨by simp [flOf], rfl, rfl⟩, fun h => absurd rfl h⟩
      repeat (first | with_reducible exact World.grownBy.refl _ _ | with_reducible refine only_drew ?_ | with_reducible refine only_drewN ?_ _ | with_reducible refine only_setCell ?_ (.inl rfl) _)
    · go_wp2_with fail
      go_ret
      refine ⟨flipC b, p + 1, 0, ⟨by omega, by omega⟩, ret_int HX.out, HB2.out, ?_, ⟨HY.out, rfl, rfl⟩, fun h => absurd rfl h⟩
      repeat (first | with_reducible exact World.grownBy.refl _ _ | with_reducible refine only_drew ?_ | with_reducible refine only_drewN ?_ _ | with_reducible refine only_setCell ?_ (.inl rfl) _)
  · have hR : nextE s (flOf d) p = .error 5 := by unfold nextE; rw [if_neg hlt]
    rw [hR]
    clear hR
    obtain rfl : p = s.size := by omega
    have d1 : decide ((s.size : Int) ≤ (s.size : Int)) = true := by simp
    go_enter Tryd.func44, Tryd.ntmps44
    go_wp2_with fail
    refine wp_region_mix (Ext w) [(true, 0), (true, 1), (true, 2), (true, 3), (true, 4), (true, 5), (true, 6), (true, 7), (true, 8), (true, 9), (true, 10), (true, 11), (true, 12), (true, 13), (true, 14), (true, 15), (true, 16)] (by kernel_rfl) (by kernel_rfl) (by kernel_rfl) (by kernel_rfl) ?hS ?_
    case hS => exact (Ext.refl _).drew
    repeat (first | (refine wpMix_q (v := ?_) rfl rfl ?_ ?_; rotate_left; (· intro wq hSq; have cq := hSq.cells; go_simp; try (with_reducible rfl)); simp only [Act.put, List.setIfInBounds_toArray, List.set_cons_zero, List.set_cons_succ, List.getElem_toArray, List.getElem_cons_zero, List.getElem_cons_succ]) | (refine wpMix_u rfl rfl ?_; simp only [Act.put, List.setIfInBounds_toArray, List.set_cons_zero, List.set_cons_succ, List.getElem_toArray, List.getElem_cons_zero, List.getElem_cons_succ]))
    refine wpMix_nil ?_
    go_wp2_with fail
    go_ret
    refine ⟨0, s.size, 5, ⟨Nat.le_refl _, Nat.le_refl _⟩, rfl, in_set3 H.out _, ?_, ⟨rfl, by omega⟩, fun _ => rfl⟩
    repeat (first | with_reducible exact World.grownBy.refl _ _ | with_reducible refine only_drew ?_ | with_reducible refine only_setCell ?_ (.inl rfl) _)
def mustC (ok : Bool) (c : Int) : Int := if ok then c else if c = 0 then 4 else c
set_option maxRecDepth 20000 in
set_option maxHeartbeats 2000000 in
theorem must_ok (s : ByteArray) (rb p : Nat) (d : Bool) (c : Int) (ok : Bool) (w : World) (h : w.heap[rb]? = some (InCells s p d c)) :
    Calls Tryd.prog 29 #[.pointer (some ⟨rb, 0, none⟩), .bool ok] w fun e w' => e = .returned (.tuple #[]) ∧ w'.heap[rb]? = some (InCells s p d (mustC ok c)) ∧ w.grownBy w' (some rb) := by
  have ck := blk_cell h
  have cf := blk_free h
  have hrb := blk_lt h
  have H := Lib.hid h
  clear h
  cases ok
  · by_cases hc : c = 0
    · subst hc
      go_enter Tryd.func29, Tryd.ntmps29
      go_wp2_with fail
      go_end0
      exact ⟨rfl, in_set3 H.out _, only_setCell (World.grownBy.refl _ _) (.inl rfl) _⟩
    · have d1 : (c == 0) = false := beq_eq_false_iff_ne.2 hc
      have HM : Hid (mustC false c = c) := by show _ = _; simp [mustC, hc]
      clear hc
      go_enter Tryd.func29, Tryd.ntmps29
      go_wp2_with fail
      go_end0
      exact ⟨rfl, by rw [HM.out]; exact H.out, World.grownBy.refl _ _⟩
  · go_enter Tryd.func29, Tryd.ntmps29
    go_wp2_with fail
    go_end0
    exact ⟨rfl, H.out, World.grownBy.refl _ _⟩
def mrI (s : ByteArray) (d : Bool) (p : Nat) (c : Int) : Except Int (Bool × Nat) := if c = 0 then moreE s (flOf d) p else .error c
def MiPost (rb : Nat) (s : ByteArray) (d : Bool) (p : Nat) (w : World) (x : Except Int (Bool × Nat)) (e : Ending) (w' : World) : Prop :=
  ∃ (b : Bool) (q : Nat) (c : Int), (p ≤ q ∧ q ≤ s.size) ∧ e = .returned (.bool b) ∧ w'.heap[rb]? = some (InCells s q d c) ∧ w.grownBy w' (some rb) ∧ Out x b q c ∧ (c ≠ 0 → b = false)
set_option maxRecDepth 20000 in
set_option maxHeartbeats 2000000 in
theorem imore_ok (s : ByteArray) (rb p : Nat) (d : Bool) (c : Int) (w : World) (hs : s.size ≤ 1000000000) (hp : p ≤ s.size) (h : w.heap[rb]? = some (InCells s p d c)) :
    Calls Tryd.prog 46 #[.pointer (some ⟨rb, 0, none⟩)] w (MiPost rb s d p w (mrI s d p c)) := by
  have H := Lib.hid h
  clear h
  obtain ⟨x, hx⟩ : ∃ x, nxI s d p c = x := ⟨_, rfl⟩
  have hR : mrI s d p c = moreK x := by
    rw [← hx]; unfold mrI nxI
    by_cases hc : c = 0
    · rw [if_pos hc, if_pos hc]; rfl
    · rw [if_neg hc, if_neg hc]; rfl
  rw [hR]
  clear hR
  have HX := Lib.hid hx
  clear hx
  go_enter Tryd.func46, Tryd.ntmps46
  go_wp2_with fail
  refine (inext_ok s rb p d c _ hs hp H.out).mono ?_
  rw [HX.out]
  rintro e w1 ⟨b, q, c1, hq, rfl, h1, g1, ho, hz⟩
  have hrb1 := blk_lt h1
  have H1 := Lib.hid h1
  have HG1 := Lib.hid g1
  clear h1 g1
  have hb := b.toNat_lt
  by_cases hb1 : 1 < b.toNat
  · have db : decide ((b.toNat : Int) ≤ 1) = false := by simp; omega
    have hc1 : c1 = 0 := Decidable.byContradiction fun h => by rw [hz h] at hb1; simp at hb1
    subst hc1
    have hxx : moreK x = .error 4 := by
      cases x with
      | error e0 => exact absurd rfl ho.2
      | ok y => obtain ⟨b', q'⟩ := y; obtain ⟨rfl, rfl, _⟩ := ho; simp only [moreK, if_pos hb1]
    have HM := Lib.hid hxx
    clear hxx ho hz
    go_wp2_with fail
    refine (must_ok s rb q d 0 false _ H1.out).mono ?_
    rintro e w2 ⟨rfl, h2, g2⟩
    have ck := blk_cell h2
    have hrb2 := blk_lt h2
    have HB2 := Lib.hid h2
    have HG2 := Lib.hid (only_trans HG1.out g2)
    have hm : mustC false 0 = 4 := rfl
    clear h2 g2
    go_wp2_with fail
    go_ret
    exact ⟨false, q, 4, hq, rfl, HB2.out, HG2.out, by rw [HM.out]; exact ⟨rfl, by omega⟩, fun _ => rfl⟩
  · have db : decide ((b.toNat : Int) ≤ 1) = true := by simp; omega
    by_cases hc1 : c1 = 0
    · subst hc1
      obtain ⟨bb, hbb⟩ : ∃ z, decide (b.toNat = 1) = z := ⟨_, rfl⟩
      have d2 : ((b.toNat : Int) == 1) = bb := by
        rw [← hbb]
        by_cases h : b.toNat = 1
        · rw [h]; rfl
        · rw [decide_eq_false h]; exact beq_eq_false_iff_ne.2 (by omega)
      have hxx : moreK x = .ok (bb, q) := by
        cases x with
        | error e0 => exact absurd rfl ho.2
        | ok y => obtain ⟨b', q'⟩ := y; obtain ⟨rfl, rfl, _⟩ := ho; simp only [moreK, if_neg hb1]; rw [hbb]
      have HM := Lib.hid hxx
      clear hxx ho hz hbb
      go_wp2_with fail
      refine (must_ok s rb q d 0 true _ H1.out).mono ?_
      rintro e w2 ⟨rfl, h2, g2⟩
      have ck := blk_cell h2
      have hrb2 := blk_lt h2
      have HB2 := Lib.hid h2
      have HG2 := Lib.hid (only_trans HG1.out g2)
      have hm : mustC true 0 = 0 := rfl
      clear h2 g2
      go_wp2_with fail
      go_ret
      exact ⟨bb, q, 0, hq, rfl, HB2.out, HG2.out, by rw [HM.out]; exact ⟨rfl, rfl, rfl⟩, fun h => absurd rfl h⟩
    · obtain rfl := hz hc1
      have hxx : moreK x = .error c1 := by
        cases x with
        | error e0 => obtain ⟨rfl, _⟩ := ho; rfl
        | ok y => obtain ⟨b', q'⟩ := y; obtain ⟨_, _, h⟩ := ho; exact absurd h hc1
      have HM := Lib.hid hxx
      have HC := Lib.hid hc1
      have d3 : (c1 == 0) = false := beq_eq_false_iff_ne.2 hc1
      clear hxx ho hz hc1
      go_wp2_with fail
      refine (must_ok s rb q d c1 true _ H1.out).mono ?_
      rintro e w2 ⟨rfl, h2, g2⟩
      have ck := blk_cell h2
      have hrb2 := blk_lt h2
      have HB2 := Lib.hid h2
      have HG2 := Lib.hid (only_trans HG1.out g2)
      have hm : mustC true c1 = c1 := rfl
      clear h2 g2
      go_wp2_with fail
      go_ret
      exact ⟨false, q, c1, hq, rfl, HB2.out, HG2.out, by rw [HM.out]; exact ⟨rfl, HC.out⟩, fun _ => rfl⟩
end Go.Proofs.YtipphlhaaienpaaDoor
set_option linter.unusedSimpArgs false
set_option linter.unusedVariables false
namespace Go.Proofs.YtipphlhaaienpaaDoor
open Go.RowKit
def StI (rb : Nat) (s : ByteArray) (d : Bool) (p : Nat) (w : World) (x : Except Int (List UInt8 × Nat)) (e : Ending) (w' : World) : Prop :=
  ∃ (l : List UInt8) (q : Nat) (c : Int), l.length ≤ s.size + 1 ∧ (p ≤ q ∧ q ≤ s.size) ∧ e = .returned (.string ⟨l.toArray⟩) ∧ w'.heap[rb]? = some (InCells s q d c) ∧ w.grownBy w' (some rb) ∧ Out x l q c
def RelI (f : Nat → Nat → List UInt8 → Except Int (List UInt8 × Nat)) (r : Except Int (List UInt8 × Nat)) (m q : Nat) (acc : List UInt8) (c : Int) : Prop := (c = 0 ∧ f m q acc = r) ∨ (c ≠ 0 ∧ r = .error c)
theorem mk_list (y : ByteArray) : (⟨y.data.toList.toArray⟩ : ByteArray) = y := by apply bytes_ext; rfl
theorem size_list (y : ByteArray) : y.data.toList.length = y.size := by simp
theorem u8_b0 {b : UInt8} (h : b = 0) : ((b.toNat : Int) == 0) = true := by rw [h]; rfl
theorem u8_bn {b c : UInt8} (h : b ≠ c) : ((b.toNat : Int) == (c.toNat : Int)) = false := by
  rw [beq_eq_false_iff_ne]; intro e; exact h (UInt8.toNat_inj.1 (by exact_mod_cast e))
set_option maxRecDepth 20000 in
set_option maxHeartbeats 4000000 in
theorem itext_ok (s : ByteArray) (rb p : Nat) (d : Bool) (w : World) (hs : s.size ≤ 1000000000) (hp : p ≤ s.size) (h : w.heap[rb]? = some (InCells s p d 0)) :
    Calls Tryd.prog 45 #[.pointer (some ⟨rb, 0, none⟩)] w (StI rb s d p w (textE s (flOf d) (s.size + 1) p [])) := by
  have hrb := blk_lt h
  have H := Lib.hid h
  clear h
  obtain ⟨r, hr⟩ : ∃ r, textE s (flOf d) (s.size + 1) p [] = r := ⟨_, rfl⟩
  rw [hr]
  have HR := Lib.hid hr
  clear hr
  go_enter Tryd.func45, Tryd.ntmps45
  go_wp2_with fail
  go_loopw [3, 4] (fun b x wr => ∃ (n m q : Nat) (c : Int) (y : ByteArray), p ≤ q ∧ q ≤ s.size ∧ (c = 0 → s.size + 1 ≤ m + q) ∧ n ≤ s.size + 1 ∧ y.size ≤ n ∧ (c = 0 → n + p ≤ q) ∧ x = .int .i64 n ∧ b = .string y ∧ Hid (RelI (textE s (flOf d)) r m q y.data.toList c) ∧ Hid (wr.heap[rb]? = some (InCells s q d c)) ∧ Hid (w.grownBy wr (some rb))) (fun _ x _ => s.size + 2 - (intOf x).toNat)
  case atStart => exact ⟨0, s.size + 1, p, 0, ⟨#[]⟩, by omega, hp, fun _ => by omega, by omega, by show 0 ≤ 0; omega, by omega, rfl, rfl, Or.inl ⟨rfl, HR.out⟩, H, World.grownBy.refl _ _⟩
  case round =>
    obtain ⟨n, m, q, c, y, hpq, hq, hm, hn, hys, hnc, rfl, rfl, HF, HBr, HGr⟩ := hrel
    have ck := blk_cell HBr.out
    have hrbr := blk_lt HBr.out
    by_cases hc : c = 0
    case neg =>
      have hr : r = .error c := by
        rcases HF.out with ⟨h, _⟩ | ⟨_, h⟩
        · exact absurd h hc
        · exact h
      subst hr
      have d1 : (c == 0) = false := beq_eq_false_iff_ne.2 hc
      have HC := Lib.hid hc
      have hml := mk_list y
      have HML := Lib.hid hml
      have HSL := Lib.hid (size_list y)
      clear hc hnc hml hm
      by_cases hn2 : n ≤ s.size
      · have d2 : decide ((n : Int) ≤ (s.size : Int)) = true := by simp; omega
        go_wp2_with fail
        go_ret
        exact ⟨y.data.toList, q, c, by rw [HSL.out]; omega, ⟨hpq, hq⟩, congrArg (fun x => Ending.returned (.string x)) (mk_list y).symm, HBr.out, HGr.out, rfl, HC.out⟩
      · have d2 : decide ((n : Int) ≤ (s.size : Int)) = false := by simp; omega
        go_wp2_with fail
        go_ret
        exact ⟨y.data.toList, q, c, by rw [HSL.out]; omega, ⟨hpq, hq⟩, congrArg (fun x => Ending.returned (.string x)) (mk_list y).symm, HBr.out, HGr.out, rfl, HC.out⟩
    subst hc
    have hn3 := hnc rfl
    have hm3 := hm rfl
    clear hm
    have hF0 : textE s (flOf d) m q y.data.toList = r := by
      rcases HF.out with ⟨_, h⟩ | ⟨h, _⟩
      · exact h
      · exact absurd rfl h
    obtain ⟨m, rfl⟩ : ∃ m', m = m' + 1 := ⟨m - 1, by omega⟩
    simp only [textE] at hF0
    obtain ⟨x, hx⟩ : ∃ x, nextE s (flOf d) q = x := ⟨_, rfl⟩
    rw [hx] at hF0
    have HX : Hid (nxI s d q 0 = x) := by show _ = _; rw [← hx]; unfold nxI; rw [if_pos rfl]
    have HF2 := Lib.hid hF0
    have HQ := Lib.hid (fun b q' (he : x = .ok (b, q')) => nextE_ok (hx.trans he))
    have d2 : decide ((n : Int) ≤ (s.size : Int)) = true := by simp; omega
    have sr : w.heap.size ≤ wr.heap.size := HGr.out.size
    clear hF0 HF hx hnc
    go_wp2_with fail
    clear ck
    refine (inext_ok s rb q d 0 _ hs hq HBr.out).mono ?_
    rw [HX.out]
    rintro e w1 ⟨b, q1, c, ⟨hq0, hq1⟩, rfl, h1, g1, ho, hz⟩
    have ck := blk_cell h1
    have hrb1 := blk_lt h1
    have H1 := Lib.hid h1
    have HG1 := Lib.hid (only_trans HGr.out g1)
    have s1 : wr.heap.size ≤ w1.heap.size := g1.size
    clear h1 g1
    cases x with
    | error e0 =>
      obtain ⟨rfl, hc⟩ := ho
      have e := HF2.out
      simp only at e
      subst e
      obtain rfl := hz hc
      have d3 : (c == 0) = false := beq_eq_false_iff_ne.2 hc
      have HC := Lib.hid hc
      clear hc hz
      have hcv := conv_one w1 (0 : UInt8) 0 rfl
      obtain ⟨z, hz⟩ : ∃ z : ByteArray, (⟨#[(0 : UInt8)]⟩ : ByteArray) = z := ⟨_, rfl⟩
      have hzs : z.size ≤ 1 := by rw [← hz]; exact Nat.le_refl _
      have hyz : (y ++ z).data.toList = y.data.toList ++ [(0 : UInt8)] := by rw [cat_list, ← hz]
      have hys2 : (y ++ z).size ≤ y.size + 1 := by rw [cat_size]; omega
      rw [hz] at hcv
      have HYZ := Lib.hid hyz
      have HRel : Hid (RelI (textE s (flOf d)) (.error c) m q1 (y ++ z).data.toList c) := by
        show RelI _ _ _ _ _ _
        rw [HYZ.out]
        exact Or.inr ⟨HC.out, rfl⟩
      clear hz hyz
      go_wp2_with fail
      exact ⟨⟨n + 1, m, q1, c, y ++ z, by omega, by omega, fun h => by first | omega | exact absurd h HC.out, by omega, by omega, fun h => by first | omega | exact absurd h HC.out, by go_num, rfl, HRel, blk_alloc H1.out _, only_alloc HG1.out _⟩, by simp [intOf]; omega⟩
    | ok y0 =>
      obtain ⟨b', q'⟩ := y0
      obtain ⟨rfl, rfl, rfl⟩ := ho
      obtain ⟨hq2, rfl, -⟩ := HQ.out b' q' rfl
      have hF := HF2.out
      simp only at hF
      clear hz HQ
      have hb := b'.toNat_lt
      by_cases h0 : b' = 0
      case neg =>
        rw [if_pos h0] at hF
        have HF3 := Lib.hid hF
        have d3 : ((b'.toNat : Int) == 0) = false := u8_bn h0
        clear h0 hF
        have hcv := conv_one w1 b' (b'.toNat : Int) rfl
        obtain ⟨z, hz⟩ : ∃ z : ByteArray, (⟨#[b']⟩ : ByteArray) = z := ⟨_, rfl⟩
        have hzs : z.size ≤ 1 := by rw [← hz]; exact Nat.le_refl _
        have hyz : (y ++ z).data.toList = y.data.toList ++ [b'] := by rw [cat_list, ← hz]
        have hys2 : (y ++ z).size ≤ y.size + 1 := by rw [cat_size]; omega
        rw [hz] at hcv
        have HYZ := Lib.hid hyz
        have HRel : Hid (RelI (textE s (flOf d)) r m (q + 1) (y ++ z).data.toList 0) := by
          show RelI _ _ _ _ _ _
          rw [HYZ.out]
          exact Or.inl ⟨rfl, HF3.out⟩
        clear hz hyz
        go_wp2_with fail
        exact ⟨⟨n + 1, m, (q + 1), 0, y ++ z, by omega, by omega, fun h => by first | omega | exact absurd h HC.out, by omega, by omega, fun h => by first | omega | exact absurd h HC.out, by go_num, rfl, HRel, blk_alloc H1.out _, only_alloc HG1.out _⟩, by simp [intOf]; omega⟩
      rw [if_neg (by simpa using h0)] at hF
      subst h0
      obtain ⟨x2, hx2⟩ : ∃ x, nextE s (flOf d) (q + 1) = x := ⟨_, rfl⟩
      rw [hx2] at hF
      have HX2 : Hid (nxI s d (q + 1) 0 = x2) := by show _ = _; rw [← hx2]; unfold nxI; rw [if_pos rfl]
      have HF3 := Lib.hid hF
      have HQ2 := Lib.hid (fun b q' (he : x2 = .ok (b, q')) => nextE_ok (hx2.trans he))
      clear hF hx2
      go_wp2_with fail
      clear ck
      refine (inext_ok s rb (q + 1) d 0 _ hs hq1 H1.out).mono ?_
      rw [HX2.out]
      rintro e w2 ⟨b2, q2, c2, ⟨hq20, hq2'⟩, rfl, h2, g2, ho2, hz2⟩
      have H2 := Lib.hid h2
      have HG2 := Lib.hid (only_trans HG1.out g2)
      have s2 : w1.heap.size ≤ w2.heap.size := g2.size
      clear h2 g2
      cases x2 with
      | error e0 =>
        obtain ⟨rfl, hc⟩ := ho2
        have e := HF3.out
        simp only at e
        subst e
        obtain rfl := hz2 hc
        have d3 : (c2 == 0) = false := beq_eq_false_iff_ne.2 hc
        have HC := Lib.hid hc
        have hm2 : mustC true c2 = c2 := rfl
        clear hc hz2
        go_wp2_with fail
        refine (must_ok s rb q2 d c2 true _ H2.out).mono ?_
        rintro e w3 ⟨rfl, h3, g3⟩
        rw [hm2] at h3
        have ck := blk_cell h3
        have hrb3 := blk_lt h3
        have H3 := Lib.hid h3
        have HG3 := Lib.hid (only_trans HG2.out g3)
        have s3 : w2.heap.size ≤ w3.heap.size := g3.size
        clear h3 g3 hm2
        have hcv := conv_one w3 (0 : UInt8) 0 rfl
        obtain ⟨z, hz⟩ : ∃ z : ByteArray, (⟨#[(0 : UInt8)]⟩ : ByteArray) = z := ⟨_, rfl⟩
        have hzs : z.size ≤ 1 := by rw [← hz]; exact Nat.le_refl _
        have hyz : (y ++ z).data.toList = y.data.toList ++ [(0 : UInt8)] := by rw [cat_list, ← hz]
        have hys2 : (y ++ z).size ≤ y.size + 1 := by rw [cat_size]; omega
        rw [hz] at hcv
        have HYZ := Lib.hid hyz
        have HRel : Hid (RelI (textE s (flOf d)) (.error c2) m q2 (y ++ z).data.toList c2) := by
          show RelI _ _ _ _ _ _
          rw [HYZ.out]
          exact Or.inr ⟨HC.out, rfl⟩
        clear hz hyz
        go_wp2_with fail
        exact ⟨⟨n + 1, m, q2, c2, y ++ z, by omega, by omega, fun h => by first | omega | exact absurd h HC.out, by omega, by omega, fun h => by first | omega | exact absurd h HC.out, by go_num, rfl, HRel, blk_alloc H3.out _, only_alloc HG3.out _⟩, by simp [intOf]; omega⟩
      | ok y2 =>
        obtain ⟨b3, q3⟩ := y2
        obtain ⟨rfl, rfl, rfl⟩ := ho2
        obtain ⟨hq3, rfl, -⟩ := HQ2.out b3 q3 rfl
        have hF := HF3.out
        simp only at hF
        clear hz2 HQ2
        have hb3 := b3.toNat_lt
        by_cases h3 : b3 = 0
        · rw [if_pos h3] at hF
          subst hF
          subst h3
          have hm2 : mustC true 0 = 0 := rfl
          go_wp2_with fail
          refine (must_ok s rb (q + 1 + 1) d 0 true _ H2.out).mono ?_
          rintro e w3 ⟨rfl, h3, g3⟩
          rw [hm2] at h3
          have ck := blk_cell h3
          have hrb3 := blk_lt h3
          have H3 := Lib.hid h3
          have HG3 := Lib.hid (only_trans HG2.out g3)
          have HML := Lib.hid (mk_list y)
          have HSL := Lib.hid (size_list y)
          clear h3 g3 hm2
          go_wp2_with fail
          go_ret
          exact ⟨y.data.toList, q + 1 + 1, 0, by rw [HSL.out]; omega, ⟨by omega, hq2'⟩, congrArg (fun x => Ending.returned (.string x)) (mk_list y).symm, H3.out, HG3.out, rfl, rfl, rfl⟩
        rw [if_neg h3] at hF
        have d3 : ((b3.toNat : Int) == 0) = false := u8_bn h3
        by_cases h4 : b3 = 255
        · rw [if_neg (by simpa using h4)] at hF
          have HF4 := Lib.hid hF
          subst h4
          have hm2 : mustC true 0 = 0 := rfl
          clear h3 hF d3
          go_wp2_with fail
          refine (must_ok s rb (q + 1 + 1) d 0 true _ H2.out).mono ?_
          rintro e w3 ⟨rfl, h3, g3⟩
          rw [hm2] at h3
          have ck := blk_cell h3
          have hrb3 := blk_lt h3
          have H3 := Lib.hid h3
          have HG3 := Lib.hid (only_trans HG2.out g3)
          have s3 : w2.heap.size ≤ w3.heap.size := g3.size
          clear h3 g3 hm2
          have hcv := conv_one w3 (0 : UInt8) 0 rfl
          obtain ⟨z, hz⟩ : ∃ z : ByteArray, (⟨#[(0 : UInt8)]⟩ : ByteArray) = z := ⟨_, rfl⟩
          have hzs : z.size ≤ 1 := by rw [← hz]; exact Nat.le_refl _
          have hyz : (y ++ z).data.toList = y.data.toList ++ [(0 : UInt8)] := by rw [cat_list, ← hz]
          have hys2 : (y ++ z).size ≤ y.size + 1 := by rw [cat_size]; omega
          rw [hz] at hcv
          have HYZ := Lib.hid hyz
          have HRel : Hid (RelI (textE s (flOf d)) r m (q + 1 + 1) (y ++ z).data.toList 0) := by
            show RelI _ _ _ _ _ _
            rw [HYZ.out]
            exact Or.inl ⟨rfl, HF4.out⟩
          clear hz hyz
          go_wp2_with fail
          exact ⟨⟨n + 1, m, (q + 1 + 1), 0, y ++ z, by omega, by omega, fun h => by first | omega | exact absurd h HC.out, by omega, by omega, fun h => by first | omega | exact absurd h HC.out, by go_num, rfl, HRel, blk_alloc H3.out _, only_alloc HG3.out _⟩, by simp [intOf]; omega⟩
        · rw [if_pos h4] at hF
          subst hF
          have d4 : ((b3.toNat : Int) == 255) = false := u8_bn (c := 255) h4
          have hm2 : mustC false 0 = 4 := rfl
          clear h3 h4
          go_wp2_with fail
          refine (must_ok s rb (q + 1 + 1) d 0 false _ H2.out).mono ?_
          rintro e w3 ⟨rfl, h3, g3⟩
          rw [hm2] at h3
          have ck := blk_cell h3
          have hrb3 := blk_lt h3
          have H3 := Lib.hid h3
          have HG3 := Lib.hid (only_trans HG2.out g3)
          have s3 : w2.heap.size ≤ w3.heap.size := g3.size
          clear h3 g3 hm2
          have hcv := conv_one w3 (0 : UInt8) 0 rfl
          obtain ⟨z, hz⟩ : ∃ z : ByteArray, (⟨#[(0 : UInt8)]⟩ : ByteArray) = z := ⟨_, rfl⟩
          have hzs : z.size ≤ 1 := by rw [← hz]; exact Nat.le_refl _
          have hyz : (y ++ z).data.toList = y.data.toList ++ [(0 : UInt8)] := by rw [cat_list, ← hz]
          have hys2 : (y ++ z).size ≤ y.size + 1 := by rw [cat_size]; omega
          rw [hz] at hcv
          have HYZ := Lib.hid hyz
          have HRel : Hid (RelI (textE s (flOf d)) (.error 4) m (q + 1 + 1) (y ++ z).data.toList 4) := by
            show RelI _ _ _ _ _ _
            rw [HYZ.out]
            exact Or.inr ⟨by omega, rfl⟩
          clear hz hyz
          go_wp2_with fail
          exact ⟨⟨n + 1, m, (q + 1 + 1), 4, y ++ z, by omega, by omega, fun h => by first | omega | exact absurd h HC.out, by omega, by omega, fun h => by first | omega | exact absurd h HC.out, by go_num, rfl, HRel, blk_alloc H3.out _, only_alloc HG3.out _⟩, by simp [intOf]; omega⟩
set_option maxRecDepth 20000 in
set_option maxHeartbeats 4000000 in
theorem iname_ok (s : ByteArray) (rb p : Nat) (d : Bool) (w : World) (hs : s.size ≤ 1000000000) (hp : p ≤ s.size) (h : w.heap[rb]? = some (InCells s p d 0)) :
    Calls Tryd.prog 47 #[.pointer (some ⟨rb, 0, none⟩)] w (StI rb s d p w (nameE s (flOf d) (s.size + 1) p [])) := by
  have hrb := blk_lt h
  have H := Lib.hid h
  clear h
  obtain ⟨r, hr⟩ : ∃ r, nameE s (flOf d) (s.size + 1) p [] = r := ⟨_, rfl⟩
  rw [hr]
  have HR := Lib.hid hr
  clear hr
  go_enter Tryd.func47, Tryd.ntmps47
  go_wp2_with fail
  go_loopw [3, 4] (fun b x wr => ∃ (n m q : Nat) (c : Int) (y : ByteArray), p ≤ q ∧ q ≤ s.size ∧ (c = 0 → s.size + 1 ≤ m + q) ∧ n ≤ s.size + 1 ∧ y.size ≤ n ∧ (c = 0 → n + p ≤ q) ∧ x = .int .i64 n ∧ b = .string y ∧ Hid (RelI (nameE s (flOf d)) r m q y.data.toList c) ∧ Hid (wr.heap[rb]? = some (InCells s q d c)) ∧ Hid (w.grownBy wr (some rb))) (fun _ x _ => s.size + 2 - (intOf x).toNat)
  case atStart => exact ⟨0, s.size + 1, p, 0, ⟨#[]⟩, by omega, hp, fun _ => by omega, by omega, by show 0 ≤ 0; omega, by omega, rfl, rfl, Or.inl ⟨rfl, HR.out⟩, H, World.grownBy.refl _ _⟩
  case round =>
    obtain ⟨n, m, q, c, y, hpq, hq, hm, hn, hys, hnc, rfl, rfl, HF, HBr, HGr⟩ := hrel
    have ck := blk_cell HBr.out
    have hrbr := blk_lt HBr.out
    by_cases hc : c = 0
    case neg =>
      have hr : r = .error c := by
        rcases HF.out with ⟨h, _⟩ | ⟨_, h⟩
        · exact absurd h hc
        · exact h
      subst hr
      have d1 : (c == 0) = false := beq_eq_false_iff_ne.2 hc
      have HC := Lib.hid hc
      have hml := mk_list y
      have HML := Lib.hid hml
      have HSL := Lib.hid (size_list y)
      clear hc hnc hml hm
      by_cases hn2 : n ≤ s.size
      · have d2 : decide ((n : Int) ≤ (s.size : Int)) = true := by simp; omega
        go_wp2_with fail
        go_ret
        exact ⟨y.data.toList, q, c, by rw [HSL.out]; omega, ⟨hpq, hq⟩, congrArg (fun x => Ending.returned (.string x)) (mk_list y).symm, HBr.out, HGr.out, rfl, HC.out⟩
      · have d2 : decide ((n : Int) ≤ (s.size : Int)) = false := by simp; omega
        go_wp2_with fail
        go_ret
        exact ⟨y.data.toList, q, c, by rw [HSL.out]; omega, ⟨hpq, hq⟩, congrArg (fun x => Ending.returned (.string x)) (mk_list y).symm, HBr.out, HGr.out, rfl, HC.out⟩
    subst hc
    have hn3 := hnc rfl
    have hm3 := hm rfl
    clear hm
    have hF0 : nameE s (flOf d) m q y.data.toList = r := by
      rcases HF.out with ⟨_, h⟩ | ⟨h, _⟩
      · exact h
      · exact absurd rfl h
    obtain ⟨m, rfl⟩ : ∃ m', m = m' + 1 := ⟨m - 1, by omega⟩
    simp only [nameE] at hF0
    obtain ⟨x, hx⟩ : ∃ x, nextE s (flOf d) q = x := ⟨_, rfl⟩
    rw [hx] at hF0
    have HX : Hid (nxI s d q 0 = x) := by show _ = _; rw [← hx]; unfold nxI; rw [if_pos rfl]
    have HF2 := Lib.hid hF0
    have HQ := Lib.hid (fun b q' (he : x = .ok (b, q')) => nextE_ok (hx.trans he))
    have d2 : decide ((n : Int) ≤ (s.size : Int)) = true := by simp; omega
    have sr : w.heap.size ≤ wr.heap.size := HGr.out.size
    clear hF0 HF hx hnc
    go_wp2_with fail
    clear ck
    refine (inext_ok s rb q d 0 _ hs hq HBr.out).mono ?_
    rw [HX.out]
    rintro e w1 ⟨b, q1, c, ⟨hq0, hq1⟩, rfl, h1, g1, ho, hz⟩
    have ck := blk_cell h1
    have hrb1 := blk_lt h1
    have H1 := Lib.hid h1
    have HG1 := Lib.hid (only_trans HGr.out g1)
    have s1 : wr.heap.size ≤ w1.heap.size := g1.size
    clear h1 g1
    cases x with
    | error e0 =>
      obtain ⟨rfl, hc⟩ := ho
      have e := HF2.out
      simp only at e
      subst e
      obtain rfl := hz hc
      have HC := Lib.hid hc
      have HML := Lib.hid (mk_list y)
      have HSL := Lib.hid (size_list y)
      clear hc hz
      go_wp2_with fail
      go_ret
      exact ⟨y.data.toList, q1, c, by rw [HSL.out]; omega, ⟨by omega, hq1⟩, congrArg (fun x => Ending.returned (.string x)) (mk_list y).symm, H1.out, HG1.out, rfl, HC.out⟩
    | ok y0 =>
      obtain ⟨b', q'⟩ := y0
      obtain ⟨rfl, rfl, rfl⟩ := ho
      obtain ⟨hq2, rfl, -⟩ := HQ.out b' q' rfl
      have hF := HF2.out
      simp only at hF
      clear hz HQ
      have hb := b'.toNat_lt
      by_cases h0 : b' = 0
      · rw [if_pos h0] at hF
        subst hF
        subst h0
        have HML := Lib.hid (mk_list y)
        have HSL := Lib.hid (size_list y)
        go_wp2_with fail
        go_ret
        exact ⟨y.data.toList, q + 1, 0, by rw [HSL.out]; omega, ⟨by omega, hq1⟩, congrArg (fun x => Ending.returned (.string x)) (mk_list y).symm, H1.out, HG1.out, rfl, rfl, rfl⟩
      · rw [if_neg h0] at hF
        have HF3 := Lib.hid hF
        have d3 : ((b'.toNat : Int) == 0) = false := u8_bn h0
        clear h0 hF
        have hcv := conv_one w1 b' (b'.toNat : Int) rfl
        obtain ⟨z, hz⟩ : ∃ z : ByteArray, (⟨#[b']⟩ : ByteArray) = z := ⟨_, rfl⟩
        have hzs : z.size ≤ 1 := by rw [← hz]; exact Nat.le_refl _
        have hyz : (y ++ z).data.toList = y.data.toList ++ [b'] := by rw [cat_list, ← hz]
        have hys2 : (y ++ z).size ≤ y.size + 1 := by rw [cat_size]; omega
        rw [hz] at hcv
        have HYZ := Lib.hid hyz
        have HRel : Hid (RelI (nameE s (flOf d)) r m (q + 1) (y ++ z).data.toList 0) := by
          show RelI _ _ _ _ _ _
          rw [HYZ.out]
          exact Or.inl ⟨rfl, HF3.out⟩
        clear hz hyz
        go_wp2_with fail
        exact ⟨⟨n + 1, m, (q + 1), 0, y ++ z, by omega, by omega, fun h => by first | omega | exact absurd h HC.out, by omega, by omega, fun h => by first | omega | exact absurd h HC.out, by go_num, rfl, HRel, blk_alloc H1.out _, only_alloc HG1.out _⟩, by simp [intOf]; omega⟩
end Go.Proofs.YtipphlhaaienpaaDoor
set_option linter.unusedSimpArgs false
set_option linter.unusedVariables false
namespace Go.Proofs.YtipphlhaaienpaaDoor
open Go.RowKit
def kvI (s : ByteArray) (fl : Bool) (d p : Nat) (c : Int) : Except Int (Tr × Nat) := if c = 0 then kvE s (flOf fl) d p else .error c
def KviPost (rb : Nat) (s : ByteArray) (fl : Bool) (p : Nat) (w : World) (x : Except Int (Tr × Nat)) (e : Ending) (w' : World) : Prop :=
  ∃ (t : Tr) (v : Value) (q : Nat) (c : Int), e = .returned v ∧ VNew w.heap.size w'.heap.size w' t v ∧ (p ≤ q ∧ q ≤ s.size) ∧ w'.heap[rb]? = some (InCells s q fl c) ∧ w.grownBy w' (some rb) ∧ Out x t q c
def KviOk (s : ByteArray) (fl : Bool) (d : Nat) : Prop := ∀ (rb p : Nat) (c : Int) (lv : Int) (w : World), lv = 17 - d → p ≤ s.size → w.heap[rb]? = some (InCells s p fl c) →
  Calls Tryd.prog 28 #[.pointer (some ⟨rb, 0, none⟩), .int .i64 lv] w (KviPost rb s fl p w (kvI s fl d p c))
theorem mustC_ne {ok : Bool} {c : Int} (h : c ≠ 0) : mustC ok c = c := by cases ok <;> simp [mustC, h]
theorem NRelI.step {s : ByteArray} {fl : Bool} {r : Except Int (Nat × Nat)} {n q y : Nat} {c : Int} (h : NRel s (flOf fl) r (n + 1) q y c) {b : UInt8} {q' : Nat} {c' : Int} (ho : Out (nxI s fl q c) b q' c') : NRel s (flOf fl) r n q' (y * 256 + b.toNat) c' := by
  by_cases hc : c = 0
  · subst hc
    rw [show nxI s fl q 0 = nextE s (flOf fl) q by unfold nxI; rw [if_pos rfl]] at ho
    exact h.step ho
  · rw [show nxI s fl q c = .error c by unfold nxI; rw [if_neg hc]] at ho
    obtain ⟨rfl, _⟩ := ho
    rcases h with ⟨h, _⟩ | h
    · exact absurd h hc
    · exact .inr h
theorem mrI0 (s : ByteArray) (fl : Bool) (q : Nat) : mrI s fl q 0 = moreE s (flOf fl) q := by unfold mrI; rw [if_pos rfl]
theorem mrI_go {s : ByteArray} {fl : Bool} {q : Nat} {c : Int} {q' : Nat} {c' : Int} (ho : Out (mrI s fl q c) true q' c') (hb : c' ≠ 0 → true = false) : c = 0 ∧ c' = 0 ∧ q' = q + 1 := by
  have hc' : c' = 0 := Decidable.byContradiction fun h => by simpa using hb h
  subst hc'
  by_cases hc : c = 0
  · subst hc
    rw [mrI0] at ho
    refine ⟨rfl, rfl, ?_⟩
    cases hx : moreE s (flOf fl) q with
    | error e => rw [hx] at ho; exact absurd rfl ho.2
    | ok z => obtain ⟨a, b⟩ := z; rw [hx] at ho; obtain ⟨rfl, rfl, _⟩ := ho; exact moreE_ok hx
  · rw [show mrI s fl q c = .error c by unfold mrI; rw [if_neg hc]] at ho
    exact absurd rfl ho.2
section
variable {s : ByteArray} {fl : Bool} {f : Nat → Except Int (Tr × Nat)} {r : Except Int (Tr × Nat)}
theorem LRelI.bad {n q : Nat} {ts : List Tr} {c : Int} (h : LRelK s (flOf fl) f r n q ts c) (hc : c ≠ 0) (t : Tr) (q' : Nat) : Out r t q' c := by
  rcases h with ⟨h, _⟩ | ⟨_, rfl⟩
  · exact absurd h hc
  · exact ⟨rfl, hc⟩
theorem LRelI.stop {n q : Nat} {ts : List Tr} {c : Int} (h : LRelK s (flOf fl) f r n q ts c) (hn : c = 0 → 1 ≤ n) {q' : Nat} {c' : Int} (ho : Out (mrI s fl q c) false q' c') : Out r (.mk 6 0 ⟨#[]⟩ ts [] []) q' c' := by
  by_cases hc : c = 0
  · subst hc
    obtain ⟨m, rfl⟩ : ∃ m, n = m + 1 := ⟨n - 1, by have := hn rfl; omega⟩
    rw [mrI0] at ho
    exact h.stop ho
  · rw [show mrI s fl q c = .error c by unfold mrI; rw [if_neg hc]] at ho
    obtain ⟨rfl, _⟩ := ho
    exact LRelI.bad h hc _ _
theorem DRelI.bad {n q : Nat} {ns : List ByteArray} {ts : List Tr} {c : Int} (h : DRelK s (flOf fl) f r n q ns ts c) (hc : c ≠ 0) (t : Tr) (q' : Nat) : Out r t q' c := by
  rcases h with ⟨h, _⟩ | ⟨_, rfl⟩
  · exact absurd h hc
  · exact ⟨rfl, hc⟩
theorem DRelI.stop {n q : Nat} {ns : List ByteArray} {ts : List Tr} {c : Int} (h : DRelK s (flOf fl) f r n q ns ts c) (hn : c = 0 → 1 ≤ n) {q' : Nat} {c' : Int} (ho : Out (mrI s fl q c) false q' c') : Out r (.mk 5 0 ⟨#[]⟩ [] ns ts) q' c' := by
  by_cases hc : c = 0
  · subst hc
    obtain ⟨m, rfl⟩ : ∃ m, n = m + 1 := ⟨n - 1, by have := hn rfl; omega⟩
    rw [mrI0] at ho
    exact h.stop ho
  · rw [show mrI s fl q c = .error c by unfold mrI; rw [if_neg hc]] at ho
    obtain ⟨rfl, _⟩ := ho
    exact DRelI.bad h hc _ _
end
set_option maxRecDepth 20000 in
set_option maxHeartbeats 4000000 in
theorem ki_err (s : ByteArray) (fl : Bool) (d rb p : Nat) (c lv : Int) (w : World) (hs : s.size ≤ 1000000000) (hlv : lv = 17 - d) (hd : d ≤ 16) (hp : p ≤ s.size) (h : w.heap[rb]? = some (InCells s p fl c)) (e0 : Int) (hx : nxI s fl p c = .error e0) :
    Calls Tryd.prog 28 #[.pointer (some ⟨rb, 0, none⟩), .int .i64 lv] w (KviPost rb s fl p w (.error e0)) := by
  have HX := Lib.hid hx
  clear hx
  have hrb := blk_lt h
  have H := Lib.hid h
  have hne : rb ≠ w.heap.size := by omega
  have HLV := Lib.hid hlv
  have hlv1 : 0 ≤ lv ∧ lv ≤ 17 := by omega
  clear hlv h
  go_enter Tryd.func28, Tryd.ntmps28
  go_wp2_with fail
  have HG2 : Hid (w.grownBy (w.alloc (.cells #[.int .i64 0, .int .i64 0, .string ⟨#[]⟩, .slice none 0 0, .slice none 0 0] 41)) (some rb)) := only_alloc (World.grownBy.refl _ _) _
  have HA2 := Lib.hid (blk_at0 w (.cells #[.int .i64 0, .int .i64 0, .string ⟨#[]⟩, .slice none 0 0, .slice none 0 0] 41))
  refine (inext_ok s rb p fl c _ hs hp (blk_alloc H.out _)).mono ?_
  rw [HX.out]
  rintro e w3 ⟨b1, q1, c1, ⟨hq0, hq1⟩, rfl, hb3, g3, ho, hz⟩
  have HB3 := Lib.hid hb3
  have HG3 := Lib.hid (only_trans HG2.out g3)
  have HA3 := Lib.hid (blk_only HA2.out g3 hne.symm)
  have s3 : w.heap.size < w3.heap.size := by have := g3.size; simp at this; omega
  have r3 : rb < w3.heap.size := by omega
  clear hb3 g3 HG2 HA2 H
  obtain ⟨rfl, hc⟩ := ho
  have d1 : (c1 != 0) = true := by simpa using hc
  obtain rfl := hz hc
  have HC := Lib.hid hc
  clear hc hz
  by_cases hl : lv = 1
  · have dl : (lv == 1) = true := by simpa using hl
    have dm : decide (lv ≤ 16) = true := by simp; omega
    go_wp2_with fail
    refine (must_ok s rb q1 fl c1 _ _ (blk_alloc HB3.out _)).mono ?_
    rintro e wm ⟨rfl, hbm, gm⟩
    rw [show mustC _ c1 = c1 from mustC_ne HC.out] at hbm
    have HBm := Lib.hid hbm
    have HGm := Lib.hid (only_trans (only_alloc HG3.out (.cells #[.int .i64 0, .int .i64 0, .string ⟨#[]⟩, .slice none 0 0, .slice none 0 0] 41)) gm)
    have HAm := Lib.hid (blk_only (blk_alloc HA3.out (.cells #[.int .i64 0, .int .i64 0, .string ⟨#[]⟩, .slice none 0 0, .slice none 0 0] 41)) gm hne.symm)
    have HVm := Lib.hid (blk_only (blk_at0 w3 (.cells #[.int .i64 0, .int .i64 0, .string ⟨#[]⟩, .slice none 0 0, .slice none 0 0] 41)) gm (by omega))
    have sm : w3.heap.size < wm.heap.size := by have := gm.size; simp at this; omega
    have rm : rb < wm.heap.size := by omega
    clear hbm gm HB3 HG3 HA3
    have ck := blk_cell HBm.out
    have ca := blk_cell HAm.out
    have fa := blk_free HAm.out
    go_wp2_with fail
    refine bodyPost_ret (v := .agg #[.int .i64 0, .int .i64 0, .string ⟨#[]⟩, .slice none 0 0, .slice none 0 0]) (by simp only [results, Tryd.results28]; go_simp) rfl ⟨_, _, q1, c1, rfl, VNew.leaf _ _ _ _ _ _ (by first | assumption | (unfold I64; omega)) (by first | assumption | (unfold I64; omega)) (by first | assumption | (unfold maxLen; decide)), ⟨hq0, hq1⟩, ?_, ?_, ⟨rfl, HC.out⟩⟩
    · exact (by repeat (first | with_reducible exact HBm.out |  with_reducible refine blk_alloc ?_ _ | ((with_reducible refine blk_far ?_ ?_ _); rotate_left; (· first | (simp; done) | (simp; omega) | omega))))
    · exact (by repeat (first | with_reducible exact HGm.out | with_reducible refine only_drew ?_ | with_reducible refine only_alloc ?_ _ | with_reducible refine only_setCell ?_ (.inl rfl) _ | ((with_reducible refine only_setCell ?_ (.inr ?_) _); rotate_left; (· first | exact Nat.le_refl _ | omega | (simp; done) | (simp; omega)))))
  · have dl : (lv == 1) = false := beq_eq_false_iff_ne.2 hl
    go_wp2_with fail
    refine (must_ok s rb q1 fl c1 _ _ (blk_alloc HB3.out _)).mono ?_
    rintro e wm ⟨rfl, hbm, gm⟩
    rw [show mustC _ c1 = c1 from mustC_ne HC.out] at hbm
    have HBm := Lib.hid hbm
    have HGm := Lib.hid (only_trans (only_alloc HG3.out (.cells #[.int .i64 0, .int .i64 0, .string ⟨#[]⟩, .slice none 0 0, .slice none 0 0] 41)) gm)
    have HAm := Lib.hid (blk_only (blk_alloc HA3.out (.cells #[.int .i64 0, .int .i64 0, .string ⟨#[]⟩, .slice none 0 0, .slice none 0 0] 41)) gm hne.symm)
    have HVm := Lib.hid (blk_only (blk_at0 w3 (.cells #[.int .i64 0, .int .i64 0, .string ⟨#[]⟩, .slice none 0 0, .slice none 0 0] 41)) gm (by omega))
    have sm : w3.heap.size < wm.heap.size := by have := gm.size; simp at this; omega
    have rm : rb < wm.heap.size := by omega
    clear hbm gm HB3 HG3 HA3
    have ck := blk_cell HBm.out
    have ca := blk_cell HAm.out
    have fa := blk_free HAm.out
    go_wp2_with fail
    refine bodyPost_ret (v := .agg #[.int .i64 0, .int .i64 0, .string ⟨#[]⟩, .slice none 0 0, .slice none 0 0]) (by simp only [results, Tryd.results28]; go_simp) rfl ⟨_, _, q1, c1, rfl, VNew.leaf _ _ _ _ _ _ (by first | assumption | (unfold I64; omega)) (by first | assumption | (unfold I64; omega)) (by first | assumption | (unfold maxLen; decide)), ⟨hq0, hq1⟩, ?_, ?_, ⟨rfl, HC.out⟩⟩
    · exact (by repeat (first | with_reducible exact HBm.out |  with_reducible refine blk_alloc ?_ _ | ((with_reducible refine blk_far ?_ ?_ _); rotate_left; (· first | (simp; done) | (simp; omega) | omega))))
    · exact (by repeat (first | with_reducible exact HGm.out | with_reducible refine only_drew ?_ | with_reducible refine only_alloc ?_ _ | with_reducible refine only_setCell ?_ (.inl rfl) _ | ((with_reducible refine only_setCell ?_ (.inr ?_) _); rotate_left; (· first | exact Nat.le_refl _ | omega | (simp; done) | (simp; omega)))))
set_option maxRecDepth 20000 in
set_option maxHeartbeats 4000000 in
theorem ki_bad (s : ByteArray) (fl : Bool) (d rb p : Nat) (lv : Int) (w : World) (hs : s.size ≤ 1000000000) (hlv : lv = 17 - d) (hd : d ≤ 16) (hp : p ≤ s.size) (h : w.heap[rb]? = some (InCells s p fl 0)) (b : UInt8) (hx : nextE s (flOf fl) p = .ok (b, p + 1)) (hbad : 11 < b.toNat ∨ (b.toNat = 0 ∧ d < 16) ∨ (1 ≤ b.toNat ∧ b.toNat ≤ 11 ∧ d = 0)) :
    Calls Tryd.prog 28 #[.pointer (some ⟨rb, 0, none⟩), .int .i64 lv] w (KviPost rb s fl p w (.error 4)) := by
  have HX : Hid (nxI s fl p 0 = .ok (b, p + 1)) := by show _ = _; rw [← hx]; unfold nxI; rw [if_pos rfl]
  clear hx
  have hrb := blk_lt h
  have H := Lib.hid h
  have hne : rb ≠ w.heap.size := by omega
  have HLV := Lib.hid hlv
  have hlv1 : 0 ≤ lv ∧ lv ≤ 17 := by omega
  clear hlv h
  go_enter Tryd.func28, Tryd.ntmps28
  go_wp2_with fail
  have HG2 : Hid (w.grownBy (w.alloc (.cells #[.int .i64 0, .int .i64 0, .string ⟨#[]⟩, .slice none 0 0, .slice none 0 0] 41)) (some rb)) := only_alloc (World.grownBy.refl _ _) _
  have HA2 := Lib.hid (blk_at0 w (.cells #[.int .i64 0, .int .i64 0, .string ⟨#[]⟩, .slice none 0 0, .slice none 0 0] 41))
  refine (inext_ok s rb p fl 0 _ hs hp (blk_alloc H.out _)).mono ?_
  rw [HX.out]
  rintro e w3 ⟨b1, q1, c1, ⟨hq0, hq1⟩, rfl, hb3, g3, ho, hz⟩
  have HB3 := Lib.hid hb3
  have HG3 := Lib.hid (only_trans HG2.out g3)
  have HA3 := Lib.hid (blk_only HA2.out g3 hne.symm)
  have s3 : w.heap.size < w3.heap.size := by have := g3.size; simp at this; omega
  have r3 : rb < w3.heap.size := by omega
  clear hb3 g3 HG2 HA2 H
  obtain ⟨rfl, rfl, rfl⟩ := ho
  clear hz hq0
  have hbb := b.toNat_lt
  rcases hbad with hbad | ⟨hbad, hd1⟩ | ⟨hb1, hb2, hd1⟩
  · have d1 : decide ((b.toNat : Int) ≤ 11) = false := by simp; omega
    go_wp2_with fail
    refine (must_ok s rb (p + 1) fl 0 _ _ (blk_alloc HB3.out _)).mono ?_
    rintro e wm ⟨rfl, hbm, gm⟩
    rw [show mustC _ 0 = 4 from rfl] at hbm
    have HBm := Lib.hid hbm
    have HGm := Lib.hid (only_trans (only_alloc HG3.out (.cells #[.int .i64 (b.toNat : Int), .int .i64 0, .string ⟨#[]⟩, .slice none 0 0, .slice none 0 0] 41)) gm)
    have HAm := Lib.hid (blk_only (blk_alloc HA3.out (.cells #[.int .i64 (b.toNat : Int), .int .i64 0, .string ⟨#[]⟩, .slice none 0 0, .slice none 0 0] 41)) gm hne.symm)
    have HVm := Lib.hid (blk_only (blk_at0 w3 (.cells #[.int .i64 (b.toNat : Int), .int .i64 0, .string ⟨#[]⟩, .slice none 0 0, .slice none 0 0] 41)) gm (by omega))
    have sm : w3.heap.size < wm.heap.size := by have := gm.size; simp at this; omega
    have rm : rb < wm.heap.size := by omega
    clear hbm gm HB3 HG3 HA3
    have ck := blk_cell HBm.out
    have ca := blk_cell HAm.out
    have fa := blk_free HAm.out
    go_wp2_with fail
    refine bodyPost_ret (v := .agg #[.int .i64 0, .int .i64 0, .string ⟨#[]⟩, .slice none 0 0, .slice none 0 0]) (by simp only [results, Tryd.results28]; go_simp) rfl ⟨_, _, (p + 1), 4, rfl, VNew.leaf _ _ _ _ _ _ (by first | assumption | (unfold I64; omega)) (by first | assumption | (unfold I64; omega)) (by first | assumption | (unfold maxLen; decide)), ⟨by omega, by omega⟩, ?_, ?_, ⟨rfl, by omega⟩⟩
    · exact (by repeat (first | with_reducible exact HBm.out |  with_reducible refine blk_alloc ?_ _ | ((with_reducible refine blk_far ?_ ?_ _); rotate_left; (· first | (simp; done) | (simp; omega) | omega))))
    · exact (by repeat (first | with_reducible exact HGm.out | with_reducible refine only_drew ?_ | with_reducible refine only_alloc ?_ _ | with_reducible refine only_setCell ?_ (.inl rfl) _ | ((with_reducible refine only_setCell ?_ (.inr ?_) _); rotate_left; (· first | exact Nat.le_refl _ | omega | (simp; done) | (simp; omega)))))
  · have dl : (lv == 1) = false := beq_eq_false_iff_ne.2 (by have := HLV.out; omega)
    go_wp2_with fail
    refine (must_ok s rb (p + 1) fl 0 _ _ (blk_alloc HB3.out _)).mono ?_
    rintro e wm ⟨rfl, hbm, gm⟩
    rw [show mustC _ 0 = 4 from rfl] at hbm
    have HBm := Lib.hid hbm
    have HGm := Lib.hid (only_trans (only_alloc HG3.out (.cells #[.int .i64 0, .int .i64 0, .string ⟨#[]⟩, .slice none 0 0, .slice none 0 0] 41)) gm)
    have HAm := Lib.hid (blk_only (blk_alloc HA3.out (.cells #[.int .i64 0, .int .i64 0, .string ⟨#[]⟩, .slice none 0 0, .slice none 0 0] 41)) gm hne.symm)
    have HVm := Lib.hid (blk_only (blk_at0 w3 (.cells #[.int .i64 0, .int .i64 0, .string ⟨#[]⟩, .slice none 0 0, .slice none 0 0] 41)) gm (by omega))
    have sm : w3.heap.size < wm.heap.size := by have := gm.size; simp at this; omega
    have rm : rb < wm.heap.size := by omega
    clear hbm gm HB3 HG3 HA3
    have ck := blk_cell HBm.out
    have ca := blk_cell HAm.out
    have fa := blk_free HAm.out
    go_wp2_with fail
    refine bodyPost_ret (v := .agg #[.int .i64 0, .int .i64 0, .string ⟨#[]⟩, .slice none 0 0, .slice none 0 0]) (by simp only [results, Tryd.results28]; go_simp) rfl ⟨_, _, (p + 1), 4, rfl, VNew.leaf _ _ _ _ _ _ (by first | assumption | (unfold I64; omega)) (by first | assumption | (unfold I64; omega)) (by first | assumption | (unfold maxLen; decide)), ⟨by omega, by omega⟩, ?_, ?_, ⟨rfl, by omega⟩⟩
    · exact (by repeat (first | with_reducible exact HBm.out |  with_reducible refine blk_alloc ?_ _ | ((with_reducible refine blk_far ?_ ?_ _); rotate_left; (· first | (simp; done) | (simp; omega) | omega))))
    · exact (by repeat (first | with_reducible exact HGm.out | with_reducible refine only_drew ?_ | with_reducible refine only_alloc ?_ _ | with_reducible refine only_setCell ?_ (.inl rfl) _ | ((with_reducible refine only_setCell ?_ (.inr ?_) _); rotate_left; (· first | exact Nat.le_refl _ | omega | (simp; done) | (simp; omega)))))
  · have d1 : decide ((b.toNat : Int) ≤ 11) = true := by simp; omega
    have d2 : decide (1 ≤ (b.toNat : Int)) = true := by simp; omega
    have d3 : decide (lv ≤ 16) = false := by have := HLV.out; simp; omega
    go_wp2_with fail
    refine (must_ok s rb (p + 1) fl 0 _ _ (blk_alloc HB3.out _)).mono ?_
    rintro e wm ⟨rfl, hbm, gm⟩
    rw [show mustC _ 0 = 4 from rfl] at hbm
    have HBm := Lib.hid hbm
    have HGm := Lib.hid (only_trans (only_alloc HG3.out (.cells #[.int .i64 (b.toNat : Int), .int .i64 0, .string ⟨#[]⟩, .slice none 0 0, .slice none 0 0] 41)) gm)
    have HAm := Lib.hid (blk_only (blk_alloc HA3.out (.cells #[.int .i64 (b.toNat : Int), .int .i64 0, .string ⟨#[]⟩, .slice none 0 0, .slice none 0 0] 41)) gm hne.symm)
    have HVm := Lib.hid (blk_only (blk_at0 w3 (.cells #[.int .i64 (b.toNat : Int), .int .i64 0, .string ⟨#[]⟩, .slice none 0 0, .slice none 0 0] 41)) gm (by omega))
    have sm : w3.heap.size < wm.heap.size := by have := gm.size; simp at this; omega
    have rm : rb < wm.heap.size := by omega
    clear hbm gm HB3 HG3 HA3
    have ck := blk_cell HBm.out
    have ca := blk_cell HAm.out
    have fa := blk_free HAm.out
    go_wp2_with fail
    refine bodyPost_ret (v := .agg #[.int .i64 0, .int .i64 0, .string ⟨#[]⟩, .slice none 0 0, .slice none 0 0]) (by simp only [results, Tryd.results28]; go_simp) rfl ⟨_, _, (p + 1), 4, rfl, VNew.leaf _ _ _ _ _ _ (by first | assumption | (unfold I64; omega)) (by first | assumption | (unfold I64; omega)) (by first | assumption | (unfold maxLen; decide)), ⟨by omega, by omega⟩, ?_, ?_, ⟨rfl, by omega⟩⟩
    · exact (by repeat (first | with_reducible exact HBm.out |  with_reducible refine blk_alloc ?_ _ | ((with_reducible refine blk_far ?_ ?_ _); rotate_left; (· first | (simp; done) | (simp; omega) | omega))))
    · exact (by repeat (first | with_reducible exact HGm.out | with_reducible refine only_drew ?_ | with_reducible refine only_alloc ?_ _ | with_reducible refine only_setCell ?_ (.inl rfl) _ | ((with_reducible refine only_setCell ?_ (.inr ?_) _); rotate_left; (· first | exact Nat.le_refl _ | omega | (simp; done) | (simp; omega)))))
set_option maxRecDepth 20000 in
set_option maxHeartbeats 4000000 in
theorem ki_k0 (s : ByteArray) (fl : Bool) (d rb p : Nat) (lv : Int) (w : World) (hs : s.size ≤ 1000000000) (hlv : lv = 17 - d) (hd : d ≤ 16) (hp : p ≤ s.size) (h : w.heap[rb]? = some (InCells s p fl 0)) (b : UInt8) (hx : nextE s (flOf fl) p = .ok (b, p + 1)) (hd0 : 1 ≤ d) (hk : b.toNat = 0) (hd1 : d = 16) :
    Calls Tryd.prog 28 #[.pointer (some ⟨rb, 0, none⟩), .int .i64 lv] w (KviPost rb s fl p w (.ok (kLeaf 0 0 ⟨#[]⟩, p + 1))) := by
  have HX : Hid (nxI s fl p 0 = .ok (b, p + 1)) := by show _ = _; rw [← hx]; unfold nxI; rw [if_pos rfl]
  clear hx
  have hrb := blk_lt h
  have H := Lib.hid h
  have hne : rb ≠ w.heap.size := by omega
  have HLV := Lib.hid hlv
  have hlv1 : 0 ≤ lv ∧ lv ≤ 17 := by omega
  clear hlv h
  go_enter Tryd.func28, Tryd.ntmps28
  go_wp2_with fail
  have HG2 : Hid (w.grownBy (w.alloc (.cells #[.int .i64 0, .int .i64 0, .string ⟨#[]⟩, .slice none 0 0, .slice none 0 0] 41)) (some rb)) := only_alloc (World.grownBy.refl _ _) _
  have HA2 := Lib.hid (blk_at0 w (.cells #[.int .i64 0, .int .i64 0, .string ⟨#[]⟩, .slice none 0 0, .slice none 0 0] 41))
  refine (inext_ok s rb p fl 0 _ hs hp (blk_alloc H.out _)).mono ?_
  rw [HX.out]
  rintro e w3 ⟨b1, q1, c1, ⟨hq0, hq1⟩, rfl, hb3, g3, ho, hz⟩
  have HB3 := Lib.hid hb3
  have HG3 := Lib.hid (only_trans HG2.out g3)
  have HA3 := Lib.hid (blk_only HA2.out g3 hne.symm)
  have s3 : w.heap.size < w3.heap.size := by have := g3.size; simp at this; omega
  have r3 : rb < w3.heap.size := by omega
  clear hb3 g3 HG2 HA2 H
  obtain ⟨rfl, rfl, rfl⟩ := ho
  clear hz hq0
  have hbb := b.toNat_lt
  have dm : decide (lv ≤ 16) = true := by have := HLV.out; simp; omega
  have dl : (lv == 1) = true := by have := HLV.out; simp; omega
  go_wp2_with fail
  refine (must_ok s rb (p + 1) fl 0 _ _ (blk_alloc HB3.out _)).mono ?_
  rintro e wm ⟨rfl, hbm, gm⟩
  rw [show mustC _ 0 = 0 from rfl] at hbm
  have HBm := Lib.hid hbm
  have HGm := Lib.hid (only_trans (only_alloc HG3.out (.cells #[.int .i64 0, .int .i64 0, .string ⟨#[]⟩, .slice none 0 0, .slice none 0 0] 41)) gm)
  have HAm := Lib.hid (blk_only (blk_alloc HA3.out (.cells #[.int .i64 0, .int .i64 0, .string ⟨#[]⟩, .slice none 0 0, .slice none 0 0] 41)) gm hne.symm)
  have HVm := Lib.hid (blk_only (blk_at0 w3 (.cells #[.int .i64 0, .int .i64 0, .string ⟨#[]⟩, .slice none 0 0, .slice none 0 0] 41)) gm (by omega))
  have sm : w3.heap.size < wm.heap.size := by have := gm.size; simp at this; omega
  have rm : rb < wm.heap.size := by omega
  clear hbm gm HB3 HG3 HA3
  have ck := blk_cell HBm.out
  have ca := blk_cell HAm.out
  have fa := blk_free HAm.out
  have cv := blk_cell HVm.out
  have fv := blk_free HVm.out
  go_wp2_with fail
  refine bodyPost_ret (v := .agg #[.int .i64 0, .int .i64 0, .string ⟨#[]⟩, .slice none 0 0, .slice none 0 0]) (by simp only [results, Tryd.results28]; go_simp) rfl ⟨_, _, (p + 1), 0, rfl, VNew.leaf _ _ _ _ _ _ (by first | assumption | (unfold I64; omega)) (by first | assumption | (unfold I64; omega)) (by first | assumption | (unfold maxLen; decide)), ⟨by omega, by omega⟩, ?_, ?_, ⟨rfl, rfl, rfl⟩⟩
  · exact (by repeat (first | with_reducible exact HBm.out |  with_reducible refine blk_alloc ?_ _ | ((with_reducible refine blk_far ?_ ?_ _); rotate_left; (· first | (simp; done) | (simp; omega) | omega))))
  · exact (by repeat (first | with_reducible exact HGm.out | with_reducible refine only_drew ?_ | with_reducible refine only_alloc ?_ _ | with_reducible refine only_setCell ?_ (.inl rfl) _ | ((with_reducible refine only_setCell ?_ (.inr ?_) _); rotate_left; (· first | exact Nat.le_refl _ | omega | (simp; done) | (simp; omega)))))
set_option maxRecDepth 20000 in
set_option maxHeartbeats 4000000 in
theorem ki_k1 (s : ByteArray) (fl : Bool) (d rb p : Nat) (lv : Int) (w : World) (hs : s.size ≤ 1000000000) (hlv : lv = 17 - d) (hd : d ≤ 16) (hp : p ≤ s.size) (h : w.heap[rb]? = some (InCells s p fl 0)) (b : UInt8) (hx : nextE s (flOf fl) p = .ok (b, p + 1)) (hd0 : 1 ≤ d) (hk : b.toNat = 1) :
    Calls Tryd.prog 28 #[.pointer (some ⟨rb, 0, none⟩), .int .i64 lv] w (KviPost rb s fl p w (.ok (kLeaf 1 0 ⟨#[]⟩, p + 1))) := by
  have HX : Hid (nxI s fl p 0 = .ok (b, p + 1)) := by show _ = _; rw [← hx]; unfold nxI; rw [if_pos rfl]
  clear hx
  have hrb := blk_lt h
  have H := Lib.hid h
  have hne : rb ≠ w.heap.size := by omega
  have HLV := Lib.hid hlv
  have hlv1 : 0 ≤ lv ∧ lv ≤ 17 := by omega
  clear hlv h
  go_enter Tryd.func28, Tryd.ntmps28
  go_wp2_with fail
  have HG2 : Hid (w.grownBy (w.alloc (.cells #[.int .i64 0, .int .i64 0, .string ⟨#[]⟩, .slice none 0 0, .slice none 0 0] 41)) (some rb)) := only_alloc (World.grownBy.refl _ _) _
  have HA2 := Lib.hid (blk_at0 w (.cells #[.int .i64 0, .int .i64 0, .string ⟨#[]⟩, .slice none 0 0, .slice none 0 0] 41))
  refine (inext_ok s rb p fl 0 _ hs hp (blk_alloc H.out _)).mono ?_
  rw [HX.out]
  rintro e w3 ⟨b1, q1, c1, ⟨hq0, hq1⟩, rfl, hb3, g3, ho, hz⟩
  have HB3 := Lib.hid hb3
  have HG3 := Lib.hid (only_trans HG2.out g3)
  have HA3 := Lib.hid (blk_only HA2.out g3 hne.symm)
  have s3 : w.heap.size < w3.heap.size := by have := g3.size; simp at this; omega
  have r3 : rb < w3.heap.size := by omega
  clear hb3 g3 HG2 HA2 H
  obtain ⟨rfl, rfl, rfl⟩ := ho
  clear hz hq0
  have hbb := b.toNat_lt
  have dm : decide (lv ≤ 16) = true := by have := HLV.out; simp; omega
  go_wp2_with fail
  refine (must_ok s rb (p + 1) fl 0 _ _ (blk_alloc HB3.out _)).mono ?_
  rintro e wm ⟨rfl, hbm, gm⟩
  rw [show mustC _ 0 = 0 from rfl] at hbm
  have HBm := Lib.hid hbm
  have HGm := Lib.hid (only_trans (only_alloc HG3.out (.cells #[.int .i64 1, .int .i64 0, .string ⟨#[]⟩, .slice none 0 0, .slice none 0 0] 41)) gm)
  have HAm := Lib.hid (blk_only (blk_alloc HA3.out (.cells #[.int .i64 1, .int .i64 0, .string ⟨#[]⟩, .slice none 0 0, .slice none 0 0] 41)) gm hne.symm)
  have HVm := Lib.hid (blk_only (blk_at0 w3 (.cells #[.int .i64 1, .int .i64 0, .string ⟨#[]⟩, .slice none 0 0, .slice none 0 0] 41)) gm (by omega))
  have sm : w3.heap.size < wm.heap.size := by have := gm.size; simp at this; omega
  have rm : rb < wm.heap.size := by omega
  clear hbm gm HB3 HG3 HA3
  have ck := blk_cell HBm.out
  have ca := blk_cell HAm.out
  have fa := blk_free HAm.out
  have cv := blk_cell HVm.out
  have fv := blk_free HVm.out
  go_wp2_with fail
  refine bodyPost_ret (v := .agg #[.int .i64 1, .int .i64 0, .string ⟨#[]⟩, .slice none 0 0, .slice none 0 0]) (by simp only [results, Tryd.results28]; go_simp) rfl ⟨_, _, (p + 1), 0, rfl, VNew.leaf _ _ _ _ _ _ (by first | assumption | (unfold I64; omega)) (by first | assumption | (unfold I64; omega)) (by first | assumption | (unfold maxLen; decide)), ⟨by omega, by omega⟩, ?_, ?_, ⟨rfl, rfl, rfl⟩⟩
  · exact (by repeat (first | with_reducible exact HBm.out |  with_reducible refine blk_alloc ?_ _ | ((with_reducible refine blk_far ?_ ?_ _); rotate_left; (· first | (simp; done) | (simp; omega) | omega))))
  · exact (by repeat (first | with_reducible exact HGm.out | with_reducible refine only_drew ?_ | with_reducible refine only_alloc ?_ _ | with_reducible refine only_setCell ?_ (.inl rfl) _ | ((with_reducible refine only_setCell ?_ (.inr ?_) _); rotate_left; (· first | exact Nat.le_refl _ | omega | (simp; done) | (simp; omega)))))
set_option maxRecDepth 20000 in
set_option maxHeartbeats 4000000 in
theorem ki_k2 (s : ByteArray) (fl : Bool) (d rb p : Nat) (lv : Int) (w : World) (hs : s.size ≤ 1000000000) (hlv : lv = 17 - d) (hd : d ≤ 16) (hp : p ≤ s.size) (h : w.heap[rb]? = some (InCells s p fl 0)) (b : UInt8) (hx : nextE s (flOf fl) p = .ok (b, p + 1)) (hd0 : 1 ≤ d) (hk : b.toNat = 2) :
    Calls Tryd.prog 28 #[.pointer (some ⟨rb, 0, none⟩), .int .i64 lv] w (KviPost rb s fl p w (.ok (kLeaf 2 0 ⟨#[]⟩, p + 1))) := by
  have HX : Hid (nxI s fl p 0 = .ok (b, p + 1)) := by show _ = _; rw [← hx]; unfold nxI; rw [if_pos rfl]
  clear hx
  have hrb := blk_lt h
  have H := Lib.hid h
  have hne : rb ≠ w.heap.size := by omega
  have HLV := Lib.hid hlv
  have hlv1 : 0 ≤ lv ∧ lv ≤ 17 := by omega
  clear hlv h
  go_enter Tryd.func28, Tryd.ntmps28
  go_wp2_with fail
  have HG2 : Hid (w.grownBy (w.alloc (.cells #[.int .i64 0, .int .i64 0, .string ⟨#[]⟩, .slice none 0 0, .slice none 0 0] 41)) (some rb)) := only_alloc (World.grownBy.refl _ _) _
  have HA2 := Lib.hid (blk_at0 w (.cells #[.int .i64 0, .int .i64 0, .string ⟨#[]⟩, .slice none 0 0, .slice none 0 0] 41))
  refine (inext_ok s rb p fl 0 _ hs hp (blk_alloc H.out _)).mono ?_
  rw [HX.out]
  rintro e w3 ⟨b1, q1, c1, ⟨hq0, hq1⟩, rfl, hb3, g3, ho, hz⟩
  have HB3 := Lib.hid hb3
  have HG3 := Lib.hid (only_trans HG2.out g3)
  have HA3 := Lib.hid (blk_only HA2.out g3 hne.symm)
  have s3 : w.heap.size < w3.heap.size := by have := g3.size; simp at this; omega
  have r3 : rb < w3.heap.size := by omega
  clear hb3 g3 HG2 HA2 H
  obtain ⟨rfl, rfl, rfl⟩ := ho
  clear hz hq0
  have hbb := b.toNat_lt
  have dm : decide (lv ≤ 16) = true := by have := HLV.out; simp; omega
  go_wp2_with fail
  refine (must_ok s rb (p + 1) fl 0 _ _ (blk_alloc HB3.out _)).mono ?_
  rintro e wm ⟨rfl, hbm, gm⟩
  rw [show mustC _ 0 = 0 from rfl] at hbm
  have HBm := Lib.hid hbm
  have HGm := Lib.hid (only_trans (only_alloc HG3.out (.cells #[.int .i64 2, .int .i64 0, .string ⟨#[]⟩, .slice none 0 0, .slice none 0 0] 41)) gm)
  have HAm := Lib.hid (blk_only (blk_alloc HA3.out (.cells #[.int .i64 2, .int .i64 0, .string ⟨#[]⟩, .slice none 0 0, .slice none 0 0] 41)) gm hne.symm)
  have HVm := Lib.hid (blk_only (blk_at0 w3 (.cells #[.int .i64 2, .int .i64 0, .string ⟨#[]⟩, .slice none 0 0, .slice none 0 0] 41)) gm (by omega))
  have sm : w3.heap.size < wm.heap.size := by have := gm.size; simp at this; omega
  have rm : rb < wm.heap.size := by omega
  clear hbm gm HB3 HG3 HA3
  have ck := blk_cell HBm.out
  have ca := blk_cell HAm.out
  have fa := blk_free HAm.out
  have cv := blk_cell HVm.out
  have fv := blk_free HVm.out
  go_wp2_with fail
  refine bodyPost_ret (v := .agg #[.int .i64 2, .int .i64 0, .string ⟨#[]⟩, .slice none 0 0, .slice none 0 0]) (by simp only [results, Tryd.results28]; go_simp) rfl ⟨_, _, (p + 1), 0, rfl, VNew.leaf _ _ _ _ _ _ (by first | assumption | (unfold I64; omega)) (by first | assumption | (unfold I64; omega)) (by first | assumption | (unfold maxLen; decide)), ⟨by omega, by omega⟩, ?_, ?_, ⟨rfl, rfl, rfl⟩⟩
  · exact (by repeat (first | with_reducible exact HBm.out |  with_reducible refine blk_alloc ?_ _ | ((with_reducible refine blk_far ?_ ?_ _); rotate_left; (· first | (simp; done) | (simp; omega) | omega))))
  · exact (by repeat (first | with_reducible exact HGm.out | with_reducible refine only_drew ?_ | with_reducible refine only_alloc ?_ _ | with_reducible refine only_setCell ?_ (.inl rfl) _ | ((with_reducible refine only_setCell ?_ (.inr ?_) _); rotate_left; (· first | exact Nat.le_refl _ | omega | (simp; done) | (simp; omega)))))
set_option maxRecDepth 20000 in
set_option maxHeartbeats 4000000 in
theorem ki_k11 (s : ByteArray) (fl : Bool) (d rb p : Nat) (lv : Int) (w : World) (hs : s.size ≤ 1000000000) (hlv : lv = 17 - d) (hd : d ≤ 16) (hp : p ≤ s.size) (h : w.heap[rb]? = some (InCells s p fl 0)) (b : UInt8) (hx : nextE s (flOf fl) p = .ok (b, p + 1)) (hd0 : 1 ≤ d) (hk : b.toNat = 11) :
    Calls Tryd.prog 28 #[.pointer (some ⟨rb, 0, none⟩), .int .i64 lv] w (KviPost rb s fl p w (.ok (kLeaf 11 0 ⟨#[]⟩, p + 1))) := by
  have HX : Hid (nxI s fl p 0 = .ok (b, p + 1)) := by show _ = _; rw [← hx]; unfold nxI; rw [if_pos rfl]
  clear hx
  have hrb := blk_lt h
  have H := Lib.hid h
  have hne : rb ≠ w.heap.size := by omega
  have HLV := Lib.hid hlv
  have hlv1 : 0 ≤ lv ∧ lv ≤ 17 := by omega
  clear hlv h
  go_enter Tryd.func28, Tryd.ntmps28
  go_wp2_with fail
  have HG2 : Hid (w.grownBy (w.alloc (.cells #[.int .i64 0, .int .i64 0, .string ⟨#[]⟩, .slice none 0 0, .slice none 0 0] 41)) (some rb)) := only_alloc (World.grownBy.refl _ _) _
  have HA2 := Lib.hid (blk_at0 w (.cells #[.int .i64 0, .int .i64 0, .string ⟨#[]⟩, .slice none 0 0, .slice none 0 0] 41))
  refine (inext_ok s rb p fl 0 _ hs hp (blk_alloc H.out _)).mono ?_
  rw [HX.out]
  rintro e w3 ⟨b1, q1, c1, ⟨hq0, hq1⟩, rfl, hb3, g3, ho, hz⟩
  have HB3 := Lib.hid hb3
  have HG3 := Lib.hid (only_trans HG2.out g3)
  have HA3 := Lib.hid (blk_only HA2.out g3 hne.symm)
  have s3 : w.heap.size < w3.heap.size := by have := g3.size; simp at this; omega
  have r3 : rb < w3.heap.size := by omega
  clear hb3 g3 HG2 HA2 H
  obtain ⟨rfl, rfl, rfl⟩ := ho
  clear hz hq0
  have hbb := b.toNat_lt
  have dm : decide (lv ≤ 16) = true := by have := HLV.out; simp; omega
  go_wp2_with fail
  refine (must_ok s rb (p + 1) fl 0 _ _ (blk_alloc HB3.out _)).mono ?_
  rintro e wm ⟨rfl, hbm, gm⟩
  rw [show mustC _ 0 = 0 from rfl] at hbm
  have HBm := Lib.hid hbm
  have HGm := Lib.hid (only_trans (only_alloc HG3.out (.cells #[.int .i64 11, .int .i64 0, .string ⟨#[]⟩, .slice none 0 0, .slice none 0 0] 41)) gm)
  have HAm := Lib.hid (blk_only (blk_alloc HA3.out (.cells #[.int .i64 11, .int .i64 0, .string ⟨#[]⟩, .slice none 0 0, .slice none 0 0] 41)) gm hne.symm)
  have HVm := Lib.hid (blk_only (blk_at0 w3 (.cells #[.int .i64 11, .int .i64 0, .string ⟨#[]⟩, .slice none 0 0, .slice none 0 0] 41)) gm (by omega))
  have sm : w3.heap.size < wm.heap.size := by have := gm.size; simp at this; omega
  have rm : rb < wm.heap.size := by omega
  clear hbm gm HB3 HG3 HA3
  have ck := blk_cell HBm.out
  have ca := blk_cell HAm.out
  have fa := blk_free HAm.out
  have cv := blk_cell HVm.out
  have fv := blk_free HVm.out
  go_wp2_with fail
  refine bodyPost_ret (v := .agg #[.int .i64 11, .int .i64 0, .string ⟨#[]⟩, .slice none 0 0, .slice none 0 0]) (by simp only [results, Tryd.results28]; go_simp) rfl ⟨_, _, (p + 1), 0, rfl, VNew.leaf _ _ _ _ _ _ (by first | assumption | (unfold I64; omega)) (by first | assumption | (unfold I64; omega)) (by first | assumption | (unfold maxLen; decide)), ⟨by omega, by omega⟩, ?_, ?_, ⟨rfl, rfl, rfl⟩⟩
  · exact (by repeat (first | with_reducible exact HBm.out |  with_reducible refine blk_alloc ?_ _ | ((with_reducible refine blk_far ?_ ?_ _); rotate_left; (· first | (simp; done) | (simp; omega) | omega))))
  · exact (by repeat (first | with_reducible exact HGm.out | with_reducible refine only_drew ?_ | with_reducible refine only_alloc ?_ _ | with_reducible refine only_setCell ?_ (.inl rfl) _ | ((with_reducible refine only_setCell ?_ (.inr ?_) _); rotate_left; (· first | exact Nat.le_refl _ | omega | (simp; done) | (simp; omega)))))
set_option maxRecDepth 20000 in
set_option maxHeartbeats 4000000 in
theorem ki_k4 (s : ByteArray) (fl : Bool) (d rb p : Nat) (lv : Int) (w : World) (hs : s.size ≤ 1000000000) (hlv : lv = 17 - d) (hd : d ≤ 16) (hp : p ≤ s.size) (h : w.heap[rb]? = some (InCells s p fl 0)) (b : UInt8) (hx : nextE s (flOf fl) p = .ok (b, p + 1)) (hd0 : 1 ≤ d) (hk : b.toNat = 4) :
    Calls Tryd.prog 28 #[.pointer (some ⟨rb, 0, none⟩), .int .i64 lv] w (KviPost rb s fl p w (textT 4 (textE s (flOf fl) (s.size + 1) (p + 1) []))) := by
  have HX : Hid (nxI s fl p 0 = .ok (b, p + 1)) := by show _ = _; rw [← hx]; unfold nxI; rw [if_pos rfl]
  clear hx
  have hrb := blk_lt h
  have H := Lib.hid h
  have hne : rb ≠ w.heap.size := by omega
  have HLV := Lib.hid hlv
  have hlv1 : 0 ≤ lv ∧ lv ≤ 17 := by omega
  clear hlv h
  go_enter Tryd.func28, Tryd.ntmps28
  go_wp2_with fail
  have HG2 : Hid (w.grownBy (w.alloc (.cells #[.int .i64 0, .int .i64 0, .string ⟨#[]⟩, .slice none 0 0, .slice none 0 0] 41)) (some rb)) := only_alloc (World.grownBy.refl _ _) _
  have HA2 := Lib.hid (blk_at0 w (.cells #[.int .i64 0, .int .i64 0, .string ⟨#[]⟩, .slice none 0 0, .slice none 0 0] 41))
  refine (inext_ok s rb p fl 0 _ hs hp (blk_alloc H.out _)).mono ?_
  rw [HX.out]
  rintro e w3 ⟨b1, q1, c1, ⟨hq0, hq1⟩, rfl, hb3, g3, ho, hz⟩
  have HB3 := Lib.hid hb3
  have HG3 := Lib.hid (only_trans HG2.out g3)
  have HA3 := Lib.hid (blk_only HA2.out g3 hne.symm)
  have s3 : w.heap.size < w3.heap.size := by have := g3.size; simp at this; omega
  have r3 : rb < w3.heap.size := by omega
  clear hb3 g3 HG2 HA2 H
  obtain ⟨rfl, rfl, rfl⟩ := ho
  clear hz hq0
  have hbb := b.toNat_lt
  have dm : decide (lv ≤ 16) = true := by have := HLV.out; simp; omega
  go_wp2_with fail
  refine (must_ok s rb (p + 1) fl 0 _ _ (blk_alloc HB3.out _)).mono ?_
  rintro e wm ⟨rfl, hbm, gm⟩
  rw [show mustC _ 0 = 0 from rfl] at hbm
  have HBm := Lib.hid hbm
  have HGm := Lib.hid (only_trans (only_alloc HG3.out (.cells #[.int .i64 4, .int .i64 0, .string ⟨#[]⟩, .slice none 0 0, .slice none 0 0] 41)) gm)
  have HAm := Lib.hid (blk_only (blk_alloc HA3.out (.cells #[.int .i64 4, .int .i64 0, .string ⟨#[]⟩, .slice none 0 0, .slice none 0 0] 41)) gm hne.symm)
  have HVm := Lib.hid (blk_only (blk_at0 w3 (.cells #[.int .i64 4, .int .i64 0, .string ⟨#[]⟩, .slice none 0 0, .slice none 0 0] 41)) gm (by omega))
  have sm : w3.heap.size < wm.heap.size := by have := gm.size; simp at this; omega
  have rm : rb < wm.heap.size := by omega
  clear hbm gm HB3 HG3 HA3
  have ck := blk_cell HBm.out
  have ca := blk_cell HAm.out
  have fa := blk_free HAm.out
  have cv := blk_cell HVm.out
  have fv := blk_free HVm.out
  go_wp2_with fail
  refine (itext_ok s rb (p + 1) fl _ hs hq1 HBm.out).mono ?_
  rintro e w4 ⟨l4, q4, c4, hl4, ⟨hq40, hq4⟩, rfl, hb4, g4, ho4⟩
  have HB4 := Lib.hid hb4
  have HG4 := Lib.hid (only_trans HGm.out g4)
  have HA4 := Lib.hid (blk_only HAm.out g4 hne.symm)
  have HV4 := Lib.hid (blk_only HVm.out g4 (by omega))
  have s4 : wm.heap.size ≤ w4.heap.size := g4.size
  have hnv : ¬ w.heap.size = w3.heap.size := by omega
  have hav : w.heap.size < w4.heap.size := by omega
  have hvv : w3.heap.size < w4.heap.size := by omega
  clear ck ca fa cv fv hb4 g4 HGm HVm HBm HAm
  have ck := blk_cell HB4.out
  have ca := blk_cell HA4.out
  have fa := blk_free HA4.out
  have cv := blk_cell HV4.out
  have fv := blk_free HV4.out
  have HO := Lib.hid (out_txt (k := 4) ho4)
  clear ho4
  have hm4 : (⟨l4.toArray⟩ : ByteArray).size ≤ maxLen := by unfold maxLen; show l4.toArray.size ≤ _; simp; omega
  go_wp2_with fail
  refine bodyPost_ret (v := .agg #[.int .i64 4, .int .i64 0, .string ⟨l4.toArray⟩, .slice none 0 0, .slice none 0 0]) (by simp only [results, Tryd.results28]; go_simp) rfl ⟨_, _, q4, c4, rfl, VNew.leaf _ _ _ _ _ _ (by unfold I64; omega) (by unfold I64; omega) hm4, ⟨by omega, by omega⟩, ?_, ?_, HO.out⟩
  · exact (by repeat (first | with_reducible exact HB4.out |  with_reducible refine blk_alloc ?_ _ | ((with_reducible refine blk_far ?_ ?_ _); rotate_left; (· first | (simp; done) | (simp; omega) | omega))))
  · exact (by repeat (first | with_reducible exact HG4.out | with_reducible refine only_drew ?_ | with_reducible refine only_alloc ?_ _ | with_reducible refine only_setCell ?_ (.inl rfl) _ | ((with_reducible refine only_setCell ?_ (.inr ?_) _); rotate_left; (· first | exact Nat.le_refl _ | omega | (simp; done) | (simp; omega)))))
set_option maxRecDepth 20000 in
set_option maxHeartbeats 4000000 in
theorem ki_k7 (s : ByteArray) (fl : Bool) (d rb p : Nat) (lv : Int) (w : World) (hs : s.size ≤ 1000000000) (hlv : lv = 17 - d) (hd : d ≤ 16) (hp : p ≤ s.size) (h : w.heap[rb]? = some (InCells s p fl 0)) (b : UInt8) (hx : nextE s (flOf fl) p = .ok (b, p + 1)) (hd0 : 1 ≤ d) (hk : b.toNat = 7) :
    Calls Tryd.prog 28 #[.pointer (some ⟨rb, 0, none⟩), .int .i64 lv] w (KviPost rb s fl p w (textT 7 (textE s (flOf fl) (s.size + 1) (p + 1) []))) := by
  have HX : Hid (nxI s fl p 0 = .ok (b, p + 1)) := by show _ = _; rw [← hx]; unfold nxI; rw [if_pos rfl]
  clear hx
  have hrb := blk_lt h
  have H := Lib.hid h
  have hne : rb ≠ w.heap.size := by omega
  have HLV := Lib.hid hlv
  have hlv1 : 0 ≤ lv ∧ lv ≤ 17 := by omega
  clear hlv h
  go_enter Tryd.func28, Tryd.ntmps28
  go_wp2_with fail
  have HG2 : Hid (w.grownBy (w.alloc (.cells #[.int .i64 0, .int .i64 0, .string ⟨#[]⟩, .slice none 0 0, .slice none 0 0] 41)) (some rb)) := only_alloc (World.grownBy.refl _ _) _
  have HA2 := Lib.hid (blk_at0 w (.cells #[.int .i64 0, .int .i64 0, .string ⟨#[]⟩, .slice none 0 0, .slice none 0 0] 41))
  refine (inext_ok s rb p fl 0 _ hs hp (blk_alloc H.out _)).mono ?_
  rw [HX.out]
  rintro e w3 ⟨b1, q1, c1, ⟨hq0, hq1⟩, rfl, hb3, g3, ho, hz⟩
  have HB3 := Lib.hid hb3
  have HG3 := Lib.hid (only_trans HG2.out g3)
  have HA3 := Lib.hid (blk_only HA2.out g3 hne.symm)
  have s3 : w.heap.size < w3.heap.size := by have := g3.size; simp at this; omega
  have r3 : rb < w3.heap.size := by omega
  clear hb3 g3 HG2 HA2 H
  obtain ⟨rfl, rfl, rfl⟩ := ho
  clear hz hq0
  have hbb := b.toNat_lt
  have dm : decide (lv ≤ 16) = true := by have := HLV.out; simp; omega
  go_wp2_with fail
  refine (must_ok s rb (p + 1) fl 0 _ _ (blk_alloc HB3.out _)).mono ?_
  rintro e wm ⟨rfl, hbm, gm⟩
  rw [show mustC _ 0 = 0 from rfl] at hbm
  have HBm := Lib.hid hbm
  have HGm := Lib.hid (only_trans (only_alloc HG3.out (.cells #[.int .i64 7, .int .i64 0, .string ⟨#[]⟩, .slice none 0 0, .slice none 0 0] 41)) gm)
  have HAm := Lib.hid (blk_only (blk_alloc HA3.out (.cells #[.int .i64 7, .int .i64 0, .string ⟨#[]⟩, .slice none 0 0, .slice none 0 0] 41)) gm hne.symm)
  have HVm := Lib.hid (blk_only (blk_at0 w3 (.cells #[.int .i64 7, .int .i64 0, .string ⟨#[]⟩, .slice none 0 0, .slice none 0 0] 41)) gm (by omega))
  have sm : w3.heap.size < wm.heap.size := by have := gm.size; simp at this; omega
  have rm : rb < wm.heap.size := by omega
  clear hbm gm HB3 HG3 HA3
  have ck := blk_cell HBm.out
  have ca := blk_cell HAm.out
  have fa := blk_free HAm.out
  have cv := blk_cell HVm.out
  have fv := blk_free HVm.out
  go_wp2_with fail
  refine (itext_ok s rb (p + 1) fl _ hs hq1 HBm.out).mono ?_
  rintro e w4 ⟨l4, q4, c4, hl4, ⟨hq40, hq4⟩, rfl, hb4, g4, ho4⟩
  have HB4 := Lib.hid hb4
  have HG4 := Lib.hid (only_trans HGm.out g4)
  have HA4 := Lib.hid (blk_only HAm.out g4 hne.symm)
  have HV4 := Lib.hid (blk_only HVm.out g4 (by omega))
  have s4 : wm.heap.size ≤ w4.heap.size := g4.size
  have hnv : ¬ w.heap.size = w3.heap.size := by omega
  have hav : w.heap.size < w4.heap.size := by omega
  have hvv : w3.heap.size < w4.heap.size := by omega
  clear ck ca fa cv fv hb4 g4 HGm HVm HBm HAm
  have ck := blk_cell HB4.out
  have ca := blk_cell HA4.out
  have fa := blk_free HA4.out
  have cv := blk_cell HV4.out
  have fv := blk_free HV4.out
  have HO := Lib.hid (out_txt (k := 7) ho4)
  clear ho4
  have hm4 : (⟨l4.toArray⟩ : ByteArray).size ≤ maxLen := by unfold maxLen; show l4.toArray.size ≤ _; simp; omega
  go_wp2_with fail
  refine bodyPost_ret (v := .agg #[.int .i64 7, .int .i64 0, .string ⟨l4.toArray⟩, .slice none 0 0, .slice none 0 0]) (by simp only [results, Tryd.results28]; go_simp) rfl ⟨_, _, q4, c4, rfl, VNew.leaf _ _ _ _ _ _ (by unfold I64; omega) (by unfold I64; omega) hm4, ⟨by omega, by omega⟩, ?_, ?_, HO.out⟩
  · exact (by repeat (first | with_reducible exact HB4.out |  with_reducible refine blk_alloc ?_ _ | ((with_reducible refine blk_far ?_ ?_ _); rotate_left; (· first | (simp; done) | (simp; omega) | omega))))
  · exact (by repeat (first | with_reducible exact HG4.out | with_reducible refine only_drew ?_ | with_reducible refine only_alloc ?_ _ | with_reducible refine only_setCell ?_ (.inl rfl) _ | ((with_reducible refine only_setCell ?_ (.inr ?_) _); rotate_left; (· first | exact Nat.le_refl _ | omega | (simp; done) | (simp; omega)))))
set_option maxRecDepth 20000 in
set_option maxHeartbeats 4000000 in
theorem ki_k8 (s : ByteArray) (fl : Bool) (d rb p : Nat) (lv : Int) (w : World) (hs : s.size ≤ 1000000000) (hlv : lv = 17 - d) (hd : d ≤ 16) (hp : p ≤ s.size) (h : w.heap[rb]? = some (InCells s p fl 0)) (b : UInt8) (hx : nextE s (flOf fl) p = .ok (b, p + 1)) (hd0 : 1 ≤ d) (hk : b.toNat = 8) :
    Calls Tryd.prog 28 #[.pointer (some ⟨rb, 0, none⟩), .int .i64 lv] w (KviPost rb s fl p w (textT 8 (textE s (flOf fl) (s.size + 1) (p + 1) []))) := by
  have HX : Hid (nxI s fl p 0 = .ok (b, p + 1)) := by show _ = _; rw [← hx]; unfold nxI; rw [if_pos rfl]
  clear hx
  have hrb := blk_lt h
  have H := Lib.hid h
  have hne : rb ≠ w.heap.size := by omega
  have HLV := Lib.hid hlv
  have hlv1 : 0 ≤ lv ∧ lv ≤ 17 := by omega
  clear hlv h
  go_enter Tryd.func28, Tryd.ntmps28
  go_wp2_with fail
  have HG2 : Hid (w.grownBy (w.alloc (.cells #[.int .i64 0, .int .i64 0, .string ⟨#[]⟩, .slice none 0 0, .slice none 0 0] 41)) (some rb)) := only_alloc (World.grownBy.refl _ _) _
  have HA2 := Lib.hid (blk_at0 w (.cells #[.int .i64 0, .int .i64 0, .string ⟨#[]⟩, .slice none 0 0, .slice none 0 0] 41))
  refine (inext_ok s rb p fl 0 _ hs hp (blk_alloc H.out _)).mono ?_
  rw [HX.out]
  rintro e w3 ⟨b1, q1, c1, ⟨hq0, hq1⟩, rfl, hb3, g3, ho, hz⟩
  have HB3 := Lib.hid hb3
  have HG3 := Lib.hid (only_trans HG2.out g3)
  have HA3 := Lib.hid (blk_only HA2.out g3 hne.symm)
  have s3 : w.heap.size < w3.heap.size := by have := g3.size; simp at this; omega
  have r3 : rb < w3.heap.size := by omega
  clear hb3 g3 HG2 HA2 H
  obtain ⟨rfl, rfl, rfl⟩ := ho
  clear hz hq0
  have hbb := b.toNat_lt
  have dm : decide (lv ≤ 16) = true := by have := HLV.out; simp; omega
  go_wp2_with fail
  refine (must_ok s rb (p + 1) fl 0 _ _ (blk_alloc HB3.out _)).mono ?_
  rintro e wm ⟨rfl, hbm, gm⟩
  rw [show mustC _ 0 = 0 from rfl] at hbm
  have HBm := Lib.hid hbm
  have HGm := Lib.hid (only_trans (only_alloc HG3.out (.cells #[.int .i64 8, .int .i64 0, .string ⟨#[]⟩, .slice none 0 0, .slice none 0 0] 41)) gm)
  have HAm := Lib.hid (blk_only (blk_alloc HA3.out (.cells #[.int .i64 8, .int .i64 0, .string ⟨#[]⟩, .slice none 0 0, .slice none 0 0] 41)) gm hne.symm)
  have HVm := Lib.hid (blk_only (blk_at0 w3 (.cells #[.int .i64 8, .int .i64 0, .string ⟨#[]⟩, .slice none 0 0, .slice none 0 0] 41)) gm (by omega))
  have sm : w3.heap.size < wm.heap.size := by have := gm.size; simp at this; omega
  have rm : rb < wm.heap.size := by omega
  clear hbm gm HB3 HG3 HA3
  have ck := blk_cell HBm.out
  have ca := blk_cell HAm.out
  have fa := blk_free HAm.out
  have cv := blk_cell HVm.out
  have fv := blk_free HVm.out
  go_wp2_with fail
  refine (itext_ok s rb (p + 1) fl _ hs hq1 HBm.out).mono ?_
  rintro e w4 ⟨l4, q4, c4, hl4, ⟨hq40, hq4⟩, rfl, hb4, g4, ho4⟩
  have HB4 := Lib.hid hb4
  have HG4 := Lib.hid (only_trans HGm.out g4)
  have HA4 := Lib.hid (blk_only HAm.out g4 hne.symm)
  have HV4 := Lib.hid (blk_only HVm.out g4 (by omega))
  have s4 : wm.heap.size ≤ w4.heap.size := g4.size
  have hnv : ¬ w.heap.size = w3.heap.size := by omega
  have hav : w.heap.size < w4.heap.size := by omega
  have hvv : w3.heap.size < w4.heap.size := by omega
  clear ck ca fa cv fv hb4 g4 HGm HVm HBm HAm
  have ck := blk_cell HB4.out
  have ca := blk_cell HA4.out
  have fa := blk_free HA4.out
  have cv := blk_cell HV4.out
  have fv := blk_free HV4.out
  have HO := Lib.hid (out_txt (k := 8) ho4)
  clear ho4
  have hm4 : (⟨l4.toArray⟩ : ByteArray).size ≤ maxLen := by unfold maxLen; show l4.toArray.size ≤ _; simp; omega
  go_wp2_with fail
  refine bodyPost_ret (v := .agg #[.int .i64 8, .int .i64 0, .string ⟨l4.toArray⟩, .slice none 0 0, .slice none 0 0]) (by simp only [results, Tryd.results28]; go_simp) rfl ⟨_, _, q4, c4, rfl, VNew.leaf _ _ _ _ _ _ (by unfold I64; omega) (by unfold I64; omega) hm4, ⟨by omega, by omega⟩, ?_, ?_, HO.out⟩
  · exact (by repeat (first | with_reducible exact HB4.out |  with_reducible refine blk_alloc ?_ _ | ((with_reducible refine blk_far ?_ ?_ _); rotate_left; (· first | (simp; done) | (simp; omega) | omega))))
  · exact (by repeat (first | with_reducible exact HG4.out | with_reducible refine only_drew ?_ | with_reducible refine only_alloc ?_ _ | with_reducible refine only_setCell ?_ (.inl rfl) _ | ((with_reducible refine only_setCell ?_ (.inr ?_) _); rotate_left; (· first | exact Nat.le_refl _ | omega | (simp; done) | (simp; omega)))))
set_option maxRecDepth 20000 in
set_option maxHeartbeats 4000000 in
theorem ki_k3 (s : ByteArray) (fl : Bool) (d rb p : Nat) (lv : Int) (w : World) (hs : s.size ≤ 1000000000) (hlv : lv = 17 - d) (hd : d ≤ 16) (hp : p ≤ s.size) (h : w.heap[rb]? = some (InCells s p fl 0)) (b : UInt8) (hx : nextE s (flOf fl) p = .ok (b, p + 1)) (hd0 : 1 ≤ d) (hk : b.toNat = 3) :
    Calls Tryd.prog 28 #[.pointer (some ⟨rb, 0, none⟩), .int .i64 lv] w (KviPost rb s fl p w (numT 3 (numN s (flOf fl) 8 (p + 1) 0))) := by
  obtain ⟨r, hr⟩ : ∃ r, numN s (flOf fl) 8 (p + 1) 0 = r := ⟨_, rfl⟩
  rw [hr]
  have HR := Lib.hid hr
  clear hr
  have HX : Hid (nxI s fl p 0 = .ok (b, p + 1)) := by show _ = _; rw [← hx]; unfold nxI; rw [if_pos rfl]
  clear hx
  have hrb := blk_lt h
  have H := Lib.hid h
  have hne : rb ≠ w.heap.size := by omega
  have HLV := Lib.hid hlv
  have hlv1 : 0 ≤ lv ∧ lv ≤ 17 := by omega
  clear hlv h
  go_enter Tryd.func28, Tryd.ntmps28
  go_wp2_with fail
  have HG2 : Hid (w.grownBy (w.alloc (.cells #[.int .i64 0, .int .i64 0, .string ⟨#[]⟩, .slice none 0 0, .slice none 0 0] 41)) (some rb)) := only_alloc (World.grownBy.refl _ _) _
  have HA2 := Lib.hid (blk_at0 w (.cells #[.int .i64 0, .int .i64 0, .string ⟨#[]⟩, .slice none 0 0, .slice none 0 0] 41))
  refine (inext_ok s rb p fl 0 _ hs hp (blk_alloc H.out _)).mono ?_
  rw [HX.out]
  rintro e w3 ⟨b1, q1, c1, ⟨hq0, hq1⟩, rfl, hb3, g3, ho, hz⟩
  have HB3 := Lib.hid hb3
  have HG3 := Lib.hid (only_trans HG2.out g3)
  have HA3 := Lib.hid (blk_only HA2.out g3 hne.symm)
  have s3 : w.heap.size < w3.heap.size := by have := g3.size; simp at this; omega
  have r3 : rb < w3.heap.size := by omega
  clear hb3 g3 HG2 HA2 H
  obtain ⟨rfl, rfl, rfl⟩ := ho
  clear hz hq0
  have hbb := b.toNat_lt
  have dm : decide (lv ≤ 16) = true := by have := HLV.out; simp; omega
  go_wp2_with fail
  refine (must_ok s rb (p + 1) fl 0 _ _ (blk_alloc HB3.out _)).mono ?_
  rintro e wm ⟨rfl, hbm, gm⟩
  rw [show mustC _ 0 = 0 from rfl] at hbm
  have HBm := Lib.hid hbm
  have HGm := Lib.hid (only_trans (only_alloc HG3.out (.cells #[.int .i64 3, .int .i64 0, .string ⟨#[]⟩, .slice none 0 0, .slice none 0 0] 41)) gm)
  have HAm := Lib.hid (blk_only (blk_alloc HA3.out (.cells #[.int .i64 3, .int .i64 0, .string ⟨#[]⟩, .slice none 0 0, .slice none 0 0] 41)) gm hne.symm)
  have HVm := Lib.hid (blk_only (blk_at0 w3 (.cells #[.int .i64 3, .int .i64 0, .string ⟨#[]⟩, .slice none 0 0, .slice none 0 0] 41)) gm (by omega))
  have sm : w3.heap.size < wm.heap.size := by have := gm.size; simp at this; omega
  have rm : rb < wm.heap.size := by omega
  clear hbm gm HB3 HG3 HA3
  have ck := blk_cell HBm.out
  have ca := blk_cell HAm.out
  have fa := blk_free HAm.out
  have cv := blk_cell HVm.out
  have fv := blk_free HVm.out
  go_wp2_with fail
  clear cv fv
  go_loopw [6, 7] (fun u i wr => ∃ (n y q : Nat) (c : Int), n ≤ 8 ∧ i = .int .i64 n ∧ u = .int .u64 y ∧ y < 256 ^ n ∧ p ≤ q ∧ q ≤ s.size ∧ Hid (NRel s (flOf fl) r (8 - n) q y c) ∧ Hid (wr.heap[rb]? = some (InCells s q fl c)) ∧ Hid (wr.heap[w3.heap.size]? = some (.cells #[.int .i64 3, .int .i64 0, .string ⟨#[]⟩, .slice none 0 0, .slice none 0 0] 41 (0, 0))) ∧ Hid (wr.heap[w.heap.size]? = some (.cells #[.int .i64 0, .int .i64 0, .string ⟨#[]⟩, .slice none 0 0, .slice none 0 0] 41 (0, 0))) ∧ Hid (w.grownBy wr (some rb)) ∧ wm.heap.size ≤ wr.heap.size) (fun _ i _ => 8 - (intOf i).toNat)
  case atStart => exact ⟨0, 0, p + 1, 0, by omega, rfl, rfl, by simp, by omega, hq1, Or.inl ⟨rfl, HR.out⟩, HBm, HVm, HAm, HGm, by omega⟩
  case round =>
    obtain ⟨n, y, q, c, hn, rfl, rfl, hy, hpq, hq, HF, HBr, HVr, HAr, HGr, hsr⟩ := hrel
    clear ck ca fa
    by_cases hlt : n < 8
    · have hy56 : y < 72057594037927936 := Nat.lt_of_lt_of_le hy (Nat.le_trans (Nat.pow_le_pow_right (by omega) (show n ≤ 7 by omega)) (by decide))
      have hy2 : ∀ b : UInt8, y * 256 + b.toNat < 256 ^ (n + 1) := fun b => by have := b.toNat_lt; rw [Nat.pow_succ]; omega
      have HY2 := Lib.hid hy2
      have HORw := Lib.hid (fun b => or_u64w y b hy56)
      have HOR := Lib.hid (fun b => or_u64 y b hy56)
      clear hy hy2
      have hF := HF.out
      rw [show 8 - n = (8 - (n + 1)) + 1 by omega] at hF
      have HF2 := Lib.hid hF
      clear hF HF
      go_wp2_with fail
      refine (inext_ok s rb q fl c _ hs hq HBr.out).mono ?_
      rintro e w5 ⟨b5, q5, c5, ⟨hq50, hq5⟩, rfl, hb5, g5, ho5, hz5⟩
      have HF3 := Lib.hid (NRelI.step HF2.out ho5)
      have HB5 := Lib.hid hb5
      have HG5 := Lib.hid (only_trans HGr.out g5)
      have HV5 := Lib.hid (blk_only HVr.out g5 (by omega))
      have HA5 := Lib.hid (blk_only HAr.out g5 hne.symm)
      have s5 : wr.heap.size ≤ w5.heap.size := g5.size
      clear hb5 g5 ho5 hz5 HF2
      go_wp2_with fail
      refine ⟨⟨n + 1, y * 256 + b5.toNat, q5, c5, by omega, by go_num, ?_, HY2.out b5, by omega, hq5, HF3, HB5, HV5, HA5, HG5, by omega⟩, by simp [intOf]; omega⟩
      first | exact congrArg (Value.int .u64) (HORw.out b5) | exact congrArg (Value.int .u64) (HOR.out b5)
    · obtain rfl : n = 8 := by omega
      have hy64 : y < 18446744073709551616 := Nat.lt_of_lt_of_le hy (by decide)
      have HUX := Lib.hid ((IntWalk.i64_left _).symm.trans (unx63 y hy64))
      have HO := Lib.hid (out_num (k := 3) HF.out.done)
      have ca := blk_cell HAr.out
      have fa := blk_free HAr.out
      have cv := blk_cell HVr.out
      have fv := blk_free HVr.out
      have hnv : ¬ w.heap.size = w3.heap.size := by omega
      have hav : w.heap.size < wr.heap.size := by omega
      have hvv : w3.heap.size < wr.heap.size := by omega
      clear hy
      go_wp2_with fail
      simp only [HUX.out]
      refine bodyPost_ret (v := .agg #[.int .i64 3, .int .i64 ((y : Int) - 9223372036854775808), .string ⟨#[]⟩, .slice none 0 0, .slice none 0 0]) (by simp only [results, Tryd.results28]; go_simp) rfl ⟨_, _, q, c, rfl, VNew.leaf _ _ _ _ _ _ (by unfold I64; omega) (by unfold I64; omega) (by unfold maxLen; decide), ⟨by omega, by omega⟩, ?_, ?_, HO.out⟩
      · exact (by repeat (first | with_reducible exact HBr.out |  with_reducible refine blk_alloc ?_ _ | ((with_reducible refine blk_far ?_ ?_ _); rotate_left; (· first | (simp; done) | (simp; omega) | omega))))
      · exact (by repeat (first | with_reducible exact HGr.out | with_reducible refine only_drew ?_ | with_reducible refine only_alloc ?_ _ | with_reducible refine only_setCell ?_ (.inl rfl) _ | ((with_reducible refine only_setCell ?_ (.inr ?_) _); rotate_left; (· first | exact Nat.le_refl _ | omega | (simp; done) | (simp; omega)))))
set_option maxRecDepth 20000 in
set_option maxHeartbeats 4000000 in
theorem ki_k9 (s : ByteArray) (fl : Bool) (d rb p : Nat) (lv : Int) (w : World) (hs : s.size ≤ 1000000000) (hlv : lv = 17 - d) (hd : d ≤ 16) (hp : p ≤ s.size) (h : w.heap[rb]? = some (InCells s p fl 0)) (b : UInt8) (hx : nextE s (flOf fl) p = .ok (b, p + 1)) (hd0 : 1 ≤ d) (hk : b.toNat = 9) :
    Calls Tryd.prog 28 #[.pointer (some ⟨rb, 0, none⟩), .int .i64 lv] w (KviPost rb s fl p w (numT 9 (numN s (flOf fl) 8 (p + 1) 0))) := by
  obtain ⟨r, hr⟩ : ∃ r, numN s (flOf fl) 8 (p + 1) 0 = r := ⟨_, rfl⟩
  rw [hr]
  have HR := Lib.hid hr
  clear hr
  have HX : Hid (nxI s fl p 0 = .ok (b, p + 1)) := by show _ = _; rw [← hx]; unfold nxI; rw [if_pos rfl]
  clear hx
  have hrb := blk_lt h
  have H := Lib.hid h
  have hne : rb ≠ w.heap.size := by omega
  have HLV := Lib.hid hlv
  have hlv1 : 0 ≤ lv ∧ lv ≤ 17 := by omega
  clear hlv h
  go_enter Tryd.func28, Tryd.ntmps28
  go_wp2_with fail
  have HG2 : Hid (w.grownBy (w.alloc (.cells #[.int .i64 0, .int .i64 0, .string ⟨#[]⟩, .slice none 0 0, .slice none 0 0] 41)) (some rb)) := only_alloc (World.grownBy.refl _ _) _
  have HA2 := Lib.hid (blk_at0 w (.cells #[.int .i64 0, .int .i64 0, .string ⟨#[]⟩, .slice none 0 0, .slice none 0 0] 41))
  refine (inext_ok s rb p fl 0 _ hs hp (blk_alloc H.out _)).mono ?_
  rw [HX.out]
  rintro e w3 ⟨b1, q1, c1, ⟨hq0, hq1⟩, rfl, hb3, g3, ho, hz⟩
  have HB3 := Lib.hid hb3
  have HG3 := Lib.hid (only_trans HG2.out g3)
  have HA3 := Lib.hid (blk_only HA2.out g3 hne.symm)
  have s3 : w.heap.size < w3.heap.size := by have := g3.size; simp at this; omega
  have r3 : rb < w3.heap.size := by omega
  clear hb3 g3 HG2 HA2 H
  obtain ⟨rfl, rfl, rfl⟩ := ho
  clear hz hq0
  have hbb := b.toNat_lt
  have dm : decide (lv ≤ 16) = true := by have := HLV.out; simp; omega
  go_wp2_with fail
  refine (must_ok s rb (p + 1) fl 0 _ _ (blk_alloc HB3.out _)).mono ?_
  rintro e wm ⟨rfl, hbm, gm⟩
  rw [show mustC _ 0 = 0 from rfl] at hbm
  have HBm := Lib.hid hbm
  have HGm := Lib.hid (only_trans (only_alloc HG3.out (.cells #[.int .i64 9, .int .i64 0, .string ⟨#[]⟩, .slice none 0 0, .slice none 0 0] 41)) gm)
  have HAm := Lib.hid (blk_only (blk_alloc HA3.out (.cells #[.int .i64 9, .int .i64 0, .string ⟨#[]⟩, .slice none 0 0, .slice none 0 0] 41)) gm hne.symm)
  have HVm := Lib.hid (blk_only (blk_at0 w3 (.cells #[.int .i64 9, .int .i64 0, .string ⟨#[]⟩, .slice none 0 0, .slice none 0 0] 41)) gm (by omega))
  have sm : w3.heap.size < wm.heap.size := by have := gm.size; simp at this; omega
  have rm : rb < wm.heap.size := by omega
  clear hbm gm HB3 HG3 HA3
  have ck := blk_cell HBm.out
  have ca := blk_cell HAm.out
  have fa := blk_free HAm.out
  have cv := blk_cell HVm.out
  have fv := blk_free HVm.out
  go_wp2_with fail
  clear cv fv
  go_loopw [6, 7] (fun u i wr => ∃ (n y q : Nat) (c : Int), n ≤ 8 ∧ i = .int .i64 n ∧ u = .int .u64 y ∧ y < 256 ^ n ∧ p ≤ q ∧ q ≤ s.size ∧ Hid (NRel s (flOf fl) r (8 - n) q y c) ∧ Hid (wr.heap[rb]? = some (InCells s q fl c)) ∧ Hid (wr.heap[w3.heap.size]? = some (.cells #[.int .i64 9, .int .i64 0, .string ⟨#[]⟩, .slice none 0 0, .slice none 0 0] 41 (0, 0))) ∧ Hid (wr.heap[w.heap.size]? = some (.cells #[.int .i64 0, .int .i64 0, .string ⟨#[]⟩, .slice none 0 0, .slice none 0 0] 41 (0, 0))) ∧ Hid (w.grownBy wr (some rb)) ∧ wm.heap.size ≤ wr.heap.size) (fun _ i _ => 8 - (intOf i).toNat)
  case atStart => exact ⟨0, 0, p + 1, 0, by omega, rfl, rfl, by simp, by omega, hq1, Or.inl ⟨rfl, HR.out⟩, HBm, HVm, HAm, HGm, by omega⟩
  case round =>
    obtain ⟨n, y, q, c, hn, rfl, rfl, hy, hpq, hq, HF, HBr, HVr, HAr, HGr, hsr⟩ := hrel
    clear ck ca fa
    by_cases hlt : n < 8
    · have hy56 : y < 72057594037927936 := Nat.lt_of_lt_of_le hy (Nat.le_trans (Nat.pow_le_pow_right (by omega) (show n ≤ 7 by omega)) (by decide))
      have hy2 : ∀ b : UInt8, y * 256 + b.toNat < 256 ^ (n + 1) := fun b => by have := b.toNat_lt; rw [Nat.pow_succ]; omega
      have HY2 := Lib.hid hy2
      have HORw := Lib.hid (fun b => or_u64w y b hy56)
      have HOR := Lib.hid (fun b => or_u64 y b hy56)
      clear hy hy2
      have hF := HF.out
      rw [show 8 - n = (8 - (n + 1)) + 1 by omega] at hF
      have HF2 := Lib.hid hF
      clear hF HF
      go_wp2_with fail
      refine (inext_ok s rb q fl c _ hs hq HBr.out).mono ?_
      rintro e w5 ⟨b5, q5, c5, ⟨hq50, hq5⟩, rfl, hb5, g5, ho5, hz5⟩
      have HF3 := Lib.hid (NRelI.step HF2.out ho5)
      have HB5 := Lib.hid hb5
      have HG5 := Lib.hid (only_trans HGr.out g5)
      have HV5 := Lib.hid (blk_only HVr.out g5 (by omega))
      have HA5 := Lib.hid (blk_only HAr.out g5 hne.symm)
      have s5 : wr.heap.size ≤ w5.heap.size := g5.size
      clear hb5 g5 ho5 hz5 HF2
      go_wp2_with fail
      refine ⟨⟨n + 1, y * 256 + b5.toNat, q5, c5, by omega, by go_num, ?_, HY2.out b5, by omega, hq5, HF3, HB5, HV5, HA5, HG5, by omega⟩, by simp [intOf]; omega⟩
      first | exact congrArg (Value.int .u64) (HORw.out b5) | exact congrArg (Value.int .u64) (HOR.out b5)
    · obtain rfl : n = 8 := by omega
      have hy64 : y < 18446744073709551616 := Nat.lt_of_lt_of_le hy (by decide)
      have HUX := Lib.hid ((IntWalk.i64_left _).symm.trans (unx63 y hy64))
      have HO := Lib.hid (out_num (k := 9) HF.out.done)
      have ca := blk_cell HAr.out
      have fa := blk_free HAr.out
      have cv := blk_cell HVr.out
      have fv := blk_free HVr.out
      have hnv : ¬ w.heap.size = w3.heap.size := by omega
      have hav : w.heap.size < wr.heap.size := by omega
      have hvv : w3.heap.size < wr.heap.size := by omega
      clear hy
      go_wp2_with fail
      simp only [HUX.out]
      refine bodyPost_ret (v := .agg #[.int .i64 9, .int .i64 ((y : Int) - 9223372036854775808), .string ⟨#[]⟩, .slice none 0 0, .slice none 0 0]) (by simp only [results, Tryd.results28]; go_simp) rfl ⟨_, _, q, c, rfl, VNew.leaf _ _ _ _ _ _ (by unfold I64; omega) (by unfold I64; omega) (by unfold maxLen; decide), ⟨by omega, by omega⟩, ?_, ?_, HO.out⟩
      · exact (by repeat (first | with_reducible exact HBr.out |  with_reducible refine blk_alloc ?_ _ | ((with_reducible refine blk_far ?_ ?_ _); rotate_left; (· first | (simp; done) | (simp; omega) | omega))))
      · exact (by repeat (first | with_reducible exact HGr.out | with_reducible refine only_drew ?_ | with_reducible refine only_alloc ?_ _ | with_reducible refine only_setCell ?_ (.inl rfl) _ | ((with_reducible refine only_setCell ?_ (.inr ?_) _); rotate_left; (· first | exact Nat.le_refl _ | omega | (simp; done) | (simp; omega)))))
set_option maxRecDepth 20000 in
set_option maxHeartbeats 4000000 in
theorem ki_k10 (s : ByteArray) (fl : Bool) (d rb p : Nat) (lv : Int) (w : World) (hs : s.size ≤ 1000000000) (hlv : lv = 17 - d) (hd : d ≤ 16) (hp : p ≤ s.size) (h : w.heap[rb]? = some (InCells s p fl 0)) (b : UInt8) (hx : nextE s (flOf fl) p = .ok (b, p + 1)) (hd0 : 1 ≤ d) (hk : b.toNat = 10) :
    Calls Tryd.prog 28 #[.pointer (some ⟨rb, 0, none⟩), .int .i64 lv] w (KviPost rb s fl p w (numT 10 (numN s (flOf fl) 8 (p + 1) 0))) := by
  obtain ⟨r, hr⟩ : ∃ r, numN s (flOf fl) 8 (p + 1) 0 = r := ⟨_, rfl⟩
  rw [hr]
  have HR := Lib.hid hr
  clear hr
  have HX : Hid (nxI s fl p 0 = .ok (b, p + 1)) := by show _ = _; rw [← hx]; unfold nxI; rw [if_pos rfl]
  clear hx
  have hrb := blk_lt h
  have H := Lib.hid h
  have hne : rb ≠ w.heap.size := by omega
  have HLV := Lib.hid hlv
  have hlv1 : 0 ≤ lv ∧ lv ≤ 17 := by omega
  clear hlv h
  go_enter Tryd.func28, Tryd.ntmps28
  go_wp2_with fail
  have HG2 : Hid (w.grownBy (w.alloc (.cells #[.int .i64 0, .int .i64 0, .string ⟨#[]⟩, .slice none 0 0, .slice none 0 0] 41)) (some rb)) := only_alloc (World.grownBy.refl _ _) _
  have HA2 := Lib.hid (blk_at0 w (.cells #[.int .i64 0, .int .i64 0, .string ⟨#[]⟩, .slice none 0 0, .slice none 0 0] 41))
  refine (inext_ok s rb p fl 0 _ hs hp (blk_alloc H.out _)).mono ?_
  rw [HX.out]
  rintro e w3 ⟨b1, q1, c1, ⟨hq0, hq1⟩, rfl, hb3, g3, ho, hz⟩
  have HB3 := Lib.hid hb3
  have HG3 := Lib.hid (only_trans HG2.out g3)
  have HA3 := Lib.hid (blk_only HA2.out g3 hne.symm)
  have s3 : w.heap.size < w3.heap.size := by have := g3.size; simp at this; omega
  have r3 : rb < w3.heap.size := by omega
  clear hb3 g3 HG2 HA2 H
  obtain ⟨rfl, rfl, rfl⟩ := ho
  clear hz hq0
  have hbb := b.toNat_lt
  have dm : decide (lv ≤ 16) = true := by have := HLV.out; simp; omega
  go_wp2_with fail
  refine (must_ok s rb (p + 1) fl 0 _ _ (blk_alloc HB3.out _)).mono ?_
  rintro e wm ⟨rfl, hbm, gm⟩
  rw [show mustC _ 0 = 0 from rfl] at hbm
  have HBm := Lib.hid hbm
  have HGm := Lib.hid (only_trans (only_alloc HG3.out (.cells #[.int .i64 10, .int .i64 0, .string ⟨#[]⟩, .slice none 0 0, .slice none 0 0] 41)) gm)
  have HAm := Lib.hid (blk_only (blk_alloc HA3.out (.cells #[.int .i64 10, .int .i64 0, .string ⟨#[]⟩, .slice none 0 0, .slice none 0 0] 41)) gm hne.symm)
  have HVm := Lib.hid (blk_only (blk_at0 w3 (.cells #[.int .i64 10, .int .i64 0, .string ⟨#[]⟩, .slice none 0 0, .slice none 0 0] 41)) gm (by omega))
  have sm : w3.heap.size < wm.heap.size := by have := gm.size; simp at this; omega
  have rm : rb < wm.heap.size := by omega
  clear hbm gm HB3 HG3 HA3
  have ck := blk_cell HBm.out
  have ca := blk_cell HAm.out
  have fa := blk_free HAm.out
  have cv := blk_cell HVm.out
  have fv := blk_free HVm.out
  go_wp2_with fail
  clear cv fv
  go_loopw [6, 7] (fun u i wr => ∃ (n y q : Nat) (c : Int), n ≤ 8 ∧ i = .int .i64 n ∧ u = .int .u64 y ∧ y < 256 ^ n ∧ p ≤ q ∧ q ≤ s.size ∧ Hid (NRel s (flOf fl) r (8 - n) q y c) ∧ Hid (wr.heap[rb]? = some (InCells s q fl c)) ∧ Hid (wr.heap[w3.heap.size]? = some (.cells #[.int .i64 10, .int .i64 0, .string ⟨#[]⟩, .slice none 0 0, .slice none 0 0] 41 (0, 0))) ∧ Hid (wr.heap[w.heap.size]? = some (.cells #[.int .i64 0, .int .i64 0, .string ⟨#[]⟩, .slice none 0 0, .slice none 0 0] 41 (0, 0))) ∧ Hid (w.grownBy wr (some rb)) ∧ wm.heap.size ≤ wr.heap.size) (fun _ i _ => 8 - (intOf i).toNat)
  case atStart => exact ⟨0, 0, p + 1, 0, by omega, rfl, rfl, by simp, by omega, hq1, Or.inl ⟨rfl, HR.out⟩, HBm, HVm, HAm, HGm, by omega⟩
  case round =>
    obtain ⟨n, y, q, c, hn, rfl, rfl, hy, hpq, hq, HF, HBr, HVr, HAr, HGr, hsr⟩ := hrel
    clear ck ca fa
    by_cases hlt : n < 8
    · have hy56 : y < 72057594037927936 := Nat.lt_of_lt_of_le hy (Nat.le_trans (Nat.pow_le_pow_right (by omega) (show n ≤ 7 by omega)) (by decide))
      have hy2 : ∀ b : UInt8, y * 256 + b.toNat < 256 ^ (n + 1) := fun b => by have := b.toNat_lt; rw [Nat.pow_succ]; omega
      have HY2 := Lib.hid hy2
      have HORw := Lib.hid (fun b => or_u64w y b hy56)
      have HOR := Lib.hid (fun b => or_u64 y b hy56)
      clear hy hy2
      have hF := HF.out
      rw [show 8 - n = (8 - (n + 1)) + 1 by omega] at hF
      have HF2 := Lib.hid hF
      clear hF HF
      go_wp2_with fail
      refine (inext_ok s rb q fl c _ hs hq HBr.out).mono ?_
      rintro e w5 ⟨b5, q5, c5, ⟨hq50, hq5⟩, rfl, hb5, g5, ho5, hz5⟩
      have HF3 := Lib.hid (NRelI.step HF2.out ho5)
      have HB5 := Lib.hid hb5
      have HG5 := Lib.hid (only_trans HGr.out g5)
      have HV5 := Lib.hid (blk_only HVr.out g5 (by omega))
      have HA5 := Lib.hid (blk_only HAr.out g5 hne.symm)
      have s5 : wr.heap.size ≤ w5.heap.size := g5.size
      clear hb5 g5 ho5 hz5 HF2
      go_wp2_with fail
      refine ⟨⟨n + 1, y * 256 + b5.toNat, q5, c5, by omega, by go_num, ?_, HY2.out b5, by omega, hq5, HF3, HB5, HV5, HA5, HG5, by omega⟩, by simp [intOf]; omega⟩
      first | exact congrArg (Value.int .u64) (HORw.out b5) | exact congrArg (Value.int .u64) (HOR.out b5)
    · obtain rfl : n = 8 := by omega
      have hy64 : y < 18446744073709551616 := Nat.lt_of_lt_of_le hy (by decide)
      have HUX := Lib.hid ((IntWalk.i64_left _).symm.trans (unx63 y hy64))
      have HO := Lib.hid (out_num (k := 10) HF.out.done)
      have ca := blk_cell HAr.out
      have fa := blk_free HAr.out
      have cv := blk_cell HVr.out
      have fv := blk_free HVr.out
      have hnv : ¬ w.heap.size = w3.heap.size := by omega
      have hav : w.heap.size < wr.heap.size := by omega
      have hvv : w3.heap.size < wr.heap.size := by omega
      clear hy
      go_wp2_with fail
      simp only [HUX.out]
      refine bodyPost_ret (v := .agg #[.int .i64 10, .int .i64 ((y : Int) - 9223372036854775808), .string ⟨#[]⟩, .slice none 0 0, .slice none 0 0]) (by simp only [results, Tryd.results28]; go_simp) rfl ⟨_, _, q, c, rfl, VNew.leaf _ _ _ _ _ _ (by unfold I64; omega) (by unfold I64; omega) (by unfold maxLen; decide), ⟨by omega, by omega⟩, ?_, ?_, HO.out⟩
      · exact (by repeat (first | with_reducible exact HBr.out |  with_reducible refine blk_alloc ?_ _ | ((with_reducible refine blk_far ?_ ?_ _); rotate_left; (· first | (simp; done) | (simp; omega) | omega))))
      · exact (by repeat (first | with_reducible exact HGr.out | with_reducible refine only_drew ?_ | with_reducible refine only_alloc ?_ _ | with_reducible refine only_setCell ?_ (.inl rfl) _ | ((with_reducible refine only_setCell ?_ (.inr ?_) _); rotate_left; (· first | exact Nat.le_refl _ | omega | (simp; done) | (simp; omega)))))
set_option maxRecDepth 20000 in
set_option maxHeartbeats 4000000 in
theorem ki_k6 (s : ByteArray) (fl : Bool) (d rb p : Nat) (lv : Int) (w : World) (hs : s.size ≤ 1000000000) (hlv : lv = 17 - d) (hd : d ≤ 16) (hp : p ≤ s.size) (h : w.heap[rb]? = some (InCells s p fl 0)) (b : UInt8) (hx : nextE s (flOf fl) p = .ok (b, p + 1)) (hd0 : 1 ≤ d) (hk : b.toNat = 6) (d' : Nat) (hd' : d = d' + 1) (ih : KviOk s fl d') :
    Calls Tryd.prog 28 #[.pointer (some ⟨rb, 0, none⟩), .int .i64 lv] w (KviPost rb s fl p w (listT (klistE s (flOf fl) (kvE s (flOf fl) d') (s.size + 1) (p + 1) []))) := by
  obtain ⟨r, hr⟩ : ∃ r, listT (klistE s (flOf fl) (kvE s (flOf fl) d') (s.size + 1) (p + 1) []) = r := ⟨_, rfl⟩
  rw [hr]
  have HR := Lib.hid hr
  have HIH := Lib.hid ih
  clear hr ih
  have HX : Hid (nxI s fl p 0 = .ok (b, p + 1)) := by show _ = _; rw [← hx]; unfold nxI; rw [if_pos rfl]
  clear hx
  have hrb := blk_lt h
  have H := Lib.hid h
  have hne : rb ≠ w.heap.size := by omega
  have HLV := Lib.hid hlv
  have hlv1 : 0 ≤ lv ∧ lv ≤ 17 := by omega
  clear hlv h
  go_enter Tryd.func28, Tryd.ntmps28
  go_wp2_with fail
  have HG2 : Hid (w.grownBy (w.alloc (.cells #[.int .i64 0, .int .i64 0, .string ⟨#[]⟩, .slice none 0 0, .slice none 0 0] 41)) (some rb)) := only_alloc (World.grownBy.refl _ _) _
  have HA2 := Lib.hid (blk_at0 w (.cells #[.int .i64 0, .int .i64 0, .string ⟨#[]⟩, .slice none 0 0, .slice none 0 0] 41))
  refine (inext_ok s rb p fl 0 _ hs hp (blk_alloc H.out _)).mono ?_
  rw [HX.out]
  rintro e w3 ⟨b1, q1, c1, ⟨hq0, hq1⟩, rfl, hb3, g3, ho, hz⟩
  have HB3 := Lib.hid hb3
  have HG3 := Lib.hid (only_trans HG2.out g3)
  have HA3 := Lib.hid (blk_only HA2.out g3 hne.symm)
  have s3 : w.heap.size < w3.heap.size := by have := g3.size; simp at this; omega
  have r3 : rb < w3.heap.size := by omega
  clear hb3 g3 HG2 HA2 H
  obtain ⟨rfl, rfl, rfl⟩ := ho
  clear hz hq0
  have hbb := b.toNat_lt
  have dm : decide (lv ≤ 16) = true := by have := HLV.out; simp; omega
  go_wp2_with fail
  refine (must_ok s rb (p + 1) fl 0 _ _ (blk_alloc HB3.out _)).mono ?_
  rintro e wm ⟨rfl, hbm, gm⟩
  rw [show mustC _ 0 = 0 from rfl] at hbm
  have HBm := Lib.hid hbm
  have HGm := Lib.hid (only_trans (only_alloc HG3.out (.cells #[.int .i64 6, .int .i64 0, .string ⟨#[]⟩, .slice none 0 0, .slice none 0 0] 41)) gm)
  have HAm := Lib.hid (blk_only (blk_alloc HA3.out (.cells #[.int .i64 6, .int .i64 0, .string ⟨#[]⟩, .slice none 0 0, .slice none 0 0] 41)) gm hne.symm)
  have HVm := Lib.hid (blk_only (blk_at0 w3 (.cells #[.int .i64 6, .int .i64 0, .string ⟨#[]⟩, .slice none 0 0, .slice none 0 0] 41)) gm (by omega))
  have sm : w3.heap.size < wm.heap.size := by have := gm.size; simp at this; omega
  have rm : rb < wm.heap.size := by omega
  clear hbm gm HB3 HG3 HA3
  have ck := blk_cell HBm.out
  have ca := blk_cell HAm.out
  have fa := blk_free HAm.out
  have cv := blk_cell HVm.out
  have fv := blk_free HVm.out
  obtain ⟨lo, hlo⟩ : ∃ lo, lo = w3.heap.size + 1 := ⟨_, rfl⟩
  have HLO := Lib.hid hlo
  have hlo1 : w3.heap.size < lo := by omega
  have hlo2 : lo ≤ w3.heap.size + 1 := by omega
  clear hlo
  go_wp2_with fail
  clear cv fv
  go_loopw [8] (fun j wr => ∃ (i n q : Nat) (ts : List Tr) (c : Int) (x : Value), j = .int .i64 (i : Int) ∧ p ≤ q ∧ q ≤ s.size ∧ (c = 0 → s.size + 1 ≤ n + q ∧ i ≤ q) ∧ i ≤ s.size + 1 ∧ ts.length ≤ i ∧ Hid (LRelK s (flOf fl) (kvE s (flOf fl) d') r n q ts c) ∧ Hid (wr.heap[rb]? = some (InCells s q fl c)) ∧ Hid (wr.heap[w3.heap.size]? = some (.cells #[.int .i64 6, .int .i64 0, .string ⟨#[]⟩, x, .slice none 0 0] 41 (0, 0))) ∧
      Hid (wr.heap[w.heap.size]? = some (.cells #[.int .i64 0, .int .i64 0, .string ⟨#[]⟩, .slice none 0 0, .slice none 0 0] 41 (0, 0))) ∧ Hid (VAcc lo wr x ts) ∧ Hid (w.grownBy wr (some rb)) ∧ lo ≤ wr.heap.size) (fun j _ => s.size + 2 - (intOf j).toNat)
  case atStart => exact ⟨0, s.size + 1, p + 1, [], 0, _, rfl, by omega, hq1, fun _ => by omega, by omega, by simp, Or.inl ⟨rfl, HR.out⟩, HBm, HVm, HAm, VAcc.nil _ _, HGm, by omega⟩
  case round =>
    clear ck ca fa
    obtain ⟨i, n, q, ts, c, x, rfl, hpq, hq, hnq, hi1, htl, HF, HBr, HVr, HAr, HAcc, HGr, hsr⟩ := hrel
    obtain ⟨ax, cx, rfl⟩ := HAcc.out.shape
    have sr : w3.heap.size < wr.heap.size := by omega
    have hrbr : rb < wr.heap.size := by omega
    have ck := blk_cell HBr.out
    by_cases hi : i ≤ s.size
    case neg =>
      have hc : c ≠ 0 := fun h => by have := hnq h; omega
      have HO := Lib.hid (LRelI.bad HF.out hc (.mk 6 0 ⟨#[]⟩ ts [] []) q)
      have di : decide ((i : Int) ≤ (s.size : Int)) = false := by simp; omega
      clear HF hc hnq
      have ca := blk_cell HAr.out
      have fa := blk_free HAr.out
      have cv := blk_cell HVr.out
      have fv := blk_free HVr.out
      have hnv : ¬ w.heap.size = w3.heap.size := by omega
      have hav : w.heap.size < wr.heap.size := by omega
      have hav3 : w3.heap.size < wr.heap.size := by omega
      go_wp2_with fail
      refine bodyPost_ret (v := .agg #[.int .i64 6, .int .i64 0, .string ⟨#[]⟩, .slice ax ts.length cx, .slice none 0 0]) (by simp only [results, Tryd.results28]; go_simp) rfl ⟨_, _, q, c, rfl, HAcc.out.value (w0 := w.heap.size) ?_ (by omega) ?_ (by omega), ⟨hpq, hq⟩, ?_, ?_, HO.out⟩
      · repeat (first | with_reducible exact Same.refl _ _ | ((with_reducible refine Same.setCell ?_ ?_ _); rotate_left; (· first | (simp; done) | (simp; omega))))
      · simp [World.setCell]
      · exact (by repeat (first | with_reducible exact HBr.out |  with_reducible refine blk_alloc ?_ _ | ((with_reducible refine blk_far ?_ ?_ _); rotate_left; (· first | (simp; done) | (simp; omega) | omega))))
      · exact (by repeat (first | with_reducible exact HGr.out | with_reducible refine only_drew ?_ | with_reducible refine only_alloc ?_ _ | with_reducible refine only_setCell ?_ (.inl rfl) _ | ((with_reducible refine only_setCell ?_ (.inr ?_) _); rotate_left; (· first | exact Nat.le_refl _ | omega | (simp; done) | (simp; omega)))))
    have di : decide ((i : Int) ≤ (s.size : Int)) = true := by simp; omega
    have HNQ := Lib.hid hnq
    clear hnq
    go_wp2_with fail
    clear ck di
    refine (imore_ok s rb q fl c _ hs hq HBr.out).mono ?_
    rintro e w4 ⟨bm, q4, c4, ⟨hq40, hq4⟩, rfl, hk4, g4, ho4, hz4⟩
    have HB4 := Lib.hid hk4
    have HG5 := Lib.hid (only_trans HGr.out g4)
    have HV4 := Lib.hid (blk_only HVr.out g4 (by omega))
    have HA4 := Lib.hid (blk_only HAr.out g4 hne.symm)
    have s4 : wr.heap.size ≤ w4.heap.size := g4.size
    have HAcc4 := Lib.hid (HAcc.out.keep (Same.only (Same.refl _ wr) (Nat.le_refl _) g4 (by omega)))
    clear hk4 g4 HAcc HBr HVr HAr HGr
    cases bm
    case false =>
      have HO := Lib.hid (LRelI.stop HF.out (fun h => by have := HNQ.out h; omega) ho4)
      clear HF ho4 hz4
      have ca := blk_cell HA4.out
      have fa := blk_free HA4.out
      have cv := blk_cell HV4.out
      have fv := blk_free HV4.out
      have hnv : ¬ w.heap.size = w3.heap.size := by omega
      have hav : w.heap.size < w4.heap.size := by omega
      have hav3 : w3.heap.size < w4.heap.size := by omega
      go_wp2_with fail
      refine bodyPost_ret (v := .agg #[.int .i64 6, .int .i64 0, .string ⟨#[]⟩, .slice ax ts.length cx, .slice none 0 0]) (by simp only [results, Tryd.results28]; go_simp) rfl ⟨_, _, q4, c4, rfl, HAcc4.out.value (w0 := w.heap.size) ?_ (by omega) ?_ (by omega), ⟨by omega, hq4⟩, ?_, ?_, HO.out⟩
      · repeat (first | with_reducible exact Same.refl _ _ | ((with_reducible refine Same.setCell ?_ ?_ _); rotate_left; (· first | (simp; done) | (simp; omega))))
      · simp [World.setCell]
      · exact (by repeat (first | with_reducible exact HB4.out |  with_reducible refine blk_alloc ?_ _ | ((with_reducible refine blk_far ?_ ?_ _); rotate_left; (· first | (simp; done) | (simp; omega) | omega))))
      · exact (by repeat (first | with_reducible exact HG5.out | with_reducible refine only_drew ?_ | with_reducible refine only_alloc ?_ _ | with_reducible refine only_setCell ?_ (.inl rfl) _ | ((with_reducible refine only_setCell ?_ (.inr ?_) _); rotate_left; (· first | exact Nat.le_refl _ | omega | (simp; done) | (simp; omega)))))
    obtain ⟨rfl, rfl, rfl⟩ := mrI_go ho4 hz4
    rw [mrI0] at ho4
    obtain ⟨hnq, hiq⟩ := HNQ.out rfl
    clear HNQ
    obtain ⟨m, rfl⟩ : ∃ m, n = m + 1 := ⟨n - 1, by omega⟩
    have HO4 := Lib.hid ho4
    have HZ4 := Lib.hid hz4
    clear ho4 hz4
    have hwl := wrap_i64_val (lv + 1) (by omega) (by omega)
    have cv := blk_cell HV4.out
    have fv := blk_free HV4.out
    have hvl : w3.heap.size < w4.heap.size := by omega
    go_wp2_with fail
    refine wp_region_mixz (fun W => W.heap[w3.heap.size]? = some (.cells #[.int .i64 6, .int .i64 0, .string ⟨#[]⟩, .slice ax ts.length cx, .slice none 0 0] 41 (0, 0))) 9 [(true, 0), (true, 1), (true, 2), (true, 3), (true, 4), (false, 5), (false, 6), (false, 7), (true, 8), (false, 9)] (by kernel_rfl) (by kernel_rfl) (by kernel_rfl) (by kernel_rfl) (by kernel_rfl) (by kernel_rfl) ?hS ?_
    case hS => exact HV4.out
    repeat (first | (refine wpMixZ_q (v := ?_) rfl rfl ?_ ?_; rotate_left; (· intro wq hSq; have cq := blk_cell hSq; go_simp; try (with_reducible rfl)); simp only [Act.put, List.setIfInBounds_toArray, List.set_cons_zero, List.set_cons_succ, List.getElem_toArray, List.getElem_cons_zero, List.getElem_cons_succ]) | (refine wpMixZ_u rfl rfl ?_; simp only [Act.put, List.setIfInBounds_toArray, List.set_cons_zero, List.set_cons_succ, List.getElem_toArray, List.getElem_cons_zero, List.getElem_cons_succ]))
    refine wpMixZ_l rfl rfl (fun K hK => ?_)
    go_simp
    refine (HIH.out rb (q + 1) 0 (lv + 1) w4.drew (by have := HLV.out; omega) hq4 HB4.out).mono ?_
    rw [show kvI s fl d' (q + 1) 0 = kvE s (flOf fl) d' (q + 1) by unfold kvI; rw [if_pos rfl]]
    rintro e w5 ⟨t5, v5, q5, c5, rfl, hv5, ⟨hq50, hq5⟩, hk5, g5, ho5⟩
    obtain ⟨-, hq4e, hgo⟩ := HF.out.go HO4.out HZ4.out ho5
    have HF3 := Lib.hid hgo
    clear hgo HF HO4 HZ4 ho5 hq4e
    have HB5 := Lib.hid hk5
    have HG5' := Lib.hid (only_trans (only_drew HG5.out) g5)
    have HV5 := Lib.hid (blk_only (w := w4.drew) HV4.out g5 (by omega))
    have HA5 := Lib.hid (blk_only (w := w4.drew) HA4.out g5 hne.symm)
    have sz5 : w4.heap.size ≤ w5.heap.size := g5.size
    have HSm : Hid (Same lo w4 w5) := Same.only (w := w4.drew) (Same.refl _ w4).drew (Nat.le_refl _) g5 (by omega)
    have HAcc5 := Lib.hid (HAcc4.out.keep HSm.out)
    have HW5 : Hid (VNew w4.heap.size w5.heap.size w5 t5 v5) := hv5
    obtain ⟨k', i', s', la', ln', lc', da', dn', dc', rfl⟩ := VRep.shape (show VRep (win _ w5) t5 v5 from HW5.out)
    have hown : ∀ g, (Value.slice ax ts.length cx).ownBlock = some g → lo ≤ g ∧ g < w4.heap.size := fun g hg => by
      obtain ⟨cs, ho, _⟩ := HAcc4.out
      exact ho.lt g hg
    have HOwn := Lib.hid hown
    refine hK _ _ HV5.out ?_
    clear hK K hv5 hk5 g5 hown
    refine wpMixZ_l rfl rfl (fun K hK => ?_)
    go_simp
    refine hK _ _ (blk_alloc HV5.out _) ?_
    clear hK K
    refine wpMixZ_l rfl rfl (fun K hK => ?_)
    refine wp_append_vacc w5 _ _ rfl lo (.slice ax ts.length cx) ts rfl HAcc5.out t5 _ _ _ _ _ rfl w4.heap.size (by omega) (fun g hg => (HOwn.out g hg).2) HW5.out (by omega) (by omega) ?_
    intro v6 w6 a6 o6 g6
    obtain ⟨ts6, hts6⟩ : ∃ l, ts ++ [t5] = l := ⟨_, rfl⟩
    have hl6 : ts6.length ≤ i + 1 := by rw [← hts6]; simp; omega
    rw [hts6] at a6 HF3
    clear hts6
    have HAcc6 := Lib.hid a6
    have hbk : ∀ i, i < lo → w6.heap[i]? = w5.heap[i]? := fun i hi => by
      rw [g6.block i (by simp; omega) (fun e => by have := (HOwn.out i e.symm).1; omega), Below.heap_alloc w5 _ i (by omega)]
    have HB6 : Hid (w6.heap[rb]? = some (InCells s q5 fl c5)) := (hbk rb (by omega)).trans HB5.out
    have HV6 : Hid (w6.heap[w3.heap.size]? = some (.cells #[.int .i64 6, .int .i64 0, .string ⟨#[]⟩, .slice ax ts.length cx, .slice none 0 0] 41 (0, 0))) := (hbk _ (by omega)).trans HV5.out
    have HA6 : Hid (w6.heap[w.heap.size]? = some (.cells #[.int .i64 0, .int .i64 0, .string ⟨#[]⟩, .slice none 0 0, .slice none 0 0] 41 (0, 0))) := (hbk _ (by omega)).trans HA5.out
    have sz6 : w5.heap.size < w6.heap.size := by have := g6.size; simp at this; omega
    have HG6 : Hid (w.grownBy w6 (some rb)) := by
      have g7 := only_alloc HG5'.out (.cells #[.int .i64 k', .int .i64 i', .string s', .slice la' ln' lc', .slice da' dn' dc'] 41)
      exact ⟨g6.os.trans g7.os, g6.tape.trans g7.tape, g6.output.trans g7.output, Nat.le_trans g7.size g6.size, fun i hi hn => by
        rw [g6.block i (by have := g7.size; omega) (fun e => by have := (HOwn.out i e.symm).1; omega)]
        exact g7.block i hi hn⟩
    refine hK _ _ HV6.out ?_
    clear hK K a6 g6 hbk HAcc5 HB5 HV5 HA5 HG5' cv fv
    obtain ⟨ax6, cx6, rfl⟩ := HAcc6.out.shape
    repeat (first | (refine wpMixZ_q (v := ?_) rfl rfl ?_ ?_; rotate_left; (· intro wq hSq; have cq := blk_cell hSq; go_simp; try (with_reducible rfl)); simp only [Act.put, List.setIfInBounds_toArray, List.set_cons_zero, List.set_cons_succ, List.getElem_toArray, List.getElem_cons_zero, List.getElem_cons_succ]) | (refine wpMixZ_u rfl rfl ?_; simp only [Act.put, List.setIfInBounds_toArray, List.set_cons_zero, List.set_cons_succ, List.getElem_toArray, List.getElem_cons_zero, List.getElem_cons_succ]))
    refine wpMixZ_z rfl rfl (fun K hK => ?_)
    have cv := blk_cell HV6.out
    have fv := blk_free HV6.out
    go_simp
    refine hK _ _ ?_
    clear hK K
    refine wpMixZ_nil ?_
    have HV7 := Lib.hid (blk_set HV6.out 3 (.slice ax6 ts6.length cx6))
    have HB7 := Lib.hid (blk_far HB6.out (p := ⟨w3.heap.size, 3, none⟩) (by simp; omega) (.slice ax6 ts6.length cx6))
    have HA7 := Lib.hid (blk_far HA6.out (p := ⟨w3.heap.size, 3, none⟩) (by simp; omega) (.slice ax6 ts6.length cx6))
    have HG7 := Lib.hid (only_setCell HG6.out (p := ⟨w3.heap.size, 3, none⟩) (.inr (by simp; omega)) (.slice ax6 ts6.length cx6))
    have HAcc7 := Lib.hid (HAcc6.out.keep (Same.setCell (Same.refl _ _) (p := ⟨w3.heap.size, 3, none⟩) (by simp; omega) (.slice ax6 ts6.length cx6)))
    go_wp2_with fail
    exact ⟨⟨i + 1, m, q5, ts6, c5, _, by go_num, by omega, hq5, fun _ => by omega, by omega, hl6, HF3, HB7, HV7, HA7, HAcc7, HG7, by simp [World.setCell]; omega⟩, by simp [intOf]; omega⟩
set_option maxRecDepth 20000 in
set_option maxHeartbeats 4000000 in
theorem ki_k5 (s : ByteArray) (fl : Bool) (d rb p : Nat) (lv : Int) (w : World) (hs : s.size ≤ 1000000000) (hlv : lv = 17 - d) (hd : d ≤ 16) (hp : p ≤ s.size) (h : w.heap[rb]? = some (InCells s p fl 0)) (b : UInt8) (hx : nextE s (flOf fl) p = .ok (b, p + 1)) (hd0 : 1 ≤ d) (hk : b.toNat = 5) (d' : Nat) (hd' : d = d' + 1) (ih : KviOk s fl d') :
    Calls Tryd.prog 28 #[.pointer (some ⟨rb, 0, none⟩), .int .i64 lv] w (KviPost rb s fl p w (docT (kdocE s (flOf fl) (kvE s (flOf fl) d') (s.size + 1) (p + 1) [] []))) := by
  obtain ⟨r, hr⟩ : ∃ r, docT (kdocE s (flOf fl) (kvE s (flOf fl) d') (s.size + 1) (p + 1) [] []) = r := ⟨_, rfl⟩
  rw [hr]
  have HR := Lib.hid hr
  have HIH := Lib.hid ih
  clear hr ih
  have HX : Hid (nxI s fl p 0 = .ok (b, p + 1)) := by show _ = _; rw [← hx]; unfold nxI; rw [if_pos rfl]
  clear hx
  have hrb := blk_lt h
  have H := Lib.hid h
  have hne : rb ≠ w.heap.size := by omega
  have HLV := Lib.hid hlv
  have hlv1 : 0 ≤ lv ∧ lv ≤ 17 := by omega
  clear hlv h
  go_enter Tryd.func28, Tryd.ntmps28
  go_wp2_with fail
  have HG2 : Hid (w.grownBy (w.alloc (.cells #[.int .i64 0, .int .i64 0, .string ⟨#[]⟩, .slice none 0 0, .slice none 0 0] 41)) (some rb)) := only_alloc (World.grownBy.refl _ _) _
  have HA2 := Lib.hid (blk_at0 w (.cells #[.int .i64 0, .int .i64 0, .string ⟨#[]⟩, .slice none 0 0, .slice none 0 0] 41))
  refine (inext_ok s rb p fl 0 _ hs hp (blk_alloc H.out _)).mono ?_
  rw [HX.out]
  rintro e w3 ⟨b1, q1, c1, ⟨hq0, hq1⟩, rfl, hb3, g3, ho, hz⟩
  have HB3 := Lib.hid hb3
  have HG3 := Lib.hid (only_trans HG2.out g3)
  have HA3 := Lib.hid (blk_only HA2.out g3 hne.symm)
  have s3 : w.heap.size < w3.heap.size := by have := g3.size; simp at this; omega
  have r3 : rb < w3.heap.size := by omega
  clear hb3 g3 HG2 HA2 H
  obtain ⟨rfl, rfl, rfl⟩ := ho
  clear hz hq0
  have hbb := b.toNat_lt
  have dm : decide (lv ≤ 16) = true := by have := HLV.out; simp; omega
  go_wp2_with fail
  refine (must_ok s rb (p + 1) fl 0 _ _ (blk_alloc HB3.out _)).mono ?_
  rintro e wm ⟨rfl, hbm, gm⟩
  rw [show mustC _ 0 = 0 from rfl] at hbm
  have HBm := Lib.hid hbm
  have HGm := Lib.hid (only_trans (only_alloc HG3.out (.cells #[.int .i64 5, .int .i64 0, .string ⟨#[]⟩, .slice none 0 0, .slice none 0 0] 41)) gm)
  have HAm := Lib.hid (blk_only (blk_alloc HA3.out (.cells #[.int .i64 5, .int .i64 0, .string ⟨#[]⟩, .slice none 0 0, .slice none 0 0] 41)) gm hne.symm)
  have HVm := Lib.hid (blk_only (blk_at0 w3 (.cells #[.int .i64 5, .int .i64 0, .string ⟨#[]⟩, .slice none 0 0, .slice none 0 0] 41)) gm (by omega))
  have sm : w3.heap.size < wm.heap.size := by have := gm.size; simp at this; omega
  have rm : rb < wm.heap.size := by omega
  clear hbm gm HB3 HG3 HA3
  have ck := blk_cell HBm.out
  have ca := blk_cell HAm.out
  have fa := blk_free HAm.out
  have cv := blk_cell HVm.out
  have fv := blk_free HVm.out
  obtain ⟨lo, hlo⟩ : ∃ lo, lo = w3.heap.size + 1 := ⟨_, rfl⟩
  have HLO := Lib.hid hlo
  have hlo1 : w3.heap.size < lo := by omega
  have hlo2 : lo ≤ w3.heap.size + 1 := by omega
  clear hlo
  go_wp2_with fail
  clear cv fv
  go_loopw [9] (fun j wr => ∃ (i n q : Nat) (ns : List ByteArray) (ts : List Tr) (c : Int) (x : Value), j = .int .i64 (i : Int) ∧ p ≤ q ∧ q ≤ s.size ∧ (c = 0 → s.size + 1 ≤ n + q ∧ i ≤ q) ∧ i ≤ s.size + 1 ∧ ts.length ≤ i ∧ Hid (DRelK s (flOf fl) (kvE s (flOf fl) d') r n q ns ts c) ∧ Hid (wr.heap[rb]? = some (InCells s q fl c)) ∧ Hid (wr.heap[w3.heap.size]? = some (.cells #[.int .i64 5, .int .i64 0, .string ⟨#[]⟩, .slice none 0 0, x] 41 (0, 0))) ∧
      Hid (wr.heap[w.heap.size]? = some (.cells #[.int .i64 0, .int .i64 0, .string ⟨#[]⟩, .slice none 0 0, .slice none 0 0] 41 (0, 0))) ∧ Hid (FAcc lo wr x ns ts) ∧ Hid (w.grownBy wr (some rb)) ∧ lo ≤ wr.heap.size) (fun j _ => s.size + 2 - (intOf j).toNat)
  case atStart => exact ⟨0, s.size + 1, p + 1, [], [], 0, _, rfl, by omega, hq1, fun _ => by omega, by omega, by simp, Or.inl ⟨rfl, HR.out⟩, HBm, HVm, HAm, FAcc.nil _ _, HGm, by omega⟩
  case round =>
    clear ck ca fa
    obtain ⟨i, n, q, ns, ts, c, x, rfl, hpq, hq, hnq, hi1, htl, HF, HBr, HVr, HAr, HAcc, HGr, hsr⟩ := hrel
    obtain ⟨ax, cx, rfl⟩ := HAcc.out.shape
    have sr : w3.heap.size < wr.heap.size := by omega
    have hrbr : rb < wr.heap.size := by omega
    have ck := blk_cell HBr.out
    by_cases hi : i ≤ s.size
    case neg =>
      have hc : c ≠ 0 := fun h => by have := hnq h; omega
      have HO := Lib.hid (DRelI.bad HF.out hc (.mk 5 0 ⟨#[]⟩ [] ns ts) q)
      have di : decide ((i : Int) ≤ (s.size : Int)) = false := by simp; omega
      clear HF hc hnq
      have ca := blk_cell HAr.out
      have fa := blk_free HAr.out
      have cv := blk_cell HVr.out
      have fv := blk_free HVr.out
      have hnv : ¬ w.heap.size = w3.heap.size := by omega
      have hav : w.heap.size < wr.heap.size := by omega
      have hav3 : w3.heap.size < wr.heap.size := by omega
      go_wp2_with fail
      refine bodyPost_ret (v := .agg #[.int .i64 5, .int .i64 0, .string ⟨#[]⟩, .slice none 0 0, .slice ax ts.length cx]) (by simp only [results, Tryd.results28]; go_simp) rfl ⟨_, _, q, c, rfl, HAcc.out.value (w0 := w.heap.size) ?_ (by omega) ?_ (by omega), ⟨hpq, hq⟩, ?_, ?_, HO.out⟩
      · repeat (first | with_reducible exact Same.refl _ _ | ((with_reducible refine Same.setCell ?_ ?_ _); rotate_left; (· first | (simp; done) | (simp; omega))))
      · simp [World.setCell]
      · exact (by repeat (first | with_reducible exact HBr.out |  with_reducible refine blk_alloc ?_ _ | ((with_reducible refine blk_far ?_ ?_ _); rotate_left; (· first | (simp; done) | (simp; omega) | omega))))
      · exact (by repeat (first | with_reducible exact HGr.out | with_reducible refine only_drew ?_ | with_reducible refine only_alloc ?_ _ | with_reducible refine only_setCell ?_ (.inl rfl) _ | ((with_reducible refine only_setCell ?_ (.inr ?_) _); rotate_left; (· first | exact Nat.le_refl _ | omega | (simp; done) | (simp; omega)))))
    have di : decide ((i : Int) ≤ (s.size : Int)) = true := by simp; omega
    have HNQ := Lib.hid hnq
    clear hnq
    go_wp2_with fail
    clear ck di
    refine (imore_ok s rb q fl c _ hs hq HBr.out).mono ?_
    rintro e w4 ⟨bm, q4, c4, ⟨hq40, hq4⟩, rfl, hk4, g4, ho4, hz4⟩
    have HB4 := Lib.hid hk4
    have HG5 := Lib.hid (only_trans HGr.out g4)
    have HV4 := Lib.hid (blk_only HVr.out g4 (by omega))
    have HA4 := Lib.hid (blk_only HAr.out g4 hne.symm)
    have s4 : wr.heap.size ≤ w4.heap.size := g4.size
    have HAcc4 := Lib.hid (HAcc.out.keep (Same.only (Same.refl _ wr) (Nat.le_refl _) g4 (by omega)))
    clear hk4 g4 HAcc HBr HVr HAr HGr
    cases bm
    case false =>
      have HO := Lib.hid (DRelI.stop HF.out (fun h => by have := HNQ.out h; omega) ho4)
      clear HF ho4 hz4
      have ca := blk_cell HA4.out
      have fa := blk_free HA4.out
      have cv := blk_cell HV4.out
      have fv := blk_free HV4.out
      have hnv : ¬ w.heap.size = w3.heap.size := by omega
      have hav : w.heap.size < w4.heap.size := by omega
      have hav3 : w3.heap.size < w4.heap.size := by omega
      go_wp2_with fail
      refine bodyPost_ret (v := .agg #[.int .i64 5, .int .i64 0, .string ⟨#[]⟩, .slice none 0 0, .slice ax ts.length cx]) (by simp only [results, Tryd.results28]; go_simp) rfl ⟨_, _, q4, c4, rfl, HAcc4.out.value (w0 := w.heap.size) ?_ (by omega) ?_ (by omega), ⟨by omega, hq4⟩, ?_, ?_, HO.out⟩
      · repeat (first | with_reducible exact Same.refl _ _ | ((with_reducible refine Same.setCell ?_ ?_ _); rotate_left; (· first | (simp; done) | (simp; omega))))
      · simp [World.setCell]
      · exact (by repeat (first | with_reducible exact HB4.out |  with_reducible refine blk_alloc ?_ _ | ((with_reducible refine blk_far ?_ ?_ _); rotate_left; (· first | (simp; done) | (simp; omega) | omega))))
      · exact (by repeat (first | with_reducible exact HG5.out | with_reducible refine only_drew ?_ | with_reducible refine only_alloc ?_ _ | with_reducible refine only_setCell ?_ (.inl rfl) _ | ((with_reducible refine only_setCell ?_ (.inr ?_) _); rotate_left; (· first | exact Nat.le_refl _ | omega | (simp; done) | (simp; omega)))))
    obtain ⟨rfl, rfl, rfl⟩ := mrI_go ho4 hz4
    rw [mrI0] at ho4
    obtain ⟨hnq, hiq⟩ := HNQ.out rfl
    clear HNQ
    obtain ⟨m, rfl⟩ : ∃ m, n = m + 1 := ⟨n - 1, by omega⟩
    have HO4 := Lib.hid ho4
    have HZ4 := Lib.hid hz4
    clear ho4 hz4
    have hwl := wrap_i64_val (lv + 1) (by omega) (by omega)
    go_wp2_with fail
    refine (iname_ok s rb (q + 1) fl _ hs hq4 HB4.out).mono ?_
    rintro e w8 ⟨l8, q8, c8, hl8, ⟨hq80, hq8⟩, rfl, hk8, g8, ho8⟩
    have HO8 := Lib.hid ho8
    have HB8 := Lib.hid hk8
    have HG8 := Lib.hid (only_trans HG5.out g8)
    have HV8 := Lib.hid (blk_only HV4.out g8 (by omega))
    have HA8 := Lib.hid (blk_only HA4.out g8 hne.symm)
    have s8 : w4.heap.size ≤ w8.heap.size := g8.size
    have HAcc8 := Lib.hid (HAcc4.out.keep (Same.only (Same.refl _ w4) (Nat.le_refl _) g8 (by omega)))
    have hm8 : (⟨l8.toArray⟩ : ByteArray).size ≤ maxLen := by unfold maxLen; show l8.toArray.size ≤ _; simp; omega
    clear ho8 hk8 g8 HB4 HG5 HV4 HA4 HAcc4
    have cv := blk_cell HV8.out
    have fv := blk_free HV8.out
    have hvl : w3.heap.size < w8.heap.size := by omega
    go_wp2_with fail
    refine wp_region_mixz (fun W => W.heap[w3.heap.size]? = some (.cells #[.int .i64 5, .int .i64 0, .string ⟨#[]⟩, .slice none 0 0, .slice ax ts.length cx] 41 (0, 0))) 11 [(true, 0), (true, 1), (true, 2), (true, 3), (true, 4), (true, 5), (false, 6), (true, 7), (false, 8), (false, 9), (true, 10), (false, 11)] (by kernel_rfl) (by kernel_rfl) (by kernel_rfl) (by kernel_rfl) (by kernel_rfl) (by kernel_rfl) ?hS ?_
    case hS => exact HV8.out
    repeat (first | (refine wpMixZ_q (v := ?_) rfl rfl ?_ ?_; rotate_left; (· intro wq hSq; have cq := blk_cell hSq; go_simp; try (with_reducible rfl)); simp only [Act.put, List.setIfInBounds_toArray, List.set_cons_zero, List.set_cons_succ, List.getElem_toArray, List.getElem_cons_zero, List.getElem_cons_succ]) | (refine wpMixZ_u rfl rfl ?_; simp only [Act.put, List.setIfInBounds_toArray, List.set_cons_zero, List.set_cons_succ, List.getElem_toArray, List.getElem_cons_zero, List.getElem_cons_succ]))
    refine wpMixZ_l rfl rfl (fun K hK => ?_)
    go_simp
    refine (HIH.out rb q8 c8 (lv + 1) w8.drew (by have := HLV.out; omega) hq8 HB8.out).mono ?_
    rintro e w5 ⟨t5, v5, q5, c5, rfl, hv5, ⟨hq50, hq5⟩, hk5, g5, ho5⟩
    have HF3 := Lib.hid (HF.out.go HO4.out HO8.out ho5)
    clear HF HO4 HZ4 ho5
    have HB5 := Lib.hid hk5
    have HG5' := Lib.hid (only_trans (only_drew HG8.out) g5)
    have HV5 := Lib.hid (blk_only (w := w8.drew) HV8.out g5 (by omega))
    have HA5 := Lib.hid (blk_only (w := w8.drew) HA8.out g5 hne.symm)
    have sz5 : w8.heap.size ≤ w5.heap.size := g5.size
    have HSm : Hid (Same lo w8 w5) := Same.only (w := w8.drew) (Same.refl _ w8).drew (Nat.le_refl _) g5 (by omega)
    have HAcc5 := Lib.hid (HAcc8.out.keep HSm.out)
    have HW5 : Hid (VNew w8.heap.size w5.heap.size w5 t5 v5) := hv5
    obtain ⟨k', i', s', la', ln', lc', da', dn', dc', rfl⟩ := VRep.shape (show VRep (win _ w5) t5 v5 from HW5.out)
    have hown : ∀ g, (Value.slice ax ts.length cx).ownBlock = some g → lo ≤ g ∧ g < w8.heap.size := fun g hg => by
      obtain ⟨cs, ho, _⟩ := HAcc8.out
      exact ho.lt g hg
    have HOwn := Lib.hid hown
    refine hK _ _ HV5.out ?_
    clear hK K hv5 hk5 g5 hown
    repeat (first | (refine wpMixZ_q (v := ?_) rfl rfl ?_ ?_; rotate_left; (· intro wq hSq; have cq := blk_cell hSq; go_simp; try (with_reducible rfl)); simp only [Act.put, List.setIfInBounds_toArray, List.set_cons_zero, List.set_cons_succ, List.getElem_toArray, List.getElem_cons_zero, List.getElem_cons_succ]) | (refine wpMixZ_u rfl rfl ?_; simp only [Act.put, List.setIfInBounds_toArray, List.set_cons_zero, List.set_cons_succ, List.getElem_toArray, List.getElem_cons_zero, List.getElem_cons_succ]))
    refine wpMixZ_l rfl rfl (fun K hK => ?_)
    go_simp
    refine hK _ _ (blk_alloc HV5.out _) ?_
    clear hK K
    refine wpMixZ_l rfl rfl (fun K hK => ?_)
    refine wp_append_facc w5 _ _ rfl lo (.slice ax ts.length cx) ns ts rfl HAcc5.out t5 ⟨l8.toArray⟩ hm8 _ _ _ _ _ rfl w8.heap.size (by omega) (fun g hg => (HOwn.out g hg).2) HW5.out (by omega) (by omega) ?_
    intro v6 w6 a6 o6 g6
    obtain ⟨ts6, hts6⟩ : ∃ l, ts ++ [t5] = l := ⟨_, rfl⟩
    obtain ⟨ns6, hns6⟩ : ∃ l, ns ++ [(⟨l8.toArray⟩ : ByteArray)] = l := ⟨_, rfl⟩
    have hl6 : ts6.length ≤ i + 1 := by rw [← hts6]; simp; omega
    rw [hts6, hns6] at a6 HF3
    clear hts6 hns6
    have HAcc6 := Lib.hid a6
    have hbk : ∀ i, i < lo → w6.heap[i]? = w5.heap[i]? := fun i hi => by
      rw [g6.block i (by simp; omega) (fun e => by have := (HOwn.out i e.symm).1; omega), Below.heap_alloc w5 _ i (by omega)]
    have HB6 : Hid (w6.heap[rb]? = some (InCells s q5 fl c5)) := (hbk rb (by omega)).trans HB5.out
    have HV6 : Hid (w6.heap[w3.heap.size]? = some (.cells #[.int .i64 5, .int .i64 0, .string ⟨#[]⟩, .slice none 0 0, .slice ax ts.length cx] 41 (0, 0))) := (hbk _ (by omega)).trans HV5.out
    have HA6 : Hid (w6.heap[w.heap.size]? = some (.cells #[.int .i64 0, .int .i64 0, .string ⟨#[]⟩, .slice none 0 0, .slice none 0 0] 41 (0, 0))) := (hbk _ (by omega)).trans HA5.out
    have sz6 : w5.heap.size < w6.heap.size := by have := g6.size; simp at this; omega
    have HG6 : Hid (w.grownBy w6 (some rb)) := by
      have g7 := only_alloc HG5'.out (.cells #[.string ⟨l8.toArray⟩, .int .i64 k', .int .i64 i', .string s', .slice la' ln' lc', .slice da' dn' dc'] 58)
      exact ⟨g6.os.trans g7.os, g6.tape.trans g7.tape, g6.output.trans g7.output, Nat.le_trans g7.size g6.size, fun i hi hn => by
        rw [g6.block i (by have := g7.size; omega) (fun e => by have := (HOwn.out i e.symm).1; omega)]
        exact g7.block i hi hn⟩
    refine hK _ _ HV6.out ?_
    clear hK K a6 g6 hbk HAcc5 HB5 HV5 HA5 HG5' cv fv
    obtain ⟨ax6, cx6, rfl⟩ := HAcc6.out.shape
    repeat (first | (refine wpMixZ_q (v := ?_) rfl rfl ?_ ?_; rotate_left; (· intro wq hSq; have cq := blk_cell hSq; go_simp; try (with_reducible rfl)); simp only [Act.put, List.setIfInBounds_toArray, List.set_cons_zero, List.set_cons_succ, List.getElem_toArray, List.getElem_cons_zero, List.getElem_cons_succ]) | (refine wpMixZ_u rfl rfl ?_; simp only [Act.put, List.setIfInBounds_toArray, List.set_cons_zero, List.set_cons_succ, List.getElem_toArray, List.getElem_cons_zero, List.getElem_cons_succ]))
    refine wpMixZ_z rfl rfl (fun K hK => ?_)
    have cv := blk_cell HV6.out
    have fv := blk_free HV6.out
    go_simp
    refine hK _ _ ?_
    clear hK K
    refine wpMixZ_nil ?_
    have HV7 := Lib.hid (blk_set HV6.out 4 (.slice ax6 ts6.length cx6))
    have HB7 := Lib.hid (blk_far HB6.out (p := ⟨w3.heap.size, 4, none⟩) (by simp; omega) (.slice ax6 ts6.length cx6))
    have HA7 := Lib.hid (blk_far HA6.out (p := ⟨w3.heap.size, 4, none⟩) (by simp; omega) (.slice ax6 ts6.length cx6))
    have HG7 := Lib.hid (only_setCell HG6.out (p := ⟨w3.heap.size, 4, none⟩) (.inr (by simp; omega)) (.slice ax6 ts6.length cx6))
    have HAcc7 := Lib.hid (HAcc6.out.keep (Same.setCell (Same.refl _ _) (p := ⟨w3.heap.size, 4, none⟩) (by simp; omega) (.slice ax6 ts6.length cx6)))
    go_wp2_with fail
    exact ⟨⟨i + 1, m, q5, ns6, ts6, c5, _, by go_num, by omega, hq5, fun _ => by omega, by omega, hl6, HF3, HB7, HV7, HA7, HAcc7, HG7, by simp [World.setCell]; omega⟩, by simp [intOf]; omega⟩
theorem ki_ok (s : ByteArray) (fl : Bool) (hs : s.size ≤ 1000000000) : ∀ d, d ≤ 16 → KviOk s fl d := by
  intro d
  induction d with
  | zero =>
    intro hd rb p c lv w hlv hp h
    cases hx0 : nxI s fl p c with
    | error e0 =>
      rw [show kvI s fl 0 p c = .error e0 by
        unfold kvI; unfold nxI at hx0
        by_cases hc : c = 0
        · rw [if_pos hc] at hx0 ⊢; simp only [kvE, hx0]
        · rw [if_neg hc] at hx0 ⊢; injection hx0 with hx0; rw [hx0]]
      exact ki_err s fl 0 rb p c lv w hs hlv (by omega) hp h e0 hx0
    | ok z =>
      by_cases hc : c = 0
      case neg => unfold nxI at hx0; rw [if_neg hc] at hx0; cases hx0
      subst hc
      have hx : nextE s (flOf fl) p = .ok z := by unfold nxI at hx0; rw [if_pos rfl] at hx0; exact hx0
      obtain ⟨b, q⟩ := z
      obtain ⟨-, rfl, -⟩ := nextE_ok hx
      rw [show kvI s fl 0 p 0 = .error 4 by unfold kvI; rw [if_pos rfl]; simp only [kvE, hx]]
      exact ki_bad s fl 0 rb p lv w hs hlv (by omega) hp h b hx (by omega)
  | succ d' ih' =>
    intro hd rb p c lv w hlv hp h
    have ih := ih' (by omega)
    clear ih'
    obtain ⟨d, hd'⟩ : ∃ d, d = d' + 1 := ⟨_, rfl⟩
    have hlv : lv = 17 - d := by omega
    cases hx0 : nxI s fl p c with
    | error e0 =>
      rw [show kvI s fl (d' + 1) p c = .error e0 by
        unfold kvI; unfold nxI at hx0
        by_cases hc : c = 0
        · rw [if_pos hc] at hx0 ⊢; simp only [kvE, hx0]
        · rw [if_neg hc] at hx0 ⊢; injection hx0 with hx0; rw [hx0]]
      exact ki_err s fl d rb p c lv w hs hlv (by omega) hp h e0 hx0
    | ok z =>
      by_cases hc : c = 0
      case neg => unfold nxI at hx0; rw [if_neg hc] at hx0; cases hx0
      subst hc
      have hx : nextE s (flOf fl) p = .ok z := by unfold nxI at hx0; rw [if_pos rfl] at hx0; exact hx0
      obtain ⟨b, q⟩ := z
      obtain ⟨-, rfl, -⟩ := nextE_ok hx
      rw [show kvI s fl (d' + 1) p 0 = kvK s (flOf fl) (kvE s (flOf fl) d') (decide (d' = 15)) b.toNat (p + 1) by unfold kvI; rw [if_pos rfl]; simp only [kvE, hx]]
      have hx' := hx
      unfold kvK
      by_cases c0 : 11 < b.toNat ∨ (b.toNat = 0 ∧ decide (d' = 15) = false)
      · rw [if_pos c0]
        refine ki_bad s fl d rb p lv w hs hlv (by omega) hp h b hx ?_
        rcases c0 with c0 | ⟨c0, c1⟩
        · exact .inl c0
        · exact .inr (.inl ⟨c0, by simp at c1; omega⟩)
      rw [if_neg c0]
      by_cases c3 : b.toNat = 3 ∨ b.toNat = 9 ∨ b.toNat = 10
      · rw [if_pos c3]
        rcases c3 with c3 | c3 | c3
        · rw [c3]; exact ki_k3 s fl d rb p lv w hs hlv (by omega) hp h b hx' (by omega) c3
        · rw [c3]; exact ki_k9 s fl d rb p lv w hs hlv (by omega) hp h b hx' (by omega) c3
        · rw [c3]; exact ki_k10 s fl d rb p lv w hs hlv (by omega) hp h b hx' (by omega) c3
      rw [if_neg c3]
      by_cases c4 : b.toNat = 4 ∨ b.toNat = 7 ∨ b.toNat = 8
      · rw [if_pos c4]
        rcases c4 with c4 | c4 | c4
        · rw [c4]; exact ki_k4 s fl d rb p lv w hs hlv (by omega) hp h b hx' (by omega) c4
        · rw [c4]; exact ki_k7 s fl d rb p lv w hs hlv (by omega) hp h b hx' (by omega) c4
        · rw [c4]; exact ki_k8 s fl d rb p lv w hs hlv (by omega) hp h b hx' (by omega) c4
      rw [if_neg c4]
      by_cases c6 : b.toNat = 6
      · rw [if_pos c6]; exact ki_k6 s fl d rb p lv w hs hlv (by omega) hp h b hx' (by omega) c6 d' hd' ih
      rw [if_neg c6]
      by_cases c5 : b.toNat = 5
      · rw [if_pos c5]; exact ki_k5 s fl d rb p lv w hs hlv (by omega) hp h b hx' (by omega) c5 d' hd' ih
      rw [if_neg c5]
      by_cases k0 : b.toNat = 0
      · rw [k0]; exact ki_k0 s fl d rb p lv w hs hlv (by omega) hp h b hx' (by omega) k0 (by simp [k0] at c0; omega)
      by_cases k1 : b.toNat = 1
      · rw [k1]; exact ki_k1 s fl d rb p lv w hs hlv (by omega) hp h b hx' (by omega) k1
      by_cases k2 : b.toNat = 2
      · rw [k2]; exact ki_k2 s fl d rb p lv w hs hlv (by omega) hp h b hx' (by omega) k2
      have k11 : b.toNat = 11 := by omega
      rw [k11]; exact ki_k11 s fl d rb p lv w hs hlv (by omega) hp h b hx' (by omega) k11
end Go.Proofs.YtipphlhaaienpaaDoor
