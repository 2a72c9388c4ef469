/- (*keyenc.reader).text, name. -/
import Derived.Test.YtipphlhaaienpaaDoorKR1
set_option linter.unusedSimpArgs false
set_option linter.unusedVariables false
namespace Go.Proofs.YtipphlhaaienpaaDoor
open Go.RowKit
def StPost (rb : Nat) (s : ByteArray) (fl : UInt8) (p : Nat) (w : World) (x : Except Int (List UInt8 × Nat)) (e : Ending) (w' : World) : Prop :=
  ∃ (l : List UInt8) (q : Nat) (c : Int), l.length ≤ s.size ∧ (p ≤ q ∧ q ≤ s.size) ∧ e = .returned (.string ⟨l.toArray⟩) ∧ w'.heap[rb]? = some (KrCells s q fl c) ∧ w.grownBy w' (some rb) ∧ Out x l q c
/-- where the reader stands -/
def posOf (rb : Nat) (w : World) : Nat := (intOf ((w.cell? ⟨rb, 1, none⟩).getD undef)).toNat
theorem posOf_kr {rb : Nat} {w : World} {s : ByteArray} {p : Nat} {fl : UInt8} {c : Int} (h : w.heap[rb]? = some (KrCells s p fl c)) : posOf rb w = p := by
  unfold posOf; rw [blk_cell h 1]; simp [intOf]
theorem Buf.only {w w' : World} {base : Nat} {v : Value} {l : List UInt8} {rb : Nat} (h : Buf w base v l) (g : w.grownBy w' (some rb)) (hr : rb < base) : Buf w' base v l := by
  refine World.ownsRow.kept h g ?_
  rcases h.2 with ⟨rfl, _⟩ | ⟨g', cap, cur, rfl, hb, _⟩
  · right; simp [Value.ownBlock]
  · right; simp only [Value.ownBlock, ne_eq, Option.some.injEq]; omega
theorem Keep.only {base rb : Nat} {a w w' : World} (k : Keep base w w') (g : a.grownBy w (some rb)) (h : a.heap.size ≤ base) : a.grownBy w' (some rb) :=
  ⟨k.os.trans g.os, k.tape.trans g.tape, k.output.trans g.output, Nat.le_trans g.size k.size, fun i hi hn => (k.block i (Nat.lt_of_lt_of_le hi g.size) (.inl (by omega))).trans (g.block i hi hn)⟩
theorem Keep.kr {base rb : Nat} {w w' : World} {s : ByteArray} {p : Nat} {fl : UInt8} {c : Int} (k : Keep base w w') (h : w.heap[rb]? = some (KrCells s p fl c)) : w'.heap[rb]? = some (KrCells s p fl c) := k.blk h (by decide)
theorem ret_str {a b : ByteArray} (h : a = b) : Ending.returned (.string a) = .returned (.string b) := by rw [h]
set_option maxRecDepth 20000 in
set_option maxHeartbeats 4000000 in
theorem name_ok (s : ByteArray) (rb p : Nat) (fl : UInt8) (w : World) (hs : s.size ≤ 1000000000) (hp : p ≤ s.size) (h : w.heap[rb]? = some (KrCells s p fl 0)) :
    Calls Tryd.prog 43 #[.pointer (some ⟨rb, 0, none⟩)] w (StPost rb s fl p w (nameE s fl (s.size + 1) p [])) := by
  have hrb := blk_lt h
  have H := Lib.hid h
  clear h
  obtain ⟨r, hr⟩ : ∃ r, nameE s fl (s.size + 1) p [] = r := ⟨_, rfl⟩
  rw [hr]
  have HR := Lib.hid hr
  clear hr
  go_enter Tryd.func43, Tryd.ntmps43
  go_wp2_with fail
  go_loopw [3] (fun b wr => ∃ (n q : Nat) (acc : List UInt8), p ≤ q ∧ q ≤ s.size ∧ s.size + 1 ≤ n + q ∧ acc.length ≤ q ∧ Hid (nameE s fl n q acc = r) ∧ Hid (wr.heap[rb]? = some (KrCells s q fl 0)) ∧ Hid (Buf wr w.heap.size b acc) ∧ Hid (w.grownBy wr (some rb))) (fun _ wr => s.size + 1 - posOf rb wr)
  case atStart => exact ⟨s.size + 1, p, [], Nat.le_refl _, hp, by omega, by simp, HR, H, Buf.nil _ _, World.grownBy.refl _ _⟩
  case round =>
    obtain ⟨n, q, acc, hpq, hq, hn, ha, HF, HBr, HBf, HGr⟩ := hrel
    obtain ⟨ad, ca, rfl⟩ := HBf.out.shape
    have HP := Lib.hid (posOf_kr HBr.out)
    obtain ⟨m, rfl⟩ : ∃ m, n = m + 1 := ⟨n - 1, by omega⟩
    have hF := HF.out
    simp only [nameE] at hF
    obtain ⟨x, hx⟩ : ∃ x, nextE s fl q = x := ⟨_, rfl⟩
    rw [hx] at hF
    have HX := Lib.hid hx
    have HF2 := Lib.hid hF
    have HQ := Lib.hid (fun b q' (he : x = .ok (b, q')) => nextE_ok (hx.trans he))
    have sr : w.heap.size ≤ wr.heap.size := HGr.out.size
    clear hF HF hx
    go_wp2_with fail
    refine (next_ok s rb q fl _ hs hq HBr.out).mono ?_
    rw [HX.out]
    rintro e w1 ⟨b, q1, c, ⟨hq0, hq1⟩, rfl, h1, g1, ho, hz⟩
    have ck := blk_cell h1
    have hrb1 := blk_lt h1
    have H1 := Lib.hid h1
    have HG1 := Lib.hid (only_trans HGr.out g1)
    have HBf1 := Lib.hid (HBf.out.only g1 hrb)
    have s1 : wr.heap.size ≤ w1.heap.size := g1.size
    clear h1 g1
    cases x with
    | error e0 =>
      obtain ⟨rfl, hc⟩ := ho
      have e := HF2.out
      simp only at e
      subst e
      have d : (c != 0) = true := by simpa using hc
      have HC := Lib.hid hc
      clear hc
      go_wp2_with fail
      go_ret
      exact ⟨[], q1, c, by simp, ⟨by omega, hq1⟩, rfl, H1.out, HG1.out, rfl, HC.out⟩
    | ok y =>
      obtain ⟨b', q'⟩ := y
      obtain ⟨rfl, rfl, rfl⟩ := ho
      obtain ⟨hq2, rfl, -⟩ := HQ.out b' q' rfl
      have hF := HF2.out
      simp only at hF
      clear hz HQ
      have hb := b'.toNat_lt
      by_cases h0 : b' = 0
      · rw [if_pos h0] at hF
        subst hF
        have d : ((b'.toNat : Int) == 0) = true := by rw [h0]; rfl
        have dz : b'.toNat = 0 := by rw [h0]; rfl
        have hcv := HBf1.out.str
        clear h0
        go_wp2_with fail
        go_ret
        exact ⟨acc, q + 1, 0, by omega, ⟨by omega, hq1⟩, rfl, H1.out, HG1.out, rfl, rfl, rfl⟩
      · rw [if_neg h0] at hF
        have HF3 := Lib.hid hF
        have d : ((b'.toNat : Int) == 0) = false := by
          rw [beq_eq_false_iff_ne]; intro e; exact h0 (UInt8.toNat_inj.1 (by simpa using e))
        have HL2 : Hid (acc.length + [b'].length ≤ 140737488355328) := by
          show _ ≤ _
          simp; omega
        clear h0 hF
        go_wp2_with (at_builtin; refine wpList_append_buf _ rfl _ _ rfl w.heap.size _ _ rfl (HBf1.out.alloc _) ⟨w1.heap.size, 0, none⟩ 1 1 [b'] rfl rfl (one_new _ _ _ rfl) HL2.out (by simp; omega) ?_)
        intro v4 w4 hb4 hk4
        obtain ⟨a4, ha4⟩ : ∃ x, acc ++ [b'] = x := ⟨_, rfl⟩
        rw [ha4] at hb4 HF3
        have hl4 : a4.length ≤ q + 1 := by rw [← ha4]; simp; omega
        have HB4 := Lib.hid hb4
        have H4 := Lib.hid (hk4.kr (blk_alloc H1.out _))
        have HG4 := Lib.hid (hk4.only (only_alloc HG1.out _) (Nat.le_refl _))
        clear ha4 hb4 hk4 ck
        obtain ⟨ad4, c4, rfl⟩ := HB4.out.shape
        go_wp2_with fail
        exact ⟨⟨m, q + 1, a4, by omega, hq1, by omega, hl4, HF3, H4, HB4, HG4⟩, by rw [posOf_kr H4.out, HP.out]; omega⟩
set_option maxRecDepth 20000 in
set_option maxHeartbeats 4000000 in
theorem text_ok (s : ByteArray) (rb p : Nat) (fl : UInt8) (w : World) (hs : s.size ≤ 1000000000) (hp : p ≤ s.size) (h : w.heap[rb]? = some (KrCells s p fl 0)) :
    Calls Tryd.prog 41 #[.pointer (some ⟨rb, 0, none⟩)] w (StPost rb s fl p w (textE s fl (s.size + 1) p [])) := by
  have hrb := blk_lt h
  have H := Lib.hid h
  clear h
  obtain ⟨r, hr⟩ : ∃ r, textE s fl (s.size + 1) p [] = r := ⟨_, rfl⟩
  rw [hr]
  have HR := Lib.hid hr
  clear hr
  go_enter Tryd.func41, Tryd.ntmps41
  go_wp2_with fail
  go_loopw [3] (fun b wr => ∃ (n q : Nat) (acc : List UInt8) (c : Int), p ≤ q ∧ q ≤ s.size ∧ s.size + 1 ≤ n + q ∧ acc.length ≤ q ∧ Hid ((c = 0 ∧ textE s fl n q acc = r) ∨ (c ≠ 0 ∧ r = .error c)) ∧ Hid (wr.heap[rb]? = some (KrCells s q fl c)) ∧ Hid (Buf wr w.heap.size b acc) ∧ Hid (w.grownBy wr (some rb))) (fun _ wr => s.size + 1 - posOf rb wr)
  case atStart => exact ⟨s.size + 1, p, [], 0, Nat.le_refl _, hp, by omega, by simp, Or.inl ⟨rfl, HR.out⟩, H, Buf.nil _ _, World.grownBy.refl _ _⟩
  case round =>
    obtain ⟨n, q, acc, c, hpq, hq, hn, ha, HF, HBr, HBf, HGr⟩ := hrel
    obtain ⟨ad, ca, rfl⟩ := HBf.out.shape
    have HP := Lib.hid (posOf_kr HBr.out)
    have ck := blk_cell HBr.out
    have hrbr := blk_lt HBr.out
    by_cases hc : c = 0
    case neg =>
      have hr : r = .error c := by
        rcases HF.out with ⟨h, _⟩ | ⟨_, h⟩
        · exact absurd h hc
        · exact h
      subst hr
      have d : (c == 0) = false := beq_eq_false_iff_ne.2 hc
      have HC := Lib.hid hc
      clear hc
      go_wp2_with fail
      go_ret
      exact ⟨[], q, c, by simp, ⟨hpq, hq⟩, rfl, HBr.out, HGr.out, rfl, HC.out⟩
    subst hc
    have hF0 : textE s fl n q acc = r := by
      rcases HF.out with ⟨_, h⟩ | ⟨h, _⟩
      · exact h
      · exact absurd rfl h
    obtain ⟨m, rfl⟩ : ∃ m, n = m + 1 := ⟨n - 1, by omega⟩
    simp only [textE] at hF0
    obtain ⟨x, hx⟩ : ∃ x, nextE s fl q = x := ⟨_, rfl⟩
    rw [hx] at hF0
    have HX := Lib.hid hx
    have HF2 := Lib.hid hF0
    have HQ := Lib.hid (fun b q' (he : x = .ok (b, q')) => nextE_ok (hx.trans he))
    have sr : w.heap.size ≤ wr.heap.size := HGr.out.size
    clear hF0 HF hx
    go_wp2_with fail
    clear ck
    refine (next_ok s rb q fl _ hs hq HBr.out).mono ?_
    rw [HX.out]
    rintro e w1 ⟨b, q1, c, ⟨hq0, hq1⟩, rfl, h1, g1, ho, hz⟩
    have ck := blk_cell h1
    have hrb1 := blk_lt h1
    have H1 := Lib.hid h1
    have HG1 := Lib.hid (only_trans HGr.out g1)
    have HBf1 := Lib.hid (HBf.out.only g1 hrb)
    have s1 : wr.heap.size ≤ w1.heap.size := g1.size
    clear h1 g1
    cases x with
    | error e0 =>
      obtain ⟨rfl, hc⟩ := ho
      have e := HF2.out
      simp only at e
      subst e
      have d : (c != 0) = true := by simpa using hc
      have HC := Lib.hid hc
      clear hc
      go_wp2_with fail
      go_ret
      exact ⟨[], q1, c, by simp, ⟨by omega, hq1⟩, rfl, H1.out, HG1.out, rfl, HC.out⟩
    | ok y =>
      obtain ⟨b', q'⟩ := y
      obtain ⟨rfl, rfl, rfl⟩ := ho
      obtain ⟨hq2, rfl, -⟩ := HQ.out b' q' rfl
      have hF := HF2.out
      simp only at hF
      clear hz HQ
      have hb := b'.toNat_lt
      by_cases h0 : b' = 0
      case neg =>
        rw [if_pos h0] at hF
        have HF3 := Lib.hid hF
        have d : ((b'.toNat : Int) != 0) = true := by
          rw [bne_iff_ne]; intro e; exact h0 (UInt8.toNat_inj.1 (by simpa using e))
        have HL2 : Hid (acc.length + [b'].length ≤ 140737488355328) := by
          show _ ≤ _
          simp; omega
        clear h0 hF
        go_wp2_with (at_builtin; refine wpList_append_buf _ rfl _ _ rfl w.heap.size _ _ rfl (HBf1.out.alloc _) ⟨w1.heap.size, 0, none⟩ 1 1 [b'] rfl rfl (one_new _ _ _ rfl) HL2.out (by simp; omega) ?_)
        intro v4 w4 hb4 hk4
        obtain ⟨a4, ha4⟩ : ∃ x, acc ++ [b'] = x := ⟨_, rfl⟩
        rw [ha4] at hb4 HF3
        have hl4 : a4.length ≤ q + 1 := by rw [← ha4]; simp; omega
        have HB4 := Lib.hid hb4
        have H4 := Lib.hid (hk4.kr (blk_alloc H1.out _))
        have HG4 := Lib.hid (hk4.only (only_alloc HG1.out _) (Nat.le_refl _))
        clear ha4 hb4 hk4 ck
        obtain ⟨ad4, c4, rfl⟩ := HB4.out.shape
        go_wp2_with fail
        exact ⟨⟨m, q + 1, a4, 0, by omega, hq1, by omega, hl4, Or.inl ⟨rfl, HF3.out⟩, H4, HB4, HG4⟩, by rw [posOf_kr H4.out, HP.out]; omega⟩
      rw [if_neg (by simpa using h0)] at hF
      obtain ⟨x2, hx2⟩ : ∃ x, nextE s fl (q + 1) = x := ⟨_, rfl⟩
      rw [hx2] at hF
      have HX2 := Lib.hid hx2
      have HF3 := Lib.hid hF
      have HQ2 := Lib.hid (fun b q' (he : x2 = .ok (b, q')) => nextE_ok (hx2.trans he))
      have d : ((b'.toNat : Int) != 0) = false := by rw [h0]; rfl
      have dz : b'.toNat = 0 := by rw [h0]; rfl
      clear hF hx2 h0
      go_wp2_with fail
      clear ck
      refine (next_ok s rb (q + 1) fl _ hs hq1 H1.out).mono ?_
      rw [HX2.out]
      rintro e w2 ⟨b2, q2, c2, ⟨hq20, hq2'⟩, rfl, h2, g2, ho2, hz2⟩
      have ck := blk_cell h2
      have cf := blk_free h2
      have hrb2 := blk_lt h2
      have H2 := Lib.hid h2
      have HG2 := Lib.hid (only_trans HG1.out g2)
      have HBf2 := Lib.hid (HBf1.out.only g2 hrb)
      have s2 : w1.heap.size ≤ w2.heap.size := g2.size
      clear h2 g2
      cases x2 with
      | error e0 =>
        obtain ⟨rfl, hc⟩ := ho2
        have e := HF3.out
        simp only at e
        subst e
        have d : (c2 != 0) = true := by simpa using hc
        have HC := Lib.hid hc
        clear hc
        go_wp2_with fail
        go_ret
        exact ⟨[], q2, c2, by simp, ⟨by omega, hq2'⟩, rfl, H2.out, HG2.out, rfl, HC.out⟩
      | ok y2 =>
        obtain ⟨b3, q3⟩ := y2
        obtain ⟨rfl, rfl, rfl⟩ := ho2
        obtain ⟨hq3, rfl, -⟩ := HQ2.out b3 q3 rfl
        have hF := HF3.out
        simp only at hF
        clear hz2 HQ2
        have hb3 := b3.toNat_lt
        by_cases h3 : b3 = 0
        · rw [if_pos h3] at hF
          subst hF
          have d : ((b3.toNat : Int) == 0) = true := by rw [h3]; rfl
          have dz3 : b3.toNat = 0 := by rw [h3]; rfl
          have hcv := HBf2.out.str
          clear h3
          go_wp2_with fail
          go_ret
          exact ⟨acc, q + 1 + 1, 0, by omega, ⟨by omega, hq2'⟩, rfl, H2.out, HG2.out, rfl, rfl, rfl⟩
        rw [if_neg h3] at hF
        have d : ((b3.toNat : Int) == 0) = false := by
          rw [beq_eq_false_iff_ne]; intro e; exact h3 (UInt8.toNat_inj.1 (by simpa using e))
        have HL2 : Hid (acc.length + [(0 : UInt8)].length ≤ 140737488355328) := by
          show _ ≤ _
          simp; omega
        by_cases h4 : b3 = 255
        · rw [if_neg (by simpa using h4)] at hF
          have HF4 := Lib.hid hF
          have d2 : ((b3.toNat : Int) != 255) = false := by rw [h4]; rfl
          have dz3 : b3.toNat = 255 := by rw [h4]; rfl
          clear h3 h4 hF
          go_wp2_with (at_builtin; refine wpList_append_buf _ rfl _ _ rfl w.heap.size _ _ rfl (HBf2.out.alloc _) ⟨w2.heap.size, 0, none⟩ 1 1 [0] rfl rfl (one_new _ _ _ rfl) HL2.out (by simp; omega) ?_)
          intro v4 w4 hb4 hk4
          obtain ⟨a4, ha4⟩ : ∃ x, acc ++ [0] = x := ⟨_, rfl⟩
          rw [ha4] at hb4 HF4
          have hl4 : a4.length ≤ q + 1 + 1 := by rw [← ha4]; simp; omega
          have HB4 := Lib.hid hb4
          have H4 := Lib.hid (hk4.kr (blk_alloc H2.out _))
          have HG4 := Lib.hid (hk4.only (only_alloc HG2.out _) (Nat.le_refl _))
          clear ha4 hb4 hk4 ck cf
          obtain ⟨ad4, c4, rfl⟩ := HB4.out.shape
          go_wp2_with fail
          exact ⟨⟨m, q + 1 + 1, a4, 0, by omega, hq2', by omega, hl4, Or.inl ⟨rfl, HF4.out⟩, H4, HB4, HG4⟩, by rw [posOf_kr H4.out, HP.out]; omega⟩
        · rw [if_pos h4] at hF
          subst hF
          have d2 : ((b3.toNat : Int) != 255) = true := by
            rw [bne_iff_ne]; intro e; exact h4 (UInt8.toNat_inj.1 (by show b3.toNat = 255; omega))
          have HBf3 := Lib.hid (HBf2.out.far (p := ⟨rb, 3, none⟩) H2.out (by decide) (.int .i64 4))
          have H3 := Lib.hid (kr_set3 H2.out 4)
          have HG3 := Lib.hid (only_setCell HG2.out (p := ⟨rb, 3, none⟩) (.inl rfl) (.int .i64 4))
          clear h3 h4
          go_wp2_with (at_builtin; refine wpList_append_buf _ rfl _ _ rfl w.heap.size _ _ rfl (HBf3.out.alloc _) ⟨w2.heap.size, 0, none⟩ 1 1 [0] rfl rfl (one_newg _ _ (by simp [World.setCell]) _ _ rfl) HL2.out (by simp [World.setCell]; omega) ?_)
          intro v4 w4 hb4 hk4
          obtain ⟨a4, ha4⟩ : ∃ x, acc ++ [0] = x := ⟨_, rfl⟩
          rw [ha4] at hb4
          have hl4 : a4.length ≤ q + 1 + 1 := by rw [← ha4]; simp; omega
          have HB4 := Lib.hid hb4
          have H4 := Lib.hid (hk4.kr (blk_alloc H3.out _))
          have HG4 := Lib.hid (hk4.only (only_alloc HG3.out _) (Nat.le_refl _))
          clear ha4 hb4 hk4 ck cf
          obtain ⟨ad4, c4, rfl⟩ := HB4.out.shape
          go_wp2_with fail
          exact ⟨⟨m, q + 1 + 1, a4, 4, by omega, hq2', by omega, hl4, Or.inr ⟨by omega, rfl⟩, H4, HB4, HG4⟩, by rw [posOf_kr H4.out, HP.out]; omega⟩
end Go.Proofs.YtipphlhaaienpaaDoor
