/- CodecOnly: for every input the law returns true: only encodings of valid values are accepted (the card, tied to the program's text). -/
import Derived.Test.YtdoofmohoamkbaaDoorL1
import Derived.Test.YtdoofmohoamkbaaDoorRdLe
import Derived.Test.YtdoofmohoamkbaaDoorRdVal3
import Derived.Test.YtdoofmohoamkbaaDoorSameT
import Derived.Test.YtdoofmohoamkbaaDoorR1e
import Derived.Test.YtdoofmohoamkbaaDoorD0
import Derived.Test.YtdoofmohoamkbaaDoorTab
set_option linter.unusedSimpArgs false
set_option linter.unusedVariables false
namespace Go.Proofs.YtdoofmohoamkbaaDoor
theorem rdN_canon : ∀ (l : List UInt8) (k acc u k' : Nat), k ≤ 9 → rdN k acc l = .ok (u, k') → ∃ v, u = acc + v * 128 ^ k ∧ k < k' ∧ l.take (k' - k) = numL v ∧ (0 < k → 0 < v) := by
  intro l
  induction l with
  | nil => intro k acc u k' _ h; simp [rdN] at h
  | cons b r ih =>
    intro k acc u k' hk h
    simp only [rdN] at h
    split at h
    · cases h
    rename_i hb
    have hb2 := b.toNat_lt
    split at h
    · rename_i h128
      injection h with h; injection h with h1 h2
      refine ⟨b.toNat, by rw [← h1, Nat.mod_eq_of_lt h128], by omega, ?_, fun h0 => ?_⟩
      · rw [← h2, show k + 1 - k = 1 by omega, numL_lo h128]
        simp
      · rcases Nat.eq_zero_or_pos b.toNat with e | e
        · exact absurd (.inr ⟨h0, e⟩) hb
        · exact e
    · rename_i h128
      have hk9 : k < 9 := by
        rcases Nat.lt_or_ge k 9 with h' | h'
        · exact h'
        · exact absurd (.inl ⟨by omega, by omega⟩) hb
      obtain ⟨v, e1, e2, e3, e4⟩ := ih (k + 1) _ u k' (by omega) h
      have hv := e4 (by omega)
      refine ⟨b.toNat % 128 + 128 * v, ?_, by omega, ?_, fun _ => by omega⟩
      · rw [e1, Nat.pow_succ, Nat.add_mul, Nat.mul_comm (128 ^ k) 128, ← Nat.mul_assoc, Nat.mul_comm v 128, Nat.add_assoc]
      · rw [numL_hi (by omega), show (b.toNat % 128 + 128 * v) % 128 + 128 = b.toNat by omega, show (b.toNat % 128 + 128 * v) / 128 = v by omega, show k' - k = (k' - (k + 1)) + 1 by omega, List.take_succ_cons, e3]
        simp
theorem numR_canon {s : ByteArray} {p : Nat} {n : Int} {q : Nat} (h : numR s p = .ok (n, q)) : p < q ∧ (rest s p).take (q - p) = numL (zz n) := by
  unfold numR at h
  cases hr : rdN 0 0 (rest s p) with
  | error e => rw [hr] at h; cases h
  | ok uk =>
    obtain ⟨u, k⟩ := uk
    rw [hr] at h
    injection h with h; injection h with h1 h2
    obtain ⟨v, e1, e2, e3, _⟩ := rdN_canon _ _ _ _ _ (by omega) hr
    have ev : u = v := by simpa using e1
    subst ev
    refine ⟨by omega, ?_⟩
    rw [← h1, zz_unzz, ← h2, show p + k - p = k - 0 by omega]
    exact e3
/-- the bytes from p to q are l -/
def Seg (s : ByteArray) (p q : Nat) (l : List UInt8) : Prop := p ≤ q ∧ q ≤ s.size ∧ (rest s p).take (q - p) = l
theorem Seg.nil {s : ByteArray} {p : Nat} (h : p ≤ s.size) : Seg s p p [] := ⟨Nat.le_refl _, h, by simp⟩
theorem Seg.app {s : ByteArray} {p q r : Nat} {a b : List UInt8} (h : Seg s p q a) (k : Seg s q r b) : Seg s p r (a ++ b) := by
  obtain ⟨h1, h2, h3⟩ := h
  obtain ⟨k1, k2, k3⟩ := k
  refine ⟨by omega, k2, ?_⟩
  rw [show r - p = (q - p) + (r - q) by omega, List.take_add, h3, rest_drop, show p + (q - p) = q by omega, k3]
theorem Seg.num {s : ByteArray} {p : Nat} {n : Int} {q : Nat} (hp : p ≤ s.size) (h : numR s p = .ok (n, q)) : Seg s p q (numL (zz n)) :=
  ⟨by have := (numR_le hp h); omega, (numR_le hp h).2, (numR_canon h).2⟩
theorem countR_num {s : ByteArray} {p : Nat} {n : Int} {q : Nat} (h : countR s p = .ok (n, q)) : numR s p = .ok (n, q) ∧ 0 ≤ n := by
  unfold countR countF at h
  cases hn : numR s p with
  | error e => rw [hn] at h; cases h
  | ok nq =>
    obtain ⟨m, r⟩ := nq
    rw [hn] at h
    simp only at h
    split at h
    · rename_i h0
      injection h with h; injection h with h1 h2
      subst h1 h2
      exact ⟨rfl, h0⟩
    · cases h
theorem Seg.take {s : ByteArray} {p n : Nat} {t : ByteArray} {q : Nat} (hp : p ≤ s.size) (h : takeS s p n = .ok (t, q)) : Seg s p q t.data.toList ∧ t.size = n := by
  have h1 := takeS_le hp h
  unfold takeS at h
  split at h
  · injection h with h; injection h with h2 h3
    refine ⟨⟨h1.1, h1.2.1, ?_⟩, h1.2.2.1⟩
    rw [← h2, ByteArray.data_extract, h1.2.2.2, show p + n - p = n by omega]
    unfold rest
    simp
  · cases h
theorem Seg.text {s : ByteArray} {p : Nat} {t : ByteArray} {q : Nat} (hp : p ≤ s.size) (h : textS s p = .ok (t, q)) : Seg s p q (numL (zz t.size) ++ t.data.toList) ∧ t.size ≤ 4096 := by
  unfold textS textF at h
  cases hn : countR s p with
  | error e => rw [hn] at h; cases h
  | ok nq =>
    obtain ⟨m, r⟩ := nq
    rw [hn] at h
    simp only at h
    obtain ⟨h1, h0⟩ := countR_num hn
    have h2 := numR_le hp h1
    split at h
    · obtain ⟨h3, h4⟩ := Seg.take h2.2 h
      have e : (t.size : Int) = m := by omega
      rw [e]
      exact ⟨(Seg.num hp h1).app h3, by omega⟩
    · cases h
theorem Seg.byte {s : ByteArray} {p : Nat} (h : p < s.size) : Seg s p (p + 1) [UInt8.ofNat (byteN s p)] := by
  refine ⟨by omega, by omega, ?_⟩
  rw [show p + 1 - p = 1 by omega, rest_cons s p h]
  unfold byteN
  rw [List.getD_eq_getElem?_getD, byte_at s p h]
  simp
/-- what a reader reads -/
def Reads (s : ByteArray) (d : Nat) (f : Nat → Nat → Except Int (Tr × Nat × Nat)) : Prop := ∀ p bg t q bg', p ≤ s.size → bg ≤ 1024 → f p bg = .ok (t, q, bg') → Seg s p q (enc t) ∧ snd t = true ∧ bg' = bg + t.cnt ∧ t.dep ≤ d
theorem rdL_enc {s : ByteArray} {d : Nat} {f : Nat → Nat → Except Int (Tr × Nat × Nat)} (hg : Goes s f) (hf : Reads s d f) : ∀ (n p bg : Nat) (acc l : List Tr) (q bg' : Nat), p ≤ s.size → bg ≤ 1024 → rdL f n p bg acc = .ok (l, q, bg') →
    ∃ nw, l = acc ++ nw ∧ nw.length = n ∧ Seg s p q (encL nw) ∧ sndL nw = true ∧ bg' = bg + Tr.cntL nw ∧ Tr.depL nw ≤ d
  | 0, p, bg, acc, l, q, bg', hp, hb, h => by
    simp only [rdL] at h; injection h with h; injection h with h1 h2; injection h2 with h2 h3
    subst h1 h2 h3
    exact ⟨[], by simp, rfl, by simpa [encL] using Seg.nil hp, rfl, by simp [Tr.cntL], by simp [Tr.depL]⟩
  | n + 1, p, bg, acc, l, q, bg', hp, hb, h => by
    simp only [rdL] at h
    cases he : f p bg with
    | error e => rw [he] at h; cases h
    | ok x =>
      obtain ⟨t, q1, b1⟩ := x
      rw [he] at h
      have h1 := hg _ _ _ _ _ hp hb he
      obtain ⟨s1, s2, s3, s4⟩ := hf _ _ _ _ _ hp hb he
      obtain ⟨nw, e1, e2, e3, e4, e5, e6⟩ := rdL_enc hg hf n q1 b1 _ _ _ _ h1.1 h1.2.2 h
      refine ⟨t :: nw, by rw [e1]; simp, by simp [e2], ?_, by simp [sndL, s2, e4], by simp only [Tr.cntL]; omega, by simp only [Tr.depL]; omega⟩
      simpa only [encL] using s1.app e3
theorem rdF_enc {s : ByteArray} {d : Nat} {f : Nat → Nat → Except Int (Tr × Nat × Nat)} (hg : Goes s f) (hf : Reads s d f) : ∀ (n p bg : Nat) (ns : List ByteArray) (ds : List Tr) (l : List ByteArray × List Tr) (q bg' : Nat), p ≤ s.size → bg ≤ 1024 → rdF s f n p bg ns ds = .ok (l, q, bg') →
    ∃ nn nd, l = (ns ++ nn, ds ++ nd) ∧ nn.length = n ∧ nd.length = n ∧ Seg s p q (encF nn nd) ∧ sndF ns.reverse nn nd = true ∧ bg' = bg + Tr.cntL nd ∧ Tr.depL nd ≤ d
  | 0, p, bg, ns, ds, l, q, bg', hp, hb, h => by
    simp only [rdF] at h; injection h with h; injection h with h1 h2; injection h2 with h2 h3
    subst h1 h2 h3
    exact ⟨[], [], by simp, rfl, rfl, by simpa [encF] using Seg.nil hp, by simp [sndF], by simp [Tr.cntL], by simp [Tr.depL]⟩
  | n + 1, p, bg, ns, ds, l, q, bg', hp, hb, h => by
    simp only [rdF] at h
    cases hn : numR s p with
    | error e => rw [hn] at h; cases h
    | ok mq =>
      obtain ⟨m, q0⟩ := mq
      rw [hn] at h
      simp only at h
      have h0 := numR_le hp hn
      split at h
      · rename_i hm
        cases ht : takeS s q0 m.toNat with
        | error e => rw [ht] at h; cases h
        | ok tq =>
          obtain ⟨nm, q2⟩ := tq
          rw [ht] at h
          simp only at h
          obtain ⟨g1, g2⟩ := Seg.take h0.2 ht
          have g3 := takeS_le h0.2 ht
          split at h
          · rename_i hnm
            simp only [Bool.and_eq_true, Bool.not_eq_true'] at hnm
            cases he : f q2 bg with
            | error e => rw [he] at h; cases h
            | ok x =>
              obtain ⟨t, q1, b1⟩ := x
              rw [he] at h
              have h1 := hg _ _ _ _ _ g3.2.1 hb he
              obtain ⟨s1, s2, s3, s4⟩ := hf _ _ _ _ _ g3.2.1 hb he
              obtain ⟨nn, nd, e1, e2, e3, e4, e5, e6, e7⟩ := rdF_enc hg hf n q1 b1 _ _ _ _ _ h1.1 h1.2.2 h
              refine ⟨nm :: nn, t :: nd, by rw [e1]; simp, by simp [e2], by simp [e3], ?_, ?_, by simp only [Tr.cntL]; omega, by simp only [Tr.depL]; omega⟩
              · have e : (nm.size : Int) = m := by omega
                simp only [encF]
                rw [e]
                exact (((Seg.num hp hn).app g1).app s1).app e4
              · simp only [sndF, hnm.1, s2, Bool.true_and, Bool.and_true]
                have : hasN ns.reverse nm = false := hnm.2
                rw [this]
                simpa using e5
          · cases h
      · cases h
theorem leaf_ok (s : ByteArray) (k : Nat) (i : Int) (x : ByteArray) (hh : headOk k i x 0 0 = true) (hl : leafOk k i x = true) (h6 : ¬ k = 6) (h5 : ¬ k = 5) (d : Nat) : snd (leafT k i x) = true ∧ (leafT k i x).cnt = 1 ∧ (leafT k i x).dep ≤ d + 1 := by
  unfold leafT
  refine ⟨by simp [snd, hh, hl, sndL, sndF], ?_, ?_⟩
  · simp only [Tr.cnt]; rw [if_neg (by omega), if_neg (by omega)]
  · simp only [Tr.dep]; rw [if_neg (by omega), if_neg (by omega)]; omega
theorem rdT_enc (s : ByteArray) : ∀ d, Reads s d (rdT s d)
  | 0 => by intro p bg t q bg' _ _ h; simp [rdT] at h
  | d + 1 => by
    intro p bg t q bg' hp hb h
    have ih := rdT_enc s d
    have ig := rdT_goes s d
    rw [rdT_eq] at h
    by_cases c0 : 1024 ≤ bg
    · rw [if_pos c0] at h; cases h
    rw [if_neg c0] at h
    by_cases c1 : s.size ≤ p
    · rw [if_pos c1] at h; cases h
    rw [if_neg c1] at h
    have hB := Seg.byte (s := s) (p := p) (by omega)
    by_cases c2 : byteN s p = 1 ∨ byteN s p = 2 ∨ byteN s p = 11
    · rw [if_pos c2] at h
      injection h with h; injection h with h1 h2; injection h2 with h2 h3
      subst h1 h2 h3
      rcases c2 with c | c | c
      · rw [c] at hB ⊢; obtain ⟨a1, a2, a3⟩ := leaf_ok s 1 0 ⟨#[]⟩ (by decide) (by decide) (by omega) (by omega) d; exact ⟨by simpa [leafT, enc] using hB, a1, by rw [a2], a3⟩
      · rw [c] at hB ⊢; obtain ⟨a1, a2, a3⟩ := leaf_ok s 2 0 ⟨#[]⟩ (by decide) (by decide) (by omega) (by omega) d; exact ⟨by simpa [leafT, enc] using hB, a1, by rw [a2], a3⟩
      · rw [c] at hB ⊢; obtain ⟨a1, a2, a3⟩ := leaf_ok s 11 0 ⟨#[]⟩ (by decide) (by decide) (by omega) (by omega) d; exact ⟨by simpa [leafT, enc] using hB, a1, by rw [a2], a3⟩
    rw [if_neg c2] at h
    by_cases c3 : byteN s p = 3
    · rw [if_pos c3] at h
      rw [c3] at hB
      cases hn : numR s (p + 1) with
      | error e => rw [hn] at h; cases h
      | ok x =>
        obtain ⟨n, q0⟩ := x
        rw [hn] at h; simp only [leafI] at h
        injection h with h; injection h with h1 h2; injection h2 with h2 h3
        subst h1 h2 h3
        obtain ⟨a1, a2, a3⟩ := leaf_ok s 3 n ⟨#[]⟩ (by simp [headOk, bytes_e]) (by simp [leafOk]) (by omega) (by omega) d
        exact ⟨by simpa [leafT, enc] using hB.app (Seg.num (by omega) hn), a1, by rw [a2], a3⟩
    rw [if_neg c3] at h
    by_cases c4 : byteN s p = 10
    · rw [if_pos c4] at h
      rw [c4] at hB
      cases hn : countR s (p + 1) with
      | error e => rw [hn] at h; cases h
      | ok x =>
        obtain ⟨n, q0⟩ := x
        rw [hn] at h; simp only [leafI] at h
        injection h with h; injection h with h1 h2; injection h2 with h2 h3
        subst h1 h2 h3
        obtain ⟨g1, g2⟩ := countR_num hn
        obtain ⟨a1, a2, a3⟩ := leaf_ok s 10 n ⟨#[]⟩ (by simp [headOk, bytes_e]) (by simp [leafOk, g2]) (by omega) (by omega) d
        exact ⟨by simpa [leafT, enc] using hB.app (Seg.num (by omega) g1), a1, by rw [a2], a3⟩
    rw [if_neg c4] at h
    by_cases c5 : byteN s p = 9
    · rw [if_pos c5] at h
      rw [c5] at hB
      by_cases b1 : s.size ≤ p + 1
      · rw [if_pos b1] at h; cases h
      rw [if_neg b1] at h
      by_cases b2 : 1 < byteN s (p + 1)
      · rw [if_pos b2] at h; cases h
      rw [if_neg b2] at h
      injection h with h; injection h with h1 h2; injection h2 with h2 h3
      subst h1 h2 h3
      obtain ⟨a1, a2, a3⟩ := leaf_ok s 9 (byteN s (p + 1)) ⟨#[]⟩ (by simp [headOk, bytes_e]) (by simp [leafOk]; omega) (by omega) (by omega) d
      exact ⟨by simpa [leafT, enc] using hB.app (Seg.byte (s := s) (p := p + 1) (by omega)), a1, by rw [a2], a3⟩
    rw [if_neg c5] at h
    by_cases c6 : byteN s p = 4
    · rw [if_pos c6] at h
      rw [c6] at hB
      cases hn : textS s (p + 1) with
      | error e => rw [hn] at h; cases h
      | ok x =>
        obtain ⟨n, q0⟩ := x
        rw [hn] at h; simp only [leafU] at h
        obtain ⟨g1, g2⟩ := Seg.text (by omega) hn
        split at h
        · rename_i hu
          injection h with h; injection h with h1 h2; injection h2 with h2 h3
          subst h1 h2 h3
          obtain ⟨a1, a2, a3⟩ := leaf_ok s 4 0 n (by simp [headOk]) (by simp [leafOk, g2, hu]) (by omega) (by omega) d
          exact ⟨by simpa [leafT, enc] using hB.app g1, a1, by rw [a2], a3⟩
        · cases h
    rw [if_neg c6] at h
    by_cases c7 : byteN s p = 7
    · rw [if_pos c7] at h
      rw [c7] at hB
      cases hn : textS s (p + 1) with
      | error e => rw [hn] at h; cases h
      | ok x =>
        obtain ⟨n, q0⟩ := x
        rw [hn] at h; simp only [leafS] at h
        obtain ⟨g1, g2⟩ := Seg.text (by omega) hn
        injection h with h; injection h with h1 h2; injection h2 with h2 h3
        subst h1 h2 h3
        obtain ⟨a1, a2, a3⟩ := leaf_ok s 7 0 n (by simp [headOk]) (by simp [leafOk, g2]) (by omega) (by omega) d
        exact ⟨by simpa [leafT, enc] using hB.app g1, a1, by rw [a2], a3⟩
    rw [if_neg c7] at h
    by_cases c8 : byteN s p = 8
    · rw [if_pos c8] at h
      rw [c8] at hB
      cases hn : takeS s (p + 1) 12 with
      | error e => rw [hn] at h; cases h
      | ok x =>
        obtain ⟨n, q0⟩ := x
        rw [hn] at h; simp only [leafS] at h
        obtain ⟨g1, g2⟩ := Seg.take (by omega) hn
        injection h with h; injection h with h1 h2; injection h2 with h2 h3
        subst h1 h2 h3
        obtain ⟨a1, a2, a3⟩ := leaf_ok s 8 0 n (by simp [headOk]) (by simp [leafOk, g2]) (by omega) (by omega) d
        exact ⟨by simpa [leafT, enc] using hB.app g1, a1, by rw [a2], a3⟩
    rw [if_neg c8] at h
    by_cases c9 : byteN s p = 6
    · rw [if_pos c9] at h
      rw [c9] at hB
      cases hn : countR s (p + 1) with
      | error e => rw [hn] at h; cases h
      | ok x =>
        obtain ⟨n, q0⟩ := x
        rw [hn, listR_ok] at h
        obtain ⟨g1, g2⟩ := countR_num hn
        have g3 := numR_le (by omega) g1
        cases hl : rdL (rdT s d) n.toNat q0 (bg + 1) [] with
        | error e => rw [hl] at h; cases h
        | ok y =>
          obtain ⟨l, q2, b2⟩ := y
          rw [hl] at h; simp only [listE] at h
          obtain ⟨nw, e1, e2, e3, e4, e5, e6⟩ := rdL_enc ig ih _ _ _ _ _ _ _ g3.2 (by omega) hl
          injection h with h; injection h with h1 h2; injection h2 with h2 h3
          subst h1 h2 h3
          rw [List.nil_append] at e1
          subst e1
          have e : (l.length : Int) = n := by omega
          refine ⟨?_, by simp [snd, headOk, leafOk, bytes_e, e4, sndF], by simp only [Tr.cnt]; rw [if_pos trivial]; omega, by simp only [Tr.dep]; rw [if_pos trivial]; omega⟩
          have := (hB.app (Seg.num (by omega) g1)).app e3
          simpa [enc, e] using this
    rw [if_neg c9] at h
    by_cases c10 : byteN s p = 5
    · rw [if_pos c10] at h
      rw [c10] at hB
      cases hn : countR s (p + 1) with
      | error e => rw [hn] at h; cases h
      | ok x =>
        obtain ⟨n, q0⟩ := x
        rw [hn] at h; simp only [fldR] at h
        obtain ⟨g1, g2⟩ := countR_num hn
        have g3 := numR_le (by omega) g1
        cases hl : rdF s (rdT s d) n.toNat q0 (bg + 1) [] [] with
        | error e => rw [hl] at h; cases h
        | ok y =>
          obtain ⟨⟨ns, ds⟩, q2, b2⟩ := y
          rw [hl] at h; simp only [docE] at h
          obtain ⟨nn, nd, e1, e2, e3, e4, e5, e6, e7⟩ := rdF_enc ig ih _ _ _ _ _ _ _ _ g3.2 (by omega) hl
          injection h with h; injection h with h1 h2; injection h2 with h2 h3
          subst h1 h2 h3
          simp only [List.nil_append, Prod.mk.injEq] at e1
          obtain ⟨rfl, rfl⟩ := e1
          have e : (ds.length : Int) = n := by omega
          refine ⟨?_, by simpa [snd, headOk, leafOk, bytes_e, sndL] using e5, by simp only [Tr.cnt]; rw [if_neg (by decide), if_pos trivial]; omega, by simp only [Tr.dep]; rw [if_neg (by decide), if_pos trivial]; omega⟩
          have := (hB.app (Seg.num (by omega) g1)).app e4
          simpa [enc, e] using this
    rw [if_neg c10] at h
    cases h
end Go.Proofs.YtdoofmohoamkbaaDoor
set_option linter.unusedSimpArgs false
set_option linter.unusedVariables false
namespace Go.Proofs.YtdoofmohoamkbaaDoor
/-- an error of the decoder -/
def Bad (c : Int) : Prop := c = 2 ∨ c = 4 ∨ c = 5
theorem countR_bad {s : ByteArray} {p : Nat} {c : Int} (h : countR s p = .error c) : Bad c := by
  unfold countR countF at h
  cases hn : numR s p with
  | error e => rw [hn] at h; injection h with h; subst h; have := numR_err hn; unfold Bad; omega
  | ok x =>
    obtain ⟨n, q⟩ := x
    rw [hn] at h; simp only at h
    split at h
    · cases h
    · injection h with h; unfold Bad; omega
theorem numR_bad {s : ByteArray} {p : Nat} {c : Int} (h : numR s p = .error c) : Bad c := by have := numR_err h; unfold Bad; omega
theorem takeS_bad {s : ByteArray} {p n : Nat} {c : Int} (h : takeS s p n = .error c) : Bad c := by
  unfold takeS at h
  split at h
  · cases h
  · injection h with h; unfold Bad; omega
theorem textS_bad {s : ByteArray} {p : Nat} {c : Int} (h : textS s p = .error c) : Bad c := by
  unfold textS textF at h
  cases hn : countR s p with
  | error e => rw [hn] at h; injection h with h; subst h; exact countR_bad hn
  | ok x =>
    obtain ⟨n, q⟩ := x
    rw [hn] at h; simp only at h
    split at h
    · exact takeS_bad h
    · injection h with h; unfold Bad; omega
def Errs (f : Nat → Nat → Except Int (Tr × Nat × Nat)) : Prop := ∀ p bg c, f p bg = .error c → Bad c
theorem rdL_bad {f : Nat → Nat → Except Int (Tr × Nat × Nat)} (hf : Errs f) : ∀ (n p bg : Nat) (acc : List Tr) (c : Int), rdL f n p bg acc = .error c → Bad c
  | 0, p, bg, acc, c, h => by simp [rdL] at h
  | n + 1, p, bg, acc, c, h => by
    simp only [rdL] at h
    cases he : f p bg with
    | error e => rw [he] at h; injection h with h; subst h; exact hf _ _ _ he
    | ok x => obtain ⟨t, q, b⟩ := x; rw [he] at h; exact rdL_bad hf n q b _ c h
theorem rdF_bad {s : ByteArray} {f : Nat → Nat → Except Int (Tr × Nat × Nat)} (hf : Errs f) : ∀ (n p bg : Nat) (ns : List ByteArray) (ds : List Tr) (c : Int), rdF s f n p bg ns ds = .error c → Bad c
  | 0, p, bg, ns, ds, c, h => by simp [rdF] at h
  | n + 1, p, bg, ns, ds, c, h => by
    simp only [rdF] at h
    cases hn : numR s p with
    | error e => rw [hn] at h; injection h with h; subst h; exact numR_bad hn
    | ok x =>
      obtain ⟨m, q⟩ := x
      rw [hn] at h; simp only at h
      split at h
      · cases ht : takeS s q m.toNat with
        | error e => rw [ht] at h; injection h with h; subst h; exact takeS_bad ht
        | ok y =>
          obtain ⟨nm, q2⟩ := y
          rw [ht] at h; simp only at h
          split at h
          · cases he : f q2 bg with
            | error e => rw [he] at h; injection h with h; subst h; exact hf _ _ _ he
            | ok z => obtain ⟨t, q3, b3⟩ := z; rw [he] at h; exact rdF_bad hf n q3 b3 _ _ c h
          · injection h with h; unfold Bad; omega
      · injection h with h; unfold Bad; omega
theorem rdT_bad (s : ByteArray) : ∀ d, Errs (rdT s d)
  | 0 => by intro p bg c h; simp [rdT] at h; unfold Bad; omega
  | d + 1 => by
    intro p bg c h
    have ih := rdT_bad s d
    rw [rdT_eq] at h
    have lit : ∀ e : Int, Bad e → (Except.error e : Except Int (Tr × Nat × Nat)) = .error c → Bad c := fun e he h => by injection h with h; rw [← h]; exact he
    have b2 : Bad 2 := .inl rfl
    have b4 : Bad 4 := .inr (.inl rfl)
    have b5 : Bad 5 := .inr (.inr rfl)
    by_cases c0 : 1024 ≤ bg
    · rw [if_pos c0] at h; exact lit 2 b2 h
    rw [if_neg c0] at h
    by_cases c1 : s.size ≤ p
    · rw [if_pos c1] at h; exact lit 5 b5 h
    rw [if_neg c1] at h
    by_cases c2 : byteN s p = 1 ∨ byteN s p = 2 ∨ byteN s p = 11
    · rw [if_pos c2] at h; cases h
    rw [if_neg c2] at h
    by_cases c3 : byteN s p = 3
    · rw [if_pos c3] at h
      cases hn : numR s (p + 1) with
      | error e => rw [hn] at h; exact lit e (numR_bad hn) h
      | ok x => rw [hn] at h; cases h
    rw [if_neg c3] at h
    by_cases c4 : byteN s p = 10
    · rw [if_pos c4] at h
      cases hn : countR s (p + 1) with
      | error e => rw [hn] at h; exact lit e (countR_bad hn) h
      | ok x => rw [hn] at h; cases h
    rw [if_neg c4] at h
    by_cases c5 : byteN s p = 9
    · rw [if_pos c5] at h
      by_cases b1 : s.size ≤ p + 1
      · rw [if_pos b1] at h; exact lit 5 b5 h
      rw [if_neg b1] at h
      by_cases b2 : 1 < byteN s (p + 1)
      · rw [if_pos b2] at h; exact lit 4 b4 h
      rw [if_neg b2] at h; cases h
    rw [if_neg c5] at h
    by_cases c6 : byteN s p = 4
    · rw [if_pos c6] at h
      cases hn : textS s (p + 1) with
      | error e => rw [hn] at h; exact lit e (textS_bad hn) h
      | ok x =>
        obtain ⟨n, q⟩ := x
        rw [hn] at h; simp only [leafU] at h
        split at h
        · cases h
        · exact lit 4 b4 h
    rw [if_neg c6] at h
    by_cases c7 : byteN s p = 7
    · rw [if_pos c7] at h
      cases hn : textS s (p + 1) with
      | error e => rw [hn] at h; exact lit e (textS_bad hn) h
      | ok x => rw [hn] at h; cases h
    rw [if_neg c7] at h
    by_cases c8 : byteN s p = 8
    · rw [if_pos c8] at h
      cases hn : takeS s (p + 1) 12 with
      | error e => rw [hn] at h; exact lit e (takeS_bad hn) h
      | ok x => rw [hn] at h; cases h
    rw [if_neg c8] at h
    by_cases c9 : byteN s p = 6
    · rw [if_pos c9] at h
      cases hn : countR s (p + 1) with
      | error e => rw [hn] at h; exact lit e (countR_bad hn) h
      | ok x =>
        obtain ⟨n, q⟩ := x
        rw [hn, listR_ok] at h
        cases hl : rdL (rdT s d) n.toNat q (bg + 1) [] with
        | error e => rw [hl] at h; exact lit e (rdL_bad ih _ _ _ _ _ hl) h
        | ok y => rw [hl] at h; cases h
    rw [if_neg c9] at h
    by_cases c10 : byteN s p = 5
    · rw [if_pos c10] at h
      cases hn : countR s (p + 1) with
      | error e => rw [hn] at h; exact lit e (countR_bad hn) h
      | ok x =>
        obtain ⟨n, q⟩ := x
        rw [hn] at h; simp only [fldR] at h
        cases hl : rdF s (rdT s d) n.toNat q (bg + 1) [] [] with
        | error e => rw [hl] at h; exact lit e (rdF_bad ih _ _ _ _ _ _ hl) h
        | ok y => rw [hl] at h; cases h
    rw [if_neg c10] at h
    exact lit 4 b4 h
end Go.Proofs.YtdoofmohoamkbaaDoor
set_option linter.unusedSimpArgs false
set_option linter.unusedVariables false
namespace Go.Proofs.YtdoofmohoamkbaaDoor
open Go.RowKit
theorem rest_all (s : ByteArray) : rest s 0 = s.data.toList := by simp [rest]
/-- What is decoded is a valid value whose encoding is the input. -/
theorem decR_only (s : ByteArray) (h : (decR s).2 = 0) : encR (decR s).1 = (s, 0) ∧ validB (decR s).1 = true := by
  unfold decR at h ⊢
  by_cases c1 : (readR s 0).2.2 ≠ 0
  · rw [if_pos c1] at h; exact absurd h c1
  rw [if_neg c1] at h ⊢
  by_cases c2 : (readR s 0).2.1 < s.size
  · rw [if_pos c2] at h; simp at h
  rw [if_neg c2] at h ⊢
  have hr : readR s 0 = readF (rdT s 16 0 0) := by unfold readR; rw [if_neg (by omega)]; rfl
  rw [hr] at c1 c2 ⊢
  cases hx : rdT s 16 0 0 with
  | error c =>
    rw [hx] at c1
    simp only [readF, Decidable.not_not] at c1
    have := rdT_bad s 16 0 0 c hx
    unfold Bad at this
    omega
  | ok y =>
    obtain ⟨t, q, b⟩ := y
    rw [hx] at c2
    simp only [readF] at c2 ⊢
    obtain ⟨s1, s2, s3, s4⟩ := rdT_enc s 16 0 0 t q b (by omega) (by omega) hx
    have g := rdT_goes s 16 0 0 t q b (by omega) (by omega) hx
    obtain ⟨_, e2, e3⟩ := s1
    have hv : validB t = true := by
      unfold validB
      rw [decide_eq_true (by omega), decide_eq_true s4, s2]; rfl
    refine ⟨?_, hv⟩
    unfold encR
    rw [hv, if_pos rfl]
    congr 1
    rw [← e3, List.take_of_length_le (by rw [rest_len]; omega), rest_all]
set_option maxRecDepth 20000 in
set_option maxHeartbeats 1000000 in
theorem only_walk (s : ByteArray) (w : World) (hs : s.size ≤ maxLen) (hT : Tabs w) : Calls Tryd.prog 7 #[.string s] w fun e w' => e = .returned (.bool true) ∧ Ext w w' := by
  have HT := Lib.hid hT
  clear hT
  unfold maxLen at hs
  by_cases h2 : 20000 < s.size
  · have d : decide (20000 < (s.size : Int)) = true := by simp; omega
    go_enter Tryd.func7, Tryd.ntmps7
    go_wp2_with fail
    refine (awake_ok _ HT.out).mono ?_
    rintro e w2 ⟨rfl, h2⟩
    go_wp2_with fail
    go_ret
    exact ⟨rfl, h2⟩
  have d : decide (20000 < (s.size : Int)) = false := by simp; omega
  obtain ⟨r, hr⟩ : ∃ r, decR s = r := ⟨_, rfl⟩
  have hO := decR_only s
  have hZ : (decR s).2 ≠ 0 → (decR s).1 = zeroT := by
    unfold decR
    intro h
    by_cases c1 : (readR s 0).2.2 ≠ 0
    · rw [if_pos c1]
    · rw [if_neg c1] at h ⊢
      by_cases c2 : (readR s 0).2.1 < s.size
      · rw [if_pos c2]
      · rw [if_neg c2] at h; exact absurd rfl h
  rw [hr] at hO hZ
  have HR := Lib.hid hr
  obtain ⟨t, c⟩ := r
  have HO := Lib.hid hO
  have HZ := Lib.hid hZ
  clear hr hO hZ
  go_enter Tryd.func7, Tryd.ntmps7
  go_wp2_with fail
  refine (Decode_ok s _ (by omega) HT.out).mono ?_
  rw [HR.out]
  rintro e w1 ⟨v, rfl, hv, h1⟩
  obtain ⟨k', i', s', la', ln', lc', da', dn', dc', rfl⟩ := hv.shape
  have HV := Lib.hid hv
  have HE1 := Lib.hid h1
  clear hv h1
  by_cases hc : c = 0
  case neg =>
    have d1 : (c != 0) = true := by simpa using hc
    have ht : t = zeroT := HZ.out hc
    subst ht
    clear hc
    go_wp2_with fail
    refine (same_ok zeroT _ zeroV _ (VRep.ext ((Ext.refl w1).alloc _) _ _ HV.out) (zeroV_rep _)).mono ?_
    rintro e w2 ⟨rfl, h2⟩
    have HE2 := Lib.hid (HE1.out.trans h2.of_alloc)
    clear h2
    go_wp2_with fail
    refine (awake_ok _ (HT.out.ext HE2.out)).mono ?_
    rintro e w3 ⟨rfl, h3⟩
    go_wp2_with fail
    go_ret
    exact ⟨rfl, HE2.out.trans h3⟩
  subst hc
  have ho := HO.out rfl
  have HEn := Lib.hid ho.1
  have HVa := Lib.hid ho.2
  clear ho
  go_wp2_with fail
  refine (Encode_ok t _ _ (VRep.ext ((Ext.refl w1).alloc _) _ _ HV.out) (HT.out.ext (HE1.out.alloc _))).mono ?_
  rintro e w2 ⟨rfl, h2⟩
  rw [HEn.out]
  have k2 := h2.ownc
  have l2 := h2.lt
  have HE2 := Lib.hid (HE1.out.trans h2.of_alloc)
  have HV2 := Lib.hid (VRep.ext h2.of_alloc _ _ HV.out)
  clear h2
  go_wp2_with fail
  refine (RValid_ok t _ _ HV2.out).mono ?_
  rintro e w3 ⟨rfl, h3⟩
  rw [HVa.out]
  have HE3 := Lib.hid (HE2.out.trans h3)
  clear h3 k2
  go_wp2_with fail
  refine (awake_ok _ (HT.out.ext HE3.out)).mono ?_
  rintro e w4 ⟨rfl, h4⟩
  go_wp2_with fail
  go_ret
  exact ⟨rfl, HE3.out.trans h4⟩
end Go.Proofs.YtdoofmohoamkbaaDoor
set_option linter.unusedSimpArgs false
set_option linter.unusedVariables false
namespace Go.Proofs.YtdoofmohoamkbaaDoor.codecOnly
open Go.ChangeShapes Go.WideShapes Go.ChangeAt Go.RowKit

/-- What the walk gives, for every argument and every world. -/
theorem contract (H : Type) (enc : TypeId × Value → H) (W : World) (base : Nat) (args : Array Value) (ds gs : List (DataW H)) (before : List MemPlace)
    (hval : ∀ (j : Nat) t v, Tryd.f7.params[j]? = some t → args[j]? = some v → Value.okWide Tryd.prog W .any base t v)
    (hW : DataW.Whole enc Tryd.prog Tryd.f7.params.toList Rows.codecOnlySpec.vars false W args.toList ds gs before) (_hL : laidMetH Tryd.prog Rows.codecOnlyRow.laid W) :
    Calls Tryd.prog 7 args W fun e W' => ∃ v, e = .returned v ∧ Rows.codecOnlySpec.post enc Tryd.prog Tryd.f7 false true false false W args v W' := by
  have hW' := hW
  obtain ⟨p, q, hA0, hV, rfl, hfz, hnd⟩ := hW
  have hA : DataW.TrodAll enc Tryd.prog W 0 (fun _ => true) true Tryd.f7.params.toList args.toList ds p := hA0
  rw [Tryd.params7] at hA hval
  obtain ⟨v0, vs0, d0, ds0, p0, q0, hargs, rfl, rfl, h0, r0⟩ := trodAll_cons hA
  obtain ⟨rfl, rfl, rfl⟩ := trodAll_nil r0
  obtain rfl : args = #[v0] := by cases args; simp_all
  obtain ⟨rfl, rfl⟩ := trodVars_none hV
  clear hA0 hargs
  suffices walk : Calls Tryd.prog 7 #[v0] W fun e W' => e = .returned (.bool true) ∧ Ext W W' by
    refine walk.mono fun e W' ⟨he, hg⟩ => ?_
    subst he
    exact ⟨_, rfl, law_post (by kernel_rfl) (by kernel_rfl) rfl rfl Tryd.underlying4 hW' rfl hg⟩
  have hT : Tabs W := tabs_of_laid _hL
  obtain ⟨s, rfl⟩ := okWide_string Tryd.underlying9 (hval 0 9 v0 rfl rfl)
  obtain ⟨fuel0, hf0⟩ := h0
  obtain ⟨s0, es0, d0', hs0⟩ := DataW.trod_string Tryd.underlying9 hf0
  simp only [Value.cells, List.cons.injEq, Value.string.injEq, and_true] at es0
  subst es0
  simp only [Prod.mk.injEq] at d0'
  obtain ⟨rfl, rfl⟩ := d0'
  exact only_walk s W hs0 hT

theorem laid_met (os : Os) : laidMet Tryd.prog Rows.codecOnlyRow.laid ((laidWorld os).forCall (fun _ _ => 0) ⟨#[], #[.string ⟨#[]⟩], []⟩).memory :=
  laidMet_of_run' 8 (by kernel_rfl) (by kernel_rfl)
theorem reads (os : Os) {H : Type} (enc : TypeId × Value → H) : ∃ places, DataW.whole enc Tryd.prog ((laidWorld os).forCall (fun _ _ => 0) ⟨#[], #[.string ⟨#[]⟩], []⟩).memory Tryd.f7.params.toList Rows.codecOnlySpec.vars false #[.string ⟨#[]⟩].toList 8 = some ([.lit (.string [])], [], places) :=
  ⟨[], by kernel_rfl⟩

set_option maxRecDepth 100000 in
theorem lifted (os : Os) (started : os.Started) (H : Type) (enc : TypeId × Value → H) (F : Stop.Interp) :
    ReturnsInHanded {} Tryd.checked os 7 .any ((OpenSpec.ofChange Rows.codecOnlySpec).preRow enc Tryd.prog Tryd.f7 Rows.codecOnlyRow.domain false Rows.codecOnlyRow.laid) (((OpenSpec.ofChange Rows.codecOnlySpec).at F).post enc Tryd.prog Tryd.f7 false true false false) := by
  obtain ⟨places, hx⟩ := reads os enc
  refine returnsInHanded_of_row (C := Tryd.checked) (s := OpenSpec.ofChange Rows.codecOnlySpec) own started (by kernel_rfl) Tryd.func7
    (witness_row_at (enc := enc) (C := Tryd.checked) false (laidWorld os) #[.string ⟨#[]⟩] rfl (by kernel_rfl) (by kernel_rfl) (by kernel_rfl)
      (OpenSpec.preRow_of_cond 8 hx (by kernel_rfl) (fun k hk => by cases hk) (by kernel_rfl) (laid_met os))) ?_
  intro W base args ds gs before hval hW _ _ _ hL _ _
  exact contract H enc W base args ds gs before hval hW hL

theorem said : Rows.CodecOnlySaid :=
  OpenClaim.holds_of_cond 7 Tryd.f7 rfl rfl rfl rfl rfl rfl rfl ⟨rfl, rfl, rfl, rfl, rfl⟩ rfl rfl rfl rfl rfl (by kernel_rfl) Tryd.func7 (by kernel_rfl)
    (of_decide_eq_true (by kernel_rfl)) (by unfold Func.isWrapper; first | (rw [if_pos (by decide +kernel)]; kernel_rfl) | (rw [if_neg (by decide +kernel)]; exact ⟨rfl, rfl⟩))
    (fun os started H enc _ F => by rw [OpenClaim.pre_eq_preRow]; exact lifted os started H enc F)

theorem plain (f : FuncId) (fn : Func) (hf : Tryd.pinned.checked.prog.funcNamed "docstore/docstorelaw02.CodecOnly" = some f) (hfn : Tryd.pinned.checked.prog.funcs[f]? = some fn) :
    true = Tryd.pinned.checked.prog.looks [] ∧ ∀ (j : Nat) t, fn.params[j]? = some t → Tryd.pinned.checked.prog.wantsStandIn t = false := by
  obtain rfl : f = 7 := Option.some.inj ((show Tryd.prog.funcNamed "docstore/docstorelaw02.CodecOnly" = some 7 by kernel_rfl).symm.trans hf) |>.symm
  obtain rfl : fn = Tryd.f7 := (Option.some.inj (Tryd.func7.symm.trans hfn)).symm
  refine ⟨by kernel_rfl, fun j t ht => ?_⟩
  have hall : (Tryd.f7.params.all fun t => !Tryd.prog.wantsStandIn t) = true := by kernel_rfl
  have h1 := Array.all_eq_true'.1 hall t (Array.mem_of_getElem? ht)
  have h2 : Tryd.prog.wantsStandIn t = false := by simpa using h1
  exact h2

/-- The card. -/
theorem card : Rows.CodecOnlyCardSaid :=
  Claim7.holds_tied_plain_at .later [] _ _ _ _ said (fun _ h => by cases h) (by kernel_rfl) (fun _ h => by cases h) codecOnly_row_tie rfl ⟨rfl, rfl⟩ (by kernel_rfl) rfl plain (by kernel_rfl)
end Go.Proofs.YtdoofmohoamkbaaDoor.codecOnly
