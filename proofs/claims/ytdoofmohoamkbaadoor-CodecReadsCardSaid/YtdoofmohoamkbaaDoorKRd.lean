/- CodecReads, CodecDecodes: the walks. -/
import Derived.Test.YtdoofmohoamkbaaDoorAw
import Derived.Test.YtdoofmohoamkbaaDoorStr
import Derived.Test.YtdoofmohoamkbaaDoorRdLe
import Derived.Test.YtdoofmohoamkbaaDoorRdVal3
import Derived.Test.YtdoofmohoamkbaaDoorRdT
import Derived.Test.YtdoofmohoamkbaaDoorRdVal
import Derived.Test.YtdoofmohoamkbaaDoorR1e
import Derived.Test.YtdoofmohoamkbaaDoorNodes2
import Derived.Test.YtdoofmohoamkbaaDoorAcc
import Derived.Test.YtdoofmohoamkbaaDoorDec
import Derived.Test.YtdoofmohoamkbaaDoorTrN
import Derived.Test.YtdoofmohoamkbaaDoorMix
set_option linter.unusedSimpArgs false
set_option linter.unusedVariables false
namespace Go.Proofs.YtdoofmohoamkbaaDoor
open Go.RowKit
set_option maxRecDepth 20000 in
set_option maxHeartbeats 1000000 in
theorem readsNums_walk (s : ByteArray) (x : Int) (w : World) (hs : s.size ≤ maxLen) (hT : Tabs w) : Calls Tryd.prog 4 #[.string s, .int .i64 x] w fun e w' => e = .returned (.bool true) ∧ Ext w w' := by
  have HT := Lib.hid hT
  clear hT
  obtain ⟨r, hr⟩ : ∃ r, rdV s x = r := ⟨_, rfl⟩
  have HR := Lib.hid hr
  clear hr
  obtain ⟨a, b, c⟩ := r
  go_enter Tryd.func4, Tryd.ntmps4
  go_wp2_with fail
  refine (ReadNum_ok s x _ hs).mono ?_
  rw [HR.out]
  rintro e w1 ⟨rfl, rfl⟩
  go_wp2_with fail
  refine (RReadNum_ok s x _ hs).mono ?_
  rw [HR.out]
  rintro e w1 ⟨rfl, rfl⟩
  go_wp2_with fail
  refine (awake_ok _ HT.out).mono ?_
  rintro e w2 ⟨rfl, h2⟩
  go_wp2_with fail
  go_ret
  exact ⟨rfl, h2⟩
/-- The groups of a number are read as the number. -/
theorem rdN_numL : ∀ (u k acc : Nat) (r : List UInt8), k ≤ 9 → (0 < k → 0 < u) → u * 128 ^ k < 18446744073709551616 → rdN k acc (numL u ++ r) = .ok (acc + u * 128 ^ k, k + (numL u).length) := by
  intro u
  induction u using Nat.strongRecOn with
  | _ u ih =>
    intro k acc r hk h0 hu
    have h9 : k = 9 → u ≤ 1 := fun e => by
      subst e
      rcases Nat.lt_or_ge 1 u with h | h
      · have h2 : 2 * 128 ^ 9 ≤ u * 128 ^ 9 := Nat.mul_le_mul_right _ h
        exact absurd (Nat.lt_of_le_of_lt h2 hu) (by decide)
      · exact h
    by_cases hlt : u < 128
    · rw [numL_lo hlt]
      have hb : (UInt8.ofNat u).toNat = u := by rw [UInt8.toNat_ofNat']; omega
      simp only [List.cons_append, List.nil_append, rdN, hb, List.length_singleton]
      rw [if_neg (by omega), if_pos hlt, Nat.mod_eq_of_lt hlt]
    · rw [numL_hi hlt]
      have hb : (UInt8.ofNat (u % 128 + 128)).toNat = u % 128 + 128 := by rw [UInt8.toNat_ofNat']; omega
      simp only [List.cons_append, rdN, hb, List.length_cons]
      have hu2 : u / 128 * 128 ^ (k + 1) < 18446744073709551616 := by
        have e : u / 128 * 128 ^ (k + 1) ≤ u * 128 ^ k := by
          rw [Nat.pow_succ, Nat.mul_comm (128 ^ k) 128, ← Nat.mul_assoc]
          exact Nat.mul_le_mul_right _ (by omega)
        omega
      rw [if_neg (by omega), if_neg (by omega), ih (u / 128) (by omega) (k + 1) _ r (by omega) (by omega) hu2]
      have e1 : (u % 128 + 128) % 128 = u % 128 := by omega
      rw [e1, Nat.pow_succ]
      have e2 : acc + u % 128 * 128 ^ k + u / 128 * (128 ^ k * 128) = acc + u * 128 ^ k := by
        have : u = u % 128 + u / 128 * 128 := by omega
        conv => rhs; rw [this, Nat.add_mul]
        rw [Nat.add_assoc, Nat.mul_comm (128 ^ k) 128, ← Nat.mul_assoc]
      rw [e2]
      congr 2
      omega
theorem rest_app (a b : ByteArray) : rest (a ++ b) a.size = b.data.toList := by
  unfold rest
  rw [ByteArray.data_append]
  simp
theorem rdV_num_at (n : Int) (h : I64 n) (a b : ByteArray) : rdV (a ++ ⟨(numL (zz n)).toArray⟩ ++ b) a.size = (n, (a.size : Int) + ((numL (zz n)).length : Nat), 0) := by
  have e : rest (a ++ ⟨(numL (zz n)).toArray⟩ ++ b) a.size = numL (zz n) ++ b.data.toList := by
    rw [ByteArray.append_assoc, rest_app, ByteArray.data_append]; simp
  rw [rdV_in _ _ (by simp; omega), e, rdN_numL (zz n) 0 0 _ (by omega) (by omega) (by have h1 := zz_lt n h; unfold U64 at h1; simpa using h1)]
  simp [rdR, unzz_zz]
set_option maxRecDepth 20000 in
set_option maxHeartbeats 1000000 in
theorem nums_walk (n : Int) (a b : ByteArray) (w : World) (hn : I64 n) (ha : a.size ≤ 140737488355328) (hb : b.size ≤ 140737488355328) (hT : Tabs w) : Calls Tryd.prog 3 #[.int .i64 n, .string a, .string b] w fun e w' => e = .returned (.bool true) ∧ Ext w w' := by
  have HT := Lib.hid hT
  have HN := Lib.hid hn
  have HV := Lib.hid (rdV_num_at n hn a b)
  have hl := numL_10 _ (zz_lt n hn)
  obtain ⟨q, hq⟩ : ∃ q : ByteArray, (⟨(numL (zz n)).toArray⟩ : ByteArray) = q := ⟨_, rfl⟩
  have hqs : q.size = (numL (zz n)).length := by rw [← hq]; rfl
  have hq10 : q.size ≤ 10 := by omega
  rw [hq, ← hqs] at HV
  have HQ := Lib.hid hq
  clear hT hn hl hq hqs
  go_enter Tryd.func3, Tryd.ntmps3
  go_wp2_with fail
  refine (Num_ok n _ HN.out).mono ?_
  rintro e w1 ⟨rfl, h1⟩
  rw [HQ.out]
  go_wp2_with fail
  refine (RNum_ok n _ HN.out).mono ?_
  rintro e w2 ⟨rfl, h2⟩
  rw [HQ.out]
  have HE2 := Lib.hid (h1.trans h2)
  clear h1 h2
  have z1 : a.size + q.size ≤ 9223372036854775807 := by omega
  go_wp2_with fail
  refine (ReadNum_ok _ _ _ (by unfold maxLen; simp; omega)).mono ?_
  rw [HV.out]
  rintro e w3 ⟨rfl, rfl⟩
  go_wp2_with fail
  refine (awake_ok _ (HT.out.ext HE2.out)).mono ?_
  rintro e w4 ⟨rfl, h4⟩
  go_wp2_with fail
  go_ret
  exact ⟨rfl, HE2.out.trans h4⟩
end Go.Proofs.YtdoofmohoamkbaaDoor
set_option linter.unusedSimpArgs false
set_option linter.unusedVariables false
namespace Go.Proofs.YtdoofmohoamkbaaDoor
theorem rdN_canon : ∀ (l : List UInt8) (k acc u k' : Nat), k ≤ 9 → rdN k acc l = .ok (u, k') → ∃ v, u = acc + v * 128 ^ k ∧ k < k' ∧ l.take (k' - k) = numL v ∧ (0 < k → 0 < v) := by
  intro l
  induction l with
  | nil => intro k acc u k' _ h; simp [rdN] at h
  | cons b r ih =>
    intro k acc u k' hk h
    simp only [rdN] at h
    split at h
    · cases h
    rename_i hb
    have hb2 := b.toNat_lt
    split at h
    · rename_i h128
      injection h with h; injection h with h1 h2
      refine ⟨b.toNat, by rw [← h1, Nat.mod_eq_of_lt h128], by omega, ?_, fun h0 => ?_⟩
      · rw [← h2, show k + 1 - k = 1 by omega, numL_lo h128]
        simp
      · rcases Nat.eq_zero_or_pos b.toNat with e | e
        · exact absurd (.inr ⟨h0, e⟩) hb
        · exact e
    · rename_i h128
      have hk9 : k < 9 := by
        rcases Nat.lt_or_ge k 9 with h' | h'
        · exact h'
        · exact absurd (.inl ⟨by omega, by omega⟩) hb
      obtain ⟨v, e1, e2, e3, e4⟩ := ih (k + 1) _ u k' (by omega) h
      have hv := e4 (by omega)
      refine ⟨b.toNat % 128 + 128 * v, ?_, by omega, ?_, fun _ => by omega⟩
      · rw [e1, Nat.pow_succ, Nat.add_mul, Nat.mul_comm (128 ^ k) 128, ← Nat.mul_assoc, Nat.mul_comm v 128, Nat.add_assoc]
      · rw [numL_hi (by omega), show (b.toNat % 128 + 128 * v) % 128 + 128 = b.toNat by omega, show (b.toNat % 128 + 128 * v) / 128 = v by omega, show k' - k = (k' - (k + 1)) + 1 by omega, List.take_succ_cons, e3]
        simp
theorem numR_canon {s : ByteArray} {p : Nat} {n : Int} {q : Nat} (h : numR s p = .ok (n, q)) : p < q ∧ (rest s p).take (q - p) = numL (zz n) := by
  unfold numR at h
  cases hr : rdN 0 0 (rest s p) with
  | error e => rw [hr] at h; cases h
  | ok uk =>
    obtain ⟨u, k⟩ := uk
    rw [hr] at h
    injection h with h; injection h with h1 h2
    obtain ⟨v, e1, e2, e3, _⟩ := rdN_canon _ _ _ _ _ (by omega) hr
    have ev : u = v := by simpa using e1
    subst ev
    refine ⟨by omega, ?_⟩
    rw [← h1, zz_unzz, ← h2, show p + k - p = k - 0 by omega]
    exact e3
/-- the bytes from p to q are l -/
def Seg (s : ByteArray) (p q : Nat) (l : List UInt8) : Prop := p ≤ q ∧ q ≤ s.size ∧ (rest s p).take (q - p) = l
theorem Seg.nil {s : ByteArray} {p : Nat} (h : p ≤ s.size) : Seg s p p [] := ⟨Nat.le_refl _, h, by simp⟩
theorem Seg.app {s : ByteArray} {p q r : Nat} {a b : List UInt8} (h : Seg s p q a) (k : Seg s q r b) : Seg s p r (a ++ b) := by
  obtain ⟨h1, h2, h3⟩ := h
  obtain ⟨k1, k2, k3⟩ := k
  refine ⟨by omega, k2, ?_⟩
  rw [show r - p = (q - p) + (r - q) by omega, List.take_add, h3, rest_drop, show p + (q - p) = q by omega, k3]
theorem Seg.num {s : ByteArray} {p : Nat} {n : Int} {q : Nat} (hp : p ≤ s.size) (h : numR s p = .ok (n, q)) : Seg s p q (numL (zz n)) :=
  ⟨by have := (numR_le hp h); omega, (numR_le hp h).2, (numR_canon h).2⟩
theorem countR_num {s : ByteArray} {p : Nat} {n : Int} {q : Nat} (h : countR s p = .ok (n, q)) : numR s p = .ok (n, q) ∧ 0 ≤ n := by
  unfold countR countF at h
  cases hn : numR s p with
  | error e => rw [hn] at h; cases h
  | ok nq =>
    obtain ⟨m, r⟩ := nq
    rw [hn] at h
    simp only at h
    split at h
    · rename_i h0
      injection h with h; injection h with h1 h2
      subst h1 h2
      exact ⟨rfl, h0⟩
    · cases h
theorem Seg.take {s : ByteArray} {p n : Nat} {t : ByteArray} {q : Nat} (hp : p ≤ s.size) (h : takeS s p n = .ok (t, q)) : Seg s p q t.data.toList ∧ t.size = n := by
  have h1 := takeS_le hp h
  unfold takeS at h
  split at h
  · injection h with h; injection h with h2 h3
    refine ⟨⟨h1.1, h1.2.1, ?_⟩, h1.2.2.1⟩
    rw [← h2, ByteArray.data_extract, h1.2.2.2, show p + n - p = n by omega]
    unfold rest
    simp
  · cases h
theorem Seg.text {s : ByteArray} {p : Nat} {t : ByteArray} {q : Nat} (hp : p ≤ s.size) (h : textS s p = .ok (t, q)) : Seg s p q (numL (zz t.size) ++ t.data.toList) ∧ t.size ≤ 4096 := by
  unfold textS textF at h
  cases hn : countR s p with
  | error e => rw [hn] at h; cases h
  | ok nq =>
    obtain ⟨m, r⟩ := nq
    rw [hn] at h
    simp only at h
    obtain ⟨h1, h0⟩ := countR_num hn
    have h2 := numR_le hp h1
    split at h
    · obtain ⟨h3, h4⟩ := Seg.take h2.2 h
      have e : (t.size : Int) = m := by omega
      rw [e]
      exact ⟨(Seg.num hp h1).app h3, by omega⟩
    · cases h
theorem Seg.byte {s : ByteArray} {p : Nat} (h : p < s.size) : Seg s p (p + 1) [UInt8.ofNat (byteN s p)] := by
  refine ⟨by omega, by omega, ?_⟩
  rw [show p + 1 - p = 1 by omega, rest_cons s p h]
  unfold byteN
  rw [List.getD_eq_getElem?_getD, byte_at s p h]
  simp
/-- what a reader reads -/
def Reads (s : ByteArray) (d : Nat) (f : Nat → Nat → Except Int (Tr × Nat × Nat)) : Prop := ∀ p bg t q bg', p ≤ s.size → bg ≤ 1024 → f p bg = .ok (t, q, bg') → Seg s p q (enc t) ∧ snd t = true ∧ bg' = bg + t.cnt ∧ t.dep ≤ d
theorem rdL_enc {s : ByteArray} {d : Nat} {f : Nat → Nat → Except Int (Tr × Nat × Nat)} (hg : Goes s f) (hf : Reads s d f) : ∀ (n p bg : Nat) (acc l : List Tr) (q bg' : Nat), p ≤ s.size → bg ≤ 1024 → rdL f n p bg acc = .ok (l, q, bg') →
    ∃ nw, l = acc ++ nw ∧ nw.length = n ∧ Seg s p q (encL nw) ∧ sndL nw = true ∧ bg' = bg + Tr.cntL nw ∧ Tr.depL nw ≤ d
  | 0, p, bg, acc, l, q, bg', hp, hb, h => by
    simp only [rdL] at h; injection h with h; injection h with h1 h2; injection h2 with h2 h3
    subst h1 h2 h3
    exact ⟨[], by simp, rfl, by simpa [encL] using Seg.nil hp, rfl, by simp [Tr.cntL], by simp [Tr.depL]⟩
  | n + 1, p, bg, acc, l, q, bg', hp, hb, h => by
    simp only [rdL] at h
    cases he : f p bg with
    | error e => rw [he] at h; cases h
    | ok x =>
      obtain ⟨t, q1, b1⟩ := x
      rw [he] at h
      have h1 := hg _ _ _ _ _ hp hb he
      obtain ⟨s1, s2, s3, s4⟩ := hf _ _ _ _ _ hp hb he
      obtain ⟨nw, e1, e2, e3, e4, e5, e6⟩ := rdL_enc hg hf n q1 b1 _ _ _ _ h1.1 h1.2.2 h
      refine ⟨t :: nw, by rw [e1]; simp, by simp [e2], ?_, by simp [sndL, s2, e4], by simp only [Tr.cntL]; omega, by simp only [Tr.depL]; omega⟩
      simpa only [encL] using s1.app e3
theorem rdF_enc {s : ByteArray} {d : Nat} {f : Nat → Nat → Except Int (Tr × Nat × Nat)} (hg : Goes s f) (hf : Reads s d f) : ∀ (n p bg : Nat) (ns : List ByteArray) (ds : List Tr) (l : List ByteArray × List Tr) (q bg' : Nat), p ≤ s.size → bg ≤ 1024 → rdF s f n p bg ns ds = .ok (l, q, bg') →
    ∃ nn nd, l = (ns ++ nn, ds ++ nd) ∧ nn.length = n ∧ nd.length = n ∧ Seg s p q (encF nn nd) ∧ sndF ns.reverse nn nd = true ∧ bg' = bg + Tr.cntL nd ∧ Tr.depL nd ≤ d
  | 0, p, bg, ns, ds, l, q, bg', hp, hb, h => by
    simp only [rdF] at h; injection h with h; injection h with h1 h2; injection h2 with h2 h3
    subst h1 h2 h3
    exact ⟨[], [], by simp, rfl, rfl, by simpa [encF] using Seg.nil hp, by simp [sndF], by simp [Tr.cntL], by simp [Tr.depL]⟩
  | n + 1, p, bg, ns, ds, l, q, bg', hp, hb, h => by
    simp only [rdF] at h
    cases hn : numR s p with
    | error e => rw [hn] at h; cases h
    | ok mq =>
      obtain ⟨m, q0⟩ := mq
      rw [hn] at h
      simp only at h
      have h0 := numR_le hp hn
      split at h
      · rename_i hm
        cases ht : takeS s q0 m.toNat with
        | error e => rw [ht] at h; cases h
        | ok tq =>
          obtain ⟨nm, q2⟩ := tq
          rw [ht] at h
          simp only at h
          obtain ⟨g1, g2⟩ := Seg.take h0.2 ht
          have g3 := takeS_le h0.2 ht
          split at h
          · rename_i hnm
            simp only [Bool.and_eq_true, Bool.not_eq_true'] at hnm
            cases he : f q2 bg with
            | error e => rw [he] at h; cases h
            | ok x =>
              obtain ⟨t, q1, b1⟩ := x
              rw [he] at h
              have h1 := hg _ _ _ _ _ g3.2.1 hb he
              obtain ⟨s1, s2, s3, s4⟩ := hf _ _ _ _ _ g3.2.1 hb he
              obtain ⟨nn, nd, e1, e2, e3, e4, e5, e6, e7⟩ := rdF_enc hg hf n q1 b1 _ _ _ _ _ h1.1 h1.2.2 h
              refine ⟨nm :: nn, t :: nd, by rw [e1]; simp, by simp [e2], by simp [e3], ?_, ?_, by simp only [Tr.cntL]; omega, by simp only [Tr.depL]; omega⟩
              · have e : (nm.size : Int) = m := by omega
                simp only [encF]
                rw [e]
                exact (((Seg.num hp hn).app g1).app s1).app e4
              · simp only [sndF, hnm.1, s2, Bool.true_and, Bool.and_true]
                have : hasN ns.reverse nm = false := hnm.2
                rw [this]
                simpa using e5
          · cases h
      · cases h
theorem leaf_ok (s : ByteArray) (k : Nat) (i : Int) (x : ByteArray) (hh : headOk k i x 0 0 = true) (hl : leafOk k i x = true) (h6 : ¬ k = 6) (h5 : ¬ k = 5) (d : Nat) : snd (leafT k i x) = true ∧ (leafT k i x).cnt = 1 ∧ (leafT k i x).dep ≤ d + 1 := by
  unfold leafT
  refine ⟨by simp [snd, hh, hl, sndL, sndF], ?_, ?_⟩
  · simp only [Tr.cnt]; rw [if_neg (by omega), if_neg (by omega)]
  · simp only [Tr.dep]; rw [if_neg (by omega), if_neg (by omega)]; omega
theorem rdT_enc (s : ByteArray) : ∀ d, Reads s d (rdT s d)
  | 0 => by intro p bg t q bg' _ _ h; simp [rdT] at h
  | d + 1 => by
    intro p bg t q bg' hp hb h
    have ih := rdT_enc s d
    have ig := rdT_goes s d
    rw [rdT_eq] at h
    by_cases c0 : 1024 ≤ bg
    · rw [if_pos c0] at h; cases h
    rw [if_neg c0] at h
    by_cases c1 : s.size ≤ p
    · rw [if_pos c1] at h; cases h
    rw [if_neg c1] at h
    have hB := Seg.byte (s := s) (p := p) (by omega)
    by_cases c2 : byteN s p = 1 ∨ byteN s p = 2 ∨ byteN s p = 11
    · rw [if_pos c2] at h
      injection h with h; injection h with h1 h2; injection h2 with h2 h3
      subst h1 h2 h3
      rcases c2 with c | c | c
      · rw [c] at hB ⊢; obtain ⟨a1, a2, a3⟩ := leaf_ok s 1 0 ⟨#[]⟩ (by decide) (by decide) (by omega) (by omega) d; exact ⟨by simpa [leafT, enc] using hB, a1, by rw [a2], a3⟩
      · rw [c] at hB ⊢; obtain ⟨a1, a2, a3⟩ := leaf_ok s 2 0 ⟨#[]⟩ (by decide) (by decide) (by omega) (by omega) d; exact ⟨by simpa [leafT, enc] using hB, a1, by rw [a2], a3⟩
      · rw [c] at hB ⊢; obtain ⟨a1, a2, a3⟩ := leaf_ok s 11 0 ⟨#[]⟩ (by decide) (by decide) (by omega) (by omega) d; exact ⟨by simpa [leafT, enc] using hB, a1, by rw [a2], a3⟩
    rw [if_neg c2] at h
    by_cases c3 : byteN s p = 3
    · rw [if_pos c3] at h
      rw [c3] at hB
      cases hn : numR s (p + 1) with
      | error e => rw [hn] at h; cases h
      | ok x =>
        obtain ⟨n, q0⟩ := x
        rw [hn] at h; simp only [leafI] at h
        injection h with h; injection h with h1 h2; injection h2 with h2 h3
        subst h1 h2 h3
        obtain ⟨a1, a2, a3⟩ := leaf_ok s 3 n ⟨#[]⟩ (by simp [headOk, bytes_e]) (by simp [leafOk]) (by omega) (by omega) d
        exact ⟨by simpa [leafT, enc] using hB.app (Seg.num (by omega) hn), a1, by rw [a2], a3⟩
    rw [if_neg c3] at h
    by_cases c4 : byteN s p = 10
    · rw [if_pos c4] at h
      rw [c4] at hB
      cases hn : countR s (p + 1) with
      | error e => rw [hn] at h; cases h
      | ok x =>
        obtain ⟨n, q0⟩ := x
        rw [hn] at h; simp only [leafI] at h
        injection h with h; injection h with h1 h2; injection h2 with h2 h3
        subst h1 h2 h3
        obtain ⟨g1, g2⟩ := countR_num hn
        obtain ⟨a1, a2, a3⟩ := leaf_ok s 10 n ⟨#[]⟩ (by simp [headOk, bytes_e]) (by simp [leafOk, g2]) (by omega) (by omega) d
        exact ⟨by simpa [leafT, enc] using hB.app (Seg.num (by omega) g1), a1, by rw [a2], a3⟩
    rw [if_neg c4] at h
    by_cases c5 : byteN s p = 9
    · rw [if_pos c5] at h
      rw [c5] at hB
      by_cases b1 : s.size ≤ p + 1
      · rw [if_pos b1] at h; cases h
      rw [if_neg b1] at h
      by_cases b2 : 1 < byteN s (p + 1)
      · rw [if_pos b2] at h; cases h
      rw [if_neg b2] at h
      injection h with h; injection h with h1 h2; injection h2 with h2 h3
      subst h1 h2 h3
      obtain ⟨a1, a2, a3⟩ := leaf_ok s 9 (byteN s (p + 1)) ⟨#[]⟩ (by simp [headOk, bytes_e]) (by simp [leafOk]; omega) (by omega) (by omega) d
      exact ⟨by simpa [leafT, enc] using hB.app (Seg.byte (s := s) (p := p + 1) (by omega)), a1, by rw [a2], a3⟩
    rw [if_neg c5] at h
    by_cases c6 : byteN s p = 4
    · rw [if_pos c6] at h
      rw [c6] at hB
      cases hn : textS s (p + 1) with
      | error e => rw [hn] at h; cases h
      | ok x =>
        obtain ⟨n, q0⟩ := x
        rw [hn] at h; simp only [leafU] at h
        obtain ⟨g1, g2⟩ := Seg.text (by omega) hn
        split at h
        · rename_i hu
          injection h with h; injection h with h1 h2; injection h2 with h2 h3
          subst h1 h2 h3
          obtain ⟨a1, a2, a3⟩ := leaf_ok s 4 0 n (by simp [headOk]) (by simp [leafOk, g2, hu]) (by omega) (by omega) d
          exact ⟨by simpa [leafT, enc] using hB.app g1, a1, by rw [a2], a3⟩
        · cases h
    rw [if_neg c6] at h
    by_cases c7 : byteN s p = 7
    · rw [if_pos c7] at h
      rw [c7] at hB
      cases hn : textS s (p + 1) with
      | error e => rw [hn] at h; cases h
      | ok x =>
        obtain ⟨n, q0⟩ := x
        rw [hn] at h; simp only [leafS] at h
        obtain ⟨g1, g2⟩ := Seg.text (by omega) hn
        injection h with h; injection h with h1 h2; injection h2 with h2 h3
        subst h1 h2 h3
        obtain ⟨a1, a2, a3⟩ := leaf_ok s 7 0 n (by simp [headOk]) (by simp [leafOk, g2]) (by omega) (by omega) d
        exact ⟨by simpa [leafT, enc] using hB.app g1, a1, by rw [a2], a3⟩
    rw [if_neg c7] at h
    by_cases c8 : byteN s p = 8
    · rw [if_pos c8] at h
      rw [c8] at hB
      cases hn : takeS s (p + 1) 12 with
      | error e => rw [hn] at h; cases h
      | ok x =>
        obtain ⟨n, q0⟩ := x
        rw [hn] at h; simp only [leafS] at h
        obtain ⟨g1, g2⟩ := Seg.take (by omega) hn
        injection h with h; injection h with h1 h2; injection h2 with h2 h3
        subst h1 h2 h3
        obtain ⟨a1, a2, a3⟩ := leaf_ok s 8 0 n (by simp [headOk]) (by simp [leafOk, g2]) (by omega) (by omega) d
        exact ⟨by simpa [leafT, enc] using hB.app g1, a1, by rw [a2], a3⟩
    rw [if_neg c8] at h
    by_cases c9 : byteN s p = 6
    · rw [if_pos c9] at h
      rw [c9] at hB
      cases hn : countR s (p + 1) with
      | error e => rw [hn] at h; cases h
      | ok x =>
        obtain ⟨n, q0⟩ := x
        rw [hn, listR_ok] at h
        obtain ⟨g1, g2⟩ := countR_num hn
        have g3 := numR_le (by omega) g1
        cases hl : rdL (rdT s d) n.toNat q0 (bg + 1) [] with
        | error e => rw [hl] at h; cases h
        | ok y =>
          obtain ⟨l, q2, b2⟩ := y
          rw [hl] at h; simp only [listE] at h
          obtain ⟨nw, e1, e2, e3, e4, e5, e6⟩ := rdL_enc ig ih _ _ _ _ _ _ _ g3.2 (by omega) hl
          injection h with h; injection h with h1 h2; injection h2 with h2 h3
          subst h1 h2 h3
          rw [List.nil_append] at e1
          subst e1
          have e : (l.length : Int) = n := by omega
          refine ⟨?_, by simp [snd, headOk, leafOk, bytes_e, e4, sndF], by simp only [Tr.cnt]; rw [if_pos trivial]; omega, by simp only [Tr.dep]; rw [if_pos trivial]; omega⟩
          have := (hB.app (Seg.num (by omega) g1)).app e3
          simpa [enc, e] using this
    rw [if_neg c9] at h
    by_cases c10 : byteN s p = 5
    · rw [if_pos c10] at h
      rw [c10] at hB
      cases hn : countR s (p + 1) with
      | error e => rw [hn] at h; cases h
      | ok x =>
        obtain ⟨n, q0⟩ := x
        rw [hn] at h; simp only [fldR] at h
        obtain ⟨g1, g2⟩ := countR_num hn
        have g3 := numR_le (by omega) g1
        cases hl : rdF s (rdT s d) n.toNat q0 (bg + 1) [] [] with
        | error e => rw [hl] at h; cases h
        | ok y =>
          obtain ⟨⟨ns, ds⟩, q2, b2⟩ := y
          rw [hl] at h; simp only [docE] at h
          obtain ⟨nn, nd, e1, e2, e3, e4, e5, e6, e7⟩ := rdF_enc ig ih _ _ _ _ _ _ _ _ g3.2 (by omega) hl
          injection h with h; injection h with h1 h2; injection h2 with h2 h3
          subst h1 h2 h3
          simp only [List.nil_append, Prod.mk.injEq] at e1
          obtain ⟨rfl, rfl⟩ := e1
          have e : (ds.length : Int) = n := by omega
          refine ⟨?_, by simpa [snd, headOk, leafOk, bytes_e, sndL] using e5, by simp only [Tr.cnt]; rw [if_neg (by decide), if_pos trivial]; omega, by simp only [Tr.dep]; rw [if_neg (by decide), if_pos trivial]; omega⟩
          have := (hB.app (Seg.num (by omega) g1)).app e4
          simpa [enc, e] using this
    rw [if_neg c10] at h
    cases h
end Go.Proofs.YtdoofmohoamkbaaDoor
set_option linter.unusedSimpArgs false
set_option linter.unusedVariables false
namespace Go.Proofs.YtdoofmohoamkbaaDoor
/-- an error of the decoder -/
def Bad (c : Int) : Prop := c = 2 ∨ c = 4 ∨ c = 5
theorem countR_bad {s : ByteArray} {p : Nat} {c : Int} (h : countR s p = .error c) : Bad c := by
  unfold countR countF at h
  cases hn : numR s p with
  | error e => rw [hn] at h; injection h with h; subst h; have := numR_err hn; unfold Bad; omega
  | ok x =>
    obtain ⟨n, q⟩ := x
    rw [hn] at h; simp only at h
    split at h
    · cases h
    · injection h with h; unfold Bad; omega
theorem numR_bad {s : ByteArray} {p : Nat} {c : Int} (h : numR s p = .error c) : Bad c := by have := numR_err h; unfold Bad; omega
theorem takeS_bad {s : ByteArray} {p n : Nat} {c : Int} (h : takeS s p n = .error c) : Bad c := by
  unfold takeS at h
  split at h
  · cases h
  · injection h with h; unfold Bad; omega
theorem textS_bad {s : ByteArray} {p : Nat} {c : Int} (h : textS s p = .error c) : Bad c := by
  unfold textS textF at h
  cases hn : countR s p with
  | error e => rw [hn] at h; injection h with h; subst h; exact countR_bad hn
  | ok x =>
    obtain ⟨n, q⟩ := x
    rw [hn] at h; simp only at h
    split at h
    · exact takeS_bad h
    · injection h with h; unfold Bad; omega
def Errs (f : Nat → Nat → Except Int (Tr × Nat × Nat)) : Prop := ∀ p bg c, f p bg = .error c → Bad c
theorem rdL_bad {f : Nat → Nat → Except Int (Tr × Nat × Nat)} (hf : Errs f) : ∀ (n p bg : Nat) (acc : List Tr) (c : Int), rdL f n p bg acc = .error c → Bad c
  | 0, p, bg, acc, c, h => by simp [rdL] at h
  | n + 1, p, bg, acc, c, h => by
    simp only [rdL] at h
    cases he : f p bg with
    | error e => rw [he] at h; injection h with h; subst h; exact hf _ _ _ he
    | ok x => obtain ⟨t, q, b⟩ := x; rw [he] at h; exact rdL_bad hf n q b _ c h
theorem rdF_bad {s : ByteArray} {f : Nat → Nat → Except Int (Tr × Nat × Nat)} (hf : Errs f) : ∀ (n p bg : Nat) (ns : List ByteArray) (ds : List Tr) (c : Int), rdF s f n p bg ns ds = .error c → Bad c
  | 0, p, bg, ns, ds, c, h => by simp [rdF] at h
  | n + 1, p, bg, ns, ds, c, h => by
    simp only [rdF] at h
    cases hn : numR s p with
    | error e => rw [hn] at h; injection h with h; subst h; exact numR_bad hn
    | ok x =>
      obtain ⟨m, q⟩ := x
      rw [hn] at h; simp only at h
      split at h
      · cases ht : takeS s q m.toNat with
        | error e => rw [ht] at h; injection h with h; subst h; exact takeS_bad ht
        | ok y =>
          obtain ⟨nm, q2⟩ := y
          rw [ht] at h; simp only at h
          split at h
          · cases he : f q2 bg with
            | error e => rw [he] at h; injection h with h; subst h; exact hf _ _ _ he
            | ok z => obtain ⟨t, q3, b3⟩ := z; rw [he] at h; exact rdF_bad hf n q3 b3 _ _ c h
          · injection h with h; unfold Bad; omega
      · injection h with h; unfold Bad; omega
theorem rdT_bad (s : ByteArray) : ∀ d, Errs (rdT s d)
  | 0 => by intro p bg c h; simp [rdT] at h; unfold Bad; omega
  | d + 1 => by
    intro p bg c h
    have ih := rdT_bad s d
    rw [rdT_eq] at h
    have lit : ∀ e : Int, Bad e → (Except.error e : Except Int (Tr × Nat × Nat)) = .error c → Bad c := fun e he h => by injection h with h; rw [← h]; exact he
    have b2 : Bad 2 := .inl rfl
    have b4 : Bad 4 := .inr (.inl rfl)
    have b5 : Bad 5 := .inr (.inr rfl)
    by_cases c0 : 1024 ≤ bg
    · rw [if_pos c0] at h; exact lit 2 b2 h
    rw [if_neg c0] at h
    by_cases c1 : s.size ≤ p
    · rw [if_pos c1] at h; exact lit 5 b5 h
    rw [if_neg c1] at h
    by_cases c2 : byteN s p = 1 ∨ byteN s p = 2 ∨ byteN s p = 11
    · rw [if_pos c2] at h; cases h
    rw [if_neg c2] at h
    by_cases c3 : byteN s p = 3
    · rw [if_pos c3] at h
      cases hn : numR s (p + 1) with
      | error e => rw [hn] at h; exact lit e (numR_bad hn) h
      | ok x => rw [hn] at h; cases h
    rw [if_neg c3] at h
    by_cases c4 : byteN s p = 10
    · rw [if_pos c4] at h
      cases hn : countR s (p + 1) with
      | error e => rw [hn] at h; exact lit e (countR_bad hn) h
      | ok x => rw [hn] at h; cases h
    rw [if_neg c4] at h
    by_cases c5 : byteN s p = 9
    · rw [if_pos c5] at h
      by_cases b1 : s.size ≤ p + 1
      · rw [if_pos b1] at h; exact lit 5 b5 h
      rw [if_neg b1] at h
      by_cases b2 : 1 < byteN s (p + 1)
      · rw [if_pos b2] at h; exact lit 4 b4 h
      rw [if_neg b2] at h; cases h
    rw [if_neg c5] at h
    by_cases c6 : byteN s p = 4
    · rw [if_pos c6] at h
      cases hn : textS s (p + 1) with
      | error e => rw [hn] at h; exact lit e (textS_bad hn) h
      | ok x =>
        obtain ⟨n, q⟩ := x
        rw [hn] at h; simp only [leafU] at h
        split at h
        · cases h
        · exact lit 4 b4 h
    rw [if_neg c6] at h
    by_cases c7 : byteN s p = 7
    · rw [if_pos c7] at h
      cases hn : textS s (p + 1) with
      | error e => rw [hn] at h; exact lit e (textS_bad hn) h
      | ok x => rw [hn] at h; cases h
    rw [if_neg c7] at h
    by_cases c8 : byteN s p = 8
    · rw [if_pos c8] at h
      cases hn : takeS s (p + 1) 12 with
      | error e => rw [hn] at h; exact lit e (takeS_bad hn) h
      | ok x => rw [hn] at h; cases h
    rw [if_neg c8] at h
    by_cases c9 : byteN s p = 6
    · rw [if_pos c9] at h
      cases hn : countR s (p + 1) with
      | error e => rw [hn] at h; exact lit e (countR_bad hn) h
      | ok x =>
        obtain ⟨n, q⟩ := x
        rw [hn, listR_ok] at h
        cases hl : rdL (rdT s d) n.toNat q (bg + 1) [] with
        | error e => rw [hl] at h; exact lit e (rdL_bad ih _ _ _ _ _ hl) h
        | ok y => rw [hl] at h; cases h
    rw [if_neg c9] at h
    by_cases c10 : byteN s p = 5
    · rw [if_pos c10] at h
      cases hn : countR s (p + 1) with
      | error e => rw [hn] at h; exact lit e (countR_bad hn) h
      | ok x =>
        obtain ⟨n, q⟩ := x
        rw [hn] at h; simp only [fldR] at h
        cases hl : rdF s (rdT s d) n.toNat q (bg + 1) [] [] with
        | error e => rw [hl] at h; exact lit e (rdF_bad ih _ _ _ _ _ _ hl) h
        | ok y => rw [hl] at h; cases h
    rw [if_neg c10] at h
    exact lit 4 b4 h
end Go.Proofs.YtdoofmohoamkbaaDoor
set_option linter.unusedSimpArgs false
set_option linter.unusedVariables false
namespace Go.Proofs.YtdoofmohoamkbaaDoor
open Go.RowKit
/-- the cells of the reference's reader -/
def RrCells (s : ByteArray) (p bg : Nat) (c : Int) : Obj := .cells #[.string s, .int .i64 (p : Int), .int .i64 (bg : Int), .int .i64 c] 58 (0, 0)
/-- the end of a call that reads an integer -/
def RrI (rb : Nat) (s : ByteArray) (bg : Nat) (w : World) (x : Except Int (Int × Nat)) (e : Ending) (w' : World) : Prop :=
  match x with
  | .ok (n, q) => e = .returned (.int .i64 n) ∧ w'.heap[rb]? = some (RrCells s q bg 0) ∧ w.grownBy w' (some rb)
  | .error c => ∃ (n : Int) (q : Nat), I64 n ∧ q ≤ s.size ∧ e = .returned (.int .i64 n) ∧ w'.heap[rb]? = some (RrCells s q bg c) ∧ w.grownBy w' (some rb)
/-- the end of a call that reads bytes -/
def RrS (rb : Nat) (s : ByteArray) (bg : Nat) (w : World) (x : Except Int (ByteArray × Nat)) (e : Ending) (w' : World) : Prop :=
  match x with
  | .ok (t, q) => e = .returned (.string t) ∧ w'.heap[rb]? = some (RrCells s q bg 0) ∧ w.grownBy w' (some rb)
  | .error c => ∃ (t : ByteArray) (q : Nat), t.size ≤ maxLen ∧ q ≤ s.size ∧ e = .returned (.string t) ∧ w'.heap[rb]? = some (RrCells s q bg c) ∧ w.grownBy w' (some rb)
theorem rr_set1 {w : World} {rb : Nat} {s : ByteArray} {p p' bg : Nat} {c : Int} (h : w.heap[rb]? = some (RrCells s p bg c)) (x : Int) (hx : x = p') : (w.setCell ⟨rb, 1, none⟩ (.int .i64 x)).heap[rb]? = some (RrCells s p' bg c) := by
  subst hx; exact blk_set h 1 _
theorem rr_set2 {w : World} {rb : Nat} {s : ByteArray} {p bg bg' : Nat} {c : Int} (h : w.heap[rb]? = some (RrCells s p bg c)) (x : Int) (hx : x = bg') : (w.setCell ⟨rb, 2, none⟩ (.int .i64 x)).heap[rb]? = some (RrCells s p bg' c) := by
  subst hx; exact blk_set h 2 _
theorem rr_set3 {w : World} {rb : Nat} {s : ByteArray} {p bg : Nat} {c : Int} (h : w.heap[rb]? = some (RrCells s p bg c)) (x : Int) : (w.setCell ⟨rb, 3, none⟩ (.int .i64 x)).heap[rb]? = some (RrCells s p bg x) := blk_set h 3 _
set_option maxRecDepth 20000 in
set_option maxHeartbeats 2000000 in
theorem Rnum_ok (s : ByteArray) (rb p bg : Nat) (w : World) (hs : s.size ≤ 1000000000000000) (hp : p ≤ s.size) (h : w.heap[rb]? = some (RrCells s p bg 0)) :
    Calls Tryd.prog 47 #[.pointer (some ⟨rb, 0, none⟩)] w (RrI rb s bg w (numR s p)) := by
  have hrb := blk_lt h
  have ck := blk_cell h
  have cf := blk_free h
  have H := Lib.hid h
  clear h
  have hV := rdV_num (s := s) hp
  obtain ⟨x, hx⟩ : ∃ x, numR s p = x := ⟨_, rfl⟩
  rw [hx] at hV ⊢
  have HE := Lib.hid (fun e (he : x = .error e) => numR_err (hx.trans he))
  have HQ := Lib.hid (fun n q (he : x = .ok (n, q)) => numR_le hp (hx.trans he))
  clear hx
  have HV := Lib.hid hV
  clear hV
  go_enter Tryd.func47, Tryd.ntmps47
  go_wp2_with fail
  refine wp_region_mix (Ext w) [(true, 0), (true, 1), (true, 2), (true, 3), (true, 4), (true, 5), (true, 6), (true, 7), (false, 8), (true, 9), (true, 10), (true, 11), (true, 12), (true, 13), (true, 14), (true, 15)] (by kernel_rfl) (by kernel_rfl) (by kernel_rfl) (by kernel_rfl) ?hS ?_
  case hS => exact (Ext.refl _).drew
  repeat (first | (refine wpMix_q (v := ?_) rfl rfl ?_ ?_; rotate_left; (· intro wq hSq; have cq := hSq.cells; go_simp; try (with_reducible rfl)); simp only [Act.put, List.setIfInBounds_toArray, List.set_cons_zero, List.set_cons_succ, List.getElem_toArray, List.getElem_cons_zero, List.getElem_cons_succ]) | (refine wpMix_u rfl rfl ?_; simp only [Act.put, List.setIfInBounds_toArray, List.set_cons_zero, List.set_cons_succ, List.getElem_toArray, List.getElem_cons_zero, List.getElem_cons_succ]))
  refine wpMix_l rfl rfl (fun K hK => ?_)
  go_simp
  refine (RReadNum_ok s _ _ (by unfold maxLen; omega)).mono ?_
  rintro e w1 ⟨rfl, rfl⟩
  rw [HV.out]
  cases x with
  | error c =>
    have hc := HE.out c rfl
    have d1 : (c != (0 : Int)) = true := by simp; omega
    refine hK _ _ (Ext.refl _).drew ?_
    clear hK K HE HQ HV
    repeat (first | (refine wpMix_q (v := ?_) rfl rfl ?_ ?_; rotate_left; (· intro wq hSq; have cq := hSq.cells; go_simp; try (with_reducible rfl)); simp only [Act.put, List.setIfInBounds_toArray, List.set_cons_zero, List.set_cons_succ, List.getElem_toArray, List.getElem_cons_zero, List.getElem_cons_succ]) | (refine wpMix_u rfl rfl ?_; simp only [Act.put, List.setIfInBounds_toArray, List.set_cons_zero, List.set_cons_succ, List.getElem_toArray, List.getElem_cons_zero, List.getElem_cons_succ]))
    refine wpMix_nil ?_
    go_wp2_with fail
    go_ret
    refine ⟨0, p, by unfold I64; omega, hp, rfl, rr_set3 H.out _, ?_⟩
    repeat (first | with_reducible exact World.grownBy.refl _ _ | with_reducible refine only_drew ?_ | with_reducible refine only_setCell ?_ (.inl rfl) _)
  | ok nq =>
    obtain ⟨n, q⟩ := nq
    have hq := HQ.out n q rfl
    refine hK _ _ (Ext.refl _).drew ?_
    clear hK K HE HQ HV
    repeat (first | (refine wpMix_q (v := ?_) rfl rfl ?_ ?_; rotate_left; (· intro wq hSq; have cq := hSq.cells; go_simp; try (with_reducible rfl)); simp only [Act.put, List.setIfInBounds_toArray, List.set_cons_zero, List.set_cons_succ, List.getElem_toArray, List.getElem_cons_zero, List.getElem_cons_succ]) | (refine wpMix_u rfl rfl ?_; simp only [Act.put, List.setIfInBounds_toArray, List.set_cons_zero, List.set_cons_succ, List.getElem_toArray, List.getElem_cons_zero, List.getElem_cons_succ]))
    refine wpMix_nil ?_
    go_wp2_with fail
    go_ret
    refine ⟨rfl, rr_set1 H.out _ rfl, ?_⟩
    repeat (first | with_reducible exact World.grownBy.refl _ _ | with_reducible refine only_drew ?_ | with_reducible refine only_setCell ?_ (.inl rfl) _)
set_option maxRecDepth 20000 in
set_option maxHeartbeats 2000000 in
theorem Rbytes_ok (s : ByteArray) (rb p bg n : Nat) (x : Int) (hx : x = n) (w : World) (hs : s.size ≤ 1000000000000000) (hp : p ≤ s.size) (hn : (n : Int) < 9223372036854775808) (h : w.heap[rb]? = some (RrCells s p bg 0)) :
    Calls Tryd.prog 46 #[.pointer (some ⟨rb, 0, none⟩), .int .i64 x] w (RrS rb s bg w (takeS s p n)) := by
  subst hx
  have hrb := blk_lt h
  have ck := blk_cell h
  have cf := blk_free h
  have H := Lib.hid h
  clear h
  have hw1 := wrap_i64_val ((s.size : Int) - (p : Int)) (by omega) (by omega)
  by_cases hc : n ≤ s.size - p
  · have hR : takeS s p n = .ok (s.extract p (p + n), p + n) := by unfold takeS; rw [if_pos hc]
    rw [hR]
    clear hR
    have d1 : decide ((s.size : Int) - (p : Int) < (n : Int)) = false := by simp; omega
    go_enter Tryd.func46, Tryd.ntmps46
    go_wp2_with fail
    refine wp_region_mix (Ext w) [(true, 0), (true, 1), (true, 2), (true, 3), (true, 4), (true, 5), (true, 6), (true, 7), (true, 8), (true, 9), (true, 10), (true, 11)] (by kernel_rfl) (by kernel_rfl) (by kernel_rfl) (by kernel_rfl) ?hS ?_
    case hS => exact (Ext.refl _).drew
    repeat (first | (refine wpMix_q (v := ?_) rfl rfl ?_ ?_; rotate_left; (· intro wq hSq; have cq := hSq.cells; go_simp; try (with_reducible rfl)); simp only [Act.put, List.setIfInBounds_toArray, List.set_cons_zero, List.set_cons_succ, List.getElem_toArray, List.getElem_cons_zero, List.getElem_cons_succ]) | (refine wpMix_u rfl rfl ?_; simp only [Act.put, List.setIfInBounds_toArray, List.set_cons_zero, List.set_cons_succ, List.getElem_toArray, List.getElem_cons_zero, List.getElem_cons_succ]))
    refine wpMix_nil ?_
    go_wp2_with fail
    have hw2 := wrap_i64_val ((p : Int) + (n : Int)) (by omega) (by omega)
    refine wp_region_mix (Ext w) [(true, 0), (true, 1), (true, 2), (true, 3), (true, 4), (true, 5), (true, 6), (true, 7), (true, 8), (true, 9), (true, 10), (true, 11), (true, 12), (true, 13), (true, 14), (true, 15)] (by kernel_rfl) (by kernel_rfl) (by kernel_rfl) (by kernel_rfl) ?hS ?_
    case hS => repeat (first | with_reducible assumption | with_reducible exact Ext.refl _ | with_reducible refine Ext.drew ?_ | with_reducible refine Ext.alloc ?_ _ | ((with_reducible refine Ext.setCell ?_ ?_ _); rotate_left; (· first | exact Nat.le_refl _ | (simp; done) | omega | (simp; omega))))
    repeat (first | (refine wpMix_q (v := ?_) rfl rfl ?_ ?_; rotate_left; (· intro wq hSq; have cq := hSq.cells; go_simp; try (with_reducible rfl)); simp only [Act.put, List.setIfInBounds_toArray, List.set_cons_zero, List.set_cons_succ, List.getElem_toArray, List.getElem_cons_zero, List.getElem_cons_succ]) | (refine wpMix_u rfl rfl ?_; simp only [Act.put, List.setIfInBounds_toArray, List.set_cons_zero, List.set_cons_succ, List.getElem_toArray, List.getElem_cons_zero, List.getElem_cons_succ]))
    refine wpMix_q (v := .string (s.extract p (p + n))) rfl rfl ?_ ?_
    · intro wq hSq
      go_simp
      rw [if_pos ⟨by omega, by omega⟩, if_pos (by omega)]
      have e1 : ((p : Int) + (n : Int)).toNat = p + n := by omega
      rw [e1]
    (try simp only [Act.put, List.setIfInBounds_toArray, List.set_cons_zero, List.set_cons_succ, List.getElem_toArray, List.getElem_cons_zero, List.getElem_cons_succ])
    repeat (first | (refine wpMix_q (v := ?_) rfl rfl ?_ ?_; rotate_left; (· intro wq hSq; have cq := hSq.cells; go_simp; try (with_reducible rfl)); simp only [Act.put, List.setIfInBounds_toArray, List.set_cons_zero, List.set_cons_succ, List.getElem_toArray, List.getElem_cons_zero, List.getElem_cons_succ]) | (refine wpMix_u rfl rfl ?_; simp only [Act.put, List.setIfInBounds_toArray, List.set_cons_zero, List.set_cons_succ, List.getElem_toArray, List.getElem_cons_zero, List.getElem_cons_succ]))
    refine wpMix_nil ?_
    go_wp2_with fail
    go_ret
    refine ⟨rfl, ?_, ?_⟩
    · exact rr_set1 H.out _ (by omega)
    · repeat (first | with_reducible exact World.grownBy.refl _ _ | with_reducible refine only_drew ?_ | with_reducible refine only_drewN ?_ _ | with_reducible refine only_setCell ?_ (.inl rfl) _)
  · have hR : takeS s p n = .error 5 := by unfold takeS; rw [if_neg hc]
    rw [hR]
    clear hR
    have d1 : decide ((s.size : Int) - (p : Int) < (n : Int)) = true := by simp; omega
    go_enter Tryd.func46, Tryd.ntmps46
    go_wp2_with fail
    refine wp_region_mix (Ext w) [(true, 0), (true, 1), (true, 2), (true, 3), (true, 4), (true, 5), (true, 6), (true, 7), (true, 8), (true, 9), (true, 10), (true, 11)] (by kernel_rfl) (by kernel_rfl) (by kernel_rfl) (by kernel_rfl) ?hS ?_
    case hS => exact (Ext.refl _).drew
    repeat (first | (refine wpMix_q (v := ?_) rfl rfl ?_ ?_; rotate_left; (· intro wq hSq; have cq := hSq.cells; go_simp; try (with_reducible rfl)); simp only [Act.put, List.setIfInBounds_toArray, List.set_cons_zero, List.set_cons_succ, List.getElem_toArray, List.getElem_cons_zero, List.getElem_cons_succ]) | (refine wpMix_u rfl rfl ?_; simp only [Act.put, List.setIfInBounds_toArray, List.set_cons_zero, List.set_cons_succ, List.getElem_toArray, List.getElem_cons_zero, List.getElem_cons_succ]))
    refine wpMix_nil ?_
    go_wp2_with fail
    go_ret
    refine ⟨⟨#[]⟩, p, by unfold maxLen; decide, hp, rfl, rr_set3 H.out _, ?_⟩
    repeat (first | with_reducible exact World.grownBy.refl _ _ | with_reducible refine only_drew ?_ | with_reducible refine only_drewN ?_ _ | with_reducible refine only_setCell ?_ (.inl rfl) _)
/-- count(lo), plain -/
def countLo (lo : Int) : Except Int (Int × Nat) → Except Int (Int × Nat)
  | .error e => .error e
  | .ok (n, q) => if lo ≤ n then .ok (n, q) else .error 4
set_option maxRecDepth 20000 in
set_option maxHeartbeats 2000000 in
theorem Rcount_ok (s : ByteArray) (rb p bg : Nat) (lo : Int) (w : World) (hs : s.size ≤ 1000000000000000) (hp : p ≤ s.size) (h : w.heap[rb]? = some (RrCells s p bg 0)) :
    Calls Tryd.prog 48 #[.pointer (some ⟨rb, 0, none⟩), .int .i64 lo] w (RrI rb s bg w (countLo lo (numR s p))) := by
  have hrb := blk_lt h
  have H := Lib.hid h
  clear h
  obtain ⟨x, hx⟩ : ∃ x, numR s p = x := ⟨_, rfl⟩
  have HE := Lib.hid (fun e (he : x = .error e) => numR_err (hx.trans he))
  have HQ := Lib.hid (fun n q (he : x = .ok (n, q)) => numR_le hp (hx.trans he))
  have HI := Lib.hid (fun n q (he : x = .ok (n, q)) => numR_in (hx.trans he))
  obtain ⟨r, hr⟩ : ∃ r, countLo lo x = r := ⟨_, rfl⟩
  rw [hx, hr]
  have HX := Lib.hid hx
  have HR := Lib.hid hr
  clear hx hr
  go_enter Tryd.func48, Tryd.ntmps48
  go_wp2_with fail
  refine (Rnum_ok s rb p bg _ hs hp H.out).mono ?_
  rw [HX.out]
  cases x with
  | error c =>
    have hc := HE.out c rfl
    rintro e w1 ⟨n, q, hn, hq, rfl, h1, g1⟩
    have ck := blk_cell h1
    have cf := blk_free h1
    have hrb1 := blk_lt h1
    have d1 : (c == (0 : Int)) = false := by simp; omega
    have H1 := Lib.hid h1
    clear h1 HE HQ HI
    have e := HR.out
    simp only [countLo] at e
    subst e
    go_wp2_with fail
    go_ret
    exact ⟨n, q, hn, hq, rfl, H1.out, g1⟩
  | ok nq =>
    obtain ⟨n, q⟩ := nq
    have hq := HQ.out n q rfl
    have hi := HI.out n q rfl
    rintro e w1 ⟨rfl, h1, g1⟩
    have ck := blk_cell h1
    have cf := blk_free h1
    have hrb1 := blk_lt h1
    have H1 := Lib.hid h1
    clear h1 HE HQ HI
    by_cases hlo : lo ≤ n
    · have e := HR.out
      simp only [countLo, if_pos hlo] at e
      subst e
      have d1 : decide (n < lo) = false := by simp; omega
      go_wp2_with fail
      go_ret
      exact ⟨rfl, H1.out, g1⟩
    · have e := HR.out
      simp only [countLo, if_neg hlo] at e
      subst e
      have d1 : decide (n < lo) = true := by simp; omega
      go_wp2_with fail
      go_ret
      refine ⟨n, q, hi, hq.2, rfl, rr_set3 H1.out _, ?_⟩
      exact only_setCell g1 (.inl rfl) _
end Go.Proofs.YtdoofmohoamkbaaDoor
set_option linter.unusedSimpArgs false
set_option linter.unusedVariables false
namespace Go.Proofs.YtdoofmohoamkbaaDoor
open Go.RowKit
/-- what is left: c = 0 and the result, or the error -/
def Out {α : Type} (x : Except Int (α × Nat)) (n : α) (q : Nat) (c : Int) : Prop :=
  match x with
  | .ok (n', q') => n' = n ∧ q' = q ∧ c = 0
  | .error e => c = e ∧ c ≠ 0
theorem countLo_0 (s : ByteArray) (p : Nat) : countLo 0 (numR s p) = countR s p := by
  unfold countR countF countLo
  cases numR s p <;> rfl
def RrA (rb : Nat) (s : ByteArray) (bg : Nat) (w : World) (x : Except Int (Int × Nat)) (e : Ending) (w' : World) : Prop :=
  ∃ (n : Int) (q : Nat) (c : Int), I64 n ∧ q ≤ s.size ∧ e = .returned (.int .i64 n) ∧ w'.heap[rb]? = some (RrCells s q bg c) ∧ w.grownBy w' (some rb) ∧ Out x n q c
def RrB (rb : Nat) (s : ByteArray) (bg : Nat) (w : World) (x : Except Int (ByteArray × Nat)) (e : Ending) (w' : World) : Prop :=
  ∃ (t : ByteArray) (q : Nat) (c : Int), t.size ≤ maxLen ∧ q ≤ s.size ∧ e = .returned (.string t) ∧ w'.heap[rb]? = some (RrCells s q bg c) ∧ w.grownBy w' (some rb) ∧ Out x t q c
theorem RrI.any {rb : Nat} {s : ByteArray} {bg : Nat} {w : World} {x : Except Int (Int × Nat)} (hok : ∀ n q, x = .ok (n, q) → I64 n ∧ q ≤ s.size) (her : ∀ c, x = .error c → c ≠ 0) {e : Ending} {w' : World} (h : RrI rb s bg w x e w') : RrA rb s bg w x e w' := by
  cases x with
  | error c => obtain ⟨n, q, h1, h2, h3, h4, h5⟩ := h; exact ⟨n, q, c, h1, h2, h3, h4, h5, rfl, her c rfl⟩
  | ok y => obtain ⟨n, q⟩ := y; obtain ⟨h3, h4, h5⟩ := h; exact ⟨n, q, 0, (hok n q rfl).1, (hok n q rfl).2, h3, h4, h5, rfl, rfl, rfl⟩
theorem RrS.any {rb : Nat} {s : ByteArray} {bg : Nat} {w : World} {x : Except Int (ByteArray × Nat)} (hok : ∀ n q, x = .ok (n, q) → n.size ≤ maxLen ∧ q ≤ s.size) (her : ∀ c, x = .error c → c ≠ 0) {e : Ending} {w' : World} (h : RrS rb s bg w x e w') : RrB rb s bg w x e w' := by
  cases x with
  | error c => obtain ⟨n, q, h1, h2, h3, h4, h5⟩ := h; exact ⟨n, q, c, h1, h2, h3, h4, h5, rfl, her c rfl⟩
  | ok y => obtain ⟨n, q⟩ := y; obtain ⟨h3, h4, h5⟩ := h; exact ⟨n, q, 0, (hok n q rfl).1, (hok n q rfl).2, h3, h4, h5, rfl, rfl, rfl⟩
theorem Bad.ne {c : Int} (h : Bad c) : c ≠ 0 := by unfold Bad at h; omega
theorem Rnum_any (s : ByteArray) (rb p bg : Nat) (w : World) (hs : s.size ≤ 1000000000000000) (hp : p ≤ s.size) (h : w.heap[rb]? = some (RrCells s p bg 0)) :
    Calls Tryd.prog 47 #[.pointer (some ⟨rb, 0, none⟩)] w (RrA rb s bg w (numR s p)) :=
  (Rnum_ok s rb p bg w hs hp h).mono fun _ _ k => k.any (fun _ _ he => ⟨numR_in he, (numR_le hp he).2⟩) (fun _ he => (numR_bad he).ne)
theorem Rcount_any (s : ByteArray) (rb p bg : Nat) (w : World) (hs : s.size ≤ 1000000000000000) (hp : p ≤ s.size) (h : w.heap[rb]? = some (RrCells s p bg 0)) :
    Calls Tryd.prog 48 #[.pointer (some ⟨rb, 0, none⟩), .int .i64 0] w (RrA rb s bg w (countR s p)) := by
  rw [← countLo_0]
  refine (Rcount_ok s rb p bg 0 w hs hp h).mono fun _ _ k => k.any ?_ ?_
  · rw [countLo_0]; exact fun _ _ he => ⟨countR_in he, (countR_le hp he).2.1⟩
  · rw [countLo_0]; exact fun _ he => (countR_bad he).ne
theorem Rcount1_any (s : ByteArray) (rb p bg : Nat) (w : World) (hs : s.size ≤ 1000000000000000) (hp : p ≤ s.size) (h : w.heap[rb]? = some (RrCells s p bg 0)) :
    Calls Tryd.prog 48 #[.pointer (some ⟨rb, 0, none⟩), .int .i64 1] w (RrA rb s bg w (countLo 1 (numR s p))) := by
  refine (Rcount_ok s rb p bg 1 w hs hp h).mono fun _ _ k => k.any ?_ ?_
  · intro n q he
    cases hn : numR s p with
    | error e => rw [hn] at he; cases he
    | ok y =>
      obtain ⟨n', q'⟩ := y
      rw [hn] at he
      simp only [countLo] at he
      split at he
      · injection he with he; injection he with e1 e2; subst e1 e2; exact ⟨numR_in hn, (numR_le hp hn).2⟩
      · cases he
  · intro c he
    cases hn : numR s p with
    | error e => rw [hn] at he; simp only [countLo] at he; injection he with he; subst he; exact (numR_bad hn).ne
    | ok y =>
      obtain ⟨n', q'⟩ := y
      rw [hn] at he
      simp only [countLo] at he
      split at he
      · cases he
      · injection he with he; omega
theorem Rbytes_any (s : ByteArray) (rb p bg n : Nat) (x : Int) (hx : x = n) (w : World) (hs : s.size ≤ 1000000000000000) (hp : p ≤ s.size) (hn : (n : Int) < 9223372036854775808) (h : w.heap[rb]? = some (RrCells s p bg 0)) :
    Calls Tryd.prog 46 #[.pointer (some ⟨rb, 0, none⟩), .int .i64 x] w (RrB rb s bg w (takeS s p n)) :=
  (Rbytes_ok s rb p bg n x hx w hs hp hn h).mono fun _ _ k => k.any (fun _ _ he => ⟨by have := takeS_le hp he; unfold maxLen; omega, (takeS_le hp he).2.1⟩) (fun _ he => (takeS_bad he).ne)
theorem leaf_rep (w : World) (k i : Int) (t : ByteArray) (hk : I64 k) (hi : I64 i) (ht : t.size ≤ maxLen) : VRep w (.mk k i t [] [] []) (.agg #[.int .i64 k, .int .i64 i, .string t, .slice none 0 0, .slice none 0 0]) := VNew.rep (VNew.leaf 0 0 w k i t hk hi ht)
/-- text, plain -/
def textK (s : ByteArray) (k : Int) : Except Int (Int × Nat) → Except Int (ByteArray × Nat)
  | .error e => .error e
  | .ok (n, q) => if n ≤ 4096 then (match takeS s q n.toNat with
      | .error e => .error e
      | .ok (t, q2) => if validB (.mk k 0 t [] [] []) then .ok (t, q2) else .error 4) else .error 2
/-- the end of text -/
def RrT (rb : Nat) (s : ByteArray) (bg : Nat) (k : Int) (w : World) (x : Except Int (ByteArray × Nat)) (e : Ending) (w' : World) : Prop :=
  ∃ (k' : Int) (t : ByteArray) (q : Nat) (c : Int), I64 k' ∧ t.size ≤ maxLen ∧ q ≤ s.size ∧ e = .returned (.agg #[.int .i64 k', .int .i64 0, .string t, .slice none 0 0, .slice none 0 0]) ∧ w'.heap[rb]? = some (RrCells s q bg c) ∧ w.grownBy w' (some rb) ∧ Out x t q c ∧ (c = 0 → k' = k)
set_option maxRecDepth 20000 in
set_option maxHeartbeats 2000000 in
theorem Rtext_ok (s : ByteArray) (rb p bg : Nat) (k : Int) (w : World) (hk : I64 k) (hs : s.size ≤ 1000000000000000) (hp : p ≤ s.size) (h : w.heap[rb]? = some (RrCells s p bg 0)) :
    Calls Tryd.prog 49 #[.pointer (some ⟨rb, 0, none⟩), .int .i64 k] w (RrT rb s bg k w (textK s k (countR s p))) := by
  have hrb := blk_lt h
  have H := Lib.hid h
  clear h
  obtain ⟨x, hx⟩ : ∃ x, countR s p = x := ⟨_, rfl⟩
  obtain ⟨r, hr⟩ : ∃ r, textK s k x = r := ⟨_, rfl⟩
  have HQ := Lib.hid (fun n q (he : x = .ok (n, q)) => countR_le hp (hx.trans he))
  rw [hx, hr]
  have HX := Lib.hid hx
  have HR := Lib.hid hr
  have HK := Lib.hid hk
  clear hx hr hk
  have hne : rb ≠ w.heap.size := by omega
  go_enter Tryd.func49, Tryd.ntmps49
  go_wp2_with fail
  refine (Rcount_any s rb p bg _ hs hp (blk_alloc H.out _)).mono ?_
  rw [HX.out]
  have HB0 := Lib.hid (blk_at0 w (.cells #[.int .i64 0, .int .i64 0, .string ⟨#[]⟩, .slice none 0 0, .slice none 0 0] 32))
  have HG0 : Hid (w.grownBy (w.alloc (.cells #[.int .i64 0, .int .i64 0, .string ⟨#[]⟩, .slice none 0 0, .slice none 0 0] 32)) (some rb)) := only_alloc (World.grownBy.refl _ _) _
  rintro e w1 ⟨n, q, c, hn, hq, rfl, h1, g1, ho⟩
  have ck := blk_cell h1
  have cf := blk_free h1
  have hrb1 := blk_lt h1
  have H1 := Lib.hid h1
  have HB1 := Lib.hid (blk_only HB0.out g1 hne.symm)
  have HG1 := Lib.hid (only_trans HG0.out g1)
  have cb := blk_cell HB1.out
  have fb := blk_free HB1.out
  have lb := blk_lt HB1.out
  clear h1 g1 HB0 HG0
  cases x with
  | error e0 =>
    obtain ⟨rfl, hc⟩ := ho
    have e := HR.out
    simp only [textK] at e
    subst e
    have d1 : (c == (0 : Int)) = false := beq_eq_false_iff_ne.2 hc
    have d2 : (c != (0 : Int)) = true := by simp [hc]
    go_wp2_with fail
    refine bodyPost_ret (v := .agg #[.int .i64 0, .int .i64 0, .string ⟨#[]⟩, .slice none 0 0, .slice none 0 0]) (by simp only [results, Tryd.results49]; go_simp) rfl ⟨0, ⟨#[]⟩, q, c, (by unfold I64; omega), (by unfold maxLen; decide), hq, rfl, ?_, ?_, ⟨rfl, hc⟩, (fun h => absurd h hc)⟩
    · exact (by repeat (first | with_reducible exact H1.out |  with_reducible refine blk_alloc ?_ _ | ((with_reducible refine blk_far ?_ ?_ _); rotate_left; (· first | (simp; omega) | omega))))
    · exact (by repeat (first | with_reducible exact HG1.out | with_reducible refine only_drew ?_ | with_reducible refine only_alloc ?_ _ | with_reducible refine only_setCell ?_ (.inl rfl) _ | ((with_reducible refine only_setCell ?_ (.inr ?_) _); rotate_left; (· first | exact Nat.le_refl _ | omega | (simp; done) | (simp; omega)))))
  | ok nq =>
    obtain ⟨n', q'⟩ := nq
    obtain ⟨rfl, rfl, rfl⟩ := ho
    have hq4 := HQ.out n' q' rfl
    by_cases h4 : n' ≤ 4096
    case neg =>
      have e := HR.out
      simp only [textK, if_neg h4] at e
      subst e
      have d1 : decide (4096 < n') = true := by simp; omega
      go_wp2_with fail
      refine bodyPost_ret (v := .agg #[.int .i64 0, .int .i64 0, .string ⟨#[]⟩, .slice none 0 0, .slice none 0 0]) (by simp only [results, Tryd.results49]; go_simp) rfl ⟨0, ⟨#[]⟩, q', 2, (by unfold I64; omega), (by unfold maxLen; decide), hq, rfl, ?_, ?_, ⟨rfl, by omega⟩, (fun h => absurd h (by omega))⟩
      · exact (by repeat (first | with_reducible exact H1.out | with_reducible exact rr_set3 H1.out _ | with_reducible refine blk_alloc ?_ _ | ((with_reducible refine blk_far ?_ ?_ _); rotate_left; (· first | (simp; omega) | omega))))
      · exact (by repeat (first | with_reducible exact HG1.out | with_reducible refine only_drew ?_ | with_reducible refine only_alloc ?_ _ | with_reducible refine only_setCell ?_ (.inl rfl) _ | ((with_reducible refine only_setCell ?_ (.inr ?_) _); rotate_left; (· first | exact Nat.le_refl _ | omega | (simp; done) | (simp; omega)))))
    have d1 : decide (4096 < n') = false := by simp; omega
    obtain ⟨m, hm⟩ : ∃ m : Nat, n' = m := Int.eq_ofNat_of_zero_le hq4.2.2.1
    subst hm
    go_wp2_with fail
    refine (Rbytes_any s rb q' bg m m rfl _ hs hq (by omega) H1.out).mono ?_
    have hR := HR.out
    simp only [textK, if_pos h4, Int.toNat_natCast] at hR
    obtain ⟨y, hy⟩ : ∃ y, takeS s q' m = y := ⟨_, rfl⟩
    rw [hy] at hR ⊢
    rintro e w2 ⟨t2, q2, c2, ht2, hq2, rfl, h2, g2, ho2⟩
    have H2 := Lib.hid h2
    have HB2 := Lib.hid (blk_only HB1.out g2 hne.symm)
    have HG2 := Lib.hid (only_trans HG1.out g2)
    have s2 : w1.heap.size ≤ w2.heap.size := g2.size
    clear ck cf cb fb h2 g2 H1 HB1 HG1
    have ck := blk_cell H2.out
    have cf := blk_free H2.out
    have cb := blk_cell HB2.out
    have fb := blk_free HB2.out
    have hnv : ¬ w.heap.size = w2.heap.size := by omega
    have hrb2 := blk_lt H2.out
    have lb2 := blk_lt HB2.out
    cases y with
    | error e0 =>
      obtain ⟨rfl, hc⟩ := ho2
      simp only at hR
      subst hR
      have d2 : (c2 == (0 : Int)) = false := beq_eq_false_iff_ne.2 hc
      go_wp2_with fail
      refine bodyPost_ret (v := .agg #[.int .i64 k, .int .i64 0, .string t2, .slice none 0 0, .slice none 0 0]) (by simp only [results, Tryd.results49]; go_simp) rfl ⟨k, t2, q2, c2, HK.out, ht2, hq2, rfl, ?_, ?_, ⟨rfl, hc⟩, (fun _ => rfl)⟩
      · exact (by repeat (first | with_reducible exact H2.out |  with_reducible refine blk_alloc ?_ _ | ((with_reducible refine blk_far ?_ ?_ _); rotate_left; (· first | (simp; omega) | omega))))
      · exact (by repeat (first | with_reducible exact HG2.out | with_reducible refine only_drew ?_ | with_reducible refine only_alloc ?_ _ | with_reducible refine only_setCell ?_ (.inl rfl) _ | ((with_reducible refine only_setCell ?_ (.inr ?_) _); rotate_left; (· first | exact Nat.le_refl _ | omega | (simp; done) | (simp; omega)))))
    | ok tq =>
      obtain ⟨t', q3⟩ := tq
      obtain ⟨rfl, rfl, rfl⟩ := ho2
      simp only at hR
      go_wp2_with fail
      refine (RValid_ok (.mk k 0 t' [] [] []) _ _ (leaf_rep _ k 0 t' HK.out (by unfold I64; omega) ht2)).mono ?_
      obtain ⟨vb, hvb⟩ : ∃ b, validB (.mk k 0 t' [] [] []) = b := ⟨_, rfl⟩
      rw [hvb] at hR ⊢
      clear hvb
      rintro e w3 ⟨rfl, h3⟩
      have H3 := Lib.hid (blk_ext (blk_alloc H2.out (.cells #[.int .i64 k, .int .i64 0, .string t', .slice none 0 0, .slice none 0 0] 32)) h3)
      have HB3 := Lib.hid (blk_ext (blk_alloc HB2.out (.cells #[.int .i64 k, .int .i64 0, .string t', .slice none 0 0, .slice none 0 0] 32)) h3)
      have HV3 := Lib.hid (blk_ext (blk_at0 w2 (.cells #[.int .i64 k, .int .i64 0, .string t', .slice none 0 0, .slice none 0 0] 32)) h3)
      have HG3 := Lib.hid (only_trans (only_alloc HG2.out (.cells #[.int .i64 k, .int .i64 0, .string t', .slice none 0 0, .slice none 0 0] 32)) (h3.only _))
      have s3 : w2.heap.size < w3.heap.size := by have := h3.size; simp at this; omega
      clear ck cf cb fb h3 H2 HB2 HG2
      have ck := blk_cell H3.out
      have cf := blk_free H3.out
      have cb := blk_cell HB3.out
      have fb := blk_free HB3.out
      have cv := blk_cell HV3.out
      have fv := blk_free HV3.out
      have hrb3 := blk_lt H3.out
      have lb3 := blk_lt HB3.out
      cases vb
      · simp only [Bool.false_eq_true, if_false] at hR
        subst hR
        go_wp2_with fail
        refine bodyPost_ret (v := .agg #[.int .i64 k, .int .i64 0, .string t', .slice none 0 0, .slice none 0 0]) (by simp only [results, Tryd.results49]; go_simp) rfl ⟨k, t', q3, 4, HK.out, ht2, hq2, rfl, ?_, ?_, ⟨rfl, by omega⟩, (fun _ => rfl)⟩
        · exact (by repeat (first | with_reducible exact H3.out | with_reducible exact rr_set3 H3.out _ | with_reducible refine blk_alloc ?_ _ | ((with_reducible refine blk_far ?_ ?_ _); rotate_left; (· first | (simp; omega) | omega))))
        · exact (by repeat (first | with_reducible exact HG3.out | with_reducible refine only_drew ?_ | with_reducible refine only_alloc ?_ _ | with_reducible refine only_setCell ?_ (.inl rfl) _ | ((with_reducible refine only_setCell ?_ (.inr ?_) _); rotate_left; (· first | exact Nat.le_refl _ | omega | (simp; done) | (simp; omega)))))
      · simp only [if_true] at hR
        subst hR
        go_wp2_with fail
        refine bodyPost_ret (v := .agg #[.int .i64 k, .int .i64 0, .string t', .slice none 0 0, .slice none 0 0]) (by simp only [results, Tryd.results49]; go_simp) rfl ⟨k, t', q3, 0, HK.out, ht2, hq2, rfl, ?_, ?_, ⟨rfl, rfl, rfl⟩, (fun _ => rfl)⟩
        · exact (by repeat (first | with_reducible exact H3.out |  with_reducible refine blk_alloc ?_ _ | ((with_reducible refine blk_far ?_ ?_ _); rotate_left; (· first | (simp; omega) | omega))))
        · exact (by repeat (first | with_reducible exact HG3.out | with_reducible refine only_drew ?_ | with_reducible refine only_alloc ?_ _ | with_reducible refine only_setCell ?_ (.inl rfl) _ | ((with_reducible refine only_setCell ?_ (.inr ?_) _); rotate_left; (· first | exact Nat.le_refl _ | omega | (simp; done) | (simp; omega)))))
end Go.Proofs.YtdoofmohoamkbaaDoor
set_option linter.unusedSimpArgs false
set_option linter.unusedVariables false
namespace Go.Proofs.YtdoofmohoamkbaaDoor
open Go.RowKit
/-- name, plain -/
def nameK (s : ByteArray) (ns : List ByteArray) : Except Int (Int × Nat) → Except Int (ByteArray × Nat)
  | .error e => .error e
  | .ok (n, q) => if n ≤ 32 then (match takeS s q n.toNat with
      | .error e => .error e
      | .ok (t, q2) => if nameB t && !hasL ns t then .ok (t, q2) else .error 4) else .error 4
def oneT (t : ByteArray) : Tr := .mk 5 0 ⟨#[]⟩ [] [t] [.mk 2 0 ⟨#[]⟩ [] [] []]
theorem oneT_valid (t : ByteArray) : validB (oneT t) = nameB t := by
  have e : (⟨#[]⟩ : ByteArray) = ByteArray.empty := rfl
  unfold oneT validB
  simp [e, snd, sndL, sndF, headOk, leafOk, hasN, Tr.cnt, Tr.cntL, Tr.dep, Tr.depL]
def oneC (t : ByteArray) : Obj := .cells #[.string t, .int .i64 2, .int .i64 0, .string ⟨#[]⟩, .slice none 0 0, .slice none 0 0] 60
theorem oneT_rep (w : World) (t : ByteArray) (ht : t.size ≤ maxLen) : VRep (w.alloc (.cells #[.string t, .int .i64 2, .int .i64 0, .string ⟨#[]⟩, .slice none 0 0, .slice none 0 0] 60)) (oneT t) (.agg #[.int .i64 5, .int .i64 0, .string ⟨#[]⟩, .slice none 0 0, .slice (some ⟨w.heap.size, 0, none⟩) 1 1]) := by
  unfold oneT VRep
  refine ⟨none, 0, some ⟨w.heap.size, 0, none⟩, 1, rfl, ⟨by unfold maxLen; decide, by unfold I64; omega, by unfold I64; omega⟩, ⟨Nat.le_refl _, by simp⟩, by unfold maxLen; omega, ⟨Nat.le_refl _, by simp⟩, by unfold maxLen; omega, rfl, by unfold LRep; trivial, ?_⟩
  unfold DRep
  have hc := blk_cell (blk_at0 w (.cells #[.string t, .int .i64 2, .int .i64 0, .string ⟨#[]⟩, .slice none 0 0, .slice none 0 0] 60))
  refine ⟨⟨w.heap.size, 0, .int .i64 2, .int .i64 0, .string ⟨#[]⟩, .slice none 0 0, .slice none 0 0, rfl, ht, ?_, ?_, ?_, ?_, ?_, ?_, leaf_rep _ 2 0 _ (by unfold I64; omega) (by unfold I64; omega) (by unfold maxLen; decide)⟩, by unfold DRep; trivial⟩
  all_goals (rw [hc]; rfl)
theorem hasN_snoc (l : List ByteArray) (n t : ByteArray) : hasN (l ++ [n]) t = (hasN l t || decide (n.data.toList = t.data.toList)) := by
  unfold hasN; simp
theorem hasL_eq (l : List ByteArray) (t : ByteArray) : hasL l t = hasN l t := by
  unfold hasL hasN; simp
theorem Same.ext {lo : Nat} {a w w' : World} (h : Same lo a w) (hs : a.heap.size ≤ w.heap.size) (k : Ext w w') : Same lo a w' := fun i hi hl => (k.below.block i (by omega)).trans (h i hi hl)
set_option maxRecDepth 20000 in
set_option maxHeartbeats 4000000 in
theorem Rname_ok (s : ByteArray) (rb p bg : Nat) (lo : Nat) (x : Value) (ns : List ByteArray) (ds : List Tr) (w : World) (hs : s.size ≤ 1000000000000000) (hp : p ≤ s.size) (hlo : rb < lo) (hlw : lo ≤ w.heap.size) (hA : FAcc lo w x ns ds) (hdl : ds.length ≤ 1024) (h : w.heap[rb]? = some (RrCells s p bg 0)) :
    Calls Tryd.prog 50 #[.pointer (some ⟨rb, 0, none⟩), x] w (RrB rb s bg w (nameK s ns (countLo 1 (numR s p)))) := by
  have hrb := blk_lt h
  have H := Lib.hid h
  have hln : ns.length = ds.length := by obtain ⟨cs, _, h2⟩ := hA; exact FCells.len _ _ _ h2
  obtain ⟨ax, cx, rfl⟩ := hA.shape
  have HA := Lib.hid hA
  clear h hA
  obtain ⟨x, hx⟩ : ∃ x, countLo 1 (numR s p) = x := ⟨_, rfl⟩
  obtain ⟨r, hr⟩ : ∃ r, nameK s ns x = r := ⟨_, rfl⟩
  have HQ := Lib.hid (fun n q (he : x = .ok (n, q)) => (show 1 ≤ n ∧ q ≤ s.size from by
    have h1 := hx.trans he
    cases hn : numR s p with
    | error e => rw [hn] at h1; cases h1
    | ok y =>
      obtain ⟨n', q'⟩ := y
      rw [hn] at h1
      simp only [countLo] at h1
      split at h1
      · injection h1 with h1; injection h1 with e1 e2; subst e1 e2; exact ⟨by omega, (numR_le hp hn).2⟩
      · cases h1))
  rw [hx, hr]
  have HX := Lib.hid hx
  have HR := Lib.hid hr
  clear hx hr
  go_enter Tryd.func50, Tryd.ntmps50
  go_wp2_with fail
  refine (Rcount1_any s rb p bg _ hs hp H.out).mono ?_
  rw [HX.out]
  rintro e w1 ⟨n, q, c, hn, hq, rfl, h1, g1, ho⟩
  have ck := blk_cell h1
  have cf := blk_free h1
  have hrb1 := blk_lt h1
  have H1 := Lib.hid h1
  have HG1 := Lib.hid g1
  have HA1 := Lib.hid (HA.out.keep (Same.only (Same.refl _ w) (Nat.le_refl _) g1 hlo))
  have s1 : w.heap.size ≤ w1.heap.size := g1.size
  clear h1 g1
  cases x with
  | error e0 =>
    obtain ⟨rfl, hc⟩ := ho
    have e := HR.out
    simp only [nameK] at e
    subst e
    have d1 : (c == (0 : Int)) = false := beq_eq_false_iff_ne.2 hc
    have d2 : (c != (0 : Int)) = true := by simp [hc]
    go_wp2_with fail
    go_ret
    exact ⟨_, q, c, by unfold maxLen; decide, hq, rfl, H1.out, HG1.out, rfl, hc⟩
  | ok nq =>
    obtain ⟨n', q'⟩ := nq
    obtain ⟨rfl, rfl, rfl⟩ := ho
    have hq4 := HQ.out n' q' rfl
    by_cases h4 : n' ≤ 32
    case neg =>
      have e := HR.out
      simp only [nameK, if_neg h4] at e
      subst e
      have d1 : decide (32 < n') = true := by simp; omega
      go_wp2_with fail
      go_ret
      exact ⟨_, q', 4, by unfold maxLen; decide, hq, rfl, rr_set3 H1.out _, only_setCell HG1.out (.inl rfl) _, rfl, by omega⟩
    have d1 : decide (32 < n') = false := by simp; omega
    obtain ⟨m, hm⟩ : ∃ m : Nat, n' = m := Int.eq_ofNat_of_zero_le (by omega)
    subst hm
    go_wp2_with fail
    refine (Rbytes_any s rb q' bg m m rfl _ hs hq (by omega) H1.out).mono ?_
    have hR := HR.out
    simp only [nameK, if_pos h4, Int.toNat_natCast] at hR
    obtain ⟨y, hy⟩ : ∃ y, takeS s q' m = y := ⟨_, rfl⟩
    rw [hy] at hR ⊢
    rintro e w2 ⟨t2, q2, c2, ht2, hq2, rfl, h2, g2, ho2⟩
    have H2 := Lib.hid h2
    have HG2 := Lib.hid (only_trans HG1.out g2)
    have HA2 := Lib.hid (HA1.out.keep (Same.only (Same.refl _ w1) (Nat.le_refl _) g2 hlo))
    have s2 : w1.heap.size ≤ w2.heap.size := g2.size
    clear ck cf h2 g2 H1 HA1 HG1
    have ck := blk_cell H2.out
    have cf := blk_free H2.out
    have hrb2 := blk_lt H2.out
    cases y with
    | error e0 =>
      obtain ⟨rfl, hc⟩ := ho2
      simp only at hR
      subst hR
      have d2 : (c2 != (0 : Int)) = true := by simp [hc]
      go_wp2_with fail
      go_ret
      exact ⟨_, q2, c2, by unfold maxLen; decide, hq2, rfl, H2.out, HG2.out, rfl, hc⟩
    | ok tq =>
      obtain ⟨t', q3⟩ := tq
      obtain ⟨rfl, rfl, rfl⟩ := ho2
      simp only at hR
      have HR2 := Lib.hid hR
      clear hR
      go_wp2_with fail
      refine (RValid_ok (oneT t') _ _ (oneT_rep w2 t' ht2)).mono ?_
      rw [oneT_valid]
      obtain ⟨nb, hnb⟩ : ∃ b, nameB t' = b := ⟨_, rfl⟩
      rw [hnb] at HR2 ⊢
      clear hnb
      rintro e w3 ⟨rfl, h3⟩
      have H3 := Lib.hid (blk_ext (blk_alloc H2.out (.cells #[.string t', .int .i64 2, .int .i64 0, .string ⟨#[]⟩, .slice none 0 0, .slice none 0 0] 60)) h3)
      have HG3 := Lib.hid (only_trans (only_alloc HG2.out (.cells #[.string t', .int .i64 2, .int .i64 0, .string ⟨#[]⟩, .slice none 0 0, .slice none 0 0] 60)) (h3.only _))
      have HA3 := Lib.hid (HA2.out.keep (Same.ext ((Same.refl _ w2).alloc (Nat.le_refl _) (.cells #[.string t', .int .i64 2, .int .i64 0, .string ⟨#[]⟩, .slice none 0 0, .slice none 0 0] 60)) (by simp) h3))
      have s3 : w2.heap.size < w3.heap.size := by have := h3.size; simp at this; omega
      clear ck cf h3 H2 HA2 HG2
      have ck := blk_cell H3.out
      have cf := blk_free H3.out
      have hrb3 := blk_lt H3.out
      cases nb
      · have H4 : Hid ((w3.setCell ⟨rb, 3, none⟩ (.int .i64 4)).heap[rb]? = some (RrCells s q3 bg 4)) := rr_set3 H3.out _
        have HG4 : Hid (w.grownBy (w3.setCell ⟨rb, 3, none⟩ (.int .i64 4)) (some rb)) := only_setCell HG3.out (.inl rfl) _
        have HA4 : Hid (FAcc lo (w3.setCell ⟨rb, 3, none⟩ (.int .i64 4)) (.slice ax ds.length cx) ns ds) := HA3.out.keep (Same.setCell (Same.refl _ _) (by simpa using hlo) _)
        have S4 : w3.heap.size ≤ (w3.setCell ⟨rb, 3, none⟩ (.int .i64 4)).heap.size := by simp [World.setCell]
        go_wp2_with fail
        go_loopw [7] (fun c wr => ∃ (j : Nat) (cc : Int), j ≤ ds.length ∧ c = .int .i64 j ∧ Hid (wr.heap[rb]? = some (RrCells s q3 bg cc)) ∧ Hid (w.grownBy wr (some rb)) ∧ Hid (FAcc lo wr (.slice ax ds.length cx) ns ds) ∧ w3.heap.size ≤ wr.heap.size ∧ Hid (cc = if false && !hasN (ns.take j) t' then 0 else 4)) (fun c _ => ds.length - (intOf c).toNat)
        case atStart => exact ⟨0, _, by omega, rfl, H4, HG4, HA4, S4, Lib.hid (by simp [hasN])⟩
        case round =>
          clear ck cf H4 HG4 HA4
          obtain ⟨j, cc, hj, rfl, Hr, HGr, HAr, hsr, HC⟩ := hrel
          have ck := blk_cell Hr.out
          have cf := blk_free Hr.out
          have hrbr := blk_lt Hr.out
          by_cases hlt : j < ds.length
          · obtain ⟨a', c', ha', _, _, hd⟩ := HAr.out.drep (Nat.le_refl _)
            injection ha' with ha1 ha2 ha3
            subst ha1
            obtain ⟨b, off, c0, c1, c2, c3, c4, rfl, hnm, en, _⟩ := DRep.at_ ns ds 0 j (ns[j]'(by omega)) ds[j] hd (List.getElem?_eq_getElem (by omega)) (List.getElem?_eq_getElem hlt)
            have qn := (win_some en).2
            rw [Nat.zero_add] at qn
            have htk : ns.take (j + 1) = ns.take j ++ [ns[j]'(by omega)] := by rw [List.take_succ_eq_append_getElem (by omega)]
            have hsn : hasN (ns.take (j + 1)) t' = (hasN (ns.take j) t' || decide ((ns[j]'(by omega)).data.toList = t'.data.toList)) := by rw [htk, hasN_snoc]
            obtain ⟨nm, hnm2⟩ : ∃ n, ns[j]'(by omega) = n := ⟨_, rfl⟩
            rw [hnm2] at qn hsn
            have HSN := Lib.hid hsn
            clear en hd hnm hnm2 hsn htk
            by_cases hq : nm.data.toList = t'.data.toList
            · have d : (nm.toList == t'.toList) = true := by rw [bytes_inj hq]; simp
              have HQ2 := Lib.hid hq
              clear hq
              go_wp2_with fail
              exact ⟨⟨j + 1, 4, by omega, by go_num, rr_set3 Hr.out _, only_setCell HGr.out (.inl rfl) _, HAr.out.keep (Same.setCell (Same.refl _ _) (by simpa using hlo) _), by simp [World.setCell]; omega, Lib.hid (by rw [HSN.out, HQ2.out]; simp)⟩, by simp [intOf]; omega⟩
            · have d : (nm.toList == t'.toList) = false := str_ne (fun e => hq (by rw [e]))
              have HQ2 := Lib.hid hq
              clear hq
              go_wp2_with fail
              exact ⟨⟨j + 1, cc, by omega, by go_num, Hr, HGr, HAr, hsr, Lib.hid (by rw [HSN.out, decide_eq_false HQ2.out, Bool.or_false]; exact HC.out)⟩, by simp [intOf]; omega⟩
          · have hj2 : j = ds.length := by omega
            subst hj2
            have hC := HC.out
            rw [List.take_of_length_le (by omega)] at hC
            have hR := HR2.out
            rw [hasL_eq] at hR
            go_wp2_with fail
            go_ret
            refine ⟨t', q3, cc, ht2, hq2, rfl, Hr.out, HGr.out, ?_⟩
            rw [← hR]
            cases hh : hasN ns t' <;> (rw [hh] at hC; simp at hC; subst hC; simp [Out])
      · have H4 : Hid (w3.heap[rb]? = some (RrCells s q3 bg 0)) := H3.out
        have HG4 : Hid (w.grownBy w3 (some rb)) := HG3.out
        have HA4 : Hid (FAcc lo w3 (.slice ax ds.length cx) ns ds) := HA3.out
        have S4 : w3.heap.size ≤ w3.heap.size := by exact Nat.le_refl _
        go_wp2_with fail
        go_loopw [7] (fun c wr => ∃ (j : Nat) (cc : Int), j ≤ ds.length ∧ c = .int .i64 j ∧ Hid (wr.heap[rb]? = some (RrCells s q3 bg cc)) ∧ Hid (w.grownBy wr (some rb)) ∧ Hid (FAcc lo wr (.slice ax ds.length cx) ns ds) ∧ w3.heap.size ≤ wr.heap.size ∧ Hid (cc = if true && !hasN (ns.take j) t' then 0 else 4)) (fun c _ => ds.length - (intOf c).toNat)
        case atStart => exact ⟨0, _, by omega, rfl, H4, HG4, HA4, S4, Lib.hid (by simp [hasN])⟩
        case round =>
          clear ck cf H4 HG4 HA4
          obtain ⟨j, cc, hj, rfl, Hr, HGr, HAr, hsr, HC⟩ := hrel
          have ck := blk_cell Hr.out
          have cf := blk_free Hr.out
          have hrbr := blk_lt Hr.out
          by_cases hlt : j < ds.length
          · obtain ⟨a', c', ha', _, _, hd⟩ := HAr.out.drep (Nat.le_refl _)
            injection ha' with ha1 ha2 ha3
            subst ha1
            obtain ⟨b, off, c0, c1, c2, c3, c4, rfl, hnm, en, _⟩ := DRep.at_ ns ds 0 j (ns[j]'(by omega)) ds[j] hd (List.getElem?_eq_getElem (by omega)) (List.getElem?_eq_getElem hlt)
            have qn := (win_some en).2
            rw [Nat.zero_add] at qn
            have htk : ns.take (j + 1) = ns.take j ++ [ns[j]'(by omega)] := by rw [List.take_succ_eq_append_getElem (by omega)]
            have hsn : hasN (ns.take (j + 1)) t' = (hasN (ns.take j) t' || decide ((ns[j]'(by omega)).data.toList = t'.data.toList)) := by rw [htk, hasN_snoc]
            obtain ⟨nm, hnm2⟩ : ∃ n, ns[j]'(by omega) = n := ⟨_, rfl⟩
            rw [hnm2] at qn hsn
            have HSN := Lib.hid hsn
            clear en hd hnm hnm2 hsn htk
            by_cases hq : nm.data.toList = t'.data.toList
            · have d : (nm.toList == t'.toList) = true := by rw [bytes_inj hq]; simp
              have HQ2 := Lib.hid hq
              clear hq
              go_wp2_with fail
              exact ⟨⟨j + 1, 4, by omega, by go_num, rr_set3 Hr.out _, only_setCell HGr.out (.inl rfl) _, HAr.out.keep (Same.setCell (Same.refl _ _) (by simpa using hlo) _), by simp [World.setCell]; omega, Lib.hid (by rw [HSN.out, HQ2.out]; simp)⟩, by simp [intOf]; omega⟩
            · have d : (nm.toList == t'.toList) = false := str_ne (fun e => hq (by rw [e]))
              have HQ2 := Lib.hid hq
              clear hq
              go_wp2_with fail
              exact ⟨⟨j + 1, cc, by omega, by go_num, Hr, HGr, HAr, hsr, Lib.hid (by rw [HSN.out, decide_eq_false HQ2.out, Bool.or_false]; exact HC.out)⟩, by simp [intOf]; omega⟩
          · have hj2 : j = ds.length := by omega
            subst hj2
            have hC := HC.out
            rw [List.take_of_length_le (by omega)] at hC
            have hR := HR2.out
            rw [hasL_eq] at hR
            go_wp2_with fail
            go_ret
            refine ⟨t', q3, cc, ht2, hq2, rfl, Hr.out, HGr.out, ?_⟩
            rw [← hR]
            cases hh : hasN ns t' <;> (rw [hh] at hC; simp at hC; subst hC; simp [Out])
end Go.Proofs.YtdoofmohoamkbaaDoor
set_option linter.unusedSimpArgs false
set_option linter.unusedVariables false
namespace Go.Proofs.YtdoofmohoamkbaaDoor
open Go.RowKit
def OutV (x : Except Int (Tr × Nat × Nat)) (t : Tr) (q b : Nat) (c : Int) : Prop :=
  match x with
  | .ok y => y = (t, q, b) ∧ c = 0
  | .error e => c = e ∧ c ≠ 0
def RvPost (rb : Nat) (s : ByteArray) (w : World) (x : Except Int (Tr × Nat × Nat)) (e : Ending) (w' : World) : Prop :=
  ∃ (t : Tr) (v : Value) (q b : Nat) (c : Int), e = .returned v ∧ VNew w.heap.size w'.heap.size w' t v ∧ q ≤ s.size ∧ b ≤ 1024 ∧ w'.heap[rb]? = some (RrCells s q b c) ∧ w.grownBy w' (some rb) ∧ OutV x t q b c
def RvOk (s : ByteArray) (d : Nat) : Prop := ∀ (rb p bg : Nat) (lv : Int) (w : World), lv = 17 - d → p ≤ s.size → bg ≤ 1024 → w.heap[rb]? = some (RrCells s p bg 0) →
  Calls Tryd.prog 29 #[.pointer (some ⟨rb, 0, none⟩), .int .i64 lv] w (RvPost rb s w (rdT s d p bg))
theorem out_leafI {k bg : Nat} {x : Except Int (Int × Nat)} {n : Int} {q : Nat} {c : Int} (h : Out x n q c) : OutV (leafI k bg x) (leafT k n ⟨#[]⟩) q (bg + 1) c := by
  cases x with
  | error e => exact h
  | ok y => obtain ⟨n', q'⟩ := y; obtain ⟨rfl, rfl, rfl⟩ := h; exact ⟨rfl, rfl⟩
theorem out_leafS {k bg : Nat} {x : Except Int (ByteArray × Nat)} {n : ByteArray} {q : Nat} {c : Int} (h : Out x n q c) : OutV (leafS k bg x) (leafT k 0 n) q (bg + 1) c := by
  cases x with
  | error e => exact h
  | ok y => obtain ⟨n', q'⟩ := y; obtain ⟨rfl, rfl, rfl⟩ := h; exact ⟨rfl, rfl⟩
theorem valid_text (t : ByteArray) (h : t.size ≤ 4096) : validB (.mk 4 0 t [] [] []) = utf8B t := by
  unfold validB
  simp [snd, sndL, sndF, headOk, leafOk, Tr.cnt, Tr.dep, h]
theorem valid_bytes (t : ByteArray) (h : t.size ≤ 4096) : validB (.mk 7 0 t [] [] []) = true := by
  unfold validB
  simp [snd, sndL, sndF, headOk, leafOk, Tr.cnt, Tr.dep, h]
theorem out_text {s : ByteArray} {p bg : Nat} {k' : Int} {t : ByteArray} {q : Nat} {c : Int} (hp : p ≤ s.size) (h : Out (textK s 4 (countR s p)) t q c) (hk : c = 0 → k' = 4) : OutV (leafU bg (textS s p)) (.mk k' 0 t [] [] []) q (bg + 1) c := by
  unfold textS
  cases hn : countR s p with
  | error e => rw [hn] at h; exact h
  | ok y =>
    obtain ⟨n, q'⟩ := y
    rw [hn] at h
    have h3 := countR_le hp hn
    simp only [textK, textF] at h ⊢
    by_cases h4 : n ≤ 4096
    · rw [if_pos h4] at h ⊢
      cases ht : takeS s q' n.toNat with
      | error e => rw [ht] at h; exact h
      | ok z =>
        obtain ⟨t', q2⟩ := z
        rw [ht] at h
        have h5 := takeS_le h3.2.1 ht
        simp only [leafU] at h ⊢
        rw [valid_text t' (by omega)] at h
        cases hu : utf8B t'
        · rw [hu] at h; simp only [Bool.false_eq_true, if_false] at h ⊢; exact h
        · rw [hu] at h; simp only [if_true] at h ⊢
          obtain ⟨rfl, rfl, rfl⟩ := h
          rw [hk rfl]; exact ⟨rfl, rfl⟩
    · rw [if_neg h4] at h ⊢; exact h
theorem out_bytes {s : ByteArray} {p bg : Nat} {k' : Int} {t : ByteArray} {q : Nat} {c : Int} (hp : p ≤ s.size) (h : Out (textK s 7 (countR s p)) t q c) (hk : c = 0 → k' = 7) : OutV (leafS 7 bg (textS s p)) (.mk k' 0 t [] [] []) q (bg + 1) c := by
  unfold textS
  cases hn : countR s p with
  | error e => rw [hn] at h; exact h
  | ok y =>
    obtain ⟨n, q'⟩ := y
    rw [hn] at h
    have h3 := countR_le hp hn
    simp only [textK, textF] at h ⊢
    by_cases h4 : n ≤ 4096
    · rw [if_pos h4] at h ⊢
      cases ht : takeS s q' n.toNat with
      | error e => rw [ht] at h; exact h
      | ok z =>
        obtain ⟨t', q2⟩ := z
        rw [ht] at h
        have h5 := takeS_le h3.2.1 ht
        simp only [leafS] at h ⊢
        rw [valid_bytes t' (by omega), if_pos rfl] at h
        obtain ⟨rfl, rfl, rfl⟩ := h
        rw [hk rfl]; exact ⟨rfl, rfl⟩
    · rw [if_neg h4] at h ⊢; exact h
set_option maxRecDepth 20000 in
set_option maxHeartbeats 2000000 in
theorem rv_zero (s : ByteArray) (rb p bg : Nat) (w : World) (hp : p ≤ s.size) (hbg : bg ≤ 1024) (h : w.heap[rb]? = some (RrCells s p bg 0)) :
    Calls Tryd.prog 29 #[.pointer (some ⟨rb, 0, none⟩), .int .i64 17] w (RvPost rb s w (.error 2)) := by
  have ck := blk_cell h
  have cf := blk_free h
  have hrb := blk_lt h
  have hne : rb ≠ w.heap.size := by omega
  have H := Lib.hid h
  clear h
  go_enter Tryd.func29, Tryd.ntmps29
  go_wp2_with fail
  refine bodyPost_ret (v := .agg #[.int .i64 0, .int .i64 0, .string ⟨#[]⟩, .slice none 0 0, .slice none 0 0]) (by simp only [results, Tryd.results29]; go_simp) rfl ⟨_, _, p, bg, 2, rfl, VNew.leaf _ _ _ _ _ _ (by first | assumption | (unfold I64; omega)) (by first | assumption | (unfold I64; omega)) (by first | assumption | (unfold maxLen; decide)), hp, hbg, ?_, ?_, ⟨rfl, by omega⟩⟩
  · exact (by repeat (first | with_reducible exact rr_set3 H.out _ |  with_reducible refine blk_alloc ?_ _ | ((with_reducible refine blk_far ?_ ?_ _); rotate_left; (· first | (simp; omega) | omega))))
  · exact (by repeat (first | with_reducible exact World.grownBy.refl _ _ | with_reducible refine only_drew ?_ | with_reducible refine only_alloc ?_ _ | with_reducible refine only_setCell ?_ (.inl rfl) _ | ((with_reducible refine only_setCell ?_ (.inr ?_) _); rotate_left; (· first | exact Nat.le_refl _ | omega | (simp; done) | (simp; omega)))))
set_option maxRecDepth 20000 in
set_option maxHeartbeats 2000000 in
theorem rv_many (s : ByteArray) (d rb p bg : Nat) (lv : Int) (w : World) (hs : s.size ≤ 1000000000000000) (hlv : lv = 16 - d) (hd : d ≤ 16) (hp : p ≤ s.size) (hbg : bg ≤ 1024) (h : w.heap[rb]? = some (RrCells s p bg 0)) (hb : 1024 ≤ bg) :
    Calls Tryd.prog 29 #[.pointer (some ⟨rb, 0, none⟩), .int .i64 lv] w (RvPost rb s w (.error 2)) := by
  have ck := blk_cell h
  have cf := blk_free h
  have hrb := blk_lt h
  have H := Lib.hid h
  have hne : rb ≠ w.heap.size := by omega
  have d0 : decide (16 < lv) = false := by simp; omega
  have d1 : decide (1024 ≤ (bg : Int)) = true := by simp; omega
  have HLV := Lib.hid hlv
  have hlv1 : 0 ≤ lv ∧ lv ≤ 16 := by omega
  clear hlv h
  go_enter Tryd.func29, Tryd.ntmps29
  go_wp2_with fail
  refine bodyPost_ret (v := .agg #[.int .i64 0, .int .i64 0, .string ⟨#[]⟩, .slice none 0 0, .slice none 0 0]) (by simp only [results, Tryd.results29]; go_simp) rfl ⟨_, _, p, bg, 2, rfl, VNew.leaf _ _ _ _ _ _ (by first | assumption | (unfold I64; omega)) (by first | assumption | (unfold I64; omega)) (by first | assumption | (unfold maxLen; decide)), hp, hbg, ?_, ?_, ⟨rfl, by omega⟩⟩
  · exact (by repeat (first | with_reducible exact rr_set3 H.out _ |  with_reducible refine blk_alloc ?_ _ | ((with_reducible refine blk_far ?_ ?_ _); rotate_left; (· first | (simp; omega) | omega))))
  · exact (by repeat (first | with_reducible exact World.grownBy.refl _ _ | with_reducible refine only_drew ?_ | with_reducible refine only_alloc ?_ _ | with_reducible refine only_setCell ?_ (.inl rfl) _ | ((with_reducible refine only_setCell ?_ (.inr ?_) _); rotate_left; (· first | exact Nat.le_refl _ | omega | (simp; done) | (simp; omega)))))
set_option maxRecDepth 20000 in
set_option maxHeartbeats 2000000 in
theorem rv_short (s : ByteArray) (d rb p bg : Nat) (lv : Int) (w : World) (hs : s.size ≤ 1000000000000000) (hlv : lv = 16 - d) (hd : d ≤ 16) (hp : p ≤ s.size) (hbg : bg ≤ 1024) (h : w.heap[rb]? = some (RrCells s p bg 0)) (hb : bg < 1024) (hps : p = s.size) :
    Calls Tryd.prog 29 #[.pointer (some ⟨rb, 0, none⟩), .int .i64 lv] w (RvPost rb s w (.error 5)) := by
  have ck := blk_cell h
  have cf := blk_free h
  have hrb := blk_lt h
  have H := Lib.hid h
  have hne : rb ≠ w.heap.size := by omega
  have d0 : decide (16 < lv) = false := by simp; omega
  have d1 : decide (1024 ≤ (bg : Int)) = false := by simp; omega
  have HLV := Lib.hid hlv
  have hlv1 : 0 ≤ lv ∧ lv ≤ 16 := by omega
  clear hlv h
  go_enter Tryd.func29, Tryd.ntmps29
  go_wp2_with fail
  have HB2 := Lib.hid (blk_alloc (rr_set2 H.out ((bg : Int) + 1) (bg' := bg + 1) (by omega)) (.cells #[.int .i64 0, .int .i64 0, .string ⟨#[]⟩, .slice none 0 0, .slice none 0 0] 32))
  have HG2 : Hid (w.grownBy ((w.setCell ⟨rb, 2, none⟩ (.int .i64 ((bg : Int) + 1))).alloc (.cells #[.int .i64 0, .int .i64 0, .string ⟨#[]⟩, .slice none 0 0, .slice none 0 0] 32)) (some rb)) := only_alloc (only_setCell (World.grownBy.refl _ _) (.inl rfl) _) _
  have HA2 : Hid (((w.setCell ⟨rb, 2, none⟩ (.int .i64 ((bg : Int) + 1))).alloc (.cells #[.int .i64 0, .int .i64 0, .string ⟨#[]⟩, .slice none 0 0, .slice none 0 0] 32)).heap[w.heap.size]? = some (.cells #[.int .i64 0, .int .i64 0, .string ⟨#[]⟩, .slice none 0 0, .slice none 0 0] 32 (0, 0))) := by
    have := blk_at0 (w.setCell ⟨rb, 2, none⟩ (.int .i64 ((bg : Int) + 1))) (.cells #[.int .i64 0, .int .i64 0, .string ⟨#[]⟩, .slice none 0 0, .slice none 0 0] 32)
    rw [size_setCell] at this; exact this
  clear ck cf
  refine (Rbytes_any s rb p (bg + 1) 1 1 rfl _ hs hp (by omega) HB2.out).mono ?_
  rw [show takeS s p 1 = .error 5 by unfold takeS; rw [if_neg (by omega)]]
  rintro e w3 ⟨t1, q1, c1, ht1, hq1, rfl, hb3, g3, ho⟩
  obtain ⟨rfl, hc⟩ := ho
  clear hc
  have HB3 := Lib.hid hb3
  have HG3 := Lib.hid (only_trans HG2.out g3)
  have HA3 := Lib.hid (blk_only HA2.out g3 hne.symm)
  have s3 : w.heap.size < w3.heap.size := by have := g3.size; simp [World.setCell] at this; omega
  have r3 : rb < w3.heap.size := by omega
  clear hb3 g3 HB2 HG2 HA2 H
  have ck := blk_cell HB3.out
  have cf := blk_free HB3.out
  have ca := blk_cell HA3.out
  have fa := blk_free HA3.out
  go_wp2_with fail
  refine bodyPost_ret (v := .agg #[.int .i64 0, .int .i64 0, .string ⟨#[]⟩, .slice none 0 0, .slice none 0 0]) (by simp only [results, Tryd.results29]; go_simp) rfl ⟨_, _, q1, (bg + 1), 5, rfl, VNew.leaf _ _ _ _ _ _ (by first | assumption | (unfold I64; omega)) (by first | assumption | (unfold I64; omega)) (by first | assumption | (unfold maxLen; decide)), hq1, (by omega), ?_, ?_, ⟨rfl, by omega⟩⟩
  · exact (by repeat (first | with_reducible exact HB3.out |  with_reducible refine blk_alloc ?_ _ | ((with_reducible refine blk_far ?_ ?_ _); rotate_left; (· first | (simp; omega) | omega))))
  · exact (by repeat (first | with_reducible exact HG3.out | with_reducible refine only_drew ?_ | with_reducible refine only_alloc ?_ _ | with_reducible refine only_setCell ?_ (.inl rfl) _ | ((with_reducible refine only_setCell ?_ (.inr ?_) _); rotate_left; (· first | exact Nat.le_refl _ | omega | (simp; done) | (simp; omega)))))
set_option maxRecDepth 20000 in
set_option maxHeartbeats 2000000 in
theorem rv_k1 (s : ByteArray) (d rb p bg : Nat) (lv : Int) (w : World) (hs : s.size ≤ 1000000000000000) (hlv : lv = 16 - d) (hd : d ≤ 16) (hp : p ≤ s.size) (hbg : bg ≤ 1024) (h : w.heap[rb]? = some (RrCells s p bg 0)) (hb : bg < 1024) (hlt : p < s.size) (hk : byteN s p = 1) :
    Calls Tryd.prog 29 #[.pointer (some ⟨rb, 0, none⟩), .int .i64 lv] w (RvPost rb s w (.ok (leafT 1 0 ⟨#[]⟩, p + 1, bg + 1))) := by
  have ck := blk_cell h
  have cf := blk_free h
  have hrb := blk_lt h
  have H := Lib.hid h
  have hne : rb ≠ w.heap.size := by omega
  have d0 : decide (16 < lv) = false := by simp; omega
  have d1 : decide (1024 ≤ (bg : Int)) = false := by simp; omega
  have HLV := Lib.hid hlv
  have hlv1 : 0 ≤ lv ∧ lv ≤ 16 := by omega
  clear hlv h
  go_enter Tryd.func29, Tryd.ntmps29
  go_wp2_with fail
  have HB2 := Lib.hid (blk_alloc (rr_set2 H.out ((bg : Int) + 1) (bg' := bg + 1) (by omega)) (.cells #[.int .i64 0, .int .i64 0, .string ⟨#[]⟩, .slice none 0 0, .slice none 0 0] 32))
  have HG2 : Hid (w.grownBy ((w.setCell ⟨rb, 2, none⟩ (.int .i64 ((bg : Int) + 1))).alloc (.cells #[.int .i64 0, .int .i64 0, .string ⟨#[]⟩, .slice none 0 0, .slice none 0 0] 32)) (some rb)) := only_alloc (only_setCell (World.grownBy.refl _ _) (.inl rfl) _) _
  have HA2 : Hid (((w.setCell ⟨rb, 2, none⟩ (.int .i64 ((bg : Int) + 1))).alloc (.cells #[.int .i64 0, .int .i64 0, .string ⟨#[]⟩, .slice none 0 0, .slice none 0 0] 32)).heap[w.heap.size]? = some (.cells #[.int .i64 0, .int .i64 0, .string ⟨#[]⟩, .slice none 0 0, .slice none 0 0] 32 (0, 0))) := by
    have := blk_at0 (w.setCell ⟨rb, 2, none⟩ (.int .i64 ((bg : Int) + 1))) (.cells #[.int .i64 0, .int .i64 0, .string ⟨#[]⟩, .slice none 0 0, .slice none 0 0] 32)
    rw [size_setCell] at this; exact this
  clear ck cf
  refine (Rbytes_any s rb p (bg + 1) 1 1 rfl _ hs hp (by omega) HB2.out).mono ?_
  rw [show takeS s p 1 = .ok (s.extract p (p + 1), p + 1) by unfold takeS; rw [if_pos (by omega)]]
  rintro e w3 ⟨t1, q1, c1, ht1, hq1, rfl, hb3, g3, ho⟩
  obtain ⟨rfl, rfl, rfl⟩ := ho
  clear ht1 hq1
  obtain ⟨t1, ht1, hz1, hz0, hzb⟩ := byte_ext s p hlt
  rw [ht1]
  rw [hk] at hzb
  clear ht1
  have HB3 := Lib.hid hb3
  have HG3 := Lib.hid (only_trans HG2.out g3)
  have HA3 := Lib.hid (blk_only HA2.out g3 hne.symm)
  have s3 : w.heap.size < w3.heap.size := by have := g3.size; simp [World.setCell] at this; omega
  have r3 : rb < w3.heap.size := by omega
  clear hb3 g3 HB2 HG2 HA2 H
  have ck := blk_cell HB3.out
  have cf := blk_free HB3.out
  have ca := blk_cell HA3.out
  have fa := blk_free HA3.out
  have HVB := Lib.hid (blk_at0 w3 (.cells #[.int .i64 1, .int .i64 0, .string ⟨#[]⟩, .slice none 0 0, .slice none 0 0] 32))
  have HG4 : Hid (w.grownBy (w3.alloc (.cells #[.int .i64 1, .int .i64 0, .string ⟨#[]⟩, .slice none 0 0, .slice none 0 0] 32)) (some rb)) := only_alloc HG3.out _
  go_wp2_with fail
  refine bodyPost_ret (v := .agg #[.int .i64 1, .int .i64 0, .string ⟨#[]⟩, .slice none 0 0, .slice none 0 0]) (by simp only [results, Tryd.results29]; go_simp) rfl ⟨_, _, (p + 1), (bg + 1), 0, rfl, VNew.leaf _ _ _ _ _ _ (by first | assumption | (unfold I64; omega)) (by first | assumption | (unfold I64; omega)) (by first | assumption | (unfold maxLen; decide)), (by omega), (by omega), ?_, ?_, ⟨rfl, rfl⟩⟩
  · exact (by repeat (first | with_reducible exact HB3.out |  with_reducible refine blk_alloc ?_ _ | ((with_reducible refine blk_far ?_ ?_ _); rotate_left; (· first | (simp; omega) | omega))))
  · exact (by repeat (first | with_reducible exact HG3.out | with_reducible refine only_drew ?_ | with_reducible refine only_alloc ?_ _ | with_reducible refine only_setCell ?_ (.inl rfl) _ | ((with_reducible refine only_setCell ?_ (.inr ?_) _); rotate_left; (· first | exact Nat.le_refl _ | omega | (simp; done) | (simp; omega)))))
set_option maxRecDepth 20000 in
set_option maxHeartbeats 2000000 in
theorem rv_k2 (s : ByteArray) (d rb p bg : Nat) (lv : Int) (w : World) (hs : s.size ≤ 1000000000000000) (hlv : lv = 16 - d) (hd : d ≤ 16) (hp : p ≤ s.size) (hbg : bg ≤ 1024) (h : w.heap[rb]? = some (RrCells s p bg 0)) (hb : bg < 1024) (hlt : p < s.size) (hk : byteN s p = 2) :
    Calls Tryd.prog 29 #[.pointer (some ⟨rb, 0, none⟩), .int .i64 lv] w (RvPost rb s w (.ok (leafT 2 0 ⟨#[]⟩, p + 1, bg + 1))) := by
  have ck := blk_cell h
  have cf := blk_free h
  have hrb := blk_lt h
  have H := Lib.hid h
  have hne : rb ≠ w.heap.size := by omega
  have d0 : decide (16 < lv) = false := by simp; omega
  have d1 : decide (1024 ≤ (bg : Int)) = false := by simp; omega
  have HLV := Lib.hid hlv
  have hlv1 : 0 ≤ lv ∧ lv ≤ 16 := by omega
  clear hlv h
  go_enter Tryd.func29, Tryd.ntmps29
  go_wp2_with fail
  have HB2 := Lib.hid (blk_alloc (rr_set2 H.out ((bg : Int) + 1) (bg' := bg + 1) (by omega)) (.cells #[.int .i64 0, .int .i64 0, .string ⟨#[]⟩, .slice none 0 0, .slice none 0 0] 32))
  have HG2 : Hid (w.grownBy ((w.setCell ⟨rb, 2, none⟩ (.int .i64 ((bg : Int) + 1))).alloc (.cells #[.int .i64 0, .int .i64 0, .string ⟨#[]⟩, .slice none 0 0, .slice none 0 0] 32)) (some rb)) := only_alloc (only_setCell (World.grownBy.refl _ _) (.inl rfl) _) _
  have HA2 : Hid (((w.setCell ⟨rb, 2, none⟩ (.int .i64 ((bg : Int) + 1))).alloc (.cells #[.int .i64 0, .int .i64 0, .string ⟨#[]⟩, .slice none 0 0, .slice none 0 0] 32)).heap[w.heap.size]? = some (.cells #[.int .i64 0, .int .i64 0, .string ⟨#[]⟩, .slice none 0 0, .slice none 0 0] 32 (0, 0))) := by
    have := blk_at0 (w.setCell ⟨rb, 2, none⟩ (.int .i64 ((bg : Int) + 1))) (.cells #[.int .i64 0, .int .i64 0, .string ⟨#[]⟩, .slice none 0 0, .slice none 0 0] 32)
    rw [size_setCell] at this; exact this
  clear ck cf
  refine (Rbytes_any s rb p (bg + 1) 1 1 rfl _ hs hp (by omega) HB2.out).mono ?_
  rw [show takeS s p 1 = .ok (s.extract p (p + 1), p + 1) by unfold takeS; rw [if_pos (by omega)]]
  rintro e w3 ⟨t1, q1, c1, ht1, hq1, rfl, hb3, g3, ho⟩
  obtain ⟨rfl, rfl, rfl⟩ := ho
  clear ht1 hq1
  obtain ⟨t1, ht1, hz1, hz0, hzb⟩ := byte_ext s p hlt
  rw [ht1]
  rw [hk] at hzb
  clear ht1
  have HB3 := Lib.hid hb3
  have HG3 := Lib.hid (only_trans HG2.out g3)
  have HA3 := Lib.hid (blk_only HA2.out g3 hne.symm)
  have s3 : w.heap.size < w3.heap.size := by have := g3.size; simp [World.setCell] at this; omega
  have r3 : rb < w3.heap.size := by omega
  clear hb3 g3 HB2 HG2 HA2 H
  have ck := blk_cell HB3.out
  have cf := blk_free HB3.out
  have ca := blk_cell HA3.out
  have fa := blk_free HA3.out
  have HVB := Lib.hid (blk_at0 w3 (.cells #[.int .i64 2, .int .i64 0, .string ⟨#[]⟩, .slice none 0 0, .slice none 0 0] 32))
  have HG4 : Hid (w.grownBy (w3.alloc (.cells #[.int .i64 2, .int .i64 0, .string ⟨#[]⟩, .slice none 0 0, .slice none 0 0] 32)) (some rb)) := only_alloc HG3.out _
  go_wp2_with fail
  refine bodyPost_ret (v := .agg #[.int .i64 2, .int .i64 0, .string ⟨#[]⟩, .slice none 0 0, .slice none 0 0]) (by simp only [results, Tryd.results29]; go_simp) rfl ⟨_, _, (p + 1), (bg + 1), 0, rfl, VNew.leaf _ _ _ _ _ _ (by first | assumption | (unfold I64; omega)) (by first | assumption | (unfold I64; omega)) (by first | assumption | (unfold maxLen; decide)), (by omega), (by omega), ?_, ?_, ⟨rfl, rfl⟩⟩
  · exact (by repeat (first | with_reducible exact HB3.out |  with_reducible refine blk_alloc ?_ _ | ((with_reducible refine blk_far ?_ ?_ _); rotate_left; (· first | (simp; omega) | omega))))
  · exact (by repeat (first | with_reducible exact HG3.out | with_reducible refine only_drew ?_ | with_reducible refine only_alloc ?_ _ | with_reducible refine only_setCell ?_ (.inl rfl) _ | ((with_reducible refine only_setCell ?_ (.inr ?_) _); rotate_left; (· first | exact Nat.le_refl _ | omega | (simp; done) | (simp; omega)))))
set_option maxRecDepth 20000 in
set_option maxHeartbeats 2000000 in
theorem rv_k11 (s : ByteArray) (d rb p bg : Nat) (lv : Int) (w : World) (hs : s.size ≤ 1000000000000000) (hlv : lv = 16 - d) (hd : d ≤ 16) (hp : p ≤ s.size) (hbg : bg ≤ 1024) (h : w.heap[rb]? = some (RrCells s p bg 0)) (hb : bg < 1024) (hlt : p < s.size) (hk : byteN s p = 11) :
    Calls Tryd.prog 29 #[.pointer (some ⟨rb, 0, none⟩), .int .i64 lv] w (RvPost rb s w (.ok (leafT 11 0 ⟨#[]⟩, p + 1, bg + 1))) := by
  have ck := blk_cell h
  have cf := blk_free h
  have hrb := blk_lt h
  have H := Lib.hid h
  have hne : rb ≠ w.heap.size := by omega
  have d0 : decide (16 < lv) = false := by simp; omega
  have d1 : decide (1024 ≤ (bg : Int)) = false := by simp; omega
  have HLV := Lib.hid hlv
  have hlv1 : 0 ≤ lv ∧ lv ≤ 16 := by omega
  clear hlv h
  go_enter Tryd.func29, Tryd.ntmps29
  go_wp2_with fail
  have HB2 := Lib.hid (blk_alloc (rr_set2 H.out ((bg : Int) + 1) (bg' := bg + 1) (by omega)) (.cells #[.int .i64 0, .int .i64 0, .string ⟨#[]⟩, .slice none 0 0, .slice none 0 0] 32))
  have HG2 : Hid (w.grownBy ((w.setCell ⟨rb, 2, none⟩ (.int .i64 ((bg : Int) + 1))).alloc (.cells #[.int .i64 0, .int .i64 0, .string ⟨#[]⟩, .slice none 0 0, .slice none 0 0] 32)) (some rb)) := only_alloc (only_setCell (World.grownBy.refl _ _) (.inl rfl) _) _
  have HA2 : Hid (((w.setCell ⟨rb, 2, none⟩ (.int .i64 ((bg : Int) + 1))).alloc (.cells #[.int .i64 0, .int .i64 0, .string ⟨#[]⟩, .slice none 0 0, .slice none 0 0] 32)).heap[w.heap.size]? = some (.cells #[.int .i64 0, .int .i64 0, .string ⟨#[]⟩, .slice none 0 0, .slice none 0 0] 32 (0, 0))) := by
    have := blk_at0 (w.setCell ⟨rb, 2, none⟩ (.int .i64 ((bg : Int) + 1))) (.cells #[.int .i64 0, .int .i64 0, .string ⟨#[]⟩, .slice none 0 0, .slice none 0 0] 32)
    rw [size_setCell] at this; exact this
  clear ck cf
  refine (Rbytes_any s rb p (bg + 1) 1 1 rfl _ hs hp (by omega) HB2.out).mono ?_
  rw [show takeS s p 1 = .ok (s.extract p (p + 1), p + 1) by unfold takeS; rw [if_pos (by omega)]]
  rintro e w3 ⟨t1, q1, c1, ht1, hq1, rfl, hb3, g3, ho⟩
  obtain ⟨rfl, rfl, rfl⟩ := ho
  clear ht1 hq1
  obtain ⟨t1, ht1, hz1, hz0, hzb⟩ := byte_ext s p hlt
  rw [ht1]
  rw [hk] at hzb
  clear ht1
  have HB3 := Lib.hid hb3
  have HG3 := Lib.hid (only_trans HG2.out g3)
  have HA3 := Lib.hid (blk_only HA2.out g3 hne.symm)
  have s3 : w.heap.size < w3.heap.size := by have := g3.size; simp [World.setCell] at this; omega
  have r3 : rb < w3.heap.size := by omega
  clear hb3 g3 HB2 HG2 HA2 H
  have ck := blk_cell HB3.out
  have cf := blk_free HB3.out
  have ca := blk_cell HA3.out
  have fa := blk_free HA3.out
  have HVB := Lib.hid (blk_at0 w3 (.cells #[.int .i64 11, .int .i64 0, .string ⟨#[]⟩, .slice none 0 0, .slice none 0 0] 32))
  have HG4 : Hid (w.grownBy (w3.alloc (.cells #[.int .i64 11, .int .i64 0, .string ⟨#[]⟩, .slice none 0 0, .slice none 0 0] 32)) (some rb)) := only_alloc HG3.out _
  go_wp2_with fail
  refine bodyPost_ret (v := .agg #[.int .i64 11, .int .i64 0, .string ⟨#[]⟩, .slice none 0 0, .slice none 0 0]) (by simp only [results, Tryd.results29]; go_simp) rfl ⟨_, _, (p + 1), (bg + 1), 0, rfl, VNew.leaf _ _ _ _ _ _ (by first | assumption | (unfold I64; omega)) (by first | assumption | (unfold I64; omega)) (by first | assumption | (unfold maxLen; decide)), (by omega), (by omega), ?_, ?_, ⟨rfl, rfl⟩⟩
  · exact (by repeat (first | with_reducible exact HB3.out |  with_reducible refine blk_alloc ?_ _ | ((with_reducible refine blk_far ?_ ?_ _); rotate_left; (· first | (simp; omega) | omega))))
  · exact (by repeat (first | with_reducible exact HG3.out | with_reducible refine only_drew ?_ | with_reducible refine only_alloc ?_ _ | with_reducible refine only_setCell ?_ (.inl rfl) _ | ((with_reducible refine only_setCell ?_ (.inr ?_) _); rotate_left; (· first | exact Nat.le_refl _ | omega | (simp; done) | (simp; omega)))))
set_option maxRecDepth 20000 in
set_option maxHeartbeats 2000000 in
theorem rv_kx (s : ByteArray) (d rb p bg : Nat) (lv : Int) (w : World) (hs : s.size ≤ 1000000000000000) (hlv : lv = 16 - d) (hd : d ≤ 16) (hp : p ≤ s.size) (hbg : bg ≤ 1024) (h : w.heap[rb]? = some (RrCells s p bg 0)) (hb : bg < 1024) (hlt : p < s.size) (k : Nat) (hk : byteN s p = k) (hx : k ≠ 1 ∧ k ≠ 2 ∧ k ≠ 3 ∧ k ≠ 4 ∧ k ≠ 5 ∧ k ≠ 6 ∧ k ≠ 7 ∧ k ≠ 8 ∧ k ≠ 9 ∧ k ≠ 10 ∧ k ≠ 11) :
    Calls Tryd.prog 29 #[.pointer (some ⟨rb, 0, none⟩), .int .i64 lv] w (RvPost rb s w (.error 4)) := by
  have hkb : k < 256 := by rw [← hk]; unfold byteN; exact (s.data.toList.getD p 0).toNat_lt
  obtain ⟨x1, x2, x3, x4, x5, x6, x7, x8, x9, x10, x11⟩ := hx
  have y1 : ((k : Int) == 1) = false := beq_eq_false_iff_ne.2 (by omega)
  have y2 : ((k : Int) == 2) = false := beq_eq_false_iff_ne.2 (by omega)
  have y3 : ((k : Int) == 3) = false := beq_eq_false_iff_ne.2 (by omega)
  have y4 : ((k : Int) == 4) = false := beq_eq_false_iff_ne.2 (by omega)
  have y5 : ((k : Int) == 5) = false := beq_eq_false_iff_ne.2 (by omega)
  have y6 : ((k : Int) == 6) = false := beq_eq_false_iff_ne.2 (by omega)
  have y7 : ((k : Int) == 7) = false := beq_eq_false_iff_ne.2 (by omega)
  have y8 : ((k : Int) == 8) = false := beq_eq_false_iff_ne.2 (by omega)
  have y9 : ((k : Int) == 9) = false := beq_eq_false_iff_ne.2 (by omega)
  have y10 : ((k : Int) == 10) = false := beq_eq_false_iff_ne.2 (by omega)
  have y11 : ((k : Int) == 11) = false := beq_eq_false_iff_ne.2 (by omega)
  clear x1 x2 x3 x4 x5 x6 x7 x8 x9 x10 x11
  have ck := blk_cell h
  have cf := blk_free h
  have hrb := blk_lt h
  have H := Lib.hid h
  have hne : rb ≠ w.heap.size := by omega
  have d0 : decide (16 < lv) = false := by simp; omega
  have d1 : decide (1024 ≤ (bg : Int)) = false := by simp; omega
  have HLV := Lib.hid hlv
  have hlv1 : 0 ≤ lv ∧ lv ≤ 16 := by omega
  clear hlv h
  go_enter Tryd.func29, Tryd.ntmps29
  go_wp2_with fail
  have HB2 := Lib.hid (blk_alloc (rr_set2 H.out ((bg : Int) + 1) (bg' := bg + 1) (by omega)) (.cells #[.int .i64 0, .int .i64 0, .string ⟨#[]⟩, .slice none 0 0, .slice none 0 0] 32))
  have HG2 : Hid (w.grownBy ((w.setCell ⟨rb, 2, none⟩ (.int .i64 ((bg : Int) + 1))).alloc (.cells #[.int .i64 0, .int .i64 0, .string ⟨#[]⟩, .slice none 0 0, .slice none 0 0] 32)) (some rb)) := only_alloc (only_setCell (World.grownBy.refl _ _) (.inl rfl) _) _
  have HA2 : Hid (((w.setCell ⟨rb, 2, none⟩ (.int .i64 ((bg : Int) + 1))).alloc (.cells #[.int .i64 0, .int .i64 0, .string ⟨#[]⟩, .slice none 0 0, .slice none 0 0] 32)).heap[w.heap.size]? = some (.cells #[.int .i64 0, .int .i64 0, .string ⟨#[]⟩, .slice none 0 0, .slice none 0 0] 32 (0, 0))) := by
    have := blk_at0 (w.setCell ⟨rb, 2, none⟩ (.int .i64 ((bg : Int) + 1))) (.cells #[.int .i64 0, .int .i64 0, .string ⟨#[]⟩, .slice none 0 0, .slice none 0 0] 32)
    rw [size_setCell] at this; exact this
  clear ck cf
  refine (Rbytes_any s rb p (bg + 1) 1 1 rfl _ hs hp (by omega) HB2.out).mono ?_
  rw [show takeS s p 1 = .ok (s.extract p (p + 1), p + 1) by unfold takeS; rw [if_pos (by omega)]]
  rintro e w3 ⟨t1, q1, c1, ht1, hq1, rfl, hb3, g3, ho⟩
  obtain ⟨rfl, rfl, rfl⟩ := ho
  clear ht1 hq1
  obtain ⟨t1, ht1, hz1, hz0, hzb⟩ := byte_ext s p hlt
  rw [ht1]
  rw [hk] at hzb
  clear ht1
  have HB3 := Lib.hid hb3
  have HG3 := Lib.hid (only_trans HG2.out g3)
  have HA3 := Lib.hid (blk_only HA2.out g3 hne.symm)
  have s3 : w.heap.size < w3.heap.size := by have := g3.size; simp [World.setCell] at this; omega
  have r3 : rb < w3.heap.size := by omega
  clear hb3 g3 HB2 HG2 HA2 H
  have ck := blk_cell HB3.out
  have cf := blk_free HB3.out
  have ca := blk_cell HA3.out
  have fa := blk_free HA3.out
  have HVB := Lib.hid (blk_at0 w3 (.cells #[.int .i64 (k : Int), .int .i64 0, .string ⟨#[]⟩, .slice none 0 0, .slice none 0 0] 32))
  have HG4 : Hid (w.grownBy (w3.alloc (.cells #[.int .i64 (k : Int), .int .i64 0, .string ⟨#[]⟩, .slice none 0 0, .slice none 0 0] 32)) (some rb)) := only_alloc HG3.out _
  go_wp2_with fail
  refine bodyPost_ret (v := .agg #[.int .i64 (k : Int), .int .i64 0, .string ⟨#[]⟩, .slice none 0 0, .slice none 0 0]) (by simp only [results, Tryd.results29]; go_simp) rfl ⟨_, _, (p + 1), (bg + 1), 4, rfl, VNew.leaf _ _ _ _ _ _ (by first | assumption | (unfold I64; omega)) (by first | assumption | (unfold I64; omega)) (by first | assumption | (unfold maxLen; decide)), (by omega), (by omega), ?_, ?_, ⟨rfl, by omega⟩⟩
  · exact (by repeat (first | with_reducible exact rr_set3 HB3.out _ |  with_reducible refine blk_alloc ?_ _ | ((with_reducible refine blk_far ?_ ?_ _); rotate_left; (· first | (simp; omega) | omega))))
  · exact (by repeat (first | with_reducible exact HG3.out | with_reducible refine only_drew ?_ | with_reducible refine only_alloc ?_ _ | with_reducible refine only_setCell ?_ (.inl rfl) _ | ((with_reducible refine only_setCell ?_ (.inr ?_) _); rotate_left; (· first | exact Nat.le_refl _ | omega | (simp; done) | (simp; omega)))))
set_option maxRecDepth 20000 in
set_option maxHeartbeats 2000000 in
theorem rv_k3 (s : ByteArray) (d rb p bg : Nat) (lv : Int) (w : World) (hs : s.size ≤ 1000000000000000) (hlv : lv = 16 - d) (hd : d ≤ 16) (hp : p ≤ s.size) (hbg : bg ≤ 1024) (h : w.heap[rb]? = some (RrCells s p bg 0)) (hb : bg < 1024) (hlt : p < s.size) (hk : byteN s p = 3) :
    Calls Tryd.prog 29 #[.pointer (some ⟨rb, 0, none⟩), .int .i64 lv] w (RvPost rb s w (leafI 3 bg (numR s (p + 1)))) := by
  have ck := blk_cell h
  have cf := blk_free h
  have hrb := blk_lt h
  have H := Lib.hid h
  have hne : rb ≠ w.heap.size := by omega
  have d0 : decide (16 < lv) = false := by simp; omega
  have d1 : decide (1024 ≤ (bg : Int)) = false := by simp; omega
  have HLV := Lib.hid hlv
  have hlv1 : 0 ≤ lv ∧ lv ≤ 16 := by omega
  clear hlv h
  go_enter Tryd.func29, Tryd.ntmps29
  go_wp2_with fail
  have HB2 := Lib.hid (blk_alloc (rr_set2 H.out ((bg : Int) + 1) (bg' := bg + 1) (by omega)) (.cells #[.int .i64 0, .int .i64 0, .string ⟨#[]⟩, .slice none 0 0, .slice none 0 0] 32))
  have HG2 : Hid (w.grownBy ((w.setCell ⟨rb, 2, none⟩ (.int .i64 ((bg : Int) + 1))).alloc (.cells #[.int .i64 0, .int .i64 0, .string ⟨#[]⟩, .slice none 0 0, .slice none 0 0] 32)) (some rb)) := only_alloc (only_setCell (World.grownBy.refl _ _) (.inl rfl) _) _
  have HA2 : Hid (((w.setCell ⟨rb, 2, none⟩ (.int .i64 ((bg : Int) + 1))).alloc (.cells #[.int .i64 0, .int .i64 0, .string ⟨#[]⟩, .slice none 0 0, .slice none 0 0] 32)).heap[w.heap.size]? = some (.cells #[.int .i64 0, .int .i64 0, .string ⟨#[]⟩, .slice none 0 0, .slice none 0 0] 32 (0, 0))) := by
    have := blk_at0 (w.setCell ⟨rb, 2, none⟩ (.int .i64 ((bg : Int) + 1))) (.cells #[.int .i64 0, .int .i64 0, .string ⟨#[]⟩, .slice none 0 0, .slice none 0 0] 32)
    rw [size_setCell] at this; exact this
  clear ck cf
  refine (Rbytes_any s rb p (bg + 1) 1 1 rfl _ hs hp (by omega) HB2.out).mono ?_
  rw [show takeS s p 1 = .ok (s.extract p (p + 1), p + 1) by unfold takeS; rw [if_pos (by omega)]]
  rintro e w3 ⟨t1, q1, c1, ht1, hq1, rfl, hb3, g3, ho⟩
  obtain ⟨rfl, rfl, rfl⟩ := ho
  clear ht1 hq1
  obtain ⟨t1, ht1, hz1, hz0, hzb⟩ := byte_ext s p hlt
  rw [ht1]
  rw [hk] at hzb
  clear ht1
  have HB3 := Lib.hid hb3
  have HG3 := Lib.hid (only_trans HG2.out g3)
  have HA3 := Lib.hid (blk_only HA2.out g3 hne.symm)
  have s3 : w.heap.size < w3.heap.size := by have := g3.size; simp [World.setCell] at this; omega
  have r3 : rb < w3.heap.size := by omega
  clear hb3 g3 HB2 HG2 HA2 H
  have ck := blk_cell HB3.out
  have cf := blk_free HB3.out
  have ca := blk_cell HA3.out
  have fa := blk_free HA3.out
  have HVB := Lib.hid (blk_at0 w3 (.cells #[.int .i64 3, .int .i64 0, .string ⟨#[]⟩, .slice none 0 0, .slice none 0 0] 32))
  have HG4 : Hid (w.grownBy (w3.alloc (.cells #[.int .i64 3, .int .i64 0, .string ⟨#[]⟩, .slice none 0 0, .slice none 0 0] 32)) (some rb)) := only_alloc HG3.out _
  go_wp2_with fail
  refine (Rnum_any s rb (p + 1) (bg + 1) _ hs (by omega) (blk_alloc HB3.out _)).mono ?_
  rintro e w4 ⟨n4, q4, c4, hn4, hq4, rfl, hb4, g4, ho4⟩
  have HB4 := Lib.hid hb4
  have HG5 := Lib.hid (only_trans HG4.out g4)
  have HA4 := Lib.hid (blk_only (blk_alloc HA3.out (.cells #[.int .i64 3, .int .i64 0, .string ⟨#[]⟩, .slice none 0 0, .slice none 0 0] 32)) g4 hne.symm)
  have HV4 := Lib.hid (blk_only HVB.out g4 (by omega))
  have s4 : w3.heap.size < w4.heap.size := by have := g4.size; simp at this; omega
  have hnv : ¬ w.heap.size = w3.heap.size := by omega
  clear ck cf ca fa hb4 g4 HG4 HVB HB3 HG3 HA3
  have ck := blk_cell HB4.out
  have cf := blk_free HB4.out
  have ca := blk_cell HA4.out
  have fa := blk_free HA4.out
  have cv := blk_cell HV4.out
  have fv := blk_free HV4.out
  have hrb4 := blk_lt HB4.out
  have HO := Lib.hid ho4
  clear ho4
  go_wp2_with fail
  refine bodyPost_ret (v := .agg #[.int .i64 3, .int .i64 n4, .string ⟨#[]⟩, .slice none 0 0, .slice none 0 0]) (by simp only [results, Tryd.results29]; go_simp) rfl ⟨_, _, q4, (bg + 1), c4, rfl, VNew.leaf _ _ _ _ _ _ (by first | assumption | (unfold I64; omega)) (by first | assumption | (unfold I64; omega)) (by first | assumption | (unfold maxLen; decide)), hq4, (by omega), ?_, ?_, out_leafI HO.out⟩
  · exact (by repeat (first | with_reducible exact HB4.out |  with_reducible refine blk_alloc ?_ _ | ((with_reducible refine blk_far ?_ ?_ _); rotate_left; (· first | (simp; omega) | omega))))
  · exact (by repeat (first | with_reducible exact HG5.out | with_reducible refine only_drew ?_ | with_reducible refine only_alloc ?_ _ | with_reducible refine only_setCell ?_ (.inl rfl) _ | ((with_reducible refine only_setCell ?_ (.inr ?_) _); rotate_left; (· first | exact Nat.le_refl _ | omega | (simp; done) | (simp; omega)))))
set_option maxRecDepth 20000 in
set_option maxHeartbeats 2000000 in
theorem rv_k10 (s : ByteArray) (d rb p bg : Nat) (lv : Int) (w : World) (hs : s.size ≤ 1000000000000000) (hlv : lv = 16 - d) (hd : d ≤ 16) (hp : p ≤ s.size) (hbg : bg ≤ 1024) (h : w.heap[rb]? = some (RrCells s p bg 0)) (hb : bg < 1024) (hlt : p < s.size) (hk : byteN s p = 10) :
    Calls Tryd.prog 29 #[.pointer (some ⟨rb, 0, none⟩), .int .i64 lv] w (RvPost rb s w (leafI 10 bg (countR s (p + 1)))) := by
  have ck := blk_cell h
  have cf := blk_free h
  have hrb := blk_lt h
  have H := Lib.hid h
  have hne : rb ≠ w.heap.size := by omega
  have d0 : decide (16 < lv) = false := by simp; omega
  have d1 : decide (1024 ≤ (bg : Int)) = false := by simp; omega
  have HLV := Lib.hid hlv
  have hlv1 : 0 ≤ lv ∧ lv ≤ 16 := by omega
  clear hlv h
  go_enter Tryd.func29, Tryd.ntmps29
  go_wp2_with fail
  have HB2 := Lib.hid (blk_alloc (rr_set2 H.out ((bg : Int) + 1) (bg' := bg + 1) (by omega)) (.cells #[.int .i64 0, .int .i64 0, .string ⟨#[]⟩, .slice none 0 0, .slice none 0 0] 32))
  have HG2 : Hid (w.grownBy ((w.setCell ⟨rb, 2, none⟩ (.int .i64 ((bg : Int) + 1))).alloc (.cells #[.int .i64 0, .int .i64 0, .string ⟨#[]⟩, .slice none 0 0, .slice none 0 0] 32)) (some rb)) := only_alloc (only_setCell (World.grownBy.refl _ _) (.inl rfl) _) _
  have HA2 : Hid (((w.setCell ⟨rb, 2, none⟩ (.int .i64 ((bg : Int) + 1))).alloc (.cells #[.int .i64 0, .int .i64 0, .string ⟨#[]⟩, .slice none 0 0, .slice none 0 0] 32)).heap[w.heap.size]? = some (.cells #[.int .i64 0, .int .i64 0, .string ⟨#[]⟩, .slice none 0 0, .slice none 0 0] 32 (0, 0))) := by
    have := blk_at0 (w.setCell ⟨rb, 2, none⟩ (.int .i64 ((bg : Int) + 1))) (.cells #[.int .i64 0, .int .i64 0, .string ⟨#[]⟩, .slice none 0 0, .slice none 0 0] 32)
    rw [size_setCell] at this; exact this
  clear ck cf
  refine (Rbytes_any s rb p (bg + 1) 1 1 rfl _ hs hp (by omega) HB2.out).mono ?_
  rw [show takeS s p 1 = .ok (s.extract p (p + 1), p + 1) by unfold takeS; rw [if_pos (by omega)]]
  rintro e w3 ⟨t1, q1, c1, ht1, hq1, rfl, hb3, g3, ho⟩
  obtain ⟨rfl, rfl, rfl⟩ := ho
  clear ht1 hq1
  obtain ⟨t1, ht1, hz1, hz0, hzb⟩ := byte_ext s p hlt
  rw [ht1]
  rw [hk] at hzb
  clear ht1
  have HB3 := Lib.hid hb3
  have HG3 := Lib.hid (only_trans HG2.out g3)
  have HA3 := Lib.hid (blk_only HA2.out g3 hne.symm)
  have s3 : w.heap.size < w3.heap.size := by have := g3.size; simp [World.setCell] at this; omega
  have r3 : rb < w3.heap.size := by omega
  clear hb3 g3 HB2 HG2 HA2 H
  have ck := blk_cell HB3.out
  have cf := blk_free HB3.out
  have ca := blk_cell HA3.out
  have fa := blk_free HA3.out
  have HVB := Lib.hid (blk_at0 w3 (.cells #[.int .i64 10, .int .i64 0, .string ⟨#[]⟩, .slice none 0 0, .slice none 0 0] 32))
  have HG4 : Hid (w.grownBy (w3.alloc (.cells #[.int .i64 10, .int .i64 0, .string ⟨#[]⟩, .slice none 0 0, .slice none 0 0] 32)) (some rb)) := only_alloc HG3.out _
  go_wp2_with fail
  refine (Rcount_any s rb (p + 1) (bg + 1) _ hs (by omega) (blk_alloc HB3.out _)).mono ?_
  rintro e w4 ⟨n4, q4, c4, hn4, hq4, rfl, hb4, g4, ho4⟩
  have HB4 := Lib.hid hb4
  have HG5 := Lib.hid (only_trans HG4.out g4)
  have HA4 := Lib.hid (blk_only (blk_alloc HA3.out (.cells #[.int .i64 10, .int .i64 0, .string ⟨#[]⟩, .slice none 0 0, .slice none 0 0] 32)) g4 hne.symm)
  have HV4 := Lib.hid (blk_only HVB.out g4 (by omega))
  have s4 : w3.heap.size < w4.heap.size := by have := g4.size; simp at this; omega
  have hnv : ¬ w.heap.size = w3.heap.size := by omega
  clear ck cf ca fa hb4 g4 HG4 HVB HB3 HG3 HA3
  have ck := blk_cell HB4.out
  have cf := blk_free HB4.out
  have ca := blk_cell HA4.out
  have fa := blk_free HA4.out
  have cv := blk_cell HV4.out
  have fv := blk_free HV4.out
  have hrb4 := blk_lt HB4.out
  have HO := Lib.hid ho4
  clear ho4
  go_wp2_with fail
  refine bodyPost_ret (v := .agg #[.int .i64 10, .int .i64 n4, .string ⟨#[]⟩, .slice none 0 0, .slice none 0 0]) (by simp only [results, Tryd.results29]; go_simp) rfl ⟨_, _, q4, (bg + 1), c4, rfl, VNew.leaf _ _ _ _ _ _ (by first | assumption | (unfold I64; omega)) (by first | assumption | (unfold I64; omega)) (by first | assumption | (unfold maxLen; decide)), hq4, (by omega), ?_, ?_, out_leafI HO.out⟩
  · exact (by repeat (first | with_reducible exact HB4.out |  with_reducible refine blk_alloc ?_ _ | ((with_reducible refine blk_far ?_ ?_ _); rotate_left; (· first | (simp; omega) | omega))))
  · exact (by repeat (first | with_reducible exact HG5.out | with_reducible refine only_drew ?_ | with_reducible refine only_alloc ?_ _ | with_reducible refine only_setCell ?_ (.inl rfl) _ | ((with_reducible refine only_setCell ?_ (.inr ?_) _); rotate_left; (· first | exact Nat.le_refl _ | omega | (simp; done) | (simp; omega)))))
set_option maxRecDepth 20000 in
set_option maxHeartbeats 2000000 in
theorem rv_k8 (s : ByteArray) (d rb p bg : Nat) (lv : Int) (w : World) (hs : s.size ≤ 1000000000000000) (hlv : lv = 16 - d) (hd : d ≤ 16) (hp : p ≤ s.size) (hbg : bg ≤ 1024) (h : w.heap[rb]? = some (RrCells s p bg 0)) (hb : bg < 1024) (hlt : p < s.size) (hk : byteN s p = 8) :
    Calls Tryd.prog 29 #[.pointer (some ⟨rb, 0, none⟩), .int .i64 lv] w (RvPost rb s w (leafS 8 bg (takeS s (p + 1) 12))) := by
  have ck := blk_cell h
  have cf := blk_free h
  have hrb := blk_lt h
  have H := Lib.hid h
  have hne : rb ≠ w.heap.size := by omega
  have d0 : decide (16 < lv) = false := by simp; omega
  have d1 : decide (1024 ≤ (bg : Int)) = false := by simp; omega
  have HLV := Lib.hid hlv
  have hlv1 : 0 ≤ lv ∧ lv ≤ 16 := by omega
  clear hlv h
  go_enter Tryd.func29, Tryd.ntmps29
  go_wp2_with fail
  have HB2 := Lib.hid (blk_alloc (rr_set2 H.out ((bg : Int) + 1) (bg' := bg + 1) (by omega)) (.cells #[.int .i64 0, .int .i64 0, .string ⟨#[]⟩, .slice none 0 0, .slice none 0 0] 32))
  have HG2 : Hid (w.grownBy ((w.setCell ⟨rb, 2, none⟩ (.int .i64 ((bg : Int) + 1))).alloc (.cells #[.int .i64 0, .int .i64 0, .string ⟨#[]⟩, .slice none 0 0, .slice none 0 0] 32)) (some rb)) := only_alloc (only_setCell (World.grownBy.refl _ _) (.inl rfl) _) _
  have HA2 : Hid (((w.setCell ⟨rb, 2, none⟩ (.int .i64 ((bg : Int) + 1))).alloc (.cells #[.int .i64 0, .int .i64 0, .string ⟨#[]⟩, .slice none 0 0, .slice none 0 0] 32)).heap[w.heap.size]? = some (.cells #[.int .i64 0, .int .i64 0, .string ⟨#[]⟩, .slice none 0 0, .slice none 0 0] 32 (0, 0))) := by
    have := blk_at0 (w.setCell ⟨rb, 2, none⟩ (.int .i64 ((bg : Int) + 1))) (.cells #[.int .i64 0, .int .i64 0, .string ⟨#[]⟩, .slice none 0 0, .slice none 0 0] 32)
    rw [size_setCell] at this; exact this
  clear ck cf
  refine (Rbytes_any s rb p (bg + 1) 1 1 rfl _ hs hp (by omega) HB2.out).mono ?_
  rw [show takeS s p 1 = .ok (s.extract p (p + 1), p + 1) by unfold takeS; rw [if_pos (by omega)]]
  rintro e w3 ⟨t1, q1, c1, ht1, hq1, rfl, hb3, g3, ho⟩
  obtain ⟨rfl, rfl, rfl⟩ := ho
  clear ht1 hq1
  obtain ⟨t1, ht1, hz1, hz0, hzb⟩ := byte_ext s p hlt
  rw [ht1]
  rw [hk] at hzb
  clear ht1
  have HB3 := Lib.hid hb3
  have HG3 := Lib.hid (only_trans HG2.out g3)
  have HA3 := Lib.hid (blk_only HA2.out g3 hne.symm)
  have s3 : w.heap.size < w3.heap.size := by have := g3.size; simp [World.setCell] at this; omega
  have r3 : rb < w3.heap.size := by omega
  clear hb3 g3 HB2 HG2 HA2 H
  have ck := blk_cell HB3.out
  have cf := blk_free HB3.out
  have ca := blk_cell HA3.out
  have fa := blk_free HA3.out
  have HVB := Lib.hid (blk_at0 w3 (.cells #[.int .i64 8, .int .i64 0, .string ⟨#[]⟩, .slice none 0 0, .slice none 0 0] 32))
  have HG4 : Hid (w.grownBy (w3.alloc (.cells #[.int .i64 8, .int .i64 0, .string ⟨#[]⟩, .slice none 0 0, .slice none 0 0] 32)) (some rb)) := only_alloc HG3.out _
  go_wp2_with fail
  refine (Rbytes_any s rb (p + 1) (bg + 1) 12 12 rfl _ hs (by omega) (by omega) (blk_alloc HB3.out _)).mono ?_
  rintro e w4 ⟨t4, q4, c4, ht4, hq4, rfl, hb4, g4, ho4⟩
  have HB4 := Lib.hid hb4
  have HG5 := Lib.hid (only_trans HG4.out g4)
  have HA4 := Lib.hid (blk_only (blk_alloc HA3.out (.cells #[.int .i64 8, .int .i64 0, .string ⟨#[]⟩, .slice none 0 0, .slice none 0 0] 32)) g4 hne.symm)
  have HV4 := Lib.hid (blk_only HVB.out g4 (by omega))
  have s4 : w3.heap.size < w4.heap.size := by have := g4.size; simp at this; omega
  have hnv : ¬ w.heap.size = w3.heap.size := by omega
  clear ck cf ca fa hb4 g4 HG4 HVB HB3 HG3 HA3
  have ck := blk_cell HB4.out
  have cf := blk_free HB4.out
  have ca := blk_cell HA4.out
  have fa := blk_free HA4.out
  have cv := blk_cell HV4.out
  have fv := blk_free HV4.out
  have hrb4 := blk_lt HB4.out
  have HO := Lib.hid ho4
  clear ho4
  go_wp2_with fail
  refine bodyPost_ret (v := .agg #[.int .i64 8, .int .i64 0, .string t4, .slice none 0 0, .slice none 0 0]) (by simp only [results, Tryd.results29]; go_simp) rfl ⟨_, _, q4, (bg + 1), c4, rfl, VNew.leaf _ _ _ _ _ _ (by first | assumption | (unfold I64; omega)) (by first | assumption | (unfold I64; omega)) (by first | assumption | (unfold maxLen; decide)), hq4, (by omega), ?_, ?_, out_leafS HO.out⟩
  · exact (by repeat (first | with_reducible exact HB4.out |  with_reducible refine blk_alloc ?_ _ | ((with_reducible refine blk_far ?_ ?_ _); rotate_left; (· first | (simp; omega) | omega))))
  · exact (by repeat (first | with_reducible exact HG5.out | with_reducible refine only_drew ?_ | with_reducible refine only_alloc ?_ _ | with_reducible refine only_setCell ?_ (.inl rfl) _ | ((with_reducible refine only_setCell ?_ (.inr ?_) _); rotate_left; (· first | exact Nat.le_refl _ | omega | (simp; done) | (simp; omega)))))
set_option maxRecDepth 20000 in
set_option maxHeartbeats 2000000 in
theorem rv_k4 (s : ByteArray) (d rb p bg : Nat) (lv : Int) (w : World) (hs : s.size ≤ 1000000000000000) (hlv : lv = 16 - d) (hd : d ≤ 16) (hp : p ≤ s.size) (hbg : bg ≤ 1024) (h : w.heap[rb]? = some (RrCells s p bg 0)) (hb : bg < 1024) (hlt : p < s.size) (hk : byteN s p = 4) :
    Calls Tryd.prog 29 #[.pointer (some ⟨rb, 0, none⟩), .int .i64 lv] w (RvPost rb s w (leafU bg (textS s (p + 1)))) := by
  have ck := blk_cell h
  have cf := blk_free h
  have hrb := blk_lt h
  have H := Lib.hid h
  have hne : rb ≠ w.heap.size := by omega
  have d0 : decide (16 < lv) = false := by simp; omega
  have d1 : decide (1024 ≤ (bg : Int)) = false := by simp; omega
  have HLV := Lib.hid hlv
  have hlv1 : 0 ≤ lv ∧ lv ≤ 16 := by omega
  clear hlv h
  go_enter Tryd.func29, Tryd.ntmps29
  go_wp2_with fail
  have HB2 := Lib.hid (blk_alloc (rr_set2 H.out ((bg : Int) + 1) (bg' := bg + 1) (by omega)) (.cells #[.int .i64 0, .int .i64 0, .string ⟨#[]⟩, .slice none 0 0, .slice none 0 0] 32))
  have HG2 : Hid (w.grownBy ((w.setCell ⟨rb, 2, none⟩ (.int .i64 ((bg : Int) + 1))).alloc (.cells #[.int .i64 0, .int .i64 0, .string ⟨#[]⟩, .slice none 0 0, .slice none 0 0] 32)) (some rb)) := only_alloc (only_setCell (World.grownBy.refl _ _) (.inl rfl) _) _
  have HA2 : Hid (((w.setCell ⟨rb, 2, none⟩ (.int .i64 ((bg : Int) + 1))).alloc (.cells #[.int .i64 0, .int .i64 0, .string ⟨#[]⟩, .slice none 0 0, .slice none 0 0] 32)).heap[w.heap.size]? = some (.cells #[.int .i64 0, .int .i64 0, .string ⟨#[]⟩, .slice none 0 0, .slice none 0 0] 32 (0, 0))) := by
    have := blk_at0 (w.setCell ⟨rb, 2, none⟩ (.int .i64 ((bg : Int) + 1))) (.cells #[.int .i64 0, .int .i64 0, .string ⟨#[]⟩, .slice none 0 0, .slice none 0 0] 32)
    rw [size_setCell] at this; exact this
  clear ck cf
  refine (Rbytes_any s rb p (bg + 1) 1 1 rfl _ hs hp (by omega) HB2.out).mono ?_
  rw [show takeS s p 1 = .ok (s.extract p (p + 1), p + 1) by unfold takeS; rw [if_pos (by omega)]]
  rintro e w3 ⟨t1, q1, c1, ht1, hq1, rfl, hb3, g3, ho⟩
  obtain ⟨rfl, rfl, rfl⟩ := ho
  clear ht1 hq1
  obtain ⟨t1, ht1, hz1, hz0, hzb⟩ := byte_ext s p hlt
  rw [ht1]
  rw [hk] at hzb
  clear ht1
  have HB3 := Lib.hid hb3
  have HG3 := Lib.hid (only_trans HG2.out g3)
  have HA3 := Lib.hid (blk_only HA2.out g3 hne.symm)
  have s3 : w.heap.size < w3.heap.size := by have := g3.size; simp [World.setCell] at this; omega
  have r3 : rb < w3.heap.size := by omega
  clear hb3 g3 HB2 HG2 HA2 H
  have ck := blk_cell HB3.out
  have cf := blk_free HB3.out
  have ca := blk_cell HA3.out
  have fa := blk_free HA3.out
  have HVB := Lib.hid (blk_at0 w3 (.cells #[.int .i64 4, .int .i64 0, .string ⟨#[]⟩, .slice none 0 0, .slice none 0 0] 32))
  have HG4 : Hid (w.grownBy (w3.alloc (.cells #[.int .i64 4, .int .i64 0, .string ⟨#[]⟩, .slice none 0 0, .slice none 0 0] 32)) (some rb)) := only_alloc HG3.out _
  go_wp2_with fail
  refine (Rtext_ok s rb (p + 1) (bg + 1) 4 _ (by unfold I64; omega) hs (by omega) (blk_alloc HB3.out _)).mono ?_
  rintro e w4 ⟨k4, t4, q4, c4, hk4, ht4, hq4, rfl, hb4, g4, ho4, hok4⟩
  have HB4 := Lib.hid hb4
  have HG5 := Lib.hid (only_trans HG4.out g4)
  have HA4 := Lib.hid (blk_only (blk_alloc HA3.out (.cells #[.int .i64 4, .int .i64 0, .string ⟨#[]⟩, .slice none 0 0, .slice none 0 0] 32)) g4 hne.symm)
  have HV4 := Lib.hid (blk_only HVB.out g4 (by omega))
  have s4 : w3.heap.size < w4.heap.size := by have := g4.size; simp at this; omega
  have hnv : ¬ w.heap.size = w3.heap.size := by omega
  clear ck cf ca fa hb4 g4 HG4 HVB HB3 HG3 HA3
  have ck := blk_cell HB4.out
  have cf := blk_free HB4.out
  have ca := blk_cell HA4.out
  have fa := blk_free HA4.out
  have cv := blk_cell HV4.out
  have fv := blk_free HV4.out
  have hrb4 := blk_lt HB4.out
  have HO := Lib.hid ho4
  have HK4 := Lib.hid hok4
  clear ho4 hok4
  go_wp2_with fail
  refine bodyPost_ret (v := .agg #[.int .i64 k4, .int .i64 0, .string t4, .slice none 0 0, .slice none 0 0]) (by simp only [results, Tryd.results29]; go_simp) rfl ⟨_, _, q4, (bg + 1), c4, rfl, VNew.leaf _ _ _ _ _ _ (by first | assumption | (unfold I64; omega)) (by first | assumption | (unfold I64; omega)) (by first | assumption | (unfold maxLen; decide)), hq4, (by omega), ?_, ?_, out_text (by omega) HO.out HK4.out⟩
  · exact (by repeat (first | with_reducible exact HB4.out |  with_reducible refine blk_alloc ?_ _ | ((with_reducible refine blk_far ?_ ?_ _); rotate_left; (· first | (simp; omega) | omega))))
  · exact (by repeat (first | with_reducible exact HG5.out | with_reducible refine only_drew ?_ | with_reducible refine only_alloc ?_ _ | with_reducible refine only_setCell ?_ (.inl rfl) _ | ((with_reducible refine only_setCell ?_ (.inr ?_) _); rotate_left; (· first | exact Nat.le_refl _ | omega | (simp; done) | (simp; omega)))))
set_option maxRecDepth 20000 in
set_option maxHeartbeats 2000000 in
theorem rv_k7 (s : ByteArray) (d rb p bg : Nat) (lv : Int) (w : World) (hs : s.size ≤ 1000000000000000) (hlv : lv = 16 - d) (hd : d ≤ 16) (hp : p ≤ s.size) (hbg : bg ≤ 1024) (h : w.heap[rb]? = some (RrCells s p bg 0)) (hb : bg < 1024) (hlt : p < s.size) (hk : byteN s p = 7) :
    Calls Tryd.prog 29 #[.pointer (some ⟨rb, 0, none⟩), .int .i64 lv] w (RvPost rb s w (leafS 7 bg (textS s (p + 1)))) := by
  have ck := blk_cell h
  have cf := blk_free h
  have hrb := blk_lt h
  have H := Lib.hid h
  have hne : rb ≠ w.heap.size := by omega
  have d0 : decide (16 < lv) = false := by simp; omega
  have d1 : decide (1024 ≤ (bg : Int)) = false := by simp; omega
  have HLV := Lib.hid hlv
  have hlv1 : 0 ≤ lv ∧ lv ≤ 16 := by omega
  clear hlv h
  go_enter Tryd.func29, Tryd.ntmps29
  go_wp2_with fail
  have HB2 := Lib.hid (blk_alloc (rr_set2 H.out ((bg : Int) + 1) (bg' := bg + 1) (by omega)) (.cells #[.int .i64 0, .int .i64 0, .string ⟨#[]⟩, .slice none 0 0, .slice none 0 0] 32))
  have HG2 : Hid (w.grownBy ((w.setCell ⟨rb, 2, none⟩ (.int .i64 ((bg : Int) + 1))).alloc (.cells #[.int .i64 0, .int .i64 0, .string ⟨#[]⟩, .slice none 0 0, .slice none 0 0] 32)) (some rb)) := only_alloc (only_setCell (World.grownBy.refl _ _) (.inl rfl) _) _
  have HA2 : Hid (((w.setCell ⟨rb, 2, none⟩ (.int .i64 ((bg : Int) + 1))).alloc (.cells #[.int .i64 0, .int .i64 0, .string ⟨#[]⟩, .slice none 0 0, .slice none 0 0] 32)).heap[w.heap.size]? = some (.cells #[.int .i64 0, .int .i64 0, .string ⟨#[]⟩, .slice none 0 0, .slice none 0 0] 32 (0, 0))) := by
    have := blk_at0 (w.setCell ⟨rb, 2, none⟩ (.int .i64 ((bg : Int) + 1))) (.cells #[.int .i64 0, .int .i64 0, .string ⟨#[]⟩, .slice none 0 0, .slice none 0 0] 32)
    rw [size_setCell] at this; exact this
  clear ck cf
  refine (Rbytes_any s rb p (bg + 1) 1 1 rfl _ hs hp (by omega) HB2.out).mono ?_
  rw [show takeS s p 1 = .ok (s.extract p (p + 1), p + 1) by unfold takeS; rw [if_pos (by omega)]]
  rintro e w3 ⟨t1, q1, c1, ht1, hq1, rfl, hb3, g3, ho⟩
  obtain ⟨rfl, rfl, rfl⟩ := ho
  clear ht1 hq1
  obtain ⟨t1, ht1, hz1, hz0, hzb⟩ := byte_ext s p hlt
  rw [ht1]
  rw [hk] at hzb
  clear ht1
  have HB3 := Lib.hid hb3
  have HG3 := Lib.hid (only_trans HG2.out g3)
  have HA3 := Lib.hid (blk_only HA2.out g3 hne.symm)
  have s3 : w.heap.size < w3.heap.size := by have := g3.size; simp [World.setCell] at this; omega
  have r3 : rb < w3.heap.size := by omega
  clear hb3 g3 HB2 HG2 HA2 H
  have ck := blk_cell HB3.out
  have cf := blk_free HB3.out
  have ca := blk_cell HA3.out
  have fa := blk_free HA3.out
  have HVB := Lib.hid (blk_at0 w3 (.cells #[.int .i64 7, .int .i64 0, .string ⟨#[]⟩, .slice none 0 0, .slice none 0 0] 32))
  have HG4 : Hid (w.grownBy (w3.alloc (.cells #[.int .i64 7, .int .i64 0, .string ⟨#[]⟩, .slice none 0 0, .slice none 0 0] 32)) (some rb)) := only_alloc HG3.out _
  go_wp2_with fail
  refine (Rtext_ok s rb (p + 1) (bg + 1) 7 _ (by unfold I64; omega) hs (by omega) (blk_alloc HB3.out _)).mono ?_
  rintro e w4 ⟨k4, t4, q4, c4, hk4, ht4, hq4, rfl, hb4, g4, ho4, hok4⟩
  have HB4 := Lib.hid hb4
  have HG5 := Lib.hid (only_trans HG4.out g4)
  have HA4 := Lib.hid (blk_only (blk_alloc HA3.out (.cells #[.int .i64 7, .int .i64 0, .string ⟨#[]⟩, .slice none 0 0, .slice none 0 0] 32)) g4 hne.symm)
  have HV4 := Lib.hid (blk_only HVB.out g4 (by omega))
  have s4 : w3.heap.size < w4.heap.size := by have := g4.size; simp at this; omega
  have hnv : ¬ w.heap.size = w3.heap.size := by omega
  clear ck cf ca fa hb4 g4 HG4 HVB HB3 HG3 HA3
  have ck := blk_cell HB4.out
  have cf := blk_free HB4.out
  have ca := blk_cell HA4.out
  have fa := blk_free HA4.out
  have cv := blk_cell HV4.out
  have fv := blk_free HV4.out
  have hrb4 := blk_lt HB4.out
  have HO := Lib.hid ho4
  have HK4 := Lib.hid hok4
  clear ho4 hok4
  go_wp2_with fail
  refine bodyPost_ret (v := .agg #[.int .i64 k4, .int .i64 0, .string t4, .slice none 0 0, .slice none 0 0]) (by simp only [results, Tryd.results29]; go_simp) rfl ⟨_, _, q4, (bg + 1), c4, rfl, VNew.leaf _ _ _ _ _ _ (by first | assumption | (unfold I64; omega)) (by first | assumption | (unfold I64; omega)) (by first | assumption | (unfold maxLen; decide)), hq4, (by omega), ?_, ?_, out_bytes (by omega) HO.out HK4.out⟩
  · exact (by repeat (first | with_reducible exact HB4.out |  with_reducible refine blk_alloc ?_ _ | ((with_reducible refine blk_far ?_ ?_ _); rotate_left; (· first | (simp; omega) | omega))))
  · exact (by repeat (first | with_reducible exact HG5.out | with_reducible refine only_drew ?_ | with_reducible refine only_alloc ?_ _ | with_reducible refine only_setCell ?_ (.inl rfl) _ | ((with_reducible refine only_setCell ?_ (.inr ?_) _); rotate_left; (· first | exact Nat.le_refl _ | omega | (simp; done) | (simp; omega)))))
set_option maxRecDepth 20000 in
set_option maxHeartbeats 2000000 in
theorem rv_k9a (s : ByteArray) (d rb p bg : Nat) (lv : Int) (w : World) (hs : s.size ≤ 1000000000000000) (hlv : lv = 16 - d) (hd : d ≤ 16) (hp : p ≤ s.size) (hbg : bg ≤ 1024) (h : w.heap[rb]? = some (RrCells s p bg 0)) (hb : bg < 1024) (hlt : p < s.size) (hk : byteN s p = 9) (h9 : s.size ≤ p + 1) :
    Calls Tryd.prog 29 #[.pointer (some ⟨rb, 0, none⟩), .int .i64 lv] w (RvPost rb s w (.error 5)) := by
  have ck := blk_cell h
  have cf := blk_free h
  have hrb := blk_lt h
  have H := Lib.hid h
  have hne : rb ≠ w.heap.size := by omega
  have d0 : decide (16 < lv) = false := by simp; omega
  have d1 : decide (1024 ≤ (bg : Int)) = false := by simp; omega
  have HLV := Lib.hid hlv
  have hlv1 : 0 ≤ lv ∧ lv ≤ 16 := by omega
  clear hlv h
  go_enter Tryd.func29, Tryd.ntmps29
  go_wp2_with fail
  have HB2 := Lib.hid (blk_alloc (rr_set2 H.out ((bg : Int) + 1) (bg' := bg + 1) (by omega)) (.cells #[.int .i64 0, .int .i64 0, .string ⟨#[]⟩, .slice none 0 0, .slice none 0 0] 32))
  have HG2 : Hid (w.grownBy ((w.setCell ⟨rb, 2, none⟩ (.int .i64 ((bg : Int) + 1))).alloc (.cells #[.int .i64 0, .int .i64 0, .string ⟨#[]⟩, .slice none 0 0, .slice none 0 0] 32)) (some rb)) := only_alloc (only_setCell (World.grownBy.refl _ _) (.inl rfl) _) _
  have HA2 : Hid (((w.setCell ⟨rb, 2, none⟩ (.int .i64 ((bg : Int) + 1))).alloc (.cells #[.int .i64 0, .int .i64 0, .string ⟨#[]⟩, .slice none 0 0, .slice none 0 0] 32)).heap[w.heap.size]? = some (.cells #[.int .i64 0, .int .i64 0, .string ⟨#[]⟩, .slice none 0 0, .slice none 0 0] 32 (0, 0))) := by
    have := blk_at0 (w.setCell ⟨rb, 2, none⟩ (.int .i64 ((bg : Int) + 1))) (.cells #[.int .i64 0, .int .i64 0, .string ⟨#[]⟩, .slice none 0 0, .slice none 0 0] 32)
    rw [size_setCell] at this; exact this
  clear ck cf
  refine (Rbytes_any s rb p (bg + 1) 1 1 rfl _ hs hp (by omega) HB2.out).mono ?_
  rw [show takeS s p 1 = .ok (s.extract p (p + 1), p + 1) by unfold takeS; rw [if_pos (by omega)]]
  rintro e w3 ⟨t1, q1, c1, ht1, hq1, rfl, hb3, g3, ho⟩
  obtain ⟨rfl, rfl, rfl⟩ := ho
  clear ht1 hq1
  obtain ⟨t1, ht1, hz1, hz0, hzb⟩ := byte_ext s p hlt
  rw [ht1]
  rw [hk] at hzb
  clear ht1
  have HB3 := Lib.hid hb3
  have HG3 := Lib.hid (only_trans HG2.out g3)
  have HA3 := Lib.hid (blk_only HA2.out g3 hne.symm)
  have s3 : w.heap.size < w3.heap.size := by have := g3.size; simp [World.setCell] at this; omega
  have r3 : rb < w3.heap.size := by omega
  clear hb3 g3 HB2 HG2 HA2 H
  have ck := blk_cell HB3.out
  have cf := blk_free HB3.out
  have ca := blk_cell HA3.out
  have fa := blk_free HA3.out
  have HVB := Lib.hid (blk_at0 w3 (.cells #[.int .i64 9, .int .i64 0, .string ⟨#[]⟩, .slice none 0 0, .slice none 0 0] 32))
  have HG4 : Hid (w.grownBy (w3.alloc (.cells #[.int .i64 9, .int .i64 0, .string ⟨#[]⟩, .slice none 0 0, .slice none 0 0] 32)) (some rb)) := only_alloc HG3.out _
  go_wp2_with fail
  refine (Rbytes_any s rb (p + 1) (bg + 1) 1 1 rfl _ hs (by omega) (by omega) (blk_alloc HB3.out _)).mono ?_
  rw [show takeS s (p + 1) 1 = .error 5 by unfold takeS; rw [if_neg (by omega)]]
  rintro e w4 ⟨t4, q4, c4, ht4, hq4, rfl, hb4, g4, ho4⟩
  obtain ⟨rfl, hc4⟩ := ho4
  clear hc4
  have HB4 := Lib.hid hb4
  have HG5 := Lib.hid (only_trans HG4.out g4)
  have HA4 := Lib.hid (blk_only (blk_alloc HA3.out (.cells #[.int .i64 9, .int .i64 0, .string ⟨#[]⟩, .slice none 0 0, .slice none 0 0] 32)) g4 hne.symm)
  have HV4 := Lib.hid (blk_only HVB.out g4 (by omega))
  have s4 : w3.heap.size < w4.heap.size := by have := g4.size; simp at this; omega
  have hnv : ¬ w.heap.size = w3.heap.size := by omega
  clear ck cf ca fa hb4 g4 HG4 HVB HB3 HG3 HA3
  have ck := blk_cell HB4.out
  have cf := blk_free HB4.out
  have ca := blk_cell HA4.out
  have fa := blk_free HA4.out
  have cv := blk_cell HV4.out
  have fv := blk_free HV4.out
  have hrb4 := blk_lt HB4.out
  go_wp2_with fail
  refine bodyPost_ret (v := .agg #[.int .i64 9, .int .i64 0, .string ⟨#[]⟩, .slice none 0 0, .slice none 0 0]) (by simp only [results, Tryd.results29]; go_simp) rfl ⟨_, _, q4, (bg + 1), 5, rfl, VNew.leaf _ _ _ _ _ _ (by first | assumption | (unfold I64; omega)) (by first | assumption | (unfold I64; omega)) (by first | assumption | (unfold maxLen; decide)), hq4, (by omega), ?_, ?_, ⟨rfl, by omega⟩⟩
  · exact (by repeat (first | with_reducible exact HB4.out |  with_reducible refine blk_alloc ?_ _ | ((with_reducible refine blk_far ?_ ?_ _); rotate_left; (· first | (simp; omega) | omega))))
  · exact (by repeat (first | with_reducible exact HG5.out | with_reducible refine only_drew ?_ | with_reducible refine only_alloc ?_ _ | with_reducible refine only_setCell ?_ (.inl rfl) _ | ((with_reducible refine only_setCell ?_ (.inr ?_) _); rotate_left; (· first | exact Nat.le_refl _ | omega | (simp; done) | (simp; omega)))))
set_option maxRecDepth 20000 in
set_option maxHeartbeats 2000000 in
theorem rv_k9b (s : ByteArray) (d rb p bg : Nat) (lv : Int) (w : World) (hs : s.size ≤ 1000000000000000) (hlv : lv = 16 - d) (hd : d ≤ 16) (hp : p ≤ s.size) (hbg : bg ≤ 1024) (h : w.heap[rb]? = some (RrCells s p bg 0)) (hb : bg < 1024) (hlt : p < s.size) (hk : byteN s p = 9) (h9 : p + 1 < s.size) (h1 : 1 < byteN s (p + 1)) :
    Calls Tryd.prog 29 #[.pointer (some ⟨rb, 0, none⟩), .int .i64 lv] w (RvPost rb s w (.error 4)) := by
  have ck := blk_cell h
  have cf := blk_free h
  have hrb := blk_lt h
  have H := Lib.hid h
  have hne : rb ≠ w.heap.size := by omega
  have d0 : decide (16 < lv) = false := by simp; omega
  have d1 : decide (1024 ≤ (bg : Int)) = false := by simp; omega
  have HLV := Lib.hid hlv
  have hlv1 : 0 ≤ lv ∧ lv ≤ 16 := by omega
  clear hlv h
  go_enter Tryd.func29, Tryd.ntmps29
  go_wp2_with fail
  have HB2 := Lib.hid (blk_alloc (rr_set2 H.out ((bg : Int) + 1) (bg' := bg + 1) (by omega)) (.cells #[.int .i64 0, .int .i64 0, .string ⟨#[]⟩, .slice none 0 0, .slice none 0 0] 32))
  have HG2 : Hid (w.grownBy ((w.setCell ⟨rb, 2, none⟩ (.int .i64 ((bg : Int) + 1))).alloc (.cells #[.int .i64 0, .int .i64 0, .string ⟨#[]⟩, .slice none 0 0, .slice none 0 0] 32)) (some rb)) := only_alloc (only_setCell (World.grownBy.refl _ _) (.inl rfl) _) _
  have HA2 : Hid (((w.setCell ⟨rb, 2, none⟩ (.int .i64 ((bg : Int) + 1))).alloc (.cells #[.int .i64 0, .int .i64 0, .string ⟨#[]⟩, .slice none 0 0, .slice none 0 0] 32)).heap[w.heap.size]? = some (.cells #[.int .i64 0, .int .i64 0, .string ⟨#[]⟩, .slice none 0 0, .slice none 0 0] 32 (0, 0))) := by
    have := blk_at0 (w.setCell ⟨rb, 2, none⟩ (.int .i64 ((bg : Int) + 1))) (.cells #[.int .i64 0, .int .i64 0, .string ⟨#[]⟩, .slice none 0 0, .slice none 0 0] 32)
    rw [size_setCell] at this; exact this
  clear ck cf
  refine (Rbytes_any s rb p (bg + 1) 1 1 rfl _ hs hp (by omega) HB2.out).mono ?_
  rw [show takeS s p 1 = .ok (s.extract p (p + 1), p + 1) by unfold takeS; rw [if_pos (by omega)]]
  rintro e w3 ⟨t1, q1, c1, ht1, hq1, rfl, hb3, g3, ho⟩
  obtain ⟨rfl, rfl, rfl⟩ := ho
  clear ht1 hq1
  obtain ⟨t1, ht1, hz1, hz0, hzb⟩ := byte_ext s p hlt
  rw [ht1]
  rw [hk] at hzb
  clear ht1
  have HB3 := Lib.hid hb3
  have HG3 := Lib.hid (only_trans HG2.out g3)
  have HA3 := Lib.hid (blk_only HA2.out g3 hne.symm)
  have s3 : w.heap.size < w3.heap.size := by have := g3.size; simp [World.setCell] at this; omega
  have r3 : rb < w3.heap.size := by omega
  clear hb3 g3 HB2 HG2 HA2 H
  have ck := blk_cell HB3.out
  have cf := blk_free HB3.out
  have ca := blk_cell HA3.out
  have fa := blk_free HA3.out
  have HVB := Lib.hid (blk_at0 w3 (.cells #[.int .i64 9, .int .i64 0, .string ⟨#[]⟩, .slice none 0 0, .slice none 0 0] 32))
  have HG4 : Hid (w.grownBy (w3.alloc (.cells #[.int .i64 9, .int .i64 0, .string ⟨#[]⟩, .slice none 0 0, .slice none 0 0] 32)) (some rb)) := only_alloc HG3.out _
  go_wp2_with fail
  refine (Rbytes_any s rb (p + 1) (bg + 1) 1 1 rfl _ hs (by omega) (by omega) (blk_alloc HB3.out _)).mono ?_
  rw [show takeS s (p + 1) 1 = .ok (s.extract (p + 1) (p + 1 + 1), p + 1 + 1) by unfold takeS; rw [if_pos (by omega)]]
  rintro e w4 ⟨t4, q4, c4, ht4, hq4, rfl, hb4, g4, ho4⟩
  obtain ⟨rfl, rfl, rfl⟩ := ho4
  clear ht4 hq4
  obtain ⟨t4, ht4, hy1, hy0, hyb⟩ := byte_ext s (p + 1) h9
  rw [ht4]
  clear ht4
  have d9 : decide (1 < ((t4[0]'hy0).toNat : Int)) = true := by simp; omega
  have HB4 := Lib.hid hb4
  have HG5 := Lib.hid (only_trans HG4.out g4)
  have HA4 := Lib.hid (blk_only (blk_alloc HA3.out (.cells #[.int .i64 9, .int .i64 0, .string ⟨#[]⟩, .slice none 0 0, .slice none 0 0] 32)) g4 hne.symm)
  have HV4 := Lib.hid (blk_only HVB.out g4 (by omega))
  have s4 : w3.heap.size < w4.heap.size := by have := g4.size; simp at this; omega
  have hnv : ¬ w.heap.size = w3.heap.size := by omega
  clear ck cf ca fa hb4 g4 HG4 HVB HB3 HG3 HA3
  have ck := blk_cell HB4.out
  have cf := blk_free HB4.out
  have ca := blk_cell HA4.out
  have fa := blk_free HA4.out
  have cv := blk_cell HV4.out
  have fv := blk_free HV4.out
  have hrb4 := blk_lt HB4.out
  go_wp2_with fail
  refine bodyPost_ret (v := .agg #[.int .i64 9, .int .i64 0, .string ⟨#[]⟩, .slice none 0 0, .slice none 0 0]) (by simp only [results, Tryd.results29]; go_simp) rfl ⟨_, _, (p + 1 + 1), (bg + 1), 4, rfl, VNew.leaf _ _ _ _ _ _ (by first | assumption | (unfold I64; omega)) (by first | assumption | (unfold I64; omega)) (by first | assumption | (unfold maxLen; decide)), (by omega), (by omega), ?_, ?_, ⟨rfl, by omega⟩⟩
  · exact (by repeat (first | with_reducible exact rr_set3 HB4.out _ |  with_reducible refine blk_alloc ?_ _ | ((with_reducible refine blk_far ?_ ?_ _); rotate_left; (· first | (simp; omega) | omega))))
  · exact (by repeat (first | with_reducible exact HG5.out | with_reducible refine only_drew ?_ | with_reducible refine only_alloc ?_ _ | with_reducible refine only_setCell ?_ (.inl rfl) _ | ((with_reducible refine only_setCell ?_ (.inr ?_) _); rotate_left; (· first | exact Nat.le_refl _ | omega | (simp; done) | (simp; omega)))))
set_option maxRecDepth 20000 in
set_option maxHeartbeats 2000000 in
theorem rv_k9c (s : ByteArray) (d rb p bg : Nat) (lv : Int) (w : World) (hs : s.size ≤ 1000000000000000) (hlv : lv = 16 - d) (hd : d ≤ 16) (hp : p ≤ s.size) (hbg : bg ≤ 1024) (h : w.heap[rb]? = some (RrCells s p bg 0)) (hb : bg < 1024) (hlt : p < s.size) (hk : byteN s p = 9) (h9 : p + 1 < s.size) (b1 : Nat) (hb1 : byteN s (p + 1) = b1) (h1 : b1 ≤ 1) :
    Calls Tryd.prog 29 #[.pointer (some ⟨rb, 0, none⟩), .int .i64 lv] w (RvPost rb s w (.ok (leafT 9 b1 ⟨#[]⟩, p + 1 + 1, bg + 1))) := by
  have ck := blk_cell h
  have cf := blk_free h
  have hrb := blk_lt h
  have H := Lib.hid h
  have hne : rb ≠ w.heap.size := by omega
  have d0 : decide (16 < lv) = false := by simp; omega
  have d1 : decide (1024 ≤ (bg : Int)) = false := by simp; omega
  have HLV := Lib.hid hlv
  have hlv1 : 0 ≤ lv ∧ lv ≤ 16 := by omega
  clear hlv h
  go_enter Tryd.func29, Tryd.ntmps29
  go_wp2_with fail
  have HB2 := Lib.hid (blk_alloc (rr_set2 H.out ((bg : Int) + 1) (bg' := bg + 1) (by omega)) (.cells #[.int .i64 0, .int .i64 0, .string ⟨#[]⟩, .slice none 0 0, .slice none 0 0] 32))
  have HG2 : Hid (w.grownBy ((w.setCell ⟨rb, 2, none⟩ (.int .i64 ((bg : Int) + 1))).alloc (.cells #[.int .i64 0, .int .i64 0, .string ⟨#[]⟩, .slice none 0 0, .slice none 0 0] 32)) (some rb)) := only_alloc (only_setCell (World.grownBy.refl _ _) (.inl rfl) _) _
  have HA2 : Hid (((w.setCell ⟨rb, 2, none⟩ (.int .i64 ((bg : Int) + 1))).alloc (.cells #[.int .i64 0, .int .i64 0, .string ⟨#[]⟩, .slice none 0 0, .slice none 0 0] 32)).heap[w.heap.size]? = some (.cells #[.int .i64 0, .int .i64 0, .string ⟨#[]⟩, .slice none 0 0, .slice none 0 0] 32 (0, 0))) := by
    have := blk_at0 (w.setCell ⟨rb, 2, none⟩ (.int .i64 ((bg : Int) + 1))) (.cells #[.int .i64 0, .int .i64 0, .string ⟨#[]⟩, .slice none 0 0, .slice none 0 0] 32)
    rw [size_setCell] at this; exact this
  clear ck cf
  refine (Rbytes_any s rb p (bg + 1) 1 1 rfl _ hs hp (by omega) HB2.out).mono ?_
  rw [show takeS s p 1 = .ok (s.extract p (p + 1), p + 1) by unfold takeS; rw [if_pos (by omega)]]
  rintro e w3 ⟨t1, q1, c1, ht1, hq1, rfl, hb3, g3, ho⟩
  obtain ⟨rfl, rfl, rfl⟩ := ho
  clear ht1 hq1
  obtain ⟨t1, ht1, hz1, hz0, hzb⟩ := byte_ext s p hlt
  rw [ht1]
  rw [hk] at hzb
  clear ht1
  have HB3 := Lib.hid hb3
  have HG3 := Lib.hid (only_trans HG2.out g3)
  have HA3 := Lib.hid (blk_only HA2.out g3 hne.symm)
  have s3 : w.heap.size < w3.heap.size := by have := g3.size; simp [World.setCell] at this; omega
  have r3 : rb < w3.heap.size := by omega
  clear hb3 g3 HB2 HG2 HA2 H
  have ck := blk_cell HB3.out
  have cf := blk_free HB3.out
  have ca := blk_cell HA3.out
  have fa := blk_free HA3.out
  have HVB := Lib.hid (blk_at0 w3 (.cells #[.int .i64 9, .int .i64 0, .string ⟨#[]⟩, .slice none 0 0, .slice none 0 0] 32))
  have HG4 : Hid (w.grownBy (w3.alloc (.cells #[.int .i64 9, .int .i64 0, .string ⟨#[]⟩, .slice none 0 0, .slice none 0 0] 32)) (some rb)) := only_alloc HG3.out _
  go_wp2_with fail
  refine (Rbytes_any s rb (p + 1) (bg + 1) 1 1 rfl _ hs (by omega) (by omega) (blk_alloc HB3.out _)).mono ?_
  rw [show takeS s (p + 1) 1 = .ok (s.extract (p + 1) (p + 1 + 1), p + 1 + 1) by unfold takeS; rw [if_pos (by omega)]]
  rintro e w4 ⟨t4, q4, c4, ht4, hq4, rfl, hb4, g4, ho4⟩
  obtain ⟨rfl, rfl, rfl⟩ := ho4
  clear ht4 hq4
  obtain ⟨t4, ht4, hy1, hy0, hyb⟩ := byte_ext s (p + 1) h9
  rw [ht4]
  clear ht4
  rw [hb1] at hyb
  clear hb1
  have d9 : decide (1 < (b1 : Int)) = false := by simp; omega
  have HB4 := Lib.hid hb4
  have HG5 := Lib.hid (only_trans HG4.out g4)
  have HA4 := Lib.hid (blk_only (blk_alloc HA3.out (.cells #[.int .i64 9, .int .i64 0, .string ⟨#[]⟩, .slice none 0 0, .slice none 0 0] 32)) g4 hne.symm)
  have HV4 := Lib.hid (blk_only HVB.out g4 (by omega))
  have s4 : w3.heap.size < w4.heap.size := by have := g4.size; simp at this; omega
  have hnv : ¬ w.heap.size = w3.heap.size := by omega
  clear ck cf ca fa hb4 g4 HG4 HVB HB3 HG3 HA3
  have ck := blk_cell HB4.out
  have cf := blk_free HB4.out
  have ca := blk_cell HA4.out
  have fa := blk_free HA4.out
  have cv := blk_cell HV4.out
  have fv := blk_free HV4.out
  have hrb4 := blk_lt HB4.out
  go_wp2_with fail
  refine bodyPost_ret (v := .agg #[.int .i64 9, .int .i64 (b1 : Int), .string ⟨#[]⟩, .slice none 0 0, .slice none 0 0]) (by simp only [results, Tryd.results29]; go_simp) rfl ⟨_, _, (p + 1 + 1), (bg + 1), 0, rfl, VNew.leaf _ _ _ _ _ _ (by unfold I64; omega) (by unfold I64; omega) (by unfold maxLen; decide), (by omega), (by omega), ?_, ?_, ⟨rfl, rfl⟩⟩
  · exact (by repeat (first | with_reducible exact HB4.out |  with_reducible refine blk_alloc ?_ _ | ((with_reducible refine blk_far ?_ ?_ _); rotate_left; (· first | (simp; omega) | omega))))
  · exact (by repeat (first | with_reducible exact HG5.out | with_reducible refine only_drew ?_ | with_reducible refine only_alloc ?_ _ | with_reducible refine only_setCell ?_ (.inl rfl) _ | ((with_reducible refine only_setCell ?_ (.inr ?_) _); rotate_left; (· first | exact Nat.le_refl _ | omega | (simp; done) | (simp; omega)))))
end Go.Proofs.YtdoofmohoamkbaaDoor
set_option linter.unusedSimpArgs false
set_option linter.unusedVariables false
namespace Go.Proofs.YtdoofmohoamkbaaDoor
open Go.RowKit
/-- where a list stands -/
def LRel (s : ByteArray) (d : Nat) (r : Except Int (Tr × Nat × Nat)) (m q b : Nat) (ts : List Tr) (c : Int) : Prop := (c = 0 ∧ listE (rdL (rdT s d) m q b ts) = r) ∨ (c ≠ 0 ∧ r = .error c)
theorem LRel.step {s : ByteArray} {d : Nat} {r : Except Int (Tr × Nat × Nat)} {m q b : Nat} {ts : List Tr} (h : LRel s d r (m + 1) q b ts 0) {t : Tr} {q' b' : Nat} {c : Int} (ho : OutV (rdT s d q b) t q' b' c) : LRel s d r m q' b' (ts ++ [t]) c := by
  rcases h with ⟨_, h⟩ | ⟨h, _⟩
  · simp only [rdL] at h
    cases hx : rdT s d q b with
    | error e => rw [hx] at h ho; obtain ⟨rfl, hc⟩ := ho; exact .inr ⟨hc, h.symm⟩
    | ok y => rw [hx] at h ho; obtain ⟨rfl, rfl⟩ := ho; exact .inl ⟨rfl, h⟩
  · exact absurd rfl h
theorem LRel.done {s : ByteArray} {d : Nat} {r : Except Int (Tr × Nat × Nat)} {m q b : Nat} {ts : List Tr} {c : Int} (h : LRel s d r m q b ts c) (hm : c = 0 → m = 0) : OutV r (.mk 6 0 ⟨#[]⟩ ts [] []) q b c := by
  rcases h with ⟨rfl, h⟩ | ⟨hc, rfl⟩
  · rw [hm rfl] at h; rw [← h]; exact ⟨rfl, rfl⟩
  · exact ⟨rfl, hc⟩
theorem LRel.start {s : ByteArray} {d bg : Nat} {x : Except Int (Int × Nat)} {n : Int} {q : Nat} {c : Int} (ho : Out x n q c) : LRel s d (listR s d bg x) n.toNat q (bg + 1) [] c := by
  cases x with
  | error e => obtain ⟨rfl, hc⟩ := ho; exact .inr ⟨hc, rfl⟩
  | ok y => obtain ⟨n', q'⟩ := y; obtain ⟨rfl, rfl, rfl⟩ := ho; exact .inl ⟨rfl, (listR_ok s d bg n' q').symm⟩
theorem outV_goes {s : ByteArray} {d q b : Nat} {t : Tr} {q' b' : Nat} {c : Int} (hq : q ≤ s.size) (hb : b ≤ 1024) (ho : OutV (rdT s d q b) t q' b' c) (hc : c = 0) : b < b' := by
  cases hx : rdT s d q b with
  | error e => rw [hx] at ho; exact absurd hc ho.2
  | ok y => rw [hx] at ho; obtain ⟨rfl, _⟩ := ho; exact (rdT_goes s d q b _ _ _ hq hb hx).2.1
theorem rdF_name (s : ByteArray) (f : Nat → Nat → Except Int (Tr × Nat × Nat)) (n p bg : Nat) (ns : List ByteArray) (ds : List Tr) : rdF s f (n + 1) p bg ns ds = (match nameK s ns (countLo 1 (numR s p)) with
    | .error e => .error e
    | .ok (nm, q2) => match f q2 bg with
      | .error e => .error e
      | .ok (t, q3, bg') => rdF s f n q3 bg' (ns ++ [nm]) (ds ++ [t])) := by
  rw [rdF]
  cases hx : numR s p with
  | error e => rfl
  | ok y =>
    obtain ⟨m, q⟩ := y
    simp only [countLo]
    by_cases h1 : 1 ≤ m
    · rw [if_pos h1]
      simp only [nameK]
      by_cases h2 : m ≤ 32
      · rw [if_pos ⟨h1, h2⟩, if_pos h2]
        cases ht : takeS s q m.toNat with
        | error e => rfl
        | ok z =>
          obtain ⟨nm, q2⟩ := z
          simp only
          cases hb : (nameB nm && !hasL ns nm)
          · simp
          · simp only [if_true]
            cases f q2 bg <;> rfl
      · rw [if_neg (by omega), if_neg h2]
    · rw [if_neg h1, if_neg (by omega)]; rfl
def DRel (s : ByteArray) (d : Nat) (r : Except Int (Tr × Nat × Nat)) (m q b : Nat) (ns : List ByteArray) (ts : List Tr) (c : Int) : Prop := (c = 0 ∧ docE (rdF s (rdT s d) m q b ns ts) = r) ∨ (c ≠ 0 ∧ r = .error c)
theorem DRel.bad {s : ByteArray} {d : Nat} {r : Except Int (Tr × Nat × Nat)} {m q b : Nat} {ns : List ByteArray} {ts : List Tr} (h : DRel s d r (m + 1) q b ns ts 0) {nm : ByteArray} {q1 : Nat} {c1 : Int} (hn : Out (nameK s ns (countLo 1 (numR s q))) nm q1 c1) (hc : c1 ≠ 0) (m' q' b' : Nat) (ns' : List ByteArray) (ts' : List Tr) : DRel s d r m' q' b' ns' ts' c1 := by
  rcases h with ⟨_, h⟩ | ⟨h, _⟩
  · rw [rdF_name] at h
    cases hx : nameK s ns (countLo 1 (numR s q)) with
    | error e => rw [hx] at h hn; obtain ⟨rfl, hc⟩ := hn; exact .inr ⟨hc, h.symm⟩
    | ok y => rw [hx] at hn; obtain ⟨nm', q'⟩ := y; exact absurd hn.2.2 hc
  · exact absurd rfl h
theorem DRel.step {s : ByteArray} {d : Nat} {r : Except Int (Tr × Nat × Nat)} {m q b : Nat} {ns : List ByteArray} {ts : List Tr} (h : DRel s d r (m + 1) q b ns ts 0) {nm : ByteArray} {q1 : Nat} (hn : Out (nameK s ns (countLo 1 (numR s q))) nm q1 0) {t : Tr} {q' b' : Nat} {c : Int} (ho : OutV (rdT s d q1 b) t q' b' c) : DRel s d r m q' b' (ns ++ [nm]) (ts ++ [t]) c := by
  rcases h with ⟨_, h⟩ | ⟨h, _⟩
  · rw [rdF_name] at h
    cases hx : nameK s ns (countLo 1 (numR s q)) with
    | error e => rw [hx] at hn; exact absurd rfl hn.2
    | ok y =>
      obtain ⟨nm', q2⟩ := y
      rw [hx] at h hn
      obtain ⟨rfl, rfl, _⟩ := hn
      simp only at h
      cases hy : rdT s d q2 b with
      | error e => rw [hy] at h ho; obtain ⟨rfl, hc⟩ := ho; exact .inr ⟨hc, h.symm⟩
      | ok y => rw [hy] at h ho; obtain ⟨rfl, rfl⟩ := ho; exact .inl ⟨rfl, h⟩
  · exact absurd rfl h
theorem DRel.done {s : ByteArray} {d : Nat} {r : Except Int (Tr × Nat × Nat)} {m q b : Nat} {ns : List ByteArray} {ts : List Tr} {c : Int} (h : DRel s d r m q b ns ts c) (hm : c = 0 → m = 0) : OutV r (.mk 5 0 ⟨#[]⟩ [] ns ts) q b c := by
  rcases h with ⟨rfl, h⟩ | ⟨hc, rfl⟩
  · rw [hm rfl] at h; rw [← h]; exact ⟨rfl, rfl⟩
  · exact ⟨rfl, hc⟩
theorem DRel.start {s : ByteArray} {d bg : Nat} {x : Except Int (Int × Nat)} {n : Int} {q : Nat} {c : Int} (ho : Out x n q c) : DRel s d (docE (fldR s d (bg + 1) x)) n.toNat q (bg + 1) [] [] c := by
  cases x with
  | error e => obtain ⟨rfl, hc⟩ := ho; exact .inr ⟨hc, rfl⟩
  | ok y => obtain ⟨n', q'⟩ := y; obtain ⟨rfl, rfl, rfl⟩ := ho; exact .inl ⟨rfl, rfl⟩
set_option maxRecDepth 20000 in
set_option maxHeartbeats 2000000 in
theorem rv_k6 (s : ByteArray) (d rb p bg : Nat) (lv : Int) (w : World) (hs : s.size ≤ 1000000000000000) (hlv : lv = 16 - d) (hd : d ≤ 16) (hp : p ≤ s.size) (hbg : bg ≤ 1024) (h : w.heap[rb]? = some (RrCells s p bg 0)) (hb : bg < 1024) (hlt : p < s.size) (hk : byteN s p = 6) (ih : RvOk s d) :
    Calls Tryd.prog 29 #[.pointer (some ⟨rb, 0, none⟩), .int .i64 lv] w (RvPost rb s w (listR s d bg (countR s (p + 1)))) := by
  obtain ⟨r, hr⟩ : ∃ r, listR s d bg (countR s (p + 1)) = r := ⟨_, rfl⟩
  rw [hr]
  have HR := Lib.hid hr
  have HIH := Lib.hid ih
  clear hr ih
  have ck := blk_cell h
  have cf := blk_free h
  have hrb := blk_lt h
  have H := Lib.hid h
  have hne : rb ≠ w.heap.size := by omega
  have d0 : decide (16 < lv) = false := by simp; omega
  have d1 : decide (1024 ≤ (bg : Int)) = false := by simp; omega
  have HLV := Lib.hid hlv
  have hlv1 : 0 ≤ lv ∧ lv ≤ 16 := by omega
  clear hlv h
  go_enter Tryd.func29, Tryd.ntmps29
  go_wp2_with fail
  have HB2 := Lib.hid (blk_alloc (rr_set2 H.out ((bg : Int) + 1) (bg' := bg + 1) (by omega)) (.cells #[.int .i64 0, .int .i64 0, .string ⟨#[]⟩, .slice none 0 0, .slice none 0 0] 32))
  have HG2 : Hid (w.grownBy ((w.setCell ⟨rb, 2, none⟩ (.int .i64 ((bg : Int) + 1))).alloc (.cells #[.int .i64 0, .int .i64 0, .string ⟨#[]⟩, .slice none 0 0, .slice none 0 0] 32)) (some rb)) := only_alloc (only_setCell (World.grownBy.refl _ _) (.inl rfl) _) _
  have HA2 : Hid (((w.setCell ⟨rb, 2, none⟩ (.int .i64 ((bg : Int) + 1))).alloc (.cells #[.int .i64 0, .int .i64 0, .string ⟨#[]⟩, .slice none 0 0, .slice none 0 0] 32)).heap[w.heap.size]? = some (.cells #[.int .i64 0, .int .i64 0, .string ⟨#[]⟩, .slice none 0 0, .slice none 0 0] 32 (0, 0))) := by
    have := blk_at0 (w.setCell ⟨rb, 2, none⟩ (.int .i64 ((bg : Int) + 1))) (.cells #[.int .i64 0, .int .i64 0, .string ⟨#[]⟩, .slice none 0 0, .slice none 0 0] 32)
    rw [size_setCell] at this; exact this
  clear ck cf
  refine (Rbytes_any s rb p (bg + 1) 1 1 rfl _ hs hp (by omega) HB2.out).mono ?_
  rw [show takeS s p 1 = .ok (s.extract p (p + 1), p + 1) by unfold takeS; rw [if_pos (by omega)]]
  rintro e w3 ⟨t1, q1, c1, ht1, hq1, rfl, hb3, g3, ho⟩
  obtain ⟨rfl, rfl, rfl⟩ := ho
  clear ht1 hq1
  obtain ⟨t1, ht1, hz1, hz0, hzb⟩ := byte_ext s p hlt
  rw [ht1]
  rw [hk] at hzb
  clear ht1
  have HB3 := Lib.hid hb3
  have HG3 := Lib.hid (only_trans HG2.out g3)
  have HA3 := Lib.hid (blk_only HA2.out g3 hne.symm)
  have s3 : w.heap.size < w3.heap.size := by have := g3.size; simp [World.setCell] at this; omega
  have r3 : rb < w3.heap.size := by omega
  clear hb3 g3 HB2 HG2 HA2 H
  have ck := blk_cell HB3.out
  have cf := blk_free HB3.out
  have ca := blk_cell HA3.out
  have fa := blk_free HA3.out
  have HVB := Lib.hid (blk_at0 w3 (.cells #[.int .i64 6, .int .i64 0, .string ⟨#[]⟩, .slice none 0 0, .slice none 0 0] 32))
  have HG4 : Hid (w.grownBy (w3.alloc (.cells #[.int .i64 6, .int .i64 0, .string ⟨#[]⟩, .slice none 0 0, .slice none 0 0] 32)) (some rb)) := only_alloc HG3.out _
  go_wp2_with fail
  refine (Rcount_any s rb (p + 1) (bg + 1) _ hs (by omega) (blk_alloc HB3.out _)).mono ?_
  rintro e w4 ⟨n, q, c, hn, hq, rfl, hb4, g4, ho4⟩
  have HB4 := Lib.hid hb4
  have HG5 := Lib.hid (only_trans HG4.out g4)
  have HA4 := Lib.hid (blk_only (blk_alloc HA3.out (.cells #[.int .i64 6, .int .i64 0, .string ⟨#[]⟩, .slice none 0 0, .slice none 0 0] 32)) g4 hne.symm)
  have HV4 := Lib.hid (blk_only HVB.out g4 (by omega))
  have s4 : w3.heap.size < w4.heap.size := by have := g4.size; simp at this; omega
  have hnv : ¬ w.heap.size = w3.heap.size := by omega
  have hI := hn
  unfold I64 at hI
  have HRR := Lib.hid (LRel.start (s := s) (d := d) (bg := bg) ho4)
  rw [HR.out] at HRR
  have hc0 : c = 0 → n.toNat ≤ 9223372036854775807 := fun _ => by omega
  clear ck cf ca fa hb4 g4 HG4 HVB HB3 HG3 HA3 ho4 hc0
  go_wp2_with fail
  go_loopw [9] (fun i wr => ∃ (j : Nat) (ts : List Tr) (q' b' : Nat) (c' : Int) (x : Value), j ≤ n.toNat ∧ i = .int .i64 j ∧ Hid (LRel s d r (n.toNat - j) q' b' ts c') ∧ q' ≤ s.size ∧ b' ≤ 1024 ∧ ts.length ≤ 1025 ∧ (c' = 0 → ts.length ≤ b') ∧ Hid (wr.heap[rb]? = some (RrCells s q' b' c')) ∧ Hid (wr.heap[w3.heap.size]? = some (.cells #[.int .i64 6, .int .i64 0, .string ⟨#[]⟩, x, .slice none 0 0] 32 (0, 0))) ∧
      Hid (wr.heap[w.heap.size]? = some (.cells #[.int .i64 0, .int .i64 0, .string ⟨#[]⟩, .slice none 0 0, .slice none 0 0] 32 (0, 0))) ∧ Hid (VAcc w4.heap.size wr x ts) ∧ Hid (w.grownBy wr (some rb)) ∧ w4.heap.size ≤ wr.heap.size) (fun i _ => n.toNat - (intOf i).toNat)
  case atStart => exact ⟨0, [], q, bg + 1, c, _, by omega, rfl, HRR, hq, by omega, by simp, by simp, HB4, HV4, HA4, VAcc.nil _ _, HG5, Nat.le_refl _⟩
  case round =>
    obtain ⟨j, ts, q', b', c', x, hj, rfl, HF, hq', hb', htl, htb, HBr, HVr, HAr, HAcc, HGr, hsr⟩ := hrel
    obtain ⟨ax, cx, rfl⟩ := HAcc.out.shape
    have HTB := Lib.hid htb
    clear htb
    have cv := blk_cell HVr.out
    have fv := blk_free HVr.out
    have ck := blk_cell HBr.out
    have cf := blk_free HBr.out
    have hrbr := blk_lt HBr.out
    by_cases hjm : (j : Int) < n
    case neg =>
      have dj : decide ((j : Int) < n) = false := by simp; omega
      have ca := blk_cell HAr.out
      have fa := blk_free HAr.out
      have HO := Lib.hid (HF.out.done (by intro _; omega))
      go_wp2_with fail
      refine bodyPost_ret (v := .agg #[.int .i64 6, .int .i64 0, .string ⟨#[]⟩, .slice ax ts.length cx, .slice none 0 0]) (by simp only [results, Tryd.results29]; go_simp) rfl ⟨_, _, q', b', c', rfl, HAcc.out.value (w0 := w.heap.size) ?_ (by omega) ?_ (by omega), hq', hb', ?_, ?_, HO.out⟩
      · repeat (first | with_reducible exact Same.refl _ _ | ((with_reducible refine Same.setCell ?_ ?_ _); rotate_left; (· first | (simp; done) | (simp; omega))))
      · simp [World.setCell]
      · exact (by repeat (first | with_reducible exact HBr.out |  with_reducible refine blk_alloc ?_ _ | ((with_reducible refine blk_far ?_ ?_ _); rotate_left; (· first | (simp; omega) | omega))))
      · exact (by repeat (first | with_reducible exact HGr.out | with_reducible refine only_drew ?_ | with_reducible refine only_alloc ?_ _ | with_reducible refine only_setCell ?_ (.inl rfl) _ | ((with_reducible refine only_setCell ?_ (.inr ?_) _); rotate_left; (· first | exact Nat.le_refl _ | omega | (simp; done) | (simp; omega)))))
    by_cases hc : c' = 0
    case neg =>
      have dj : decide ((j : Int) < n) = true := by simpa using hjm
      have dc : (c' == 0) = false := beq_eq_false_iff_ne.2 hc
      have ca := blk_cell HAr.out
      have fa := blk_free HAr.out
      have HO := Lib.hid (HF.out.done (by intro h; exact absurd h hc))
      go_wp2_with fail
      refine bodyPost_ret (v := .agg #[.int .i64 6, .int .i64 0, .string ⟨#[]⟩, .slice ax ts.length cx, .slice none 0 0]) (by simp only [results, Tryd.results29]; go_simp) rfl ⟨_, _, q', b', c', rfl, HAcc.out.value (w0 := w.heap.size) ?_ (by omega) ?_ (by omega), hq', hb', ?_, ?_, HO.out⟩
      · repeat (first | with_reducible exact Same.refl _ _ | ((with_reducible refine Same.setCell ?_ ?_ _); rotate_left; (· first | (simp; done) | (simp; omega))))
      · simp [World.setCell]
      · exact (by repeat (first | with_reducible exact HBr.out |  with_reducible refine blk_alloc ?_ _ | ((with_reducible refine blk_far ?_ ?_ _); rotate_left; (· first | (simp; omega) | omega))))
      · exact (by repeat (first | with_reducible exact HGr.out | with_reducible refine only_drew ?_ | with_reducible refine only_alloc ?_ _ | with_reducible refine only_setCell ?_ (.inl rfl) _ | ((with_reducible refine only_setCell ?_ (.inr ?_) _); rotate_left; (· first | exact Nat.le_refl _ | omega | (simp; done) | (simp; omega)))))
    subst hc
    have hF := HF.out
    rw [show n.toNat - j = (n.toNat - (j + 1)) + 1 by omega] at hF
    have HF2 := Lib.hid hF
    have dj : decide ((j : Int) < n) = true := by simpa using hjm
    have hwl := wrap_i64_val (lv + 1) (by omega) (by omega)
    have hvl : w3.heap.size < wr.heap.size := by omega
    have hl0 : ts.length ≤ b' := HTB.out rfl
    clear hF HF HTB
    go_wp2_with fail
    clear ck cf
    refine wp_region_mixz (fun W => W.heap[w3.heap.size]? = some (.cells #[.int .i64 6, .int .i64 0, .string ⟨#[]⟩, .slice ax ts.length cx, .slice none 0 0] 32 (0, 0))) 9 [(true, 0), (true, 1), (true, 2), (true, 3), (true, 4), (false, 5), (false, 6), (false, 7), (true, 8), (false, 9)] (by kernel_rfl) (by kernel_rfl) (by kernel_rfl) (by kernel_rfl) (by kernel_rfl) (by kernel_rfl) ?hS ?_
    case hS => exact HVr.out
    repeat (first | (refine wpMixZ_q (v := ?_) rfl rfl ?_ ?_; rotate_left; (· intro wq hSq; have cq := blk_cell hSq; go_simp; try (with_reducible rfl)); simp only [Act.put, List.setIfInBounds_toArray, List.set_cons_zero, List.set_cons_succ, List.getElem_toArray, List.getElem_cons_zero, List.getElem_cons_succ]) | (refine wpMixZ_u rfl rfl ?_; simp only [Act.put, List.setIfInBounds_toArray, List.set_cons_zero, List.set_cons_succ, List.getElem_toArray, List.getElem_cons_zero, List.getElem_cons_succ]))
    refine wpMixZ_l rfl rfl (fun K hK => ?_)
    go_simp
    refine (HIH.out rb q' b' (lv + 1) wr.drew (by have := HLV.out; omega) hq' hb' HBr.out).mono ?_
    rintro e w5 ⟨t5, v5, q5, b5, c5, rfl, hv5, hq5, hb5, hk5, g5, ho5⟩
    have HF3 := Lib.hid (HF2.out.step ho5)
    have HGo := Lib.hid (outV_goes hq' hb' ho5)
    have HB5 := Lib.hid hk5
    have HG5' := Lib.hid (only_trans (only_drew HGr.out) g5)
    have HV5 := Lib.hid (blk_only (w := wr.drew) HVr.out g5 (by omega))
    have HA5 := Lib.hid (blk_only (w := wr.drew) HAr.out g5 hne.symm)
    have sz5 : wr.heap.size ≤ w5.heap.size := g5.size
    have HSm : Hid (Same w4.heap.size wr w5) := Same.only (w := wr.drew) (Same.refl _ wr).drew (Nat.le_refl _) g5 (by omega)
    have HAcc5 := Lib.hid (HAcc.out.keep HSm.out)
    have HW5 : Hid (VNew wr.heap.size w5.heap.size w5 t5 v5) := hv5
    obtain ⟨k', i', s', la', ln', lc', da', dn', dc', rfl⟩ := VRep.shape (show VRep (win _ w5) t5 v5 from HW5.out)
    have hown : ∀ g, (Value.slice ax ts.length cx).ownBlock = some g → w4.heap.size ≤ g ∧ g < wr.heap.size := fun g hg => by
      obtain ⟨cs, ho, _⟩ := HAcc.out
      exact ho.lt g hg
    have HOwn := Lib.hid hown
    refine hK _ _ HV5.out ?_
    clear hK K hv5 hk5 g5 hown HF2 ho5
    refine wpMixZ_l rfl rfl (fun K hK => ?_)
    go_simp
    refine hK _ _ (blk_alloc HV5.out _) ?_
    clear hK K
    refine wpMixZ_l rfl rfl (fun K hK => ?_)
    refine wp_append_vacc w5 _ _ rfl w4.heap.size (.slice ax ts.length cx) ts rfl HAcc5.out t5 _ _ _ _ _ rfl wr.heap.size hsr (fun g hg => (HOwn.out g hg).2) HW5.out (by omega) (by omega) ?_
    intro v6 w6 a6 o6 g6
    obtain ⟨ts6, hts6⟩ : ∃ l, ts ++ [t5] = l := ⟨_, rfl⟩
    have hl6 : ts6.length = ts.length + 1 := by rw [← hts6]; simp
    have hl7 : ts6.length ≤ 1025 := by omega
    have HL8 : Hid (c5 = 0 → ts6.length ≤ b5) := fun h => by have := HGo.out h; omega
    clear hl6 HGo
    rw [hts6] at a6 HF3
    clear hts6
    have HAcc6 := Lib.hid a6
    have hbk : ∀ i, i < w4.heap.size → w6.heap[i]? = w5.heap[i]? := fun i hi => by
      rw [g6.block i (by simp; omega) (fun e => by have := (HOwn.out i e.symm).1; omega), Below.heap_alloc w5 _ i (by omega)]
    have HB6 : Hid (w6.heap[rb]? = some (RrCells s q5 b5 c5)) := (hbk rb (by omega)).trans HB5.out
    have HV6 : Hid (w6.heap[w3.heap.size]? = some (.cells #[.int .i64 6, .int .i64 0, .string ⟨#[]⟩, .slice ax ts.length cx, .slice none 0 0] 32 (0, 0))) := (hbk _ (by omega)).trans HV5.out
    have HA6 : Hid (w6.heap[w.heap.size]? = some (.cells #[.int .i64 0, .int .i64 0, .string ⟨#[]⟩, .slice none 0 0, .slice none 0 0] 32 (0, 0))) := (hbk _ (by omega)).trans HA5.out
    have sz6 : w5.heap.size < w6.heap.size := by have := g6.size; simp at this; omega
    have HG6 : Hid (w.grownBy w6 (some rb)) := by
      have g7 := only_alloc HG5'.out (.cells #[.int .i64 k', .int .i64 i', .string s', .slice la' ln' lc', .slice da' dn' dc'] 32)
      exact ⟨g6.os.trans g7.os, g6.tape.trans g7.tape, g6.output.trans g7.output, Nat.le_trans g7.size g6.size, fun i hi hn => by
        rw [g6.block i (by have := g7.size; omega) (fun e => by have := (HOwn.out i e.symm).1; omega)]
        exact g7.block i hi hn⟩
    refine hK _ _ HV6.out ?_
    clear hK K a6 g6 hbk HAcc5 HB5 HV5 HA5 HG5' cv fv
    obtain ⟨ax6, cx6, rfl⟩ := HAcc6.out.shape
    repeat (first | (refine wpMixZ_q (v := ?_) rfl rfl ?_ ?_; rotate_left; (· intro wq hSq; have cq := blk_cell hSq; go_simp; try (with_reducible rfl)); simp only [Act.put, List.setIfInBounds_toArray, List.set_cons_zero, List.set_cons_succ, List.getElem_toArray, List.getElem_cons_zero, List.getElem_cons_succ]) | (refine wpMixZ_u rfl rfl ?_; simp only [Act.put, List.setIfInBounds_toArray, List.set_cons_zero, List.set_cons_succ, List.getElem_toArray, List.getElem_cons_zero, List.getElem_cons_succ]))
    refine wpMixZ_z rfl rfl (fun K hK => ?_)
    have cv := blk_cell HV6.out
    have fv := blk_free HV6.out
    go_simp
    refine hK _ _ ?_
    clear hK K
    refine wpMixZ_nil ?_
    have HV7 := Lib.hid (blk_set HV6.out 3 (.slice ax6 ts6.length cx6))
    have HB7 := Lib.hid (blk_far HB6.out (p := ⟨w3.heap.size, 3, none⟩) (by simp; omega) (.slice ax6 ts6.length cx6))
    have HA7 := Lib.hid (blk_far HA6.out (p := ⟨w3.heap.size, 3, none⟩) (by simp; omega) (.slice ax6 ts6.length cx6))
    have HG7 := Lib.hid (only_setCell HG6.out (p := ⟨w3.heap.size, 3, none⟩) (.inr (by simp; omega)) (.slice ax6 ts6.length cx6))
    have HAcc7 := Lib.hid (HAcc6.out.keep (Same.setCell (Same.refl _ _) (p := ⟨w3.heap.size, 3, none⟩) (by simp; omega) (.slice ax6 ts6.length cx6)))
    go_wp2_with fail
    exact ⟨⟨j + 1, ts6, q5, b5, c5, _, by omega, by go_num, HF3, hq5, hb5, hl7, HL8.out, HB7, HV7, HA7, HAcc7, HG7, by simp [World.setCell]; omega⟩, by simp [intOf]; omega⟩
set_option maxRecDepth 20000 in
set_option maxHeartbeats 2000000 in
theorem rv_k5 (s : ByteArray) (d rb p bg : Nat) (lv : Int) (w : World) (hs : s.size ≤ 1000000000000000) (hlv : lv = 16 - d) (hd : d ≤ 16) (hp : p ≤ s.size) (hbg : bg ≤ 1024) (h : w.heap[rb]? = some (RrCells s p bg 0)) (hb : bg < 1024) (hlt : p < s.size) (hk : byteN s p = 5) (ih : RvOk s d) :
    Calls Tryd.prog 29 #[.pointer (some ⟨rb, 0, none⟩), .int .i64 lv] w (RvPost rb s w (docE (fldR s d (bg + 1) (countR s (p + 1))))) := by
  obtain ⟨r, hr⟩ : ∃ r, docE (fldR s d (bg + 1) (countR s (p + 1))) = r := ⟨_, rfl⟩
  rw [hr]
  have HR := Lib.hid hr
  have HIH := Lib.hid ih
  clear hr ih
  have ck := blk_cell h
  have cf := blk_free h
  have hrb := blk_lt h
  have H := Lib.hid h
  have hne : rb ≠ w.heap.size := by omega
  have d0 : decide (16 < lv) = false := by simp; omega
  have d1 : decide (1024 ≤ (bg : Int)) = false := by simp; omega
  have HLV := Lib.hid hlv
  have hlv1 : 0 ≤ lv ∧ lv ≤ 16 := by omega
  clear hlv h
  go_enter Tryd.func29, Tryd.ntmps29
  go_wp2_with fail
  have HB2 := Lib.hid (blk_alloc (rr_set2 H.out ((bg : Int) + 1) (bg' := bg + 1) (by omega)) (.cells #[.int .i64 0, .int .i64 0, .string ⟨#[]⟩, .slice none 0 0, .slice none 0 0] 32))
  have HG2 : Hid (w.grownBy ((w.setCell ⟨rb, 2, none⟩ (.int .i64 ((bg : Int) + 1))).alloc (.cells #[.int .i64 0, .int .i64 0, .string ⟨#[]⟩, .slice none 0 0, .slice none 0 0] 32)) (some rb)) := only_alloc (only_setCell (World.grownBy.refl _ _) (.inl rfl) _) _
  have HA2 : Hid (((w.setCell ⟨rb, 2, none⟩ (.int .i64 ((bg : Int) + 1))).alloc (.cells #[.int .i64 0, .int .i64 0, .string ⟨#[]⟩, .slice none 0 0, .slice none 0 0] 32)).heap[w.heap.size]? = some (.cells #[.int .i64 0, .int .i64 0, .string ⟨#[]⟩, .slice none 0 0, .slice none 0 0] 32 (0, 0))) := by
    have := blk_at0 (w.setCell ⟨rb, 2, none⟩ (.int .i64 ((bg : Int) + 1))) (.cells #[.int .i64 0, .int .i64 0, .string ⟨#[]⟩, .slice none 0 0, .slice none 0 0] 32)
    rw [size_setCell] at this; exact this
  clear ck cf
  refine (Rbytes_any s rb p (bg + 1) 1 1 rfl _ hs hp (by omega) HB2.out).mono ?_
  rw [show takeS s p 1 = .ok (s.extract p (p + 1), p + 1) by unfold takeS; rw [if_pos (by omega)]]
  rintro e w3 ⟨t1, q1, c1, ht1, hq1, rfl, hb3, g3, ho⟩
  obtain ⟨rfl, rfl, rfl⟩ := ho
  clear ht1 hq1
  obtain ⟨t1, ht1, hz1, hz0, hzb⟩ := byte_ext s p hlt
  rw [ht1]
  rw [hk] at hzb
  clear ht1
  have HB3 := Lib.hid hb3
  have HG3 := Lib.hid (only_trans HG2.out g3)
  have HA3 := Lib.hid (blk_only HA2.out g3 hne.symm)
  have s3 : w.heap.size < w3.heap.size := by have := g3.size; simp [World.setCell] at this; omega
  have r3 : rb < w3.heap.size := by omega
  clear hb3 g3 HB2 HG2 HA2 H
  have ck := blk_cell HB3.out
  have cf := blk_free HB3.out
  have ca := blk_cell HA3.out
  have fa := blk_free HA3.out
  have HVB := Lib.hid (blk_at0 w3 (.cells #[.int .i64 5, .int .i64 0, .string ⟨#[]⟩, .slice none 0 0, .slice none 0 0] 32))
  have HG4 : Hid (w.grownBy (w3.alloc (.cells #[.int .i64 5, .int .i64 0, .string ⟨#[]⟩, .slice none 0 0, .slice none 0 0] 32)) (some rb)) := only_alloc HG3.out _
  go_wp2_with fail
  refine (Rcount_any s rb (p + 1) (bg + 1) _ hs (by omega) (blk_alloc HB3.out _)).mono ?_
  rintro e w4 ⟨n, q, c, hn, hq, rfl, hb4, g4, ho4⟩
  have HB4 := Lib.hid hb4
  have HG5 := Lib.hid (only_trans HG4.out g4)
  have HA4 := Lib.hid (blk_only (blk_alloc HA3.out (.cells #[.int .i64 5, .int .i64 0, .string ⟨#[]⟩, .slice none 0 0, .slice none 0 0] 32)) g4 hne.symm)
  have HV4 := Lib.hid (blk_only HVB.out g4 (by omega))
  have s4 : w3.heap.size < w4.heap.size := by have := g4.size; simp at this; omega
  have hnv : ¬ w.heap.size = w3.heap.size := by omega
  have hI := hn
  unfold I64 at hI
  have HRR := Lib.hid (DRel.start (s := s) (d := d) (bg := bg) ho4)
  rw [HR.out] at HRR
  have hc0 : c = 0 → n.toNat ≤ 9223372036854775807 := fun _ => by omega
  clear ck cf ca fa hb4 g4 HG4 HVB HB3 HG3 HA3 ho4 hc0
  go_wp2_with fail
  go_loopw [11, 12] (fun i nmv wr => ∃ (j : Nat) (ns : List ByteArray) (ts : List Tr) (q' b' : Nat) (c' : Int) (x : Value), j ≤ n.toNat ∧ i = .int .i64 j ∧ Hid (DRel s d r (n.toNat - j) q' b' ns ts c') ∧ q' ≤ s.size ∧ b' ≤ 1024 ∧ ts.length ≤ 1025 ∧ (c' = 0 → ts.length ≤ b') ∧ Hid (wr.heap[rb]? = some (RrCells s q' b' c')) ∧ Hid (wr.heap[w3.heap.size]? = some (.cells #[.int .i64 5, .int .i64 0, .string ⟨#[]⟩, .slice none 0 0, x] 32 (0, 0))) ∧
      Hid (wr.heap[w.heap.size]? = some (.cells #[.int .i64 0, .int .i64 0, .string ⟨#[]⟩, .slice none 0 0, .slice none 0 0] 32 (0, 0))) ∧ Hid (FAcc w4.heap.size wr x ns ts) ∧ Hid (w.grownBy wr (some rb)) ∧ w4.heap.size ≤ wr.heap.size) (fun i _ _ => n.toNat - (intOf i).toNat)
  case atStart => exact ⟨0, [], [], q, bg + 1, c, _, by omega, rfl, HRR, hq, by omega, by simp, by simp, HB4, HV4, HA4, FAcc.nil _ _, HG5, Nat.le_refl _⟩
  case round =>
    obtain ⟨j, ns, ts, q', b', c', x, hj, rfl, HF, hq', hb', htl, htb, HBr, HVr, HAr, HAcc, HGr, hsr⟩ := hrel
    obtain ⟨ax, cx, rfl⟩ := HAcc.out.shape
    have HTB := Lib.hid htb
    clear htb
    have cv := blk_cell HVr.out
    have fv := blk_free HVr.out
    have ck := blk_cell HBr.out
    have cf := blk_free HBr.out
    have hrbr := blk_lt HBr.out
    by_cases hjm : (j : Int) < n
    case neg =>
      have dj : decide ((j : Int) < n) = false := by simp; omega
      have ca := blk_cell HAr.out
      have fa := blk_free HAr.out
      have HO := Lib.hid (HF.out.done (by intro _; omega))
      go_wp2_with fail
      refine bodyPost_ret (v := .agg #[.int .i64 5, .int .i64 0, .string ⟨#[]⟩, .slice none 0 0, .slice ax ts.length cx]) (by simp only [results, Tryd.results29]; go_simp) rfl ⟨_, _, q', b', c', rfl, HAcc.out.value (w0 := w.heap.size) ?_ (by omega) ?_ (by omega), hq', hb', ?_, ?_, HO.out⟩
      · repeat (first | with_reducible exact Same.refl _ _ | ((with_reducible refine Same.setCell ?_ ?_ _); rotate_left; (· first | (simp; done) | (simp; omega))))
      · simp [World.setCell]
      · exact (by repeat (first | with_reducible exact HBr.out |  with_reducible refine blk_alloc ?_ _ | ((with_reducible refine blk_far ?_ ?_ _); rotate_left; (· first | (simp; omega) | omega))))
      · exact (by repeat (first | with_reducible exact HGr.out | with_reducible refine only_drew ?_ | with_reducible refine only_alloc ?_ _ | with_reducible refine only_setCell ?_ (.inl rfl) _ | ((with_reducible refine only_setCell ?_ (.inr ?_) _); rotate_left; (· first | exact Nat.le_refl _ | omega | (simp; done) | (simp; omega)))))
    by_cases hc : c' = 0
    case neg =>
      have dj : decide ((j : Int) < n) = true := by simpa using hjm
      have dc : (c' == 0) = false := beq_eq_false_iff_ne.2 hc
      have ca := blk_cell HAr.out
      have fa := blk_free HAr.out
      have HO := Lib.hid (HF.out.done (by intro h; exact absurd h hc))
      go_wp2_with fail
      refine bodyPost_ret (v := .agg #[.int .i64 5, .int .i64 0, .string ⟨#[]⟩, .slice none 0 0, .slice ax ts.length cx]) (by simp only [results, Tryd.results29]; go_simp) rfl ⟨_, _, q', b', c', rfl, HAcc.out.value (w0 := w.heap.size) ?_ (by omega) ?_ (by omega), hq', hb', ?_, ?_, HO.out⟩
      · repeat (first | with_reducible exact Same.refl _ _ | ((with_reducible refine Same.setCell ?_ ?_ _); rotate_left; (· first | (simp; done) | (simp; omega))))
      · simp [World.setCell]
      · exact (by repeat (first | with_reducible exact HBr.out |  with_reducible refine blk_alloc ?_ _ | ((with_reducible refine blk_far ?_ ?_ _); rotate_left; (· first | (simp; omega) | omega))))
      · exact (by repeat (first | with_reducible exact HGr.out | with_reducible refine only_drew ?_ | with_reducible refine only_alloc ?_ _ | with_reducible refine only_setCell ?_ (.inl rfl) _ | ((with_reducible refine only_setCell ?_ (.inr ?_) _); rotate_left; (· first | exact Nat.le_refl _ | omega | (simp; done) | (simp; omega)))))
    subst hc
    have hF := HF.out
    rw [show n.toNat - j = (n.toNat - (j + 1)) + 1 by omega] at hF
    have HF2 := Lib.hid hF
    have dj : decide ((j : Int) < n) = true := by simpa using hjm
    have hwl := wrap_i64_val (lv + 1) (by omega) (by omega)
    have hvl : w3.heap.size < wr.heap.size := by omega
    have hl0 : ts.length ≤ b' := HTB.out rfl
    clear hF HF HTB
    go_wp2_with fail
    clear ck cf
    refine (Rname_ok s rb q' b' w4.heap.size _ ns ts _ hs hq' (by omega) hsr HAcc.out (by omega) HBr.out).mono ?_
    rintro e w8 ⟨nm, q8, c8, hnm, hq8, rfl, hk8, g8, ho8⟩
    have HO8 := Lib.hid ho8
    have HB8 := Lib.hid hk8
    have HG8 := Lib.hid (only_trans HGr.out g8)
    have HV8 := Lib.hid (blk_only HVr.out g8 (by omega))
    have HA8 := Lib.hid (blk_only HAr.out g8 hne.symm)
    have sz8 : wr.heap.size ≤ w8.heap.size := g8.size
    have HAcc8 := Lib.hid (HAcc.out.keep (Same.only (Same.refl _ wr) (Nat.le_refl _) g8 (by omega)))
    clear ho8 hk8 g8 cv fv HBr HVr HAr HGr
    have cv := blk_cell HV8.out
    have fv := blk_free HV8.out
    have ck := blk_cell HB8.out
    have cf := blk_free HB8.out
    have hrb8 := blk_lt HB8.out
    by_cases hc8 : c8 = 0
    case neg =>
      have dc : (c8 == 0) = false := beq_eq_false_iff_ne.2 hc8
      have HF3 := Lib.hid (HF2.out.bad HO8.out hc8 (n.toNat - (j + 1)) q8 b' ns ts)
      clear HF2
      go_wp2_with fail
      exact ⟨⟨j + 1, ns, ts, q8, b', c8, _, by omega, by go_num, HF3, hq8, hb', htl, (fun h => absurd h hc8), HB8, HV8, HA8, HAcc8, HG8, by omega⟩, by simp [intOf]; omega⟩
    subst hc8
    go_wp2_with fail
    clear ck cf
    refine wp_region_mixz (fun W => W.heap[w3.heap.size]? = some (.cells #[.int .i64 5, .int .i64 0, .string ⟨#[]⟩, .slice none 0 0, .slice ax ts.length cx] 32 (0, 0))) 11 [(true, 0), (true, 1), (true, 2), (true, 3), (true, 4), (true, 5), (false, 6), (true, 7), (false, 8), (false, 9), (true, 10), (false, 11)] (by kernel_rfl) (by kernel_rfl) (by kernel_rfl) (by kernel_rfl) (by kernel_rfl) (by kernel_rfl) ?hS ?_
    case hS => exact HV8.out
    repeat (first | (refine wpMixZ_q (v := ?_) rfl rfl ?_ ?_; rotate_left; (· intro wq hSq; have cq := blk_cell hSq; go_simp; try (with_reducible rfl)); simp only [Act.put, List.setIfInBounds_toArray, List.set_cons_zero, List.set_cons_succ, List.getElem_toArray, List.getElem_cons_zero, List.getElem_cons_succ]) | (refine wpMixZ_u rfl rfl ?_; simp only [Act.put, List.setIfInBounds_toArray, List.set_cons_zero, List.set_cons_succ, List.getElem_toArray, List.getElem_cons_zero, List.getElem_cons_succ]))
    refine wpMixZ_l rfl rfl (fun K hK => ?_)
    go_simp
    refine (HIH.out rb q8 b' (lv + 1) w8.drew (by have := HLV.out; omega) hq8 hb' HB8.out).mono ?_
    rintro e w5 ⟨t5, v5, q5, b5, c5, rfl, hv5, hq5, hb5, hk5, g5, ho5⟩
    have HF3 := Lib.hid (HF2.out.step HO8.out ho5)
    have HGo := Lib.hid (outV_goes hq8 hb' ho5)
    have HB5 := Lib.hid hk5
    have HG5' := Lib.hid (only_trans (only_drew HG8.out) g5)
    have HV5 := Lib.hid (blk_only (w := w8.drew) HV8.out g5 (by omega))
    have HA5 := Lib.hid (blk_only (w := w8.drew) HA8.out g5 hne.symm)
    have sz5 : w8.heap.size ≤ w5.heap.size := g5.size
    have HSm : Hid (Same w4.heap.size w8 w5) := Same.only (w := w8.drew) (Same.refl _ w8).drew (Nat.le_refl _) g5 (by omega)
    have HAcc5 := Lib.hid (HAcc8.out.keep HSm.out)
    have HW5 : Hid (VNew w8.heap.size w5.heap.size w5 t5 v5) := hv5
    obtain ⟨k', i', s', la', ln', lc', da', dn', dc', rfl⟩ := VRep.shape (show VRep (win _ w5) t5 v5 from HW5.out)
    have hown : ∀ g, (Value.slice ax ts.length cx).ownBlock = some g → w4.heap.size ≤ g ∧ g < w8.heap.size := fun g hg => by
      obtain ⟨cs, ho, _⟩ := HAcc8.out
      exact ho.lt g hg
    have HOwn := Lib.hid hown
    refine hK _ _ HV5.out ?_
    clear hK K hv5 hk5 g5 hown HF2 ho5
    repeat (first | (refine wpMixZ_q (v := ?_) rfl rfl ?_ ?_; rotate_left; (· intro wq hSq; have cq := blk_cell hSq; go_simp; try (with_reducible rfl)); simp only [Act.put, List.setIfInBounds_toArray, List.set_cons_zero, List.set_cons_succ, List.getElem_toArray, List.getElem_cons_zero, List.getElem_cons_succ]) | (refine wpMixZ_u rfl rfl ?_; simp only [Act.put, List.setIfInBounds_toArray, List.set_cons_zero, List.set_cons_succ, List.getElem_toArray, List.getElem_cons_zero, List.getElem_cons_succ]))
    refine wpMixZ_l rfl rfl (fun K hK => ?_)
    go_simp
    refine hK _ _ (blk_alloc HV5.out _) ?_
    clear hK K
    refine wpMixZ_l rfl rfl (fun K hK => ?_)
    refine wp_append_facc w5 _ _ rfl w4.heap.size (.slice ax ts.length cx) ns ts rfl HAcc5.out t5 nm hnm _ _ _ _ _ rfl w8.heap.size (by omega) (fun g hg => (HOwn.out g hg).2) HW5.out (by omega) (by omega) ?_
    intro v6 w6 a6 o6 g6
    obtain ⟨ts6, hts6⟩ : ∃ l, ts ++ [t5] = l := ⟨_, rfl⟩
    obtain ⟨ns6, hns6⟩ : ∃ l, ns ++ [nm] = l := ⟨_, rfl⟩
    have hl6 : ts6.length = ts.length + 1 := by rw [← hts6]; simp
    have hl7 : ts6.length ≤ 1025 := by omega
    have HL8 : Hid (c5 = 0 → ts6.length ≤ b5) := fun h => by have := HGo.out h; omega
    clear hl6 HGo
    rw [hts6, hns6] at a6 HF3
    clear hts6 hns6
    have HAcc6 := Lib.hid a6
    have hbk : ∀ i, i < w4.heap.size → w6.heap[i]? = w5.heap[i]? := fun i hi => by
      rw [g6.block i (by simp; omega) (fun e => by have := (HOwn.out i e.symm).1; omega), Below.heap_alloc w5 _ i (by omega)]
    have HB6 : Hid (w6.heap[rb]? = some (RrCells s q5 b5 c5)) := (hbk rb (by omega)).trans HB5.out
    have HV6 : Hid (w6.heap[w3.heap.size]? = some (.cells #[.int .i64 5, .int .i64 0, .string ⟨#[]⟩, .slice none 0 0, .slice ax ts.length cx] 32 (0, 0))) := (hbk _ (by omega)).trans HV5.out
    have HA6 : Hid (w6.heap[w.heap.size]? = some (.cells #[.int .i64 0, .int .i64 0, .string ⟨#[]⟩, .slice none 0 0, .slice none 0 0] 32 (0, 0))) := (hbk _ (by omega)).trans HA5.out
    have sz6 : w5.heap.size < w6.heap.size := by have := g6.size; simp at this; omega
    have HG6 : Hid (w.grownBy w6 (some rb)) := by
      have g7 := only_alloc HG5'.out (.cells #[.string nm, .int .i64 k', .int .i64 i', .string s', .slice la' ln' lc', .slice da' dn' dc'] 60)
      exact ⟨g6.os.trans g7.os, g6.tape.trans g7.tape, g6.output.trans g7.output, Nat.le_trans g7.size g6.size, fun i hi hn => by
        rw [g6.block i (by have := g7.size; omega) (fun e => by have := (HOwn.out i e.symm).1; omega)]
        exact g7.block i hi hn⟩
    refine hK _ _ HV6.out ?_
    clear hK K a6 g6 hbk HAcc5 HB5 HV5 HA5 HG5' cv fv
    obtain ⟨ax6, cx6, rfl⟩ := HAcc6.out.shape
    repeat (first | (refine wpMixZ_q (v := ?_) rfl rfl ?_ ?_; rotate_left; (· intro wq hSq; have cq := blk_cell hSq; go_simp; try (with_reducible rfl)); simp only [Act.put, List.setIfInBounds_toArray, List.set_cons_zero, List.set_cons_succ, List.getElem_toArray, List.getElem_cons_zero, List.getElem_cons_succ]) | (refine wpMixZ_u rfl rfl ?_; simp only [Act.put, List.setIfInBounds_toArray, List.set_cons_zero, List.set_cons_succ, List.getElem_toArray, List.getElem_cons_zero, List.getElem_cons_succ]))
    refine wpMixZ_z rfl rfl (fun K hK => ?_)
    have cv := blk_cell HV6.out
    have fv := blk_free HV6.out
    go_simp
    refine hK _ _ ?_
    clear hK K
    refine wpMixZ_nil ?_
    have HV7 := Lib.hid (blk_set HV6.out 4 (.slice ax6 ts6.length cx6))
    have HB7 := Lib.hid (blk_far HB6.out (p := ⟨w3.heap.size, 4, none⟩) (by simp; omega) (.slice ax6 ts6.length cx6))
    have HA7 := Lib.hid (blk_far HA6.out (p := ⟨w3.heap.size, 4, none⟩) (by simp; omega) (.slice ax6 ts6.length cx6))
    have HG7 := Lib.hid (only_setCell HG6.out (p := ⟨w3.heap.size, 4, none⟩) (.inr (by simp; omega)) (.slice ax6 ts6.length cx6))
    have HAcc7 := Lib.hid (HAcc6.out.keep (Same.setCell (Same.refl _ _) (p := ⟨w3.heap.size, 4, none⟩) (by simp; omega) (.slice ax6 ts6.length cx6)))
    go_wp2_with fail
    exact ⟨⟨j + 1, ns6, ts6, q5, b5, c5, _, by omega, by go_num, HF3, hq5, hb5, hl7, HL8.out, HB7, HV7, HA7, HAcc7, HG7, by simp [World.setCell]; omega⟩, by simp [intOf]; omega⟩
theorem rv_ok (s : ByteArray) (hs : s.size ≤ 1000000000000000) : ∀ d, d ≤ 17 → RvOk s d
  | 0, _ => by
    intro rb p bg lv w hlv hp hbg h
    obtain rfl : lv = 17 := by omega
    exact rv_zero s rb p bg w hp hbg h
  | d + 1, hd => by
    intro rb p bg lv w hlv hp hbg h
    have ih := rv_ok s hs d (by omega)
    have hl : lv = 16 - d := by omega
    rw [rdT_eq]
    by_cases c0 : 1024 ≤ bg
    · rw [if_pos c0]; exact rv_many s d rb p bg lv w hs hl (by omega) hp hbg h c0
    rw [if_neg c0]
    by_cases c1 : s.size ≤ p
    · rw [if_pos c1]; exact rv_short s d rb p bg lv w hs hl (by omega) hp hbg h (by omega) (by omega)
    rw [if_neg c1]
    by_cases c2 : byteN s p = 1 ∨ byteN s p = 2 ∨ byteN s p = 11
    · rw [if_pos c2]
      rcases c2 with c2 | c2 | c2
      · rw [c2]; exact rv_k1 s d rb p bg lv w hs hl (by omega) hp hbg h (by omega) (by omega) c2
      · rw [c2]; exact rv_k2 s d rb p bg lv w hs hl (by omega) hp hbg h (by omega) (by omega) c2
      · rw [c2]; exact rv_k11 s d rb p bg lv w hs hl (by omega) hp hbg h (by omega) (by omega) c2
    rw [if_neg c2]
    by_cases c3 : byteN s p = 3
    · rw [if_pos c3]; exact rv_k3 s d rb p bg lv w hs hl (by omega) hp hbg h (by omega) (by omega) c3
    rw [if_neg c3]
    by_cases c4 : byteN s p = 10
    · rw [if_pos c4]; exact rv_k10 s d rb p bg lv w hs hl (by omega) hp hbg h (by omega) (by omega) c4
    rw [if_neg c4]
    by_cases c5 : byteN s p = 9
    · rw [if_pos c5]
      by_cases b1 : s.size ≤ p + 1
      · rw [if_pos b1]; exact rv_k9a s d rb p bg lv w hs hl (by omega) hp hbg h (by omega) (by omega) c5 b1
      rw [if_neg b1]
      by_cases b2 : 1 < byteN s (p + 1)
      · rw [if_pos b2]; exact rv_k9b s d rb p bg lv w hs hl (by omega) hp hbg h (by omega) (by omega) c5 (by omega) b2
      rw [if_neg b2]; exact rv_k9c s d rb p bg lv w hs hl (by omega) hp hbg h (by omega) (by omega) c5 (by omega) _ rfl (by omega)
    rw [if_neg c5]
    by_cases c6 : byteN s p = 4
    · rw [if_pos c6]; exact rv_k4 s d rb p bg lv w hs hl (by omega) hp hbg h (by omega) (by omega) c6
    rw [if_neg c6]
    by_cases c7 : byteN s p = 7
    · rw [if_pos c7]; exact rv_k7 s d rb p bg lv w hs hl (by omega) hp hbg h (by omega) (by omega) c7
    rw [if_neg c7]
    by_cases c8 : byteN s p = 8
    · rw [if_pos c8]; exact rv_k8 s d rb p bg lv w hs hl (by omega) hp hbg h (by omega) (by omega) c8
    rw [if_neg c8]
    by_cases c9 : byteN s p = 6
    · rw [if_pos c9]; exact rv_k6 s d rb p bg lv w hs hl (by omega) hp hbg h (by omega) (by omega) c9 ih
    rw [if_neg c9]
    by_cases c10 : byteN s p = 5
    · rw [if_pos c10]; exact rv_k5 s d rb p bg lv w hs hl (by omega) hp hbg h (by omega) (by omega) c10 ih
    rw [if_neg c10]
    exact rv_kx s d rb p bg lv w hs hl (by omega) hp hbg h (by omega) (by omega) _ rfl ⟨fun e => c2 (.inl e), fun e => c2 (.inr (.inl e)), c3, c6, c10, c9, c7, c8, c5, c4, fun e => c2 (.inr (.inr e))⟩
end Go.Proofs.YtdoofmohoamkbaaDoor
set_option linter.unusedSimpArgs false
set_option linter.unusedVariables false
namespace Go.Proofs.YtdoofmohoamkbaaDoor
open Go.RowKit
theorem blk_drew {w : World} {g : Nat} {o : Obj} (h : w.heap[g]? = some o) : w.drew.heap[g]? = some o := h
set_option maxRecDepth 20000 in
set_option maxHeartbeats 2000000 in
theorem RRead_out (s : ByteArray) (x : Int) (w : World) (h : x < 0 ∨ (s.size : Int) < x) (hs : s.size ≤ 1000000000000000) : Calls Tryd.prog 17 #[.string s, .int .i64 x] w (ReadPost w (zeroT, 0, 1)) := by
  by_cases h0 : x < 0
  · have d0 : decide (x < 0) = true := by simpa using h0
    clear h
    go_enter Tryd.func17, Tryd.ntmps17
    go_wp2_with fail
    refine bodyPost_ret (v := .tuple #[zeroV, .int .i64 0, .int .i64 1]) (by simp only [results, Tryd.results17, zeroV]; go_simp) rfl ⟨_, rfl, zeroV_new _ _ _, ?_⟩
    repeat (first | with_reducible assumption | with_reducible exact Ext.refl _ | with_reducible refine Ext.drew ?_ | with_reducible refine Ext.alloc ?_ _ | ((with_reducible refine Ext.setCell ?_ ?_ _); rotate_left; (· first | exact Nat.le_refl _ | (simp; done) | omega | (simp; omega))))
  · have d0 : decide (x < 0) = false := by simpa using h0
    have d1 : decide ((s.size : Int) < x) = true := by simp; omega
    clear h
    go_enter Tryd.func17, Tryd.ntmps17
    go_wp2_with fail
    refine bodyPost_ret (v := .tuple #[zeroV, .int .i64 0, .int .i64 1]) (by simp only [results, Tryd.results17, zeroV]; go_simp) rfl ⟨_, rfl, zeroV_new _ _ _, ?_⟩
    repeat (first | with_reducible assumption | with_reducible exact Ext.refl _ | with_reducible refine Ext.drew ?_ | with_reducible refine Ext.alloc ?_ _ | ((with_reducible refine Ext.setCell ?_ ?_ _); rotate_left; (· first | exact Nat.le_refl _ | (simp; done) | omega | (simp; omega))))
set_option maxRecDepth 20000 in
set_option maxHeartbeats 2000000 in
theorem RRead_in (s : ByteArray) (p : Nat) (w : World) (hp : p ≤ s.size) (hs : s.size ≤ 1000000000000000) : Calls Tryd.prog 17 #[.string s, .int .i64 (p : Int)] w (ReadPost w (readF (rdT s 16 p 0))) := by
  have d0 : decide ((p : Int) < 0) = false := by simp
  have d1 : decide (s.size < p) = false := by simp; omega
  obtain ⟨x, hx⟩ : ∃ x, rdT s 16 p 0 = x := ⟨_, rfl⟩
  obtain ⟨r, hr⟩ : ∃ r, readF x = r := ⟨_, rfl⟩
  rw [hx, hr]
  have HX := Lib.hid hx
  have HR := Lib.hid hr
  clear hx hr
  go_enter Tryd.func17, Tryd.ntmps17
  go_wp2_with fail
  refine (rv_ok s hs 16 (by omega) (w.heap.size + 1) p 0 1 _ (by omega) hp (by omega) (blk_at1 w _ _)).mono ?_
  rw [HX.out]
  have HA0 : Hid (((w.alloc (.cells #[.int .i64 0, .int .i64 0, .string ⟨#[]⟩, .slice none 0 0, .slice none 0 0] 32)).alloc (.cells #[.string s, .int .i64 (p : Int), .int .i64 0, .int .i64 0] 58)).heap[w.heap.size]? = some (.cells #[.int .i64 0, .int .i64 0, .string ⟨#[]⟩, .slice none 0 0, .slice none 0 0] 32 (0, 0))) := blk_alloc (blk_at0 w _) _
  rintro e w5 ⟨t5, v5, q5, b5, c5, rfl, hv5, hq5, hb5, hk5, g5, ho5⟩
  have HX0 : Hid (Ext w w5) := Ext.of_only (((Ext.refl w).alloc _).alloc _) g5 (by omega)
  have HO5 := Lib.hid ho5
  have HB5 := Lib.hid hk5
  have HA5 := Lib.hid (blk_only HA0.out g5 (by omega))
  have s5 : w.heap.size + 1 < w5.heap.size := by have := g5.size; simp at this; omega
  have HW5 : Hid (VNew (w.heap.size + 1 + 1) w5.heap.size w5 t5 v5) := by
    have := hv5
    simp at this
    exact this
  obtain ⟨k', i', s', la', ln', lc', da', dn', dc', rfl⟩ := VRep.shape (show VRep (win _ w5) t5 v5 from HW5.out)
  clear ho5 hk5 g5 hv5 HA0
  have ck := blk_cell HB5.out
  have cf := blk_free HB5.out
  have ca := blk_cell HA5.out
  have fa := blk_free HA5.out
  have HVB := Lib.hid (blk_at0 w5 (.cells #[.int .i64 k', .int .i64 i', .string s', .slice la' ln' lc', .slice da' dn' dc'] 32))
  have hrb5 := blk_lt HB5.out
  have hn5 : ¬ w.heap.size = w5.heap.size := by omega
  have hz5 : w.heap.size < w5.heap.size := by omega
  have hR := HR.out
  by_cases hc : c5 = 0
  case neg =>
    have dc : (c5 != 0) = true := by simpa using hc
    have hr : r = (zeroT, 0, c5) := by
      rw [← hR]
      have := HO5.out
      cases x with
      | error e => obtain ⟨rfl, _⟩ := this; rfl
      | ok y => exact absurd this.2 hc
    subst hr
    clear hR HR hc
    go_wp2_with fail
    refine wp_region_mix (fun W => W.heap[w.heap.size + 1]? = some (RrCells s q5 b5 c5)) [(true, 0), (true, 1), (true, 2), (false, 3), (true, 4), (true, 5)] (by kernel_rfl) (by kernel_rfl) (by kernel_rfl) (by kernel_rfl) ?hS ?_
    case hS => exact blk_alloc HB5.out _
    repeat (first | (refine wpMix_q (v := ?_) rfl rfl ?_ ?_; rotate_left; (· intro wq hSq; have cq := blk_cell hSq; go_simp; try (with_reducible rfl)); simp only [Act.put, List.setIfInBounds_toArray, List.set_cons_zero, List.set_cons_succ, List.getElem_toArray, List.getElem_cons_zero, List.getElem_cons_succ]) | (refine wpMix_u rfl rfl ?_; simp only [Act.put, List.setIfInBounds_toArray, List.set_cons_zero, List.set_cons_succ, List.getElem_toArray, List.getElem_cons_zero, List.getElem_cons_succ]))
    refine wpMix_l rfl rfl (fun K hK => ?_)
    go_simp
    refine hK _ _ (by repeat (first | with_reducible exact HB5.out | with_reducible refine blk_drew ?_ | with_reducible refine blk_alloc ?_ _ | ((with_reducible refine blk_far ?_ ?_ _); rotate_left; (· first | (simp; done) | (simp; omega) | omega)))) ?_
    clear hK K
    repeat (first | (refine wpMix_q (v := ?_) rfl rfl ?_ ?_; rotate_left; (· intro wq hSq; have cq := blk_cell hSq; go_simp; try (with_reducible rfl)); simp only [Act.put, List.setIfInBounds_toArray, List.set_cons_zero, List.set_cons_succ, List.getElem_toArray, List.getElem_cons_zero, List.getElem_cons_succ]) | (refine wpMix_u rfl rfl ?_; simp only [Act.put, List.setIfInBounds_toArray, List.set_cons_zero, List.set_cons_succ, List.getElem_toArray, List.getElem_cons_zero, List.getElem_cons_succ]))
    refine wpMix_nil ?_
    go_wp2_with fail
    refine bodyPost_ret (v := .tuple #[zeroV, .int .i64 0, .int .i64 c5]) (by simp only [results, Tryd.results17, zeroV]; go_simp) rfl ⟨_, rfl, zeroV_new _ _ _, ?_⟩
    repeat (first | with_reducible exact HX0.out | with_reducible refine Ext.drew ?_ | with_reducible refine Ext.alloc ?_ _ | with_reducible refine Ext.setCell ?_ (Nat.le_refl _) _)
  subst hc
  have hr : r = (t5, (q5 : Int), 0) := by
    rw [← hR]
    have := HO5.out
    cases x with
    | error e => exact absurd rfl this.2
    | ok y => obtain ⟨rfl, _⟩ := this; rfl
  subst hr
  clear hR HR
  have cv := blk_cell HVB.out
  go_wp2_with fail
  refine wp_region_mix (fun W => W.heap[w.heap.size + 1]? = some (RrCells s q5 b5 0) ∧ W.heap[w5.heap.size]? = some (.cells #[.int .i64 k', .int .i64 i', .string s', .slice la' ln' lc', .slice da' dn' dc'] 32 (0, 0))) [(true, 0), (true, 1), (true, 2), (false, 3), (true, 4), (true, 5)] (by kernel_rfl) (by kernel_rfl) (by kernel_rfl) (by kernel_rfl) ?hS ?_
  case hS => exact ⟨blk_alloc HB5.out _, HVB.out⟩
  repeat (first | (refine wpMix_q (v := ?_) rfl rfl ?_ ?_; rotate_left; (· intro wq hSq; have cq := blk_cell hSq.1; have cq2 := blk_cell hSq.2; go_simp; try (with_reducible rfl)); simp only [Act.put, List.setIfInBounds_toArray, List.set_cons_zero, List.set_cons_succ, List.getElem_toArray, List.getElem_cons_zero, List.getElem_cons_succ]) | (refine wpMix_u rfl rfl ?_; simp only [Act.put, List.setIfInBounds_toArray, List.set_cons_zero, List.set_cons_succ, List.getElem_toArray, List.getElem_cons_zero, List.getElem_cons_succ]))
  refine wpMix_l rfl rfl (fun K hK => ?_)
  go_simp
  refine hK _ _ ⟨by repeat (first | with_reducible exact HB5.out | with_reducible refine blk_drew ?_ | with_reducible refine blk_alloc ?_ _ | ((with_reducible refine blk_far ?_ ?_ _); rotate_left; (· first | (simp; done) | (simp; omega) | omega))), by repeat (first | with_reducible exact HVB.out | with_reducible refine blk_drew ?_ | with_reducible exact blk_atg _ _ (by simp [World.setCell]) _ | ((with_reducible refine blk_far ?_ ?_ _); rotate_left; (· first | (simp; done) | (simp; omega) | omega)))⟩ ?_
  clear hK K
  repeat (first | (refine wpMix_q (v := ?_) rfl rfl ?_ ?_; rotate_left; (· intro wq hSq; have cq := blk_cell hSq.1; have cq2 := blk_cell hSq.2; go_simp; try (with_reducible rfl)); simp only [Act.put, List.setIfInBounds_toArray, List.set_cons_zero, List.set_cons_succ, List.getElem_toArray, List.getElem_cons_zero, List.getElem_cons_succ]) | (refine wpMix_u rfl rfl ?_; simp only [Act.put, List.setIfInBounds_toArray, List.set_cons_zero, List.set_cons_succ, List.getElem_toArray, List.getElem_cons_zero, List.getElem_cons_succ]))
  refine wpMix_nil ?_
  go_wp2_with fail
  refine bodyPost_ret (v := .tuple #[.agg #[.int .i64 k', .int .i64 i', .string s', .slice la' ln' lc', .slice da' dn' dc'], .int .i64 (q5 : Int), .int .i64 0]) (by simp only [results, Tryd.results17]; go_simp) rfl ⟨_, rfl, ?_, ?_⟩
  · refine HW5.out.keep (by omega) (by simp [World.setCell]) (fun i h1 h2 => ?_)
    rw [show ∀ (W : World), (W.drew).heap = W.heap from fun _ => rfl]
    rw [Below.heap_alloc _ _ i (by simp [World.setCell]; omega), Below.heap_setCell _ _ _ i (by simp; omega), Below.heap_setCell _ _ _ i (by simp; omega), Below.heap_setCell _ _ _ i (by simp; omega), Below.heap_setCell _ _ _ i (by simp; omega), Below.heap_setCell _ _ _ i (by simp; omega)]
  · repeat (first | with_reducible exact HX0.out | with_reducible refine Ext.drew ?_ | with_reducible refine Ext.alloc ?_ _ | with_reducible refine Ext.setCell ?_ (Nat.le_refl _) _)
theorem RRead_ok (s : ByteArray) (x : Int) (w : World) (hs : s.size ≤ 1000000000000000) : Calls Tryd.prog 17 #[.string s, .int .i64 x] w (ReadPost w (readR s x)) := by
  unfold readR
  by_cases h : x < 0 ∨ (s.size : Int) < x
  · rw [if_pos h]; exact RRead_out s x w h hs
  · rw [if_neg h]
    obtain ⟨p, rfl⟩ := Int.eq_ofNat_of_zero_le (show 0 ≤ x by omega)
    exact RRead_in s p w (by omega) hs
theorem readR_zero (s : ByteArray) (x : Int) (h : (readR s x).2.2 ≠ 0) : (readR s x).1 = zeroT := by
  unfold readR at h ⊢
  by_cases c : x < 0 ∨ (s.size : Int) < x
  · rw [if_pos c]
  · rw [if_neg c] at h ⊢
    cases hx : rdT s 16 x.toNat 0 with
    | error e => rfl
    | ok y => rw [hx] at h; exact absurd rfl h
set_option maxRecDepth 20000 in
set_option maxHeartbeats 1000000 in
theorem RDecode_ok (s : ByteArray) (w : World) (hs : s.size ≤ 1000000000000000) : Calls Tryd.prog 20 #[.string s] w (DecPost w (decR s)) := by
  obtain ⟨r, hr⟩ : ∃ r, readR s 0 = r := ⟨_, rfl⟩
  obtain ⟨q, hq⟩ : ∃ q, decR s = q := ⟨_, rfl⟩
  have hD := hq
  have hz := readR_zero s 0
  unfold decR at hD
  rw [hr] at hD hz
  rw [hq]
  have HD := Lib.hid hD
  have HR := Lib.hid hr
  have HZ := Lib.hid hz
  clear hD hr hq hz
  obtain ⟨t, n, c⟩ := r
  go_enter Tryd.func20, Tryd.ntmps20
  go_wp2_with fail
  refine (RRead_ok s 0 _ hs).mono ?_
  rw [HR.out]
  rintro e w1 ⟨v, rfl, hv, h1⟩
  have HV : Hid (VNew (w.heap.size + 1) w1.heap.size w1 t v) := by
    have := hv
    simp at this
    exact this
  have k1 := h1.ownc
  have f1 := h1.ownf
  have l1 := h1.lt
  have HE := Lib.hid h1.of_alloc
  obtain ⟨k', i', s', la', ln', lc', da', dn', dc', rfl⟩ := VRep.shape (show VRep (win _ w1) t v from HV.out)
  have hn1 : ¬ w.heap.size = w1.heap.size := by omega
  clear hv
  have e := HD.out
  have hVR : ∀ (u0 u1 u2 u3 u4 : Value) (o : Obj), VRep ((((((w1.setCell ⟨w.heap.size, 0, none⟩ u0).setCell ⟨w.heap.size, 1, none⟩ u1).setCell ⟨w.heap.size, 2, none⟩ u2).setCell ⟨w.heap.size, 3, none⟩ u3).setCell ⟨w.heap.size, 4, none⟩ u4).alloc o) t (.agg #[.int .i64 k', .int .i64 i', .string s', .slice la' ln' lc', .slice da' dn' dc']) := fun u0 u1 u2 u3 u4 o => by
    refine (HV.out.keep (lo' := 0) (hi' := w1.heap.size) (by omega) (Nat.le_refl _) (fun i a b => ?_)).rep
    rw [Below.heap_alloc _ _ i (by simp [World.setCell]; omega), Below.heap_setCell _ _ _ i (by simp; omega), Below.heap_setCell _ _ _ i (by simp; omega), Below.heap_setCell _ _ _ i (by simp; omega), Below.heap_setCell _ _ _ i (by simp; omega), Below.heap_setCell _ _ _ i (by simp; omega)]
  have HVR := Lib.hid hVR
  clear hVR
  by_cases hc : c = 0
  case neg =>
    rw [if_pos hc] at e
    have ht : t = zeroT := HZ.out hc
    subst ht
    subst e
    have d1 : (c == 0) = false := by simpa using hc
    clear hc
    go_wp2_with fail
    refine bodyPost_ret (v := .tuple #[.agg #[.int .i64 k', .int .i64 i', .string s', .slice la' ln' lc', .slice da' dn' dc'], .int .i64 c]) (by simp only [results, Tryd.results20]; go_simp) rfl ⟨_, rfl, HVR.out _ _ _ _ _ _, ?_⟩
    repeat (first | with_reducible exact HE.out | with_reducible refine Ext.drew ?_ | with_reducible refine Ext.alloc ?_ _ | with_reducible refine Ext.setCell ?_ (Nat.le_refl _) _)
  subst hc
  rw [if_neg (by simp)] at e
  by_cases hn : n < (s.size : Int)
  · rw [if_pos hn] at e
    subst e
    have d1 : decide (n < (s.size : Int)) = true := by simpa using hn
    go_wp2_with fail
    refine bodyPost_ret (v := .tuple #[zeroV, .int .i64 6]) (by simp only [results, Tryd.results20, zeroV]; go_simp) rfl ⟨_, rfl, zeroV_rep _, ?_⟩
    repeat (first | with_reducible exact HE.out | with_reducible refine Ext.drew ?_ | with_reducible refine Ext.alloc ?_ _ | with_reducible refine Ext.setCell ?_ (Nat.le_refl _) _)
  · rw [if_neg hn] at e
    subst e
    have d1 : decide (n < (s.size : Int)) = false := by simpa using hn
    go_wp2_with fail
    refine bodyPost_ret (v := .tuple #[.agg #[.int .i64 k', .int .i64 i', .string s', .slice la' ln' lc', .slice da' dn' dc'], .int .i64 0]) (by simp only [results, Tryd.results20]; go_simp) rfl ⟨_, rfl, HVR.out _ _ _ _ _ _, ?_⟩
    repeat (first | with_reducible exact HE.out | with_reducible refine Ext.drew ?_ | with_reducible refine Ext.alloc ?_ _ | with_reducible refine Ext.setCell ?_ (Nat.le_refl _) _)
end Go.Proofs.YtdoofmohoamkbaaDoor
set_option linter.unusedSimpArgs false
set_option linter.unusedVariables false
namespace Go.Proofs.YtdoofmohoamkbaaDoor
open Go.RowKit
def SameOk (t : Tr) : Prop := ∀ (v v' : Value) (w : World), VRep w t v → VRep w t v' → Calls Tryd.prog 18 #[v, v'] w fun e w' => e = .returned (.bool true) ∧ Ext w w'
set_option maxRecDepth 20000 in
set_option maxHeartbeats 4000000 in
theorem same_step (t : Tr) (ih : ∀ p, p.sz < t.sz → SameOk p) : SameOk t := by
  intro v v' w hV hV'
  obtain ⟨k, i, s, l, ns, ds⟩ := t
  have ih2 : ∀ t, t ∈ l ∨ t ∈ ds → SameOk t := fun t ht => ih t (by rcases ht with h | h; exact Tr.sz_list h; exact Tr.sz_docs h)
  unfold VRep at hV hV'
  obtain ⟨la, lc, da, dc, rfl, _, ⟨hl1, _⟩, hl2, ⟨hd1, _⟩, hd2, hnd, hL, hD⟩ := hV
  obtain ⟨la', lc', da', dc', rfl, _, ⟨hl1', _⟩, hl2', ⟨hd1', _⟩, hd2', _, hL', hD'⟩ := hV'
  have HL := Lib.hid hL
  have HD := Lib.hid hD
  have HL' := Lib.hid hL'
  have HD' := Lib.hid hD'
  have HI := Lib.hid ih2
  clear hL hD hL' hD' ih ih2
  unfold maxLen at hl2 hd2 hl2' hd2'
  go_enter Tryd.func18, Tryd.ntmps18
  go_wp2_with fail
  go_loopw [5] (fun c wr => ∃ j : Nat, j ≤ l.length ∧ c = .int .i64 j ∧ Hid (Ext ((w.alloc (.cells #[.int .i64 k, .int .i64 i, .string s, .slice la l.length lc, .slice da ds.length dc] 32)).alloc (.cells #[.int .i64 k, .int .i64 i, .string s, .slice la' l.length lc', .slice da' ds.length dc'] 32)) wr)) (fun c _ => l.length - (intOf c).toNat)
  case atStart => exact ⟨0, by omega, rfl, Ext.refl _⟩
  case round =>
    obtain ⟨j, hj, rfl, HE⟩ := hrel
    have ka := blk_cell (blk_ext (blk_alloc (blk_at0 w (.cells #[.int .i64 k, .int .i64 i, .string s, .slice la l.length lc, .slice da ds.length dc] 32)) _) HE.out)
    have kb := blk_cell (blk_ext (blk_at1 w _ (.cells #[.int .i64 k, .int .i64 i, .string s, .slice la' l.length lc', .slice da' ds.length dc'] 32)) HE.out)
    have hz : w.heap.size + 1 < wr.heap.size := by have := HE.out.size; simp at this; omega
    have hz0 : w.heap.size < wr.heap.size := by omega
    have HEw := Lib.hid (((Ext.refl w).alloc _).alloc _ |>.trans HE.out)
    by_cases hlt : j < l.length
    · obtain ⟨b, off, c0, c1, c2, c3, c4, rfl, e0, e1, e2, e3, e4, hv⟩ := LRep.at_ l 0 j l[j] HL.out (List.getElem?_eq_getElem hlt)
      obtain ⟨b', off', x0, x1, x2, x3, x4, rfl, y0, y1, y2, y3, y4, hv'⟩ := LRep.at_ l 0 j l[j] HL'.out (List.getElem?_eq_getElem hlt)
      obtain ⟨k1, i1, s1, la1, ln1, lc1, da1, dn1, dc1, rfl, rfl, rfl, rfl, rfl⟩ := hv.shape5
      obtain ⟨k2, i2, s2, la2, ln2, lc2, da2, dn2, dc2, rfl, rfl, rfl, rfl, rfl⟩ := hv'.shape5
      have hEr := HEw.out
      have q0 := hEr.keep e0
      have q1 := hEr.keep e1
      have q2 := hEr.keep e2
      have q3 := hEr.keep e3
      have q4 := hEr.keep e4
      have r0 := hEr.keep y0
      have r1 := hEr.keep y1
      have r2 := hEr.keep y2
      have r3 := hEr.keep y3
      have r4 := hEr.keep y4
      rw [Nat.zero_add] at q0 q1 q2 q3 q4 r0 r1 r2 r3 r4
      have hb1 : b < wr.heap.size := World.block_lt_of_cell? _ _ q0
      have hb2 : b' < wr.heap.size := World.block_lt_of_cell? _ _ r0
      have HV := Lib.hid (VRep.ext hEr _ _ hv)
      have HV' := Lib.hid (VRep.ext hEr _ _ hv')
      obtain ⟨p, hp⟩ : ∃ p, l[j] = p := ⟨_, rfl⟩
      have hmem : p ∈ l := by rw [← hp]; exact List.getElem_mem hlt
      rw [hp] at HV HV'
      clear e0 e1 e2 e3 e4 hv hEr y0 y1 y2 y3 y4 hv' hp
      go_wp2_with fail
      refine wp_region_mix (Ext wr) [(true, 0), (true, 1), (true, 2), (true, 3), (true, 4), (true, 5), (true, 6), (true, 7), (true, 8), (true, 9), (false, 10), (true, 11)] (by kernel_rfl) (by kernel_rfl) (by kernel_rfl) (by kernel_rfl) ?hS ?_
      case hS => exact (Ext.refl _).drew
      repeat (first | (refine wpMix_q (v := ?_) rfl rfl ?_ ?_; rotate_left; (· intro wq hSq; have cq := hSq.cells; go_simp; try (with_reducible rfl)); simp only [Act.put, List.setIfInBounds_toArray, List.set_cons_zero, List.set_cons_succ, List.getElem_toArray, List.getElem_cons_zero, List.getElem_cons_succ]) | (refine wpMix_u rfl rfl ?_; simp only [Act.put, List.setIfInBounds_toArray, List.set_cons_zero, List.set_cons_succ, List.getElem_toArray, List.getElem_cons_zero, List.getElem_cons_succ]))
      refine wpMix_l rfl rfl (fun K hK => ?_)
      go_simp
      refine (HI.out p (.inl hmem) _ _ _ (VRep.ext (Ext.refl wr).drew _ _ HV.out) (VRep.ext (Ext.refl wr).drew _ _ HV'.out)).mono ?_
      rintro e w3 ⟨rfl, h3⟩
      have HE3 := Lib.hid ((Ext.refl wr).drew.trans h3)
      refine hK _ _ HE3.out ?_
      clear hK K h3
      repeat (first | (refine wpMix_q (v := ?_) rfl rfl ?_ ?_; rotate_left; (· intro wq hSq; have cq := hSq.cells; go_simp; try (with_reducible rfl)); simp only [Act.put, List.setIfInBounds_toArray, List.set_cons_zero, List.set_cons_succ, List.getElem_toArray, List.getElem_cons_zero, List.getElem_cons_succ]) | (refine wpMix_u rfl rfl ?_; simp only [Act.put, List.setIfInBounds_toArray, List.set_cons_zero, List.set_cons_succ, List.getElem_toArray, List.getElem_cons_zero, List.getElem_cons_succ]))
      refine wpMix_nil ?_
      have HE4 := Lib.hid (HE.out.trans HE3.out)
      clear ka kb q0 q1 q2 q3 q4 r0 r1 r2 r3 r4 HE3
      go_wp2_with fail
      exact ⟨⟨j + 1, by omega, by go_num, HE4⟩, by simp [intOf]; omega⟩
    · have hj2 : j = l.length := by omega
      subst hj2
      obtain ⟨wo, rfl⟩ : ∃ wo : World, wo = wr := ⟨_, rfl⟩
      go_wp2_with fail
      clear ka kb HEw hz hz0
      go_loopw [6] (fun c wr => ∃ j : Nat, j ≤ ds.length ∧ c = .int .i64 j ∧ Hid (Ext ((w.alloc (.cells #[.int .i64 k, .int .i64 i, .string s, .slice la l.length lc, .slice da ds.length dc] 32)).alloc (.cells #[.int .i64 k, .int .i64 i, .string s, .slice la' l.length lc', .slice da' ds.length dc'] 32)) wr)) (fun c _ => ds.length - (intOf c).toNat)
      case atStart => exact ⟨0, by omega, rfl, HE⟩
      case round =>
        clear HE
        obtain ⟨j, hj, rfl, HE⟩ := hrel
        have ka := blk_cell (blk_ext (blk_alloc (blk_at0 w (.cells #[.int .i64 k, .int .i64 i, .string s, .slice la l.length lc, .slice da ds.length dc] 32)) _) HE.out)
        have kb := blk_cell (blk_ext (blk_at1 w _ (.cells #[.int .i64 k, .int .i64 i, .string s, .slice la' l.length lc', .slice da' ds.length dc'] 32)) HE.out)
        have hz : w.heap.size + 1 < wr.heap.size := by have := HE.out.size; simp at this; omega
        have hz0 : w.heap.size < wr.heap.size := by omega
        have HEw := Lib.hid (((Ext.refl w).alloc _).alloc _ |>.trans HE.out)
        by_cases hlt : j < ds.length
        · obtain ⟨b, off, c0, c1, c2, c3, c4, rfl, hnm, en, e0, e1, e2, e3, e4, hv⟩ := DRep.at_ ns ds 0 j (ns[j]'(by omega)) ds[j] HD.out (List.getElem?_eq_getElem (by omega)) (List.getElem?_eq_getElem hlt)
          obtain ⟨b', off', x0, x1, x2, x3, x4, rfl, _, yn, y0, y1, y2, y3, y4, hv'⟩ := DRep.at_ ns ds 0 j (ns[j]'(by omega)) ds[j] HD'.out (List.getElem?_eq_getElem (by omega)) (List.getElem?_eq_getElem hlt)
          obtain ⟨k1, i1, s1, la1, ln1, lc1, da1, dn1, dc1, rfl, rfl, rfl, rfl, rfl⟩ := hv.shape5
          obtain ⟨k2, i2, s2, la2, ln2, lc2, da2, dn2, dc2, rfl, rfl, rfl, rfl, rfl⟩ := hv'.shape5
          have hEr := HEw.out
          have qn := hEr.keep en
          have q0 := hEr.keep e0
          have q1 := hEr.keep e1
          have q2 := hEr.keep e2
          have q3 := hEr.keep e3
          have q4 := hEr.keep e4
          have rn := hEr.keep yn
          have r0 := hEr.keep y0
          have r1 := hEr.keep y1
          have r2 := hEr.keep y2
          have r3 := hEr.keep y3
          have r4 := hEr.keep y4
          rw [Nat.zero_add] at qn q0 q1 q2 q3 q4 rn r0 r1 r2 r3 r4
          have hb1 : b < wr.heap.size := World.block_lt_of_cell? _ _ q0
          have hb2 : b' < wr.heap.size := World.block_lt_of_cell? _ _ r0
          have HV := Lib.hid (VRep.ext hEr _ _ hv)
          have HV' := Lib.hid (VRep.ext hEr _ _ hv')
          obtain ⟨p, hp⟩ : ∃ p, ds[j] = p := ⟨_, rfl⟩
          obtain ⟨nm, hn⟩ : ∃ n, ns[j]'(by omega) = n := ⟨_, rfl⟩
          have hmem : p ∈ ds := by rw [← hp]; exact List.getElem_mem hlt
          rw [hp] at HV HV'
          rw [hn] at qn rn
          clear en e0 e1 e2 e3 e4 hv hEr yn y0 y1 y2 y3 y4 hv' hp hn
          go_wp2_with fail
          refine wp_region_mix (Ext wr) [(true, 0), (true, 1), (true, 2), (true, 3), (true, 4), (true, 5), (true, 6), (true, 7), (true, 8), (true, 9), (true, 10), (true, 11), (true, 12), (true, 13), (true, 14), (true, 15), (true, 16), (true, 17), (true, 18), (true, 19), (true, 20), (true, 21), (true, 22), (true, 23), (true, 24), (true, 25), (false, 26), (true, 27), (true, 28)] (by kernel_rfl) (by kernel_rfl) (by kernel_rfl) (by kernel_rfl) ?hS ?_
          case hS => exact (Ext.refl _).drew
          repeat (first | (refine wpMix_q (v := ?_) rfl rfl ?_ ?_; rotate_left; (· intro wq hSq; have cq := hSq.cells; go_simp; try (with_reducible rfl)); simp only [Act.put, List.setIfInBounds_toArray, List.set_cons_zero, List.set_cons_succ, List.getElem_toArray, List.getElem_cons_zero, List.getElem_cons_succ]) | (refine wpMix_u rfl rfl ?_; simp only [Act.put, List.setIfInBounds_toArray, List.set_cons_zero, List.set_cons_succ, List.getElem_toArray, List.getElem_cons_zero, List.getElem_cons_succ]))
          refine wpMix_l rfl rfl (fun K hK => ?_)
          go_simp
          refine (HI.out p (.inr hmem) _ _ _ (VRep.ext (Ext.refl wr).drew _ _ HV.out) (VRep.ext (Ext.refl wr).drew _ _ HV'.out)).mono ?_
          rintro e w3 ⟨rfl, h3⟩
          have HE3 := Lib.hid ((Ext.refl wr).drew.trans h3)
          refine hK _ _ HE3.out ?_
          clear hK K h3
          repeat (first | (refine wpMix_q (v := ?_) rfl rfl ?_ ?_; rotate_left; (· intro wq hSq; have cq := hSq.cells; go_simp; try (with_reducible rfl)); simp only [Act.put, List.setIfInBounds_toArray, List.set_cons_zero, List.set_cons_succ, List.getElem_toArray, List.getElem_cons_zero, List.getElem_cons_succ]) | (refine wpMix_u rfl rfl ?_; simp only [Act.put, List.setIfInBounds_toArray, List.set_cons_zero, List.set_cons_succ, List.getElem_toArray, List.getElem_cons_zero, List.getElem_cons_succ]))
          refine wpMix_nil ?_
          have HE4 := Lib.hid (HE.out.trans HE3.out)
          clear ka kb qn q0 q1 q2 q3 q4 rn r0 r1 r2 r3 r4 HE3
          go_wp2_with fail
          exact ⟨⟨j + 1, by omega, by go_num, HE4⟩, by simp [intOf]; omega⟩
        · have hj2 : j = ds.length := by omega
          subst hj2
          go_wp2_with fail
          go_ret
          exact ⟨rfl, HEw.out⟩
theorem same_ok (t : Tr) : SameOk t := by
  have : ∀ n (t : Tr), t.sz = n → SameOk t := by
    intro n
    induction n using Nat.strongRecOn with
    | _ n ih => intro t ht; exact same_step t (fun p hp => ih p.sz (by rw [← ht]; exact hp) p rfl)
  exact this _ t rfl
end Go.Proofs.YtdoofmohoamkbaaDoor
set_option linter.unusedSimpArgs false
set_option linter.unusedVariables false
namespace Go.Proofs.YtdoofmohoamkbaaDoor
open Go.RowKit
set_option maxRecDepth 20000 in
set_option maxHeartbeats 1000000 in
theorem decodes_walk (s : ByteArray) (w : World) (hs : s.size ≤ maxLen) (hT : Tabs w) : Calls Tryd.prog 6 #[.string s] w fun e w' => e = .returned (.bool true) ∧ Ext w w' := by
  have HT := Lib.hid hT
  clear hT
  unfold maxLen at hs
  by_cases h2 : 20000 < s.size
  · have d : decide (20000 < (s.size : Int)) = true := by simp; omega
    go_enter Tryd.func6, Tryd.ntmps6
    go_wp2_with fail
    refine (awake_ok _ HT.out).mono ?_
    rintro e w2 ⟨rfl, h2⟩
    go_wp2_with fail
    go_ret
    exact ⟨rfl, h2⟩
  have d : decide (20000 < (s.size : Int)) = false := by simp; omega
  obtain ⟨r, hr⟩ : ∃ r, decR s = r := ⟨_, rfl⟩
  have HR := Lib.hid hr
  obtain ⟨t, c⟩ := r
  clear hr
  go_enter Tryd.func6, Tryd.ntmps6
  go_wp2_with fail
  refine (Decode_ok s _ (by omega) HT.out).mono ?_
  rw [HR.out]
  rintro e w1 ⟨v, rfl, hv, h1⟩
  obtain ⟨k', i', s', la', ln', lc', da', dn', dc', rfl⟩ := hv.shape
  have HV := Lib.hid hv
  have HE1 := Lib.hid h1
  clear hv h1
  go_wp2_with fail
  refine (RDecode_ok s _ (by omega)).mono ?_
  rw [HR.out]
  rintro e w2 ⟨v2, rfl, hv2, h2⟩
  obtain ⟨k2, i2, s2, la2, ln2, lc2, da2, dn2, dc2, rfl⟩ := hv2.shape
  have HV2 := Lib.hid hv2
  have HV1 := Lib.hid (VRep.ext h2.of_alloc _ _ HV.out)
  have k2' := h2.ownc
  have f2' := h2.ownf
  have l2' := h2.lt
  have HE2 := Lib.hid (HE1.out.trans h2.of_alloc)
  clear hv2 h2
  go_wp2_with fail
  refine (same_ok t _ _ _ (VRep.ext ((Ext.refl w2).alloc _) _ _ HV1.out) (VRep.ext ((Ext.refl w2).alloc _) _ _ HV2.out)).mono ?_
  rintro e w3 ⟨rfl, h3⟩
  have HE3 := Lib.hid (HE2.out.trans h3.of_alloc)
  clear h3 k2' f2'
  go_wp2_with fail
  refine (awake_ok _ (HT.out.ext HE3.out)).mono ?_
  rintro e w4 ⟨rfl, h4⟩
  go_wp2_with fail
  go_ret
  exact ⟨rfl, HE3.out.trans h4⟩
set_option maxRecDepth 20000 in
set_option maxHeartbeats 1000000 in
theorem reads_walk (s : ByteArray) (x : Int) (w : World) (hs : s.size ≤ maxLen) (hT : Tabs w) : Calls Tryd.prog 5 #[.string s, .int .i64 x] w fun e w' => e = .returned (.bool true) ∧ Ext w w' := by
  have HT := Lib.hid hT
  clear hT
  unfold maxLen at hs
  by_cases h2 : 20000 < s.size
  · have d : decide (20000 < (s.size : Int)) = true := by simp; omega
    go_enter Tryd.func5, Tryd.ntmps5
    go_wp2_with fail
    refine (awake_ok _ HT.out).mono ?_
    rintro e w2 ⟨rfl, h2⟩
    go_wp2_with fail
    go_ret
    exact ⟨rfl, h2⟩
  have d : decide (20000 < (s.size : Int)) = false := by simp; omega
  obtain ⟨r, hr⟩ : ∃ r, readR s x = r := ⟨_, rfl⟩
  have HR := Lib.hid hr
  obtain ⟨t, q, c⟩ := r
  clear hr
  go_enter Tryd.func5, Tryd.ntmps5
  go_wp2_with fail
  refine (Read_ok s x _ (by omega) HT.out).mono ?_
  rw [HR.out]
  rintro e w1 ⟨v, rfl, hvn, h1⟩
  have hv := hvn.rep
  obtain ⟨k', i', s', la', ln', lc', da', dn', dc', rfl⟩ := hv.shape
  have HV := Lib.hid hv
  have HE1 := Lib.hid h1
  clear hv h1 hvn
  go_wp2_with fail
  refine (RRead_ok s x _ (by omega)).mono ?_
  rw [HR.out]
  rintro e w2 ⟨v2, rfl, hvn2, h2⟩
  have hv2 := hvn2.rep
  obtain ⟨k2, i2, s2, la2, ln2, lc2, da2, dn2, dc2, rfl⟩ := hv2.shape
  have HV2 := Lib.hid hv2
  have HV1 := Lib.hid (VRep.ext h2.of_alloc _ _ HV.out)
  have k2' := h2.ownc
  have f2' := h2.ownf
  have l2' := h2.lt
  have HE2 := Lib.hid (HE1.out.trans h2.of_alloc)
  clear hv2 h2 hvn2
  go_wp2_with fail
  refine (same_ok t _ _ _ (VRep.ext ((Ext.refl w2).alloc _) _ _ HV1.out) (VRep.ext ((Ext.refl w2).alloc _) _ _ HV2.out)).mono ?_
  rintro e w3 ⟨rfl, h3⟩
  have HE3 := Lib.hid (HE2.out.trans h3.of_alloc)
  clear h3 k2' f2'
  go_wp2_with fail
  refine (awake_ok _ (HT.out.ext HE3.out)).mono ?_
  rintro e w4 ⟨rfl, h4⟩
  go_wp2_with fail
  go_ret
  exact ⟨rfl, HE3.out.trans h4⟩
end Go.Proofs.YtdoofmohoamkbaaDoor
