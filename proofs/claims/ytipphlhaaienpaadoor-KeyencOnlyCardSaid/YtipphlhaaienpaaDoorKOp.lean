/- What is decoded is the key of what comes out: plain. -/
import Derived.Test.YtipphlhaaienpaaDoorKR4
set_option linter.unusedSimpArgs false
set_option linter.unusedVariables false
namespace Go.Proofs.YtipphlhaaienpaaDoor
open Go.RowKit
def seg (s : ByteArray) (p q : Nat) : List UInt8 := (s.data.toList.drop p).take (q - p)
theorem seg_trans (s : ByteArray) {p q r : Nat} (h1 : p ≤ q) (h2 : q ≤ r) : seg s p q ++ seg s q r = seg s p r := by
  unfold seg
  have e : r - p = (q - p) + (r - q) := by omega
  rw [e, List.take_add, List.drop_drop]
  congr 3
  omega
/-- From p to q lie the bytes l, turned by fl. -/
def Lies (s : ByteArray) (fl : UInt8) (p q : Nat) (l : List UInt8) : Prop := p ≤ q ∧ q ≤ s.size ∧ seg s p q = l.map (· ^^^ fl)
theorem Lies.trans {s : ByteArray} {fl : UInt8} {p q r : Nat} {l m : List UInt8} (h : Lies s fl p q l) (k : Lies s fl q r m) : Lies s fl p r (l ++ m) :=
  ⟨Nat.le_trans h.1 k.1, k.2.1, by rw [List.map_append, ← h.2.2, ← k.2.2, seg_trans s h.1 k.1]⟩
theorem Lies.nil {s : ByteArray} {fl : UInt8} {p : Nat} (h : p ≤ s.size) : Lies s fl p p [] := ⟨Nat.le_refl _, h, by unfold seg; simp⟩
theorem xor_back (b fl : UInt8) : (b ^^^ fl) ^^^ fl = b := by rw [UInt8.xor_assoc, UInt8.xor_self, UInt8.xor_zero]
theorem next_lies {s : ByteArray} {fl : UInt8} {p : Nat} {b : UInt8} {q : Nat} (h : nextE s fl p = .ok (b, q)) : Lies s fl p q [b] := by
  obtain ⟨h1, rfl, rfl⟩ := nextE_ok h
  refine ⟨by omega, by omega, ?_⟩
  unfold seg
  rw [Nat.add_sub_cancel_left, List.drop_eq_getElem_cons (by simpa using h1)]
  simp only [List.take_succ_cons, List.take_zero, List.map_cons, List.map_nil, xor_back]
  unfold kbyte
  rw [List.getD_eq_getElem?_getD, List.getElem?_eq_getElem (by simpa using h1)]; rfl
theorem num_lies {s : ByteArray} {fl : UInt8} : ∀ (n p u u' q : Nat), p ≤ s.size → numN s fl n p u = .ok (u', q) → ∃ bs : List UInt8, bs.length = n ∧ Lies s fl p q bs ∧ u' = bs.foldl (fun a b => a * 256 + b.toNat) u := by
  intro n
  induction n with
  | zero => intro p u u' q hp h; injection h with h; injection h with h1 h2; subst h1 h2; exact ⟨[], rfl, Lies.nil hp, rfl⟩
  | succ n ih =>
    intro p u u' q hp h
    simp only [numN] at h
    cases hx : nextE s fl p with
    | error e => rw [hx] at h; cases h
    | ok z =>
      obtain ⟨b, q1⟩ := z
      rw [hx] at h
      have hl := next_lies hx
      obtain ⟨bs, h1, h2, h3⟩ := ih q1 _ u' q hl.2.1 h
      exact ⟨b :: bs, by simp [h1], hl.trans h2, h3⟩
theorem num8_back (bs : List UInt8) (h : bs.length = 8) : num8 (bs.foldl (fun a b => a * 256 + b.toNat) 0) = bs ∧ bs.foldl (fun a b => a * 256 + b.toNat) 0 < 18446744073709551616 := by
  match bs, h with
  | [b0, b1, b2, b3, b4, b5, b6, b7], _ =>
    have h0 := b0.toNat_lt
    have h1 := b1.toNat_lt
    have h2 := b2.toNat_lt
    have h3 := b3.toNat_lt
    have h4 := b4.toNat_lt
    have h5 := b5.toNat_lt
    have h6 := b6.toNat_lt
    have h7 := b7.toNat_lt
    simp only [List.foldl_cons, List.foldl_nil]
    refine ⟨?_, by omega⟩
    have key : ∀ (x : Nat) (b : UInt8), x % 256 = b.toNat → UInt8.ofNat x = b := fun x b h => UInt8.toNat_inj.1 (by rw [UInt8.toNat_ofNat']; exact h)
    unfold num8
    rw [key _ b0 (by omega), key _ b1 (by omega), key _ b2 (by omega), key _ b3 (by omega), key _ b4 (by omega), key _ b5 (by omega), key _ b6 (by omega), key _ b7 (by omega)]
theorem text_lies {s : ByteArray} {fl : UInt8} : ∀ (n p : Nat) (acc l : List UInt8) (q : Nat), textE s fl n p acc = .ok (l, q) → ∃ m, l = acc ++ m ∧ Lies s fl p q (esc m ++ [0, 0]) := by
  intro n
  induction n with
  | zero => intro p acc l q h; cases h
  | succ n ih =>
    intro p acc l q h
    simp only [textE] at h
    cases hx : nextE s fl p with
    | error e => rw [hx] at h; cases h
    | ok z =>
      obtain ⟨c, q1⟩ := z
      rw [hx] at h
      have hl := next_lies hx
      simp only at h
      by_cases hc : c = 0
      · rw [if_neg (by simpa using hc)] at h
        cases hy : nextE s fl q1 with
        | error e => rw [hy] at h; cases h
        | ok z2 =>
          obtain ⟨c2, q2⟩ := z2
          rw [hy] at h
          have hl2 := next_lies hy
          simp only at h
          by_cases h2 : c2 = 0
          · rw [if_pos h2] at h
            injection h with h; injection h with e1 e2; subst e1 e2
            refine ⟨[], by simp, ?_⟩
            have := hl.trans hl2
            rw [hc, h2] at this
            simpa [esc] using this
          · rw [if_neg h2] at h
            by_cases h5 : c2 = 255
            · rw [if_neg (by simpa using h5)] at h
              obtain ⟨m, e1, e2⟩ := ih _ _ _ _ h
              refine ⟨0 :: m, by rw [e1]; simp, ?_⟩
              have := (hl.trans hl2).trans e2
              rw [hc, h5] at this
              simpa [esc, escC] using this
            · rw [if_pos h5] at h; cases h
      · rw [if_pos hc] at h
        obtain ⟨m, e1, e2⟩ := ih _ _ _ _ h
        refine ⟨c :: m, by rw [e1]; simp, ?_⟩
        have := hl.trans e2
        simpa [esc, escC, hc] using this
theorem name_lies {s : ByteArray} {fl : UInt8} : ∀ (n p : Nat) (acc l : List UInt8) (q : Nat), nameE s fl n p acc = .ok (l, q) → ∃ m, l = acc ++ m ∧ Lies s fl p q (m ++ [0]) := by
  intro n
  induction n with
  | zero => intro p acc l q h; cases h
  | succ n ih =>
    intro p acc l q h
    simp only [nameE] at h
    cases hx : nextE s fl p with
    | error e => rw [hx] at h; cases h
    | ok z =>
      obtain ⟨c, q1⟩ := z
      rw [hx] at h
      have hl := next_lies hx
      simp only at h
      by_cases hc : c = 0
      · rw [if_pos hc] at h
        injection h with h; injection h with e1 e2; subst e1 e2
        exact ⟨[], by simp, by rw [hc] at hl; simpa using hl⟩
      · rw [if_neg hc] at h
        obtain ⟨m, e1, e2⟩ := ih _ _ _ _ h
        exact ⟨c :: m, by rw [e1]; simp, by simpa using hl.trans e2⟩
theorem more_lies {s : ByteArray} {fl : UInt8} {p : Nat} {b : Bool} {q : Nat} (h : moreE s fl p = .ok (b, q)) : Lies s fl p q [if b then 1 else 0] := by
  unfold moreE at h
  cases hx : nextE s fl p with
  | error e => rw [hx] at h; cases h
  | ok z =>
    obtain ⟨c, q1⟩ := z
    rw [hx] at h
    have hl := next_lies hx
    simp only [moreK] at h
    split at h
    · cases h
    · rename_i hc
      injection h with h; injection h with e1 e2; subst e1 e2
      by_cases h1 : c.toNat = 1
      · have : c = 1 := UInt8.toNat_inj.1 h1
        subst this; simpa using hl
      · have : c = 0 := UInt8.toNat_inj.1 (by show c.toNat = 0; omega)
        subst this; simpa using hl
theorem list_lies {s : ByteArray} {fl : UInt8} {f : Nat → Except Int (Tr × Nat)} (hf : ∀ p t q, f p = .ok (t, q) → Lies s fl p q (kenc t)) : ∀ (n p : Nat) (acc l : List Tr) (q : Nat), klistE s fl f n p acc = .ok (l, q) → ∃ m, l = acc ++ m ∧ Lies s fl p q (kencL m ++ [0]) := by
  intro n
  induction n with
  | zero => intro p acc l q h; cases h
  | succ n ih =>
    intro p acc l q h
    simp only [klistE] at h
    cases hx : moreE s fl p with
    | error e => rw [hx] at h; cases h
    | ok z =>
      obtain ⟨b, q1⟩ := z
      rw [hx] at h
      have hl := more_lies hx
      cases b
      · injection h with h; injection h with e1 e2; subst e1 e2
        exact ⟨[], by simp, by simpa [kencL] using hl⟩
      · simp only at h
        cases hy : f q1 with
        | error e => rw [hy] at h; cases h
        | ok z2 =>
          obtain ⟨t, q2⟩ := z2
          rw [hy] at h
          obtain ⟨m, e1, e2⟩ := ih _ _ _ _ h
          refine ⟨t :: m, by rw [e1]; simp, ?_⟩
          have := (hl.trans (hf _ _ _ hy)).trans e2
          simpa [kencL] using this
theorem doc_lies {s : ByteArray} {fl : UInt8} {f : Nat → Except Int (Tr × Nat)} (hf : ∀ p t q, f p = .ok (t, q) → Lies s fl p q (kenc t)) : ∀ (n p : Nat) (ns : List ByteArray) (ds : List Tr) (l : List ByteArray × List Tr) (q : Nat), kdocE s fl f n p ns ds = .ok (l, q) → ∃ mn md, l = (ns ++ mn, ds ++ md) ∧ mn.length = md.length ∧ Lies s fl p q (kencF mn md ++ [0]) := by
  intro n
  induction n with
  | zero => intro p ns ds l q h; cases h
  | succ n ih =>
    intro p ns ds l q h
    simp only [kdocE] at h
    cases hx : moreE s fl p with
    | error e => rw [hx] at h; cases h
    | ok z =>
      obtain ⟨b, q1⟩ := z
      rw [hx] at h
      have hl := more_lies hx
      cases b
      · injection h with h; injection h with e1 e2; subst e1 e2
        exact ⟨[], [], by simp, rfl, by simpa [kencF] using hl⟩
      · simp only at h
        cases hn : nameE s fl (s.size + 1) q1 [] with
        | error e => rw [hn] at h; cases h
        | ok zn =>
          obtain ⟨nm, q3⟩ := zn
          rw [hn] at h
          obtain ⟨m0, e0, hl3⟩ := name_lies _ _ _ _ _ hn
          simp only [List.nil_append] at e0
          subst e0
          simp only at h
          cases hy : f q3 with
          | error e => rw [hy] at h; cases h
          | ok z2 =>
            obtain ⟨t, q2⟩ := z2
            rw [hy] at h
            obtain ⟨mn, md, e1, e3, e2⟩ := ih _ _ _ _ _ h
            refine ⟨⟨nm.toArray⟩ :: mn, t :: md, by rw [e1]; simp, by simp [e3], ?_⟩
            have := ((hl.trans hl3).trans (hf _ _ _ hy)).trans e2
            simpa [kencF] using this
theorem kv_lies (s : ByteArray) (fl : UInt8) : ∀ (d p : Nat) (t : Tr) (q : Nat), kvE s fl d p = .ok (t, q) → Lies s fl p q (kenc t) := by
  intro d
  induction d with
  | zero =>
    intro p t q h
    simp only [kvE] at h
    cases hx : nextE s fl p with
    | error e => rw [hx] at h; cases h
    | ok z => rw [hx] at h; cases h
  | succ d ih =>
    intro p t q h
    simp only [kvE] at h
    cases hx : nextE s fl p with
    | error e => rw [hx] at h; cases h
    | ok z =>
      obtain ⟨b, q1⟩ := z
      rw [hx] at h
      have hl := next_lies hx
      simp only [kvK] at h
      have hk : ∀ k : Nat, b.toNat = k → [UInt8.ofNat ((k : Int)).toNat] = [b] := fun k hk => by
        rw [← hk]; simp
      split at h
      · cases h
      split at h
      · rename_i hk3
        cases hy : numN s fl 8 q1 0 with
        | error e => rw [hy] at h; cases h
        | ok z2 =>
          obtain ⟨u, q2⟩ := z2
          rw [hy] at h
          injection h with h; injection h with e1 e2; subst e1 e2
          obtain ⟨bs, h8, h9, h10⟩ := num_lies 8 q1 0 u q2 hl.2.1 hy
          have hnb := num8_back bs h8
          rw [← h10] at hnb
          have hi : uOf ((u : Int) - 9223372036854775808) = u := by unfold uOf; omega
          have : kenc (kLeaf b.toNat ((u : Int) - 9223372036854775808) ⟨#[]⟩) = [b] ++ bs := by
            unfold kLeaf kenc
            rw [hk _ rfl, if_pos (by rcases hk3 with h | h | h <;> rw [h] <;> simp), hi, hnb.1]
          rw [this]; exact hl.trans h9
      split at h
      · rename_i hk3 hk4
        cases hy : textE s fl (s.size + 1) q1 [] with
        | error e => rw [hy] at h; cases h
        | ok z2 =>
          obtain ⟨l, q2⟩ := z2
          rw [hy] at h
          injection h with h; injection h with e1 e2; subst e1 e2
          obtain ⟨m, e0, h9⟩ := text_lies _ _ _ _ _ hy
          simp only [List.nil_append] at e0
          subst e0
          have : kenc (kLeaf b.toNat 0 ⟨l.toArray⟩) = [b] ++ (esc l ++ [0, 0]) := by
            unfold kLeaf kenc
            rw [hk _ rfl, if_neg (by omega), if_pos (by omega)]
          rw [this]; exact hl.trans h9
      split at h
      · rename_i hk3 hk4 hk6
        cases hy : klistE s fl (kvE s fl d) (s.size + 1) q1 [] with
        | error e => rw [hy] at h; cases h
        | ok z2 =>
          obtain ⟨l, q2⟩ := z2
          rw [hy] at h
          injection h with h; injection h with e1 e2; subst e1 e2
          obtain ⟨m, e0, h9⟩ := list_lies ih _ _ _ _ _ hy
          simp only [List.nil_append] at e0
          subst e0
          have : kenc (.mk 6 0 ⟨#[]⟩ l [] []) = [b] ++ (kencL l ++ [0]) := by
            have e : b = 6 := UInt8.toNat_inj.1 hk6
            subst e; simp [kenc]
          rw [this]; exact hl.trans h9
      split at h
      · rename_i hk3 hk4 hk6 hk5
        cases hy : kdocE s fl (kvE s fl d) (s.size + 1) q1 [] [] with
        | error e => rw [hy] at h; cases h
        | ok z2 =>
          obtain ⟨⟨ns, ds⟩, q2⟩ := z2
          rw [hy] at h
          injection h with h; injection h with e1 e2; subst e1 e2
          obtain ⟨mn, md, e0, _, h9⟩ := doc_lies ih _ _ _ _ _ _ hy
          simp only [List.nil_append, Prod.mk.injEq] at e0
          obtain ⟨rfl, rfl⟩ := e0
          have : kenc (.mk 5 0 ⟨#[]⟩ [] ns ds) = [b] ++ (kencF ns ds ++ [0]) := by
            have e : b = 5 := UInt8.toNat_inj.1 hk5
            subst e; simp [kenc]
          rw [this]; exact hl.trans h9
      · rename_i hk3 hk4 hk6 hk5
        injection h with h; injection h with e1 e2; subst e1 e2
        have : kenc (kLeaf b.toNat 0 ⟨#[]⟩) = [b] := by
          unfold kLeaf kenc
          rw [hk _ rfl, if_neg (by omega), if_neg (by omega), if_neg (by omega), if_neg (by omega)]; rfl
        rw [this]; exact hl
theorem flip_nat : ∀ n, n < 256 → n ^^^ 255 = 255 - n := by decide +kernel
theorem flip_xor (c : UInt8) : 255 - c = c ^^^ 255 := by
  have h := c.toNat_lt
  apply UInt8.toNat_inj.1
  rw [UInt8.toNat_xor, UInt8.toNat_sub_of_le _ _ (by rw [UInt8.le_iff_toNat_le]; show c.toNat ≤ 255; omega)]
  exact (flip_nat c.toNat (by omega)).symm
theorem kone_lies {s : ByteArray} {d : Bool} {p q : Nat} {t : Tr} (h : Lies s (if d then 255 else 0) p q (kenc t)) : seg s p q = kone d t := by
  rw [h.2.2]; unfold kone
  cases d
  · simp
  · simp only [if_true]
    apply List.map_congr_left
    intro c _; exact (flip_xor c).symm
theorem kds_lies (s : ByteArray) : ∀ (ds : List Bool) (p : Nat) (acc l : List Tr) (q : Nat), p ≤ s.size → kdsE s ds p acc = .ok (l, q) → ∃ m, l = acc ++ m ∧ m.length = ds.length ∧ (∀ t ∈ m, allowB t = true) ∧ p ≤ q ∧ q ≤ s.size ∧ seg s p q = kencs m ds := by
  intro ds
  induction ds with
  | nil => intro p acc l q hp h; injection h with h; injection h with e1 e2; subst e1 e2; exact ⟨[], by simp, rfl, by simp, Nat.le_refl _, hp, by simp [seg, kencs]⟩
  | cons d r ih =>
    intro p acc l q hp h
    simp only [kdsE] at h
    cases hx : kvE s (if d then 255 else 0) 16 p with
    | error e => rw [hx] at h; cases h
    | ok z =>
      obtain ⟨t, q1⟩ := z
      rw [hx] at h
      have hl := kv_lies s _ 16 p t q1 hx
      simp only at h
      split at h
      · rename_i ha
        obtain ⟨m, e1, e2, e3, e4, e5, e6⟩ := ih _ _ _ _ hl.2.1 h
        refine ⟨t :: m, by rw [e1]; simp, by simp [e2], ?_, Nat.le_trans hl.1 e4, e5, ?_⟩
        · intro x hx; rcases List.mem_cons.1 hx with rfl | hx
          · exact ha
          · exact e3 x hx
        · rw [← seg_trans s hl.1 e4, e6, kone_lies hl]; rfl
      · cases h
theorem kdec_only {s : ByteArray} {ds : List Bool} {ts : List Tr} (h : kdecE s ds = .ok ts) : ts.length = ds.length ∧ kencE ts ds = (s, 0) := by
  unfold kdecE at h
  cases hx : kdsE s ds 0 [] with
  | error e => rw [hx] at h; cases h
  | ok z =>
    obtain ⟨l, q⟩ := z
    rw [hx] at h
    simp only at h
    split at h
    · cases h
    · rename_i hq
      injection h with h
      subst h
      obtain ⟨m, e1, e2, e3, e4, e5, e6⟩ := kds_lies s ds 0 [] l q (by omega) hx
      simp only [List.nil_append] at e1
      subst e1
      have hq2 : q = s.size := by omega
      refine ⟨e2, ?_⟩
      unfold kencE
      rw [if_neg (by simpa using e2), if_pos (List.all_eq_true.2 e3), ← e6, hq2]
      congr 1
      apply bytes_ext
      show seg s 0 s.size = _
      unfold seg
      exact List.take_of_length_le (by simp)
theorem next_bad {s : ByteArray} {fl : UInt8} {p : Nat} {e : Int} (h : nextE s fl p = .error e) : e ≠ 0 := by have := (nextE_err h).1; omega
theorem more_bad {s : ByteArray} {fl : UInt8} {p : Nat} {e : Int} (h : moreE s fl p = .error e) : e ≠ 0 := by
  unfold moreE at h
  cases hx : nextE s fl p with
  | error e0 => rw [hx] at h; injection h with h; subst h; exact next_bad hx
  | ok z =>
    obtain ⟨b, q⟩ := z
    rw [hx] at h
    simp only [moreK] at h
    split at h
    · injection h with h; omega
    · cases h
theorem num_bad {s : ByteArray} {fl : UInt8} : ∀ (n p u : Nat) (e : Int), numN s fl n p u = .error e → e ≠ 0 := by
  intro n
  induction n with
  | zero => intro p u e h; cases h
  | succ n ih =>
    intro p u e h
    simp only [numN] at h
    cases hx : nextE s fl p with
    | error e0 => rw [hx] at h; injection h with h; subst h; exact next_bad hx
    | ok z => obtain ⟨b, q⟩ := z; rw [hx] at h; exact ih _ _ _ h
theorem text_bad {s : ByteArray} {fl : UInt8} : ∀ (n p : Nat) (acc : List UInt8) (e : Int), textE s fl n p acc = .error e → e ≠ 0 := by
  intro n
  induction n with
  | zero => intro p acc e h; injection h with h; omega
  | succ n ih =>
    intro p acc e h
    simp only [textE] at h
    cases hx : nextE s fl p with
    | error e0 => rw [hx] at h; injection h with h; subst h; exact next_bad hx
    | ok z =>
      obtain ⟨c, q⟩ := z
      rw [hx] at h
      simp only at h
      split at h
      · exact ih _ _ _ h
      · cases hy : nextE s fl q with
        | error e0 => rw [hy] at h; injection h with h; subst h; exact next_bad hy
        | ok z2 =>
          obtain ⟨c2, q2⟩ := z2
          rw [hy] at h
          simp only at h
          split at h
          · cases h
          · split at h
            · injection h with h; omega
            · exact ih _ _ _ h
theorem name_bad {s : ByteArray} {fl : UInt8} : ∀ (n p : Nat) (acc : List UInt8) (e : Int), nameE s fl n p acc = .error e → e ≠ 0 := by
  intro n
  induction n with
  | zero => intro p acc e h; injection h with h; omega
  | succ n ih =>
    intro p acc e h
    simp only [nameE] at h
    cases hx : nextE s fl p with
    | error e0 => rw [hx] at h; injection h with h; subst h; exact next_bad hx
    | ok z =>
      obtain ⟨c, q⟩ := z
      rw [hx] at h
      simp only at h
      split at h
      · cases h
      · exact ih _ _ _ h
theorem list_bad {s : ByteArray} {fl : UInt8} {f : Nat → Except Int (Tr × Nat)} (hf : ∀ p e, f p = .error e → e ≠ 0) : ∀ (n p : Nat) (acc : List Tr) (e : Int), klistE s fl f n p acc = .error e → e ≠ 0 := by
  intro n
  induction n with
  | zero => intro p acc e h; injection h with h; omega
  | succ n ih =>
    intro p acc e h
    simp only [klistE] at h
    cases hx : moreE s fl p with
    | error e0 => rw [hx] at h; injection h with h; subst h; exact more_bad hx
    | ok z =>
      obtain ⟨b, q⟩ := z
      rw [hx] at h
      cases b
      · cases h
      · simp only at h
        cases hy : f q with
        | error e0 => rw [hy] at h; injection h with h; subst h; exact hf _ _ hy
        | ok z2 => obtain ⟨t, q2⟩ := z2; rw [hy] at h; exact ih _ _ _ h
theorem doc_bad {s : ByteArray} {fl : UInt8} {f : Nat → Except Int (Tr × Nat)} (hf : ∀ p e, f p = .error e → e ≠ 0) : ∀ (n p : Nat) (ns : List ByteArray) (ds : List Tr) (e : Int), kdocE s fl f n p ns ds = .error e → e ≠ 0 := by
  intro n
  induction n with
  | zero => intro p ns ds e h; injection h with h; omega
  | succ n ih =>
    intro p ns ds e h
    simp only [kdocE] at h
    cases hx : moreE s fl p with
    | error e0 => rw [hx] at h; injection h with h; subst h; exact more_bad hx
    | ok z =>
      obtain ⟨b, q⟩ := z
      rw [hx] at h
      cases b
      · cases h
      · simp only at h
        cases hn : nameE s fl (s.size + 1) q [] with
        | error e0 => rw [hn] at h; injection h with h; subst h; exact name_bad _ _ _ _ hn
        | ok zn =>
          obtain ⟨nm, q3⟩ := zn
          rw [hn] at h
          simp only at h
          cases hy : f q3 with
          | error e0 => rw [hy] at h; injection h with h; subst h; exact hf _ _ hy
          | ok z2 => obtain ⟨t, q2⟩ := z2; rw [hy] at h; exact ih _ _ _ _ h
theorem kv_bad (s : ByteArray) (fl : UInt8) : ∀ (d p : Nat) (e : Int), kvE s fl d p = .error e → e ≠ 0 := by
  intro d
  induction d with
  | zero =>
    intro p e h
    simp only [kvE] at h
    cases hx : nextE s fl p with
    | error e0 => rw [hx] at h; injection h with h; subst h; exact next_bad hx
    | ok z => rw [hx] at h; injection h with h; omega
  | succ d ih =>
    intro p e h
    simp only [kvE] at h
    cases hx : nextE s fl p with
    | error e0 => rw [hx] at h; injection h with h; subst h; exact next_bad hx
    | ok z =>
      obtain ⟨b, q1⟩ := z
      rw [hx] at h
      simp only [kvK] at h
      split at h
      · injection h with h; omega
      split at h
      · cases hy : numN s fl 8 q1 0 with
        | error e0 => rw [hy] at h; injection h with h; subst h; exact num_bad _ _ _ _ hy
        | ok z2 => rw [hy] at h; cases h
      split at h
      · cases hy : textE s fl (s.size + 1) q1 [] with
        | error e0 => rw [hy] at h; injection h with h; subst h; exact text_bad _ _ _ _ hy
        | ok z2 => rw [hy] at h; cases h
      split at h
      · cases hy : klistE s fl (kvE s fl d) (s.size + 1) q1 [] with
        | error e0 => rw [hy] at h; injection h with h; subst h; exact list_bad ih _ _ _ _ hy
        | ok z2 => rw [hy] at h; cases h
      split at h
      · cases hy : kdocE s fl (kvE s fl d) (s.size + 1) q1 [] [] with
        | error e0 => rw [hy] at h; injection h with h; subst h; exact doc_bad ih _ _ _ _ _ hy
        | ok z2 => rw [hy] at h; cases h
      · cases h
theorem kds_bad (s : ByteArray) : ∀ (ds : List Bool) (p : Nat) (acc : List Tr) (e : Int), kdsE s ds p acc = .error e → e ≠ 0 := by
  intro ds
  induction ds with
  | nil => intro p acc e h; cases h
  | cons d r ih =>
    intro p acc e h
    simp only [kdsE] at h
    cases hx : kvE s (if d then 255 else 0) 16 p with
    | error e0 => rw [hx] at h; injection h with h; subst h; exact kv_bad _ _ _ _ _ hx
    | ok z =>
      obtain ⟨t, q⟩ := z
      rw [hx] at h
      simp only at h
      split at h
      · exact ih _ _ _ h
      · injection h with h; omega
theorem kdec_err {s : ByteArray} {ds : List Bool} {e : Int} (h : kdecE s ds = .error e) : e ≠ 0 := by
  unfold kdecE at h
  cases hx : kdsE s ds 0 [] with
  | error e0 => rw [hx] at h; injection h with h; subst h; exact kds_bad _ _ _ _ _ hx
  | ok z =>
    obtain ⟨l, q⟩ := z
    rw [hx] at h
    simp only at h
    split at h
    · injection h with h; omega
    · cases h
end Go.Proofs.YtipphlhaaienpaaDoor
