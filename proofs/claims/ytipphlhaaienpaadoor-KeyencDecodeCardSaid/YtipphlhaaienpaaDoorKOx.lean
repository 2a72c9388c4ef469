/- docstoreref03.One of whatever is allowed, Encode; KeyencEncode. -/
import Derived.Test.YtipphlhaaienpaaDoorKR
import Derived.Test.YtipphlhaaienpaaDoorKE
import Derived.Test.YtipphlhaaienpaaDoorStr
import Derived.Test.YtipphlhaaienpaaDoorMix
import Derived.Test.YtipphlhaaienpaaDoorR1e
set_option linter.unusedSimpArgs false
set_option linter.unusedVariables false
namespace Go.Proofs.YtipphlhaaienpaaDoor
open Go.RowKit
def seg (s : ByteArray) (p q : Nat) : List UInt8 := (s.data.toList.drop p).take (q - p)
theorem seg_trans (s : ByteArray) {p q r : Nat} (h1 : p ≤ q) (h2 : q ≤ r) : seg s p q ++ seg s q r = seg s p r := by
  unfold seg
  have e : r - p = (q - p) + (r - q) := by omega
  rw [e, List.take_add, List.drop_drop]
  congr 3
  omega
/-- From p to q lie the bytes l, turned by fl. -/
def Lies (s : ByteArray) (fl : UInt8) (p q : Nat) (l : List UInt8) : Prop := p ≤ q ∧ q ≤ s.size ∧ seg s p q = l.map (· ^^^ fl)
theorem Lies.trans {s : ByteArray} {fl : UInt8} {p q r : Nat} {l m : List UInt8} (h : Lies s fl p q l) (k : Lies s fl q r m) : Lies s fl p r (l ++ m) :=
  ⟨Nat.le_trans h.1 k.1, k.2.1, by rw [List.map_append, ← h.2.2, ← k.2.2, seg_trans s h.1 k.1]⟩
theorem Lies.nil {s : ByteArray} {fl : UInt8} {p : Nat} (h : p ≤ s.size) : Lies s fl p p [] := ⟨Nat.le_refl _, h, by unfold seg; simp⟩
theorem xor_back (b fl : UInt8) : (b ^^^ fl) ^^^ fl = b := by rw [UInt8.xor_assoc, UInt8.xor_self, UInt8.xor_zero]
theorem next_lies {s : ByteArray} {fl : UInt8} {p : Nat} {b : UInt8} {q : Nat} (h : nextE s fl p = .ok (b, q)) : Lies s fl p q [b] := by
  obtain ⟨h1, rfl, rfl⟩ := nextE_ok h
  refine ⟨by omega, by omega, ?_⟩
  unfold seg
  rw [Nat.add_sub_cancel_left, List.drop_eq_getElem_cons (by simpa using h1)]
  simp only [List.take_succ_cons, List.take_zero, List.map_cons, List.map_nil, xor_back]
  unfold kbyte
  rw [List.getD_eq_getElem?_getD, List.getElem?_eq_getElem (by simpa using h1)]; rfl
theorem num_lies {s : ByteArray} {fl : UInt8} : ∀ (n p u u' q : Nat), p ≤ s.size → numN s fl n p u = .ok (u', q) → ∃ bs : List UInt8, bs.length = n ∧ Lies s fl p q bs ∧ u' = bs.foldl (fun a b => a * 256 + b.toNat) u := by
  intro n
  induction n with
  | zero => intro p u u' q hp h; injection h with h; injection h with h1 h2; subst h1 h2; exact ⟨[], rfl, Lies.nil hp, rfl⟩
  | succ n ih =>
    intro p u u' q hp h
    simp only [numN] at h
    cases hx : nextE s fl p with
    | error e => rw [hx] at h; cases h
    | ok z =>
      obtain ⟨b, q1⟩ := z
      rw [hx] at h
      have hl := next_lies hx
      obtain ⟨bs, h1, h2, h3⟩ := ih q1 _ u' q hl.2.1 h
      exact ⟨b :: bs, by simp [h1], hl.trans h2, h3⟩
theorem num8_back (bs : List UInt8) (h : bs.length = 8) : num8 (bs.foldl (fun a b => a * 256 + b.toNat) 0) = bs ∧ bs.foldl (fun a b => a * 256 + b.toNat) 0 < 18446744073709551616 := by
  match bs, h with
  | [b0, b1, b2, b3, b4, b5, b6, b7], _ =>
    have h0 := b0.toNat_lt
    have h1 := b1.toNat_lt
    have h2 := b2.toNat_lt
    have h3 := b3.toNat_lt
    have h4 := b4.toNat_lt
    have h5 := b5.toNat_lt
    have h6 := b6.toNat_lt
    have h7 := b7.toNat_lt
    simp only [List.foldl_cons, List.foldl_nil]
    refine ⟨?_, by omega⟩
    have key : ∀ (x : Nat) (b : UInt8), x % 256 = b.toNat → UInt8.ofNat x = b := fun x b h => UInt8.toNat_inj.1 (by rw [UInt8.toNat_ofNat']; exact h)
    unfold num8
    rw [key _ b0 (by omega), key _ b1 (by omega), key _ b2 (by omega), key _ b3 (by omega), key _ b4 (by omega), key _ b5 (by omega), key _ b6 (by omega), key _ b7 (by omega)]
theorem text_lies {s : ByteArray} {fl : UInt8} : ∀ (n p : Nat) (acc l : List UInt8) (q : Nat), textE s fl n p acc = .ok (l, q) → ∃ m, l = acc ++ m ∧ Lies s fl p q (esc m ++ [0, 0]) := by
  intro n
  induction n with
  | zero => intro p acc l q h; cases h
  | succ n ih =>
    intro p acc l q h
    simp only [textE] at h
    cases hx : nextE s fl p with
    | error e => rw [hx] at h; cases h
    | ok z =>
      obtain ⟨c, q1⟩ := z
      rw [hx] at h
      have hl := next_lies hx
      simp only at h
      by_cases hc : c = 0
      · rw [if_neg (by simpa using hc)] at h
        cases hy : nextE s fl q1 with
        | error e => rw [hy] at h; cases h
        | ok z2 =>
          obtain ⟨c2, q2⟩ := z2
          rw [hy] at h
          have hl2 := next_lies hy
          simp only at h
          by_cases h2 : c2 = 0
          · rw [if_pos h2] at h
            injection h with h; injection h with e1 e2; subst e1 e2
            refine ⟨[], by simp, ?_⟩
            have := hl.trans hl2
            rw [hc, h2] at this
            simpa [esc] using this
          · rw [if_neg h2] at h
            by_cases h5 : c2 = 255
            · rw [if_neg (by simpa using h5)] at h
              obtain ⟨m, e1, e2⟩ := ih _ _ _ _ h
              refine ⟨0 :: m, by rw [e1]; simp, ?_⟩
              have := (hl.trans hl2).trans e2
              rw [hc, h5] at this
              simpa [esc, escC] using this
            · rw [if_pos h5] at h; cases h
      · rw [if_pos hc] at h
        obtain ⟨m, e1, e2⟩ := ih _ _ _ _ h
        refine ⟨c :: m, by rw [e1]; simp, ?_⟩
        have := hl.trans e2
        simpa [esc, escC, hc] using this
theorem name_lies {s : ByteArray} {fl : UInt8} : ∀ (n p : Nat) (acc l : List UInt8) (q : Nat), nameE s fl n p acc = .ok (l, q) → ∃ m, l = acc ++ m ∧ Lies s fl p q (m ++ [0]) := by
  intro n
  induction n with
  | zero => intro p acc l q h; cases h
  | succ n ih =>
    intro p acc l q h
    simp only [nameE] at h
    cases hx : nextE s fl p with
    | error e => rw [hx] at h; cases h
    | ok z =>
      obtain ⟨c, q1⟩ := z
      rw [hx] at h
      have hl := next_lies hx
      simp only at h
      by_cases hc : c = 0
      · rw [if_pos hc] at h
        injection h with h; injection h with e1 e2; subst e1 e2
        exact ⟨[], by simp, by rw [hc] at hl; simpa using hl⟩
      · rw [if_neg hc] at h
        obtain ⟨m, e1, e2⟩ := ih _ _ _ _ h
        exact ⟨c :: m, by rw [e1]; simp, by simpa using hl.trans e2⟩
theorem more_lies {s : ByteArray} {fl : UInt8} {p : Nat} {b : Bool} {q : Nat} (h : moreE s fl p = .ok (b, q)) : Lies s fl p q [if b then 1 else 0] := by
  unfold moreE at h
  cases hx : nextE s fl p with
  | error e => rw [hx] at h; cases h
  | ok z =>
    obtain ⟨c, q1⟩ := z
    rw [hx] at h
    have hl := next_lies hx
    simp only [moreK] at h
    split at h
    · cases h
    · rename_i hc
      injection h with h; injection h with e1 e2; subst e1 e2
      by_cases h1 : c.toNat = 1
      · have : c = 1 := UInt8.toNat_inj.1 h1
        subst this; simpa using hl
      · have : c = 0 := UInt8.toNat_inj.1 (by show c.toNat = 0; omega)
        subst this; simpa using hl
theorem list_lies {s : ByteArray} {fl : UInt8} {f : Nat → Except Int (Tr × Nat)} (hf : ∀ p t q, f p = .ok (t, q) → Lies s fl p q (kenc t)) : ∀ (n p : Nat) (acc l : List Tr) (q : Nat), klistE s fl f n p acc = .ok (l, q) → ∃ m, l = acc ++ m ∧ Lies s fl p q (kencL m ++ [0]) := by
  intro n
  induction n with
  | zero => intro p acc l q h; cases h
  | succ n ih =>
    intro p acc l q h
    simp only [klistE] at h
    cases hx : moreE s fl p with
    | error e => rw [hx] at h; cases h
    | ok z =>
      obtain ⟨b, q1⟩ := z
      rw [hx] at h
      have hl := more_lies hx
      cases b
      · injection h with h; injection h with e1 e2; subst e1 e2
        exact ⟨[], by simp, by simpa [kencL] using hl⟩
      · simp only at h
        cases hy : f q1 with
        | error e => rw [hy] at h; cases h
        | ok z2 =>
          obtain ⟨t, q2⟩ := z2
          rw [hy] at h
          obtain ⟨m, e1, e2⟩ := ih _ _ _ _ h
          refine ⟨t :: m, by rw [e1]; simp, ?_⟩
          have := (hl.trans (hf _ _ _ hy)).trans e2
          simpa [kencL] using this
theorem doc_lies {s : ByteArray} {fl : UInt8} {f : Nat → Except Int (Tr × Nat)} (hf : ∀ p t q, f p = .ok (t, q) → Lies s fl p q (kenc t)) : ∀ (n p : Nat) (ns : List ByteArray) (ds : List Tr) (l : List ByteArray × List Tr) (q : Nat), kdocE s fl f n p ns ds = .ok (l, q) → ∃ mn md, l = (ns ++ mn, ds ++ md) ∧ mn.length = md.length ∧ Lies s fl p q (kencF mn md ++ [0]) := by
  intro n
  induction n with
  | zero => intro p ns ds l q h; cases h
  | succ n ih =>
    intro p ns ds l q h
    simp only [kdocE] at h
    cases hx : moreE s fl p with
    | error e => rw [hx] at h; cases h
    | ok z =>
      obtain ⟨b, q1⟩ := z
      rw [hx] at h
      have hl := more_lies hx
      cases b
      · injection h with h; injection h with e1 e2; subst e1 e2
        exact ⟨[], [], by simp, rfl, by simpa [kencF] using hl⟩
      · simp only at h
        cases hn : nameE s fl (s.size + 1) q1 [] with
        | error e => rw [hn] at h; cases h
        | ok zn =>
          obtain ⟨nm, q3⟩ := zn
          rw [hn] at h
          obtain ⟨m0, e0, hl3⟩ := name_lies _ _ _ _ _ hn
          simp only [List.nil_append] at e0
          subst e0
          simp only at h
          cases hy : f q3 with
          | error e => rw [hy] at h; cases h
          | ok z2 =>
            obtain ⟨t, q2⟩ := z2
            rw [hy] at h
            obtain ⟨mn, md, e1, e3, e2⟩ := ih _ _ _ _ _ h
            refine ⟨⟨nm.toArray⟩ :: mn, t :: md, by rw [e1]; simp, by simp [e3], ?_⟩
            have := ((hl.trans hl3).trans (hf _ _ _ hy)).trans e2
            simpa [kencF] using this
theorem kv_lies (s : ByteArray) (fl : UInt8) : ∀ (d p : Nat) (t : Tr) (q : Nat), kvE s fl d p = .ok (t, q) → Lies s fl p q (kenc t) := by
  intro d
  induction d with
  | zero =>
    intro p t q h
    simp only [kvE] at h
    cases hx : nextE s fl p with
    | error e => rw [hx] at h; cases h
    | ok z => rw [hx] at h; cases h
  | succ d ih =>
    intro p t q h
    simp only [kvE] at h
    cases hx : nextE s fl p with
    | error e => rw [hx] at h; cases h
    | ok z =>
      obtain ⟨b, q1⟩ := z
      rw [hx] at h
      have hl := next_lies hx
      simp only [kvK] at h
      have hk : ∀ k : Nat, b.toNat = k → [UInt8.ofNat ((k : Int)).toNat] = [b] := fun k hk => by
        rw [← hk]; simp
      split at h
      · cases h
      split at h
      · rename_i hk3
        cases hy : numN s fl 8 q1 0 with
        | error e => rw [hy] at h; cases h
        | ok z2 =>
          obtain ⟨u, q2⟩ := z2
          rw [hy] at h
          injection h with h; injection h with e1 e2; subst e1 e2
          obtain ⟨bs, h8, h9, h10⟩ := num_lies 8 q1 0 u q2 hl.2.1 hy
          have hnb := num8_back bs h8
          rw [← h10] at hnb
          have hi : uOf ((u : Int) - 9223372036854775808) = u := by unfold uOf; omega
          have : kenc (kLeaf b.toNat ((u : Int) - 9223372036854775808) ⟨#[]⟩) = [b] ++ bs := by
            unfold kLeaf kenc
            rw [hk _ rfl, if_pos (by rcases hk3 with h | h | h <;> rw [h] <;> simp), hi, hnb.1]
          rw [this]; exact hl.trans h9
      split at h
      · rename_i hk3 hk4
        cases hy : textE s fl (s.size + 1) q1 [] with
        | error e => rw [hy] at h; cases h
        | ok z2 =>
          obtain ⟨l, q2⟩ := z2
          rw [hy] at h
          injection h with h; injection h with e1 e2; subst e1 e2
          obtain ⟨m, e0, h9⟩ := text_lies _ _ _ _ _ hy
          simp only [List.nil_append] at e0
          subst e0
          have : kenc (kLeaf b.toNat 0 ⟨l.toArray⟩) = [b] ++ (esc l ++ [0, 0]) := by
            unfold kLeaf kenc
            rw [hk _ rfl, if_neg (by omega), if_pos (by omega)]
          rw [this]; exact hl.trans h9
      split at h
      · rename_i hk3 hk4 hk6
        cases hy : klistE s fl (kvE s fl d) (s.size + 1) q1 [] with
        | error e => rw [hy] at h; cases h
        | ok z2 =>
          obtain ⟨l, q2⟩ := z2
          rw [hy] at h
          injection h with h; injection h with e1 e2; subst e1 e2
          obtain ⟨m, e0, h9⟩ := list_lies ih _ _ _ _ _ hy
          simp only [List.nil_append] at e0
          subst e0
          have : kenc (.mk 6 0 ⟨#[]⟩ l [] []) = [b] ++ (kencL l ++ [0]) := by
            have e : b = 6 := UInt8.toNat_inj.1 hk6
            subst e; simp [kenc]
          rw [this]; exact hl.trans h9
      split at h
      · rename_i hk3 hk4 hk6 hk5
        cases hy : kdocE s fl (kvE s fl d) (s.size + 1) q1 [] [] with
        | error e => rw [hy] at h; cases h
        | ok z2 =>
          obtain ⟨⟨ns, ds⟩, q2⟩ := z2
          rw [hy] at h
          injection h with h; injection h with e1 e2; subst e1 e2
          obtain ⟨mn, md, e0, _, h9⟩ := doc_lies ih _ _ _ _ _ _ hy
          simp only [List.nil_append, Prod.mk.injEq] at e0
          obtain ⟨rfl, rfl⟩ := e0
          have : kenc (.mk 5 0 ⟨#[]⟩ [] ns ds) = [b] ++ (kencF ns ds ++ [0]) := by
            have e : b = 5 := UInt8.toNat_inj.1 hk5
            subst e; simp [kenc]
          rw [this]; exact hl.trans h9
      · rename_i hk3 hk4 hk6 hk5
        injection h with h; injection h with e1 e2; subst e1 e2
        have : kenc (kLeaf b.toNat 0 ⟨#[]⟩) = [b] := by
          unfold kLeaf kenc
          rw [hk _ rfl, if_neg (by omega), if_neg (by omega), if_neg (by omega), if_neg (by omega)]; rfl
        rw [this]; exact hl
theorem flip_nat : ∀ n, n < 256 → n ^^^ 255 = 255 - n := by decide +kernel
theorem flip_xor (c : UInt8) : 255 - c = c ^^^ 255 := by
  have h := c.toNat_lt
  apply UInt8.toNat_inj.1
  rw [UInt8.toNat_xor, UInt8.toNat_sub_of_le _ _ (by rw [UInt8.le_iff_toNat_le]; show c.toNat ≤ 255; omega)]
  exact (flip_nat c.toNat (by omega)).symm
theorem kone_lies {s : ByteArray} {d : Bool} {p q : Nat} {t : Tr} (h : Lies s (if d then 255 else 0) p q (kenc t)) : seg s p q = kone d t := by
  rw [h.2.2]; unfold kone
  cases d
  · simp
  · simp only [if_true]
    apply List.map_congr_left
    intro c _; exact (flip_xor c).symm
theorem kds_lies (s : ByteArray) : ∀ (ds : List Bool) (p : Nat) (acc l : List Tr) (q : Nat), p ≤ s.size → kdsE s ds p acc = .ok (l, q) → ∃ m, l = acc ++ m ∧ m.length = ds.length ∧ (∀ t ∈ m, allowB t = true) ∧ p ≤ q ∧ q ≤ s.size ∧ seg s p q = kencs m ds := by
  intro ds
  induction ds with
  | nil => intro p acc l q hp h; injection h with h; injection h with e1 e2; subst e1 e2; exact ⟨[], by simp, rfl, by simp, Nat.le_refl _, hp, by simp [seg, kencs]⟩
  | cons d r ih =>
    intro p acc l q hp h
    simp only [kdsE] at h
    cases hx : kvE s (if d then 255 else 0) 16 p with
    | error e => rw [hx] at h; cases h
    | ok z =>
      obtain ⟨t, q1⟩ := z
      rw [hx] at h
      have hl := kv_lies s _ 16 p t q1 hx
      simp only at h
      split at h
      · rename_i ha
        obtain ⟨m, e1, e2, e3, e4, e5, e6⟩ := ih _ _ _ _ hl.2.1 h
        refine ⟨t :: m, by rw [e1]; simp, by simp [e2], ?_, Nat.le_trans hl.1 e4, e5, ?_⟩
        · intro x hx; rcases List.mem_cons.1 hx with rfl | hx
          · exact ha
          · exact e3 x hx
        · rw [← seg_trans s hl.1 e4, e6, kone_lies hl]; rfl
      · cases h
theorem kdec_only {s : ByteArray} {ds : List Bool} {ts : List Tr} (h : kdecE s ds = .ok ts) : ts.length = ds.length ∧ kencE ts ds = (s, 0) := by
  unfold kdecE at h
  cases hx : kdsE s ds 0 [] with
  | error e => rw [hx] at h; cases h
  | ok z =>
    obtain ⟨l, q⟩ := z
    rw [hx] at h
    simp only at h
    split at h
    · cases h
    · rename_i hq
      injection h with h
      subst h
      obtain ⟨m, e1, e2, e3, e4, e5, e6⟩ := kds_lies s ds 0 [] l q (by omega) hx
      simp only [List.nil_append] at e1
      subst e1
      have hq2 : q = s.size := by omega
      refine ⟨e2, ?_⟩
      unfold kencE
      rw [if_neg (by simpa using e2), if_pos (List.all_eq_true.2 e3), ← e6, hq2]
      congr 1
      apply bytes_ext
      show seg s 0 s.size = _
      unfold seg
      exact List.take_of_length_le (by simp)
theorem next_bad {s : ByteArray} {fl : UInt8} {p : Nat} {e : Int} (h : nextE s fl p = .error e) : e ≠ 0 := by have := (nextE_err h).1; omega
theorem more_bad {s : ByteArray} {fl : UInt8} {p : Nat} {e : Int} (h : moreE s fl p = .error e) : e ≠ 0 := by
  unfold moreE at h
  cases hx : nextE s fl p with
  | error e0 => rw [hx] at h; injection h with h; subst h; exact next_bad hx
  | ok z =>
    obtain ⟨b, q⟩ := z
    rw [hx] at h
    simp only [moreK] at h
    split at h
    · injection h with h; omega
    · cases h
theorem num_bad {s : ByteArray} {fl : UInt8} : ∀ (n p u : Nat) (e : Int), numN s fl n p u = .error e → e ≠ 0 := by
  intro n
  induction n with
  | zero => intro p u e h; cases h
  | succ n ih =>
    intro p u e h
    simp only [numN] at h
    cases hx : nextE s fl p with
    | error e0 => rw [hx] at h; injection h with h; subst h; exact next_bad hx
    | ok z => obtain ⟨b, q⟩ := z; rw [hx] at h; exact ih _ _ _ h
theorem text_bad {s : ByteArray} {fl : UInt8} : ∀ (n p : Nat) (acc : List UInt8) (e : Int), textE s fl n p acc = .error e → e ≠ 0 := by
  intro n
  induction n with
  | zero => intro p acc e h; injection h with h; omega
  | succ n ih =>
    intro p acc e h
    simp only [textE] at h
    cases hx : nextE s fl p with
    | error e0 => rw [hx] at h; injection h with h; subst h; exact next_bad hx
    | ok z =>
      obtain ⟨c, q⟩ := z
      rw [hx] at h
      simp only at h
      split at h
      · exact ih _ _ _ h
      · cases hy : nextE s fl q with
        | error e0 => rw [hy] at h; injection h with h; subst h; exact next_bad hy
        | ok z2 =>
          obtain ⟨c2, q2⟩ := z2
          rw [hy] at h
          simp only at h
          split at h
          · cases h
          · split at h
            · injection h with h; omega
            · exact ih _ _ _ h
theorem name_bad {s : ByteArray} {fl : UInt8} : ∀ (n p : Nat) (acc : List UInt8) (e : Int), nameE s fl n p acc = .error e → e ≠ 0 := by
  intro n
  induction n with
  | zero => intro p acc e h; injection h with h; omega
  | succ n ih =>
    intro p acc e h
    simp only [nameE] at h
    cases hx : nextE s fl p with
    | error e0 => rw [hx] at h; injection h with h; subst h; exact next_bad hx
    | ok z =>
      obtain ⟨c, q⟩ := z
      rw [hx] at h
      simp only at h
      split at h
      · cases h
      · exact ih _ _ _ h
theorem list_bad {s : ByteArray} {fl : UInt8} {f : Nat → Except Int (Tr × Nat)} (hf : ∀ p e, f p = .error e → e ≠ 0) : ∀ (n p : Nat) (acc : List Tr) (e : Int), klistE s fl f n p acc = .error e → e ≠ 0 := by
  intro n
  induction n with
  | zero => intro p acc e h; injection h with h; omega
  | succ n ih =>
    intro p acc e h
    simp only [klistE] at h
    cases hx : moreE s fl p with
    | error e0 => rw [hx] at h; injection h with h; subst h; exact more_bad hx
    | ok z =>
      obtain ⟨b, q⟩ := z
      rw [hx] at h
      cases b
      · cases h
      · simp only at h
        cases hy : f q with
        | error e0 => rw [hy] at h; injection h with h; subst h; exact hf _ _ hy
        | ok z2 => obtain ⟨t, q2⟩ := z2; rw [hy] at h; exact ih _ _ _ h
theorem doc_bad {s : ByteArray} {fl : UInt8} {f : Nat → Except Int (Tr × Nat)} (hf : ∀ p e, f p = .error e → e ≠ 0) : ∀ (n p : Nat) (ns : List ByteArray) (ds : List Tr) (e : Int), kdocE s fl f n p ns ds = .error e → e ≠ 0 := by
  intro n
  induction n with
  | zero => intro p ns ds e h; injection h with h; omega
  | succ n ih =>
    intro p ns ds e h
    simp only [kdocE] at h
    cases hx : moreE s fl p with
    | error e0 => rw [hx] at h; injection h with h; subst h; exact more_bad hx
    | ok z =>
      obtain ⟨b, q⟩ := z
      rw [hx] at h
      cases b
      · cases h
      · simp only at h
        cases hn : nameE s fl (s.size + 1) q [] with
        | error e0 => rw [hn] at h; injection h with h; subst h; exact name_bad _ _ _ _ hn
        | ok zn =>
          obtain ⟨nm, q3⟩ := zn
          rw [hn] at h
          simp only at h
          cases hy : f q3 with
          | error e0 => rw [hy] at h; injection h with h; subst h; exact hf _ _ hy
          | ok z2 => obtain ⟨t, q2⟩ := z2; rw [hy] at h; exact ih _ _ _ _ h
theorem kv_bad (s : ByteArray) (fl : UInt8) : ∀ (d p : Nat) (e : Int), kvE s fl d p = .error e → e ≠ 0 := by
  intro d
  induction d with
  | zero =>
    intro p e h
    simp only [kvE] at h
    cases hx : nextE s fl p with
    | error e0 => rw [hx] at h; injection h with h; subst h; exact next_bad hx
    | ok z => rw [hx] at h; injection h with h; omega
  | succ d ih =>
    intro p e h
    simp only [kvE] at h
    cases hx : nextE s fl p with
    | error e0 => rw [hx] at h; injection h with h; subst h; exact next_bad hx
    | ok z =>
      obtain ⟨b, q1⟩ := z
      rw [hx] at h
      simp only [kvK] at h
      split at h
      · injection h with h; omega
      split at h
      · cases hy : numN s fl 8 q1 0 with
        | error e0 => rw [hy] at h; injection h with h; subst h; exact num_bad _ _ _ _ hy
        | ok z2 => rw [hy] at h; cases h
      split at h
      · cases hy : textE s fl (s.size + 1) q1 [] with
        | error e0 => rw [hy] at h; injection h with h; subst h; exact text_bad _ _ _ _ hy
        | ok z2 => rw [hy] at h; cases h
      split at h
      · cases hy : klistE s fl (kvE s fl d) (s.size + 1) q1 [] with
        | error e0 => rw [hy] at h; injection h with h; subst h; exact list_bad ih _ _ _ _ hy
        | ok z2 => rw [hy] at h; cases h
      split at h
      · cases hy : kdocE s fl (kvE s fl d) (s.size + 1) q1 [] [] with
        | error e0 => rw [hy] at h; injection h with h; subst h; exact doc_bad ih _ _ _ _ _ hy
        | ok z2 => rw [hy] at h; cases h
      · cases h
theorem kds_bad (s : ByteArray) : ∀ (ds : List Bool) (p : Nat) (acc : List Tr) (e : Int), kdsE s ds p acc = .error e → e ≠ 0 := by
  intro ds
  induction ds with
  | nil => intro p acc e h; cases h
  | cons d r ih =>
    intro p acc e h
    simp only [kdsE] at h
    cases hx : kvE s (if d then 255 else 0) 16 p with
    | error e0 => rw [hx] at h; injection h with h; subst h; exact kv_bad _ _ _ _ _ hx
    | ok z =>
      obtain ⟨t, q⟩ := z
      rw [hx] at h
      simp only at h
      split at h
      · exact ih _ _ _ h
      · injection h with h; omega
theorem kdec_err {s : ByteArray} {ds : List Bool} {e : Int} (h : kdecE s ds = .error e) : e ≠ 0 := by
  unfold kdecE at h
  cases hx : kdsE s ds 0 [] with
  | error e0 => rw [hx] at h; injection h with h; subst h; exact kds_bad _ _ _ _ _ hx
  | ok z =>
    obtain ⟨l, q⟩ := z
    rw [hx] at h
    simp only at h
    split at h
    · injection h with h; omega
    · cases h
end Go.Proofs.YtipphlhaaienpaaDoor
set_option linter.unusedSimpArgs false
set_option linter.unusedVariables false
namespace Go.Proofs.YtipphlhaaienpaaDoor
open Go.RowKit
def awA : Tr := .mk 3 5 ⟨#[]⟩ [] [] []
def awB : Tr := .mk 4 0 ⟨#[97]⟩ [] [] []
theorem awA_ok : allowB awA = true := by simp [allowB, awA, Tr.kind, validB, Tr.cnt, Tr.cntL, Tr.dep, Tr.depL, snd, sndL, sndF, headOk, leafOk, bytes_e]
theorem awB_ok : allowB awB = true := by
  simp [allowB, awB, Tr.kind, validB, Tr.cnt, Tr.cntL, Tr.dep, Tr.depL, snd, sndL, sndF, headOk, leafOk, bytes_e]
  decide
theorem aw_enc : kencE [awA, awB] [false, true] = (⟨#[3, 128, 0, 0, 0, 0, 0, 0, 5, 251, 158, 255, 255]⟩, 0) := by
  unfold kencE
  rw [if_neg (by simp)]
  simp only [List.all_cons, awA_ok, awB_ok, List.all_nil, Bool.and_self, if_true]
  decide
theorem aw_dec : kdecE ⟨#[2, 253]⟩ [false, true] = .ok [.mk 2 0 ⟨#[]⟩ [] [] [], .mk 2 0 ⟨#[]⟩ [] [] []] := by
  rfl
theorem aw_aft : aftR ⟨#[97, 255]⟩ = (⟨#[98]⟩, true) := by decide
theorem leaf_rep (w : World) (k i : Int) (t : ByteArray) (hk : I64 k) (hi : I64 i) (ht : t.size ≤ maxLen) : VRep w (.mk k i t [] [] []) (.agg #[.int .i64 k, .int .i64 i, .string t, .slice none 0 0, .slice none 0 0]) := VNew.rep (VNew.leaf 0 0 w k i t hk hi ht)
theorem aw_list {w : World} {g : Nat} (h : w.heap[g]? = some (.cells #[.int .i64 3, .int .i64 5, .string ⟨#[]⟩, .slice none 0 0, .slice none 0 0, .int .i64 4, .int .i64 0, .string ⟨#[97]⟩, .slice none 0 0, .slice none 0 0] 41 (0, 0))) : LRep w (some ⟨g, 0, none⟩) 0 [awA, awB] := by
  have hc := blk_cell h
  unfold LRep
  refine ⟨⟨g, 0, _, _, _, _, _, rfl, hc 0, hc 1, hc 2, hc 3, hc 4, leaf_rep w 3 5 ⟨#[]⟩ (by unfold I64; omega) (by unfold I64; omega) (by unfold maxLen; decide)⟩, ?_⟩
  unfold LRep
  refine ⟨⟨g, 0, _, _, _, _, _, rfl, hc 5, hc 6, hc 7, hc 8, hc 9, leaf_rep w 4 0 ⟨#[97]⟩ (by unfold I64; omega) (by unfold I64; omega) (by unfold maxLen; decide)⟩, ?_⟩
  unfold LRep; trivial
theorem aw_bools {w : World} {g : Nat} (h : w.heap[g]? = some (.cells #[.bool false, .bool true] 4 (0, 0))) : BRep w (some ⟨g, 0, none⟩) [false, true] := by
  have hc := blk_cell h
  intro j d hj
  match j, hj with
  | 0, hj => injection hj with hj; subst hj; exact ⟨g, 0, rfl, hc 0⟩
  | 1, hj => injection hj with hj; subst hj; exact ⟨g, 0, rfl, hc 1⟩
  | j + 2, hj => simp at hj
set_option maxRecDepth 20000 in
set_option maxHeartbeats 2000000 in
theorem awake_ok (w : World) (hT : Tabs w) : Calls Tryd.prog 10 #[] w fun e w' => e = .returned (.bool true) ∧ Ext w w' := by
  have HT := Lib.hid hT
  clear hT
  go_enter Tryd.func10, Tryd.ntmps10
  go_wp2_with fail
  refine (Encode_ok [awA, awB] [false, true] _ _ 2 2 _ (aw_list (blk_alloc (blk_at0 w _) _)) (by simp) (by unfold maxLen; omega) (aw_bools (blk_at1 w _ _)) (by simp) (by unfold maxLen; omega) (by simp) (HT.out.ext (((Ext.refl w).alloc _).alloc _))).mono ?_
  rw [aw_enc]
  rintro e w1 ⟨rfl, h1⟩
  have HE1 := Lib.hid ((((Ext.refl w).alloc _).alloc _).trans h1)
  clear h1
  go_wp2_with fail
  refine (Decode_ok ⟨#[2, 253]⟩ [false, true] _ 2 _ (by decide) (aw_bools (blk_at0 w1 _)) (by simp) (by unfold maxLen; omega) (by simp) (HT.out.ext (HE1.out.alloc _))).mono ?_
  rw [aw_dec]
  rintro e w2 ⟨a, c, rfl, hc1, hc2, hL, h2⟩
  have HE2 := Lib.hid (HE1.out.trans h2.of_alloc)
  obtain ⟨b, off, c0, c1, c2, c3, c4, rfl, e0, -, -, -, -, hv⟩ := LRep.at_ _ 0 1 (.mk 2 0 ⟨#[]⟩ [] [] []) hL rfl
  unfold VRep at hv
  obtain ⟨_, _, _, _, ev, -⟩ := hv
  injection ev with ev
  simp only [Array.mk.injEq, List.cons.injEq] at ev
  obtain ⟨rfl, -⟩ := ev
  have HC0 := Lib.hid e0
  clear h2 hL e0
  go_wp2_with fail
  refine (After_ok ⟨#[97, 255]⟩ _ (by decide)).mono ?_
  rw [aw_aft]
  rintro e w3 ⟨rfl, h3⟩
  have HE3 := Lib.hid (HE2.out.trans h3)
  have q0 := h3.keep HC0.out
  have hb : b < w3.heap.size := World.block_lt_of_cell? _ _ q0
  simp only [Nat.zero_add, Nat.one_mul] at q0
  unfold maxLen at hc2
  simp at hc1
  clear h3 HC0
  go_wp2_with fail
  go_ret
  exact ⟨rfl, HE3.out⟩
def preB (p x : ByteArray) : Bool := p.data.toList.isPrefixOf x.data.toList
theorem isPre_take (p x : List UInt8) : p.isPrefixOf x = decide (x.take p.length = p) := by
  by_cases h : x.take p.length = p
  · rw [decide_eq_true h]; exact List.isPrefixOf_iff_prefix.2 (by rw [← h]; exact List.take_prefix _ _)
  · rw [decide_eq_false h, Bool.eq_false_iff]
    intro h2
    obtain ⟨y, hy⟩ := List.isPrefixOf_iff_prefix.1 h2
    exact h (by rw [← hy]; simp)
theorem extract_eq (x p : ByteArray) : (x.extract 0 p.size = p) ↔ x.data.toList.take p.data.toList.length = p.data.toList := by
  have hl : p.data.toList.length = p.size := by simp
  constructor
  · intro h
    have := congrArg (fun b : ByteArray => b.data.toList) h
    simp only [ByteArray.data_extract, Array.toList_extract] at this
    rw [hl, ← this]; simp
  · intro h
    apply bytes_ext
    rw [ByteArray.data_extract, Array.toList_extract, ← hl]
    simpa using h
set_option maxRecDepth 20000 in
set_option maxHeartbeats 2000000 in
theorem HasPrefix2_ok (x p : ByteArray) (w : World) (hp : p.size ≤ 140737488355327) (hx : x.size ≤ 140737488355327) : Calls Tryd.prog 31 #[.string x, .string p] w fun e w' => e = .returned (.bool (preB p x)) ∧ w = w' := by
  have hlp : p.data.toList.length = p.size := by simp
  have hlx : x.data.toList.length = x.size := by simp
  by_cases h : p.size ≤ x.size
  · have d : decide (p.size ≤ x.size) = true := by simpa using h
    have hr : preB p x = ((x.extract 0 p.size).toList == p.toList) := by
      unfold preB
      rw [isPre_take, str_eqv]
      by_cases e : x.extract 0 p.size = p
      · rw [decide_eq_true e, decide_eq_true ((extract_eq x p).1 e)]
      · rw [decide_eq_false e, decide_eq_false (fun e2 => e ((extract_eq x p).2 e2))]
    rw [hr]
    clear hr hlp hlx
    go_enter Tryd.func31, Tryd.ntmps31
    go_wp2_with fail
    go_ret
    exact ⟨rfl, rfl⟩
  · have d : decide (p.size ≤ x.size) = false := by simpa using h
    have hr : preB p x = false := by
      unfold preB
      rw [isPre_take, decide_eq_false]
      intro e
      have := congrArg List.length e
      rw [List.length_take, hlp, hlx] at this; omega
    rw [hr]
    clear hr hlp hlx
    go_enter Tryd.func31, Tryd.ntmps31
    go_wp2_with fail
    go_ret
    exact ⟨rfl, rfl⟩
set_option maxRecDepth 20000 in
theorem HasPrefix_ok (x p : ByteArray) (w : World) (hp : p.size ≤ 140737488355327) (hx : x.size ≤ 140737488355327) : Calls Tryd.prog 18 #[.string x, .string p] w fun e w' => e = .returned (.bool (preB p x)) ∧ w = w' := by
  go_enter Tryd.func18, Tryd.ntmps18
  go_wp2_with fail
  refine (HasPrefix2_ok x p _ hp hx).mono ?_
  rintro e w1 ⟨rfl, rfl⟩
  go_wp2_with fail
  go_ret
  exact ⟨rfl, rfl⟩
set_option maxRecDepth 20000 in
set_option maxHeartbeats 2000000 in
theorem after_walk (p x : ByteArray) (w : World) (hp : p.size ≤ 140737488355327) (hx : x.size ≤ 140737488355327) (hT : Tabs w) : Calls Tryd.prog 7 #[.string p, .string x] w fun e w' => e = .returned (.bool true) ∧ Ext w w' := by
  have HT := Lib.hid hT
  clear hT
  obtain ⟨r, hr⟩ : ∃ r, aftR p = r := ⟨_, rfl⟩
  obtain ⟨a, b⟩ := r
  have HR := Lib.hid hr
  cases b
  · obtain ⟨rfl, hall⟩ := aft_none hr
    have HAll := Lib.hid hall
    clear hr hall
    go_enter Tryd.func7, Tryd.ntmps7
    go_wp2_with fail
    refine (After_ok p _ hp).mono ?_
    rw [HR.out]
    rintro e w1 ⟨rfl, h1⟩
    have HE1 := Lib.hid h1
    clear h1
    go_wp2_with fail
    go_loopw [17] (fun i wr => ∃ j : Nat, j ≤ p.size ∧ i = .int .i64 j ∧ wr = w1) (fun i _ => p.size - (intOf i).toNat)
    case atStart => exact ⟨0, by omega, rfl, rfl⟩
    case round =>
      obtain ⟨j, hj, rfl, rfl⟩ := hrel
      by_cases hlt : j < p.size
      · have hb := kbyte_at' p j hlt
        rw [HAll.out j hlt] at hb
        go_wp2_with fail
        exact ⟨⟨j + 1, by omega, by go_num, trivial⟩, by simp [intOf]; omega⟩
      · go_wp2_with fail
        refine (awake_ok _ (HT.out.ext HE1.out)).mono ?_
        rintro e w2 ⟨rfl, h2⟩
        go_wp2_with fail
        go_ret
        exact ⟨rfl, HE1.out.trans h2⟩
  · obtain ⟨u, b, s, hb, hs, ep, ea⟩ := aft_split hr
    have h1 := aft_more b hb s u
    have h2 := aft_range b hb s hs u x.data.toList
    rw [← ep, ← ea] at h1 h2
    have d1 : Op.bytesLess a.toList p.toList = false := by rw [ByteArray.toList_eq, ByteArray.toList_eq]; exact h1.1
    have d2 : (a.toList == p.toList) = false := by rw [ByteArray.toList_eq, ByteArray.toList_eq, beq_eq_false_iff_ne]; exact h1.2
    have h2' : preB p x = (!Op.bytesLess x.toList p.toList && Op.bytesLess x.toList a.toList) := by
      rw [ByteArray.toList_eq, ByteArray.toList_eq, ByteArray.toList_eq]; exact h2
    have HP := Lib.hid h2'
    clear hr h1 h2 h2' ep ea hb hs
    go_enter Tryd.func7, Tryd.ntmps7
    go_wp2_with fail
    refine (After_ok p _ hp).mono ?_
    rw [HR.out]
    rintro e w1 ⟨rfl, h1⟩
    have HE1 := Lib.hid h1
    clear h1
    go_wp2_with fail
    refine (HasPrefix_ok x p _ hp hx).mono ?_
    rintro e w2 ⟨rfl, rfl⟩
    rw [HP.out]
    obtain ⟨b1, hb1⟩ : ∃ b, Op.bytesLess x.toList p.toList = b := ⟨_, rfl⟩
    obtain ⟨b2, hb2⟩ : ∃ b, Op.bytesLess x.toList a.toList = b := ⟨_, rfl⟩
    rw [hb1, hb2]
    cases b1 <;> cases b2
    all_goals
      go_wp2_with fail
      refine (awake_ok _ (HT.out.ext HE1.out)).mono ?_
      rintro e w3 ⟨rfl, h3⟩
      go_wp2_with fail
      go_ret
      exact ⟨rfl, HE1.out.trans h3⟩
end Go.Proofs.YtipphlhaaienpaaDoor
set_option linter.unusedSimpArgs false
set_option linter.unusedVariables false
namespace Go.Proofs.YtipphlhaaienpaaDoor
open Go.RowKit
set_option maxRecDepth 20000 in
set_option maxHeartbeats 4000000 in
theorem number_ok (i : Int) (w : World) (hI : I64 i) : Calls Tryd.prog 38 #[.int .i64 i] w fun e w' => e = .returned (.string ⟨(num8 (uOf i)).toArray⟩) ∧ Ext w w' := by
  obtain ⟨u, hu⟩ : ∃ u, uOf i = u := ⟨_, rfl⟩
  have hX := xor63 i hI
  have hU := uOf_lt i hI
  rw [hu] at hX hU ⊢
  have HXr := Lib.hid hX
  clear hX hu hI
  go_enter Tryd.func38, Tryd.ntmps38
  go_wp2_with fail
  simp only [HXr.out]
  go_loopw [4, 5] (fun b x wr => ∃ (j : Nat) (y : ByteArray), j ≤ 8 ∧ x = .int .i64 j ∧ b = .string y ∧ Hid (y.data.toList = (num8 u).take j) ∧ Hid (Ext w wr)) (fun _ x _ => 8 - (intOf x).toNat)
  case atStart => exact ⟨0, ⟨#[]⟩, by omega, rfl, rfl, rfl, Ext.refl _⟩
  case round =>
    obtain ⟨j, y, hj, rfl, rfl, HY, HE⟩ := hrel
    clear HXr
    have hys : y.size ≤ 8 := by
      have e : y.size = y.data.toList.length := by simp
      rw [e, HY.out]; simp [num8]; omega
    have hj9 : j = 0 ∨ j = 1 ∨ j = 2 ∨ j = 3 ∨ j = 4 ∨ j = 5 ∨ j = 6 ∨ j = 7 ∨ j = 8 := by omega
    clear hj
    rcases hj9 with rfl | rfl | rfl | rfl | rfl | rfl | rfl | rfl | rfl
    · have hcv := conv_one wr (UInt8.ofNat (u / 72057594037927936)) ((u : Int) / 72057594037927936) (u8_atT u hU)
      obtain ⟨z, hz⟩ : ∃ z : ByteArray, (⟨#[UInt8.ofNat (u / 72057594037927936)]⟩ : ByteArray) = z := ⟨_, rfl⟩
      have hzs : z.size ≤ 1 := by rw [← hz]; exact Nat.le_refl _
      have HY2 : Hid ((y ++ z).data.toList = (num8 u).take 1) := by
        show _ = _
        rw [cat_list, HY.out, ← hz]; rfl
      rw [hz] at hcv
      clear hz
      go_wp2_with fail
      exact ⟨⟨1, _, by omega, rfl, rfl, HY2, HE.out.alloc _⟩, by simp [intOf]⟩
    · have hcv := conv_one wr (UInt8.ofNat (u / 281474976710656)) ((u : Int) / 281474976710656 % 256) (u8_at u 281474976710656)
      obtain ⟨z, hz⟩ : ∃ z : ByteArray, (⟨#[UInt8.ofNat (u / 281474976710656)]⟩ : ByteArray) = z := ⟨_, rfl⟩
      have hzs : z.size ≤ 1 := by rw [← hz]; exact Nat.le_refl _
      have HY2 : Hid ((y ++ z).data.toList = (num8 u).take 2) := by
        show _ = _
        rw [cat_list, HY.out, ← hz]; rfl
      rw [hz] at hcv
      clear hz
      go_wp2_with fail
      exact ⟨⟨2, _, by omega, rfl, rfl, HY2, HE.out.alloc _⟩, by simp [intOf]⟩
    · have hcv := conv_one wr (UInt8.ofNat (u / 1099511627776)) ((u : Int) / 1099511627776 % 256) (u8_at u 1099511627776)
      obtain ⟨z, hz⟩ : ∃ z : ByteArray, (⟨#[UInt8.ofNat (u / 1099511627776)]⟩ : ByteArray) = z := ⟨_, rfl⟩
      have hzs : z.size ≤ 1 := by rw [← hz]; exact Nat.le_refl _
      have HY2 : Hid ((y ++ z).data.toList = (num8 u).take 3) := by
        show _ = _
        rw [cat_list, HY.out, ← hz]; rfl
      rw [hz] at hcv
      clear hz
      go_wp2_with fail
      exact ⟨⟨3, _, by omega, rfl, rfl, HY2, HE.out.alloc _⟩, by simp [intOf]⟩
    · have hcv := conv_one wr (UInt8.ofNat (u / 4294967296)) ((u : Int) / 4294967296 % 256) (u8_at u 4294967296)
      obtain ⟨z, hz⟩ : ∃ z : ByteArray, (⟨#[UInt8.ofNat (u / 4294967296)]⟩ : ByteArray) = z := ⟨_, rfl⟩
      have hzs : z.size ≤ 1 := by rw [← hz]; exact Nat.le_refl _
      have HY2 : Hid ((y ++ z).data.toList = (num8 u).take 4) := by
        show _ = _
        rw [cat_list, HY.out, ← hz]; rfl
      rw [hz] at hcv
      clear hz
      go_wp2_with fail
      exact ⟨⟨4, _, by omega, rfl, rfl, HY2, HE.out.alloc _⟩, by simp [intOf]⟩
    · have hcv := conv_one wr (UInt8.ofNat (u / 16777216)) ((u : Int) / 16777216 % 256) (u8_at u 16777216)
      obtain ⟨z, hz⟩ : ∃ z : ByteArray, (⟨#[UInt8.ofNat (u / 16777216)]⟩ : ByteArray) = z := ⟨_, rfl⟩
      have hzs : z.size ≤ 1 := by rw [← hz]; exact Nat.le_refl _
      have HY2 : Hid ((y ++ z).data.toList = (num8 u).take 5) := by
        show _ = _
        rw [cat_list, HY.out, ← hz]; rfl
      rw [hz] at hcv
      clear hz
      go_wp2_with fail
      exact ⟨⟨5, _, by omega, rfl, rfl, HY2, HE.out.alloc _⟩, by simp [intOf]⟩
    · have hcv := conv_one wr (UInt8.ofNat (u / 65536)) ((u : Int) / 65536 % 256) (u8_at u 65536)
      obtain ⟨z, hz⟩ : ∃ z : ByteArray, (⟨#[UInt8.ofNat (u / 65536)]⟩ : ByteArray) = z := ⟨_, rfl⟩
      have hzs : z.size ≤ 1 := by rw [← hz]; exact Nat.le_refl _
      have HY2 : Hid ((y ++ z).data.toList = (num8 u).take 6) := by
        show _ = _
        rw [cat_list, HY.out, ← hz]; rfl
      rw [hz] at hcv
      clear hz
      go_wp2_with fail
      exact ⟨⟨6, _, by omega, rfl, rfl, HY2, HE.out.alloc _⟩, by simp [intOf]⟩
    · have hcv := conv_one wr (UInt8.ofNat (u / 256)) ((u : Int) / 256 % 256) (u8_at u 256)
      obtain ⟨z, hz⟩ : ∃ z : ByteArray, (⟨#[UInt8.ofNat (u / 256)]⟩ : ByteArray) = z := ⟨_, rfl⟩
      have hzs : z.size ≤ 1 := by rw [← hz]; exact Nat.le_refl _
      have HY2 : Hid ((y ++ z).data.toList = (num8 u).take 7) := by
        show _ = _
        rw [cat_list, HY.out, ← hz]; rfl
      rw [hz] at hcv
      clear hz
      go_wp2_with fail
      exact ⟨⟨7, _, by omega, rfl, rfl, HY2, HE.out.alloc _⟩, by simp [intOf]⟩
    · have hcv := conv_one wr (UInt8.ofNat u) ((u : Int) % 256) (u8_at0 u)
      obtain ⟨z, hz⟩ : ∃ z : ByteArray, (⟨#[UInt8.ofNat u]⟩ : ByteArray) = z := ⟨_, rfl⟩
      have hzs : z.size ≤ 1 := by rw [← hz]; exact Nat.le_refl _
      have HY2 : Hid ((y ++ z).data.toList = (num8 u).take 8) := by
        show _ = _
        rw [cat_list, HY.out, ← hz]; rfl
      rw [hz] at hcv
      clear hz
      go_wp2_with fail
      exact ⟨⟨8, _, by omega, rfl, rfl, HY2, HE.out.alloc _⟩, by simp [intOf]⟩
    · have hyr : y = ⟨(num8 u).toArray⟩ := by apply bytes_ext; rw [HY.out]; rfl
      have HYR := Lib.hid hyr
      clear hyr
      go_wp2_with fail
      go_ret
      exact ⟨congrArg (fun x => Ending.returned (.string x)) HYR.out, HE.out⟩
set_option maxRecDepth 20000 in
set_option maxHeartbeats 4000000 in
theorem text_ok' (s : ByteArray) (w : World) (hs : s.size ≤ 4096) : Calls Tryd.prog 39 #[.string s] w fun e w' => e = .returned (.string ⟨(esc s.data.toList ++ [0, 0]).toArray⟩) ∧ w = w' := by
  obtain ⟨r, hr⟩ : ∃ x : ByteArray, (⟨(esc s.data.toList ++ [0, 0]).toArray⟩ : ByteArray) = x := ⟨_, rfl⟩
  rw [hr]
  have HR := Lib.hid hr
  clear hr
  go_enter Tryd.func39, Tryd.ntmps39
  go_wp2_with fail
  go_loopw [3, 4] (fun b x wr => ∃ (j : Nat) (y : ByteArray), j ≤ s.size ∧ x = .int .i64 j ∧ b = .string y ∧ Hid (y.data.toList = esc (s.data.toList.take j)) ∧ wr = w) (fun _ x _ => s.size - (intOf x).toNat)
  case atStart => exact ⟨0, ⟨#[]⟩, by omega, rfl, rfl, rfl, rfl⟩
  case round =>
    obtain ⟨j, y, hj, rfl, rfl, HY, rfl⟩ := hrel
    have hys : y.size ≤ 8192 := by
      have e : y.size = y.data.toList.length := by simp
      rw [e, HY.out]; have := esc_le (s.data.toList.take j); simp at this; omega
    by_cases hlt : j < s.size
    · have htk : s.data.toList.take (j + 1) = s.data.toList.take j ++ [s[j]] := by rw [List.take_succ_eq_append_getElem (by simpa using hlt)]; rfl
      have hsn : esc (s.data.toList.take (j + 1)) = esc (s.data.toList.take j) ++ escC s[j] := by rw [htk, esc_snoc]
      have hex : (s.extract j (j + 1)).data.toList = [s[j]] := by
        rw [ByteArray.data_extract]; simp
        rw [List.drop_eq_getElem_cons (by simpa using hlt)]; rfl
      obtain ⟨cc, hcc⟩ : ∃ c, s[j] = c := ⟨_, rfl⟩
      rw [hcc] at hsn hex
      obtain ⟨z, hz⟩ : ∃ z, s.extract j (j + 1) = z := ⟨_, rfl⟩
      rw [hz] at hex
      have hze : z.size = z.data.toList.length := by simp
      have hzs : z.size ≤ 1 := by rw [hze, hex]; simp
      clear hze
      have hyz : (y ++ z).size ≤ 8193 := by rw [cat_size]; omega
      have HYZ : Hid ((y ++ z).data.toList = esc (s.data.toList.take j) ++ [cc]) := by show _ = _; rw [cat_list, HY.out, hex]
      have HSN := Lib.hid hsn
      have HZ := Lib.hid hz
      clear htk hsn hex hz
      by_cases hc : cc = 0
      · have d : ((cc.toNat : Int) == 0) = true := by rw [hc]; rfl
        have dz : cc.toNat = 0 := by rw [hc]; rfl
        have HY2 : Hid (((y ++ z) ++ (⟨#[255]⟩ : ByteArray)).data.toList = esc (s.data.toList.take (j + 1))) := by
          show _ = _
          rw [cat_list, HYZ.out, HSN.out, hc]; simp [escC]
        have h255 : (⟨#[255]⟩ : ByteArray).size ≤ 1 := Nat.le_refl _
        clear hc
        go_wp2_with fail
        rw [HZ.out]
        exact ⟨⟨j + 1, _, by omega, by go_num, rfl, HY2, trivial⟩, by simp [intOf]; omega⟩
      · have d : ((cc.toNat : Int) == 0) = false := by
          rw [beq_eq_false_iff_ne]; intro e; exact hc (UInt8.toNat_inj.1 (by simpa using e))
        have HY2 : Hid ((y ++ z).data.toList = esc (s.data.toList.take (j + 1))) := by
          show _ = _
          rw [HYZ.out, HSN.out]; simp [escC, hc]
        clear hc
        go_wp2_with fail
        rw [HZ.out]
        exact ⟨⟨j + 1, _, by omega, by go_num, rfl, HY2, trivial⟩, by simp [intOf]; omega⟩
    · have hj2 : j = s.size := by omega
      subst hj2
      have hyr : y ++ (⟨#[0, 0]⟩ : ByteArray) = r := by
        rw [← HR.out]; apply bytes_ext; rw [cat_list, HY.out, List.take_of_length_le (by simp)]
      have HYR := Lib.hid hyr
      clear hyr
      go_wp2_with fail
      go_ret
      exact ⟨congrArg (fun x => Ending.returned (.string x)) HYR.out, rfl⟩
end Go.Proofs.YtipphlhaaienpaaDoor
set_option linter.unusedSimpArgs false
set_option linter.unusedVariables false
namespace Go.Proofs.YtipphlhaaienpaaDoor
open Go.RowKit
theorem notx (c : UInt8) : bits .xor .u8 IntKind.u8.max (c.toNat : Int) = ((flipC c).toNat : Int) := by
  have h := xor_u8 255 c
  have e : IntKind.u8.max = (((255 : UInt8).toNat : Nat) : Int) := by kernel_rfl
  rw [e, h]
  unfold flipC
  rw [flip_xor, UInt8.xor_comm]
set_option maxRecDepth 20000 in
set_option maxHeartbeats 4000000 in
theorem Flip_ok (s : ByteArray) (w : World) (hs : s.size ≤ 1000000000) : Calls Tryd.prog 25 #[.string s] w fun e w' => e = .returned (.string ⟨(s.data.toList.map flipC).toArray⟩) ∧ Ext w w' := by
  obtain ⟨r, hr⟩ : ∃ x : ByteArray, (⟨(s.data.toList.map flipC).toArray⟩ : ByteArray) = x := ⟨_, rfl⟩
  rw [hr]
  have HR := Lib.hid hr
  clear hr
  go_enter Tryd.func25, Tryd.ntmps25
  go_wp2_with fail
  go_loopw [3, 4] (fun b x wr => ∃ (j : Nat) (y : ByteArray), j ≤ s.size ∧ x = .int .i64 j ∧ b = .string y ∧ Hid (y.data.toList = (s.data.toList.take j).map flipC) ∧ Hid (Ext w wr)) (fun _ x _ => s.size - (intOf x).toNat)
  case atStart => exact ⟨0, ⟨#[]⟩, by omega, rfl, rfl, rfl, Ext.refl _⟩
  case round =>
    obtain ⟨j, y, hj, rfl, rfl, HY, HE⟩ := hrel
    have hys : y.size ≤ 1000000000 := by
      have e : y.size = y.data.toList.length := by simp
      rw [e, HY.out]; simp; omega
    by_cases hlt : j < s.size
    · have htk : s.data.toList.take (j + 1) = s.data.toList.take j ++ [s[j]] := by rw [List.take_succ_eq_append_getElem (by simpa using hlt)]; rfl
      obtain ⟨cc, hcc⟩ : ∃ c, s[j] = c := ⟨_, rfl⟩
      rw [hcc] at htk
      have hcb := cc.toNat_lt
      have hcv := conv_one wr (flipC cc) (bits .xor .u8 IntKind.u8.max (cc.toNat : Int)) (notx cc)
      obtain ⟨z, hz⟩ : ∃ z : ByteArray, (⟨#[flipC cc]⟩ : ByteArray) = z := ⟨_, rfl⟩
      have hzs : z.size ≤ 1 := by rw [← hz]; exact Nat.le_refl _
      have HY2 : Hid ((y ++ z).data.toList = (s.data.toList.take (j + 1)).map flipC) := by
        show _ = _
        rw [cat_list, HY.out, ← hz, htk, List.map_append]; rfl
      rw [hz] at hcv
      clear hz htk
      go_wp2_with fail
      exact ⟨⟨j + 1, _, by omega, by go_num, rfl, HY2, HE.out.alloc _⟩, by simp [intOf]; omega⟩
    · have hj2 : j = s.size := by omega
      subst hj2
      have hyr : y = r := by
        rw [← HR.out]; apply bytes_ext; rw [HY.out, List.take_of_length_le (by simp)]
      subst hyr
      go_wp2_with fail
      go_ret
      exact ⟨rfl, HE.out⟩
def OneOk (t : Tr) : Prop := ∀ (v : Value) (w : World), snd t = true → VRep w t v → (kenc t).length ≤ 900000000 → Calls Tryd.prog 26 #[v] w fun e w' => e = .returned (.string ⟨(kenc t).toArray⟩) ∧ Ext w w'
set_option maxRecDepth 20000 in
set_option maxHeartbeats 2000000 in
theorem one_k0 (i : Int) (s : ByteArray) (lt : List Tr) (ns : List ByteArray) (ds : List Tr) (la da : Option Addr) (lc dc : Nat) (w : World) :
    Calls Tryd.prog 26 #[.agg #[.int .i64 0, .int .i64 i, .string s, .slice la lt.length lc, .slice da ds.length dc]] w fun e w' => e = .returned (.string ⟨([(0 : UInt8)]).toArray⟩) ∧ Ext w w' := by
  obtain ⟨r, hr⟩ : ∃ x : ByteArray, (⟨([(0 : UInt8)]).toArray⟩ : ByteArray) = x := ⟨_, rfl⟩
  rw [hr]
  have HR := Lib.hid hr
  clear hr
  have hcv := conv_oneg (w.alloc (.cells #[.int .i64 0, .int .i64 i, .string s, .slice la lt.length lc, .slice da ds.length dc] 41)) (w.heap.size + 1) (by simp) 0 0 rfl
  go_enter Tryd.func26, Tryd.ntmps26
  go_wp2_with fail
  go_ret
  exact ⟨by rw [← HR.out]; rfl, by repeat (first | with_reducible assumption | with_reducible exact Ext.refl _ | with_reducible refine Ext.drew ?_ | with_reducible refine Ext.alloc ?_ _ | ((with_reducible refine Ext.setCell ?_ ?_ _); rotate_left; (· first | exact Nat.le_refl _ | (simp; done) | omega | (simp; omega))))⟩
set_option maxRecDepth 20000 in
set_option maxHeartbeats 2000000 in
theorem one_k1 (i : Int) (s : ByteArray) (lt : List Tr) (ns : List ByteArray) (ds : List Tr) (la da : Option Addr) (lc dc : Nat) (w : World) :
    Calls Tryd.prog 26 #[.agg #[.int .i64 1, .int .i64 i, .string s, .slice la lt.length lc, .slice da ds.length dc]] w fun e w' => e = .returned (.string ⟨([(1 : UInt8)]).toArray⟩) ∧ Ext w w' := by
  obtain ⟨r, hr⟩ : ∃ x : ByteArray, (⟨([(1 : UInt8)]).toArray⟩ : ByteArray) = x := ⟨_, rfl⟩
  rw [hr]
  have HR := Lib.hid hr
  clear hr
  have hcv := conv_oneg (w.alloc (.cells #[.int .i64 1, .int .i64 i, .string s, .slice la lt.length lc, .slice da ds.length dc] 41)) (w.heap.size + 1) (by simp) 1 1 rfl
  go_enter Tryd.func26, Tryd.ntmps26
  go_wp2_with fail
  go_ret
  exact ⟨by rw [← HR.out]; rfl, by repeat (first | with_reducible assumption | with_reducible exact Ext.refl _ | with_reducible refine Ext.drew ?_ | with_reducible refine Ext.alloc ?_ _ | ((with_reducible refine Ext.setCell ?_ ?_ _); rotate_left; (· first | exact Nat.le_refl _ | (simp; done) | omega | (simp; omega))))⟩
set_option maxRecDepth 20000 in
set_option maxHeartbeats 2000000 in
theorem one_k2 (i : Int) (s : ByteArray) (lt : List Tr) (ns : List ByteArray) (ds : List Tr) (la da : Option Addr) (lc dc : Nat) (w : World) :
    Calls Tryd.prog 26 #[.agg #[.int .i64 2, .int .i64 i, .string s, .slice la lt.length lc, .slice da ds.length dc]] w fun e w' => e = .returned (.string ⟨([(2 : UInt8)]).toArray⟩) ∧ Ext w w' := by
  obtain ⟨r, hr⟩ : ∃ x : ByteArray, (⟨([(2 : UInt8)]).toArray⟩ : ByteArray) = x := ⟨_, rfl⟩
  rw [hr]
  have HR := Lib.hid hr
  clear hr
  have hcv := conv_oneg (w.alloc (.cells #[.int .i64 2, .int .i64 i, .string s, .slice la lt.length lc, .slice da ds.length dc] 41)) (w.heap.size + 1) (by simp) 2 2 rfl
  go_enter Tryd.func26, Tryd.ntmps26
  go_wp2_with fail
  go_ret
  exact ⟨by rw [← HR.out]; rfl, by repeat (first | with_reducible assumption | with_reducible exact Ext.refl _ | with_reducible refine Ext.drew ?_ | with_reducible refine Ext.alloc ?_ _ | ((with_reducible refine Ext.setCell ?_ ?_ _); rotate_left; (· first | exact Nat.le_refl _ | (simp; done) | omega | (simp; omega))))⟩
set_option maxRecDepth 20000 in
set_option maxHeartbeats 2000000 in
theorem one_k11 (i : Int) (s : ByteArray) (lt : List Tr) (ns : List ByteArray) (ds : List Tr) (la da : Option Addr) (lc dc : Nat) (w : World) :
    Calls Tryd.prog 26 #[.agg #[.int .i64 11, .int .i64 i, .string s, .slice la lt.length lc, .slice da ds.length dc]] w fun e w' => e = .returned (.string ⟨([(11 : UInt8)]).toArray⟩) ∧ Ext w w' := by
  obtain ⟨r, hr⟩ : ∃ x : ByteArray, (⟨([(11 : UInt8)]).toArray⟩ : ByteArray) = x := ⟨_, rfl⟩
  rw [hr]
  have HR := Lib.hid hr
  clear hr
  have hcv := conv_oneg (w.alloc (.cells #[.int .i64 11, .int .i64 i, .string s, .slice la lt.length lc, .slice da ds.length dc] 41)) (w.heap.size + 1) (by simp) 11 11 rfl
  go_enter Tryd.func26, Tryd.ntmps26
  go_wp2_with fail
  go_ret
  exact ⟨by rw [← HR.out]; rfl, by repeat (first | with_reducible assumption | with_reducible exact Ext.refl _ | with_reducible refine Ext.drew ?_ | with_reducible refine Ext.alloc ?_ _ | ((with_reducible refine Ext.setCell ?_ ?_ _); rotate_left; (· first | exact Nat.le_refl _ | (simp; done) | omega | (simp; omega))))⟩
set_option maxRecDepth 20000 in
set_option maxHeartbeats 2000000 in
theorem one_k3 (i : Int) (s : ByteArray) (lt : List Tr) (ns : List ByteArray) (ds : List Tr) (la da : Option Addr) (lc dc : Nat) (w : World) (hI : I64 i) :
    Calls Tryd.prog 26 #[.agg #[.int .i64 3, .int .i64 i, .string s, .slice la lt.length lc, .slice da ds.length dc]] w fun e w' => e = .returned (.string ⟨([(3 : UInt8)] ++ num8 (uOf i)).toArray⟩) ∧ Ext w w' := by
  obtain ⟨r, hr⟩ : ∃ x : ByteArray, (⟨([(3 : UInt8)] ++ num8 (uOf i)).toArray⟩ : ByteArray) = x := ⟨_, rfl⟩
  rw [hr]
  have HR := Lib.hid hr
  clear hr
  have HI := Lib.hid hI
  clear hI
  obtain ⟨q, hq⟩ : ∃ x : ByteArray, (⟨(num8 (uOf i)).toArray⟩ : ByteArray) = x := ⟨_, rfl⟩
  have HQ := Lib.hid hq
  have hqs : q.size ≤ 8194 := by rw [← hq]; show (num8 (uOf i)).toArray.size ≤ _; simp [num8]
  have HFin : Hid ((⟨#[3]⟩ : ByteArray) ++ q = r) := by
    show _ = _
    rw [← HR.out]; apply bytes_ext; rw [cat_list, ← hq]
  have hk1 : (⟨#[3]⟩ : ByteArray).size ≤ 1 := Nat.le_refl _
  clear hq
  have hcv := conv_oneg (w.alloc (.cells #[.int .i64 3, .int .i64 i, .string s, .slice la lt.length lc, .slice da ds.length dc] 41)) (w.heap.size + 1) (by simp) 3 3 rfl
  go_enter Tryd.func26, Tryd.ntmps26
  go_wp2_with fail
  refine (number_ok i _ HI.out).mono ?_
  rintro e w1 ⟨rfl, h1⟩
  rw [HQ.out]
  have hE := h1.of_alloc.of_alloc
  go_wp2_with fail
  go_ret
  exact ⟨congrArg (fun x => Ending.returned (.string x)) HFin.out, hE⟩
set_option maxRecDepth 20000 in
set_option maxHeartbeats 2000000 in
theorem one_k9 (i : Int) (s : ByteArray) (lt : List Tr) (ns : List ByteArray) (ds : List Tr) (la da : Option Addr) (lc dc : Nat) (w : World) (hI : I64 i) :
    Calls Tryd.prog 26 #[.agg #[.int .i64 9, .int .i64 i, .string s, .slice la lt.length lc, .slice da ds.length dc]] w fun e w' => e = .returned (.string ⟨([(9 : UInt8)] ++ num8 (uOf i)).toArray⟩) ∧ Ext w w' := by
  obtain ⟨r, hr⟩ : ∃ x : ByteArray, (⟨([(9 : UInt8)] ++ num8 (uOf i)).toArray⟩ : ByteArray) = x := ⟨_, rfl⟩
  rw [hr]
  have HR := Lib.hid hr
  clear hr
  have HI := Lib.hid hI
  clear hI
  obtain ⟨q, hq⟩ : ∃ x : ByteArray, (⟨(num8 (uOf i)).toArray⟩ : ByteArray) = x := ⟨_, rfl⟩
  have HQ := Lib.hid hq
  have hqs : q.size ≤ 8194 := by rw [← hq]; show (num8 (uOf i)).toArray.size ≤ _; simp [num8]
  have HFin : Hid ((⟨#[9]⟩ : ByteArray) ++ q = r) := by
    show _ = _
    rw [← HR.out]; apply bytes_ext; rw [cat_list, ← hq]
  have hk1 : (⟨#[9]⟩ : ByteArray).size ≤ 1 := Nat.le_refl _
  clear hq
  have hcv := conv_oneg (w.alloc (.cells #[.int .i64 9, .int .i64 i, .string s, .slice la lt.length lc, .slice da ds.length dc] 41)) (w.heap.size + 1) (by simp) 9 9 rfl
  go_enter Tryd.func26, Tryd.ntmps26
  go_wp2_with fail
  refine (number_ok i _ HI.out).mono ?_
  rintro e w1 ⟨rfl, h1⟩
  rw [HQ.out]
  have hE := h1.of_alloc.of_alloc
  go_wp2_with fail
  go_ret
  exact ⟨congrArg (fun x => Ending.returned (.string x)) HFin.out, hE⟩
set_option maxRecDepth 20000 in
set_option maxHeartbeats 2000000 in
theorem one_k10 (i : Int) (s : ByteArray) (lt : List Tr) (ns : List ByteArray) (ds : List Tr) (la da : Option Addr) (lc dc : Nat) (w : World) (hI : I64 i) :
    Calls Tryd.prog 26 #[.agg #[.int .i64 10, .int .i64 i, .string s, .slice la lt.length lc, .slice da ds.length dc]] w fun e w' => e = .returned (.string ⟨([(10 : UInt8)] ++ num8 (uOf i)).toArray⟩) ∧ Ext w w' := by
  obtain ⟨r, hr⟩ : ∃ x : ByteArray, (⟨([(10 : UInt8)] ++ num8 (uOf i)).toArray⟩ : ByteArray) = x := ⟨_, rfl⟩
  rw [hr]
  have HR := Lib.hid hr
  clear hr
  have HI := Lib.hid hI
  clear hI
  obtain ⟨q, hq⟩ : ∃ x : ByteArray, (⟨(num8 (uOf i)).toArray⟩ : ByteArray) = x := ⟨_, rfl⟩
  have HQ := Lib.hid hq
  have hqs : q.size ≤ 8194 := by rw [← hq]; show (num8 (uOf i)).toArray.size ≤ _; simp [num8]
  have HFin : Hid ((⟨#[10]⟩ : ByteArray) ++ q = r) := by
    show _ = _
    rw [← HR.out]; apply bytes_ext; rw [cat_list, ← hq]
  have hk1 : (⟨#[10]⟩ : ByteArray).size ≤ 1 := Nat.le_refl _
  clear hq
  have hcv := conv_oneg (w.alloc (.cells #[.int .i64 10, .int .i64 i, .string s, .slice la lt.length lc, .slice da ds.length dc] 41)) (w.heap.size + 1) (by simp) 10 10 rfl
  go_enter Tryd.func26, Tryd.ntmps26
  go_wp2_with fail
  refine (number_ok i _ HI.out).mono ?_
  rintro e w1 ⟨rfl, h1⟩
  rw [HQ.out]
  have hE := h1.of_alloc.of_alloc
  go_wp2_with fail
  go_ret
  exact ⟨congrArg (fun x => Ending.returned (.string x)) HFin.out, hE⟩
set_option maxRecDepth 20000 in
set_option maxHeartbeats 2000000 in
theorem one_k4 (i : Int) (s : ByteArray) (lt : List Tr) (ns : List ByteArray) (ds : List Tr) (la da : Option Addr) (lc dc : Nat) (w : World) (hs : s.size ≤ 4096) :
    Calls Tryd.prog 26 #[.agg #[.int .i64 4, .int .i64 i, .string s, .slice la lt.length lc, .slice da ds.length dc]] w fun e w' => e = .returned (.string ⟨([(4 : UInt8)] ++ (esc s.data.toList ++ [0, 0])).toArray⟩) ∧ Ext w w' := by
  obtain ⟨r, hr⟩ : ∃ x : ByteArray, (⟨([(4 : UInt8)] ++ (esc s.data.toList ++ [0, 0])).toArray⟩ : ByteArray) = x := ⟨_, rfl⟩
  rw [hr]
  have HR := Lib.hid hr
  clear hr
  obtain ⟨q, hq⟩ : ∃ x : ByteArray, (⟨(esc s.data.toList ++ [0, 0]).toArray⟩ : ByteArray) = x := ⟨_, rfl⟩
  have HQ := Lib.hid hq
  have hqs : q.size ≤ 8194 := by rw [← hq]; show (esc s.data.toList ++ [0, 0]).toArray.size ≤ _; have := esc_le s.data.toList; simp at this ⊢; omega
  have HFin : Hid ((⟨#[4]⟩ : ByteArray) ++ q = r) := by
    show _ = _
    rw [← HR.out]; apply bytes_ext; rw [cat_list, ← hq]
  have hk1 : (⟨#[4]⟩ : ByteArray).size ≤ 1 := Nat.le_refl _
  clear hq
  have hcv := conv_oneg (w.alloc (.cells #[.int .i64 4, .int .i64 i, .string s, .slice la lt.length lc, .slice da ds.length dc] 41)) (w.heap.size + 1) (by simp) 4 4 rfl
  go_enter Tryd.func26, Tryd.ntmps26
  go_wp2_with fail
  refine (text_ok' s _ hs).mono ?_
  rintro e w1 ⟨rfl, rfl⟩
  rw [HQ.out]
  go_wp2_with fail
  go_ret
  exact ⟨congrArg (fun x => Ending.returned (.string x)) HFin.out, by repeat (first | with_reducible assumption | with_reducible exact Ext.refl _ | with_reducible refine Ext.drew ?_ | with_reducible refine Ext.alloc ?_ _ | ((with_reducible refine Ext.setCell ?_ ?_ _); rotate_left; (· first | exact Nat.le_refl _ | (simp; done) | omega | (simp; omega))))⟩
set_option maxRecDepth 20000 in
set_option maxHeartbeats 2000000 in
theorem one_k7 (i : Int) (s : ByteArray) (lt : List Tr) (ns : List ByteArray) (ds : List Tr) (la da : Option Addr) (lc dc : Nat) (w : World) (hs : s.size ≤ 4096) :
    Calls Tryd.prog 26 #[.agg #[.int .i64 7, .int .i64 i, .string s, .slice la lt.length lc, .slice da ds.length dc]] w fun e w' => e = .returned (.string ⟨([(7 : UInt8)] ++ (esc s.data.toList ++ [0, 0])).toArray⟩) ∧ Ext w w' := by
  obtain ⟨r, hr⟩ : ∃ x : ByteArray, (⟨([(7 : UInt8)] ++ (esc s.data.toList ++ [0, 0])).toArray⟩ : ByteArray) = x := ⟨_, rfl⟩
  rw [hr]
  have HR := Lib.hid hr
  clear hr
  obtain ⟨q, hq⟩ : ∃ x : ByteArray, (⟨(esc s.data.toList ++ [0, 0]).toArray⟩ : ByteArray) = x := ⟨_, rfl⟩
  have HQ := Lib.hid hq
  have hqs : q.size ≤ 8194 := by rw [← hq]; show (esc s.data.toList ++ [0, 0]).toArray.size ≤ _; have := esc_le s.data.toList; simp at this ⊢; omega
  have HFin : Hid ((⟨#[7]⟩ : ByteArray) ++ q = r) := by
    show _ = _
    rw [← HR.out]; apply bytes_ext; rw [cat_list, ← hq]
  have hk1 : (⟨#[7]⟩ : ByteArray).size ≤ 1 := Nat.le_refl _
  clear hq
  have hcv := conv_oneg (w.alloc (.cells #[.int .i64 7, .int .i64 i, .string s, .slice la lt.length lc, .slice da ds.length dc] 41)) (w.heap.size + 1) (by simp) 7 7 rfl
  go_enter Tryd.func26, Tryd.ntmps26
  go_wp2_with fail
  refine (text_ok' s _ hs).mono ?_
  rintro e w1 ⟨rfl, rfl⟩
  rw [HQ.out]
  go_wp2_with fail
  go_ret
  exact ⟨congrArg (fun x => Ending.returned (.string x)) HFin.out, by repeat (first | with_reducible assumption | with_reducible exact Ext.refl _ | with_reducible refine Ext.drew ?_ | with_reducible refine Ext.alloc ?_ _ | ((with_reducible refine Ext.setCell ?_ ?_ _); rotate_left; (· first | exact Nat.le_refl _ | (simp; done) | omega | (simp; omega))))⟩
set_option maxRecDepth 20000 in
set_option maxHeartbeats 2000000 in
theorem one_k8 (i : Int) (s : ByteArray) (lt : List Tr) (ns : List ByteArray) (ds : List Tr) (la da : Option Addr) (lc dc : Nat) (w : World) (hs : s.size ≤ 4096) :
    Calls Tryd.prog 26 #[.agg #[.int .i64 8, .int .i64 i, .string s, .slice la lt.length lc, .slice da ds.length dc]] w fun e w' => e = .returned (.string ⟨([(8 : UInt8)] ++ (esc s.data.toList ++ [0, 0])).toArray⟩) ∧ Ext w w' := by
  obtain ⟨r, hr⟩ : ∃ x : ByteArray, (⟨([(8 : UInt8)] ++ (esc s.data.toList ++ [0, 0])).toArray⟩ : ByteArray) = x := ⟨_, rfl⟩
  rw [hr]
  have HR := Lib.hid hr
  clear hr
  obtain ⟨q, hq⟩ : ∃ x : ByteArray, (⟨(esc s.data.toList ++ [0, 0]).toArray⟩ : ByteArray) = x := ⟨_, rfl⟩
  have HQ := Lib.hid hq
  have hqs : q.size ≤ 8194 := by rw [← hq]; show (esc s.data.toList ++ [0, 0]).toArray.size ≤ _; have := esc_le s.data.toList; simp at this ⊢; omega
  have HFin : Hid ((⟨#[8]⟩ : ByteArray) ++ q = r) := by
    show _ = _
    rw [← HR.out]; apply bytes_ext; rw [cat_list, ← hq]
  have hk1 : (⟨#[8]⟩ : ByteArray).size ≤ 1 := Nat.le_refl _
  clear hq
  have hcv := conv_oneg (w.alloc (.cells #[.int .i64 8, .int .i64 i, .string s, .slice la lt.length lc, .slice da ds.length dc] 41)) (w.heap.size + 1) (by simp) 8 8 rfl
  go_enter Tryd.func26, Tryd.ntmps26
  go_wp2_with fail
  refine (text_ok' s _ hs).mono ?_
  rintro e w1 ⟨rfl, rfl⟩
  rw [HQ.out]
  go_wp2_with fail
  go_ret
  exact ⟨congrArg (fun x => Ending.returned (.string x)) HFin.out, by repeat (first | with_reducible assumption | with_reducible exact Ext.refl _ | with_reducible refine Ext.drew ?_ | with_reducible refine Ext.alloc ?_ _ | ((with_reducible refine Ext.setCell ?_ ?_ _); rotate_left; (· first | exact Nat.le_refl _ | (simp; done) | omega | (simp; omega))))⟩
set_option maxRecDepth 20000 in
set_option maxHeartbeats 2000000 in
theorem one_k6 (i : Int) (s : ByteArray) (lt : List Tr) (ns : List ByteArray) (ds : List Tr) (la da : Option Addr) (lc dc : Nat) (w : World) (hc1 : lt.length ≤ lc) (hc2 : lc ≤ maxLen) (hL : LRep w la 0 lt) (hsl : ∀ t ∈ lt, snd t = true) (ih : ∀ t ∈ lt, OneOk t) (hlen : ([(6 : UInt8)] ++ (kencL lt ++ [0])).length ≤ 900000000) :
    Calls Tryd.prog 26 #[.agg #[.int .i64 6, .int .i64 i, .string s, .slice la lt.length lc, .slice da ds.length dc]] w fun e w' => e = .returned (.string ⟨([(6 : UInt8)] ++ (kencL lt ++ [0])).toArray⟩) ∧ Ext w w' := by
  obtain ⟨r, hr⟩ : ∃ x : ByteArray, (⟨([(6 : UInt8)] ++ (kencL lt ++ [0])).toArray⟩ : ByteArray) = x := ⟨_, rfl⟩
  rw [hr]
  have HR := Lib.hid hr
  clear hr
  have HL := Lib.hid hL
  have HIH := Lib.hid ih
  have HSL := Lib.hid hsl
  clear hL ih hsl
  unfold maxLen at hc2
  have hcv := conv_oneg (w.alloc (.cells #[.int .i64 6, .int .i64 i, .string s, .slice la lt.length lc, .slice da ds.length dc] 41)) (w.heap.size + 1) (by simp) 6 6 rfl
  go_enter Tryd.func26, Tryd.ntmps26
  go_wp2_with fail
  have hE1 := (Ext.refl (w.alloc (.cells #[.int .i64 6, .int .i64 i, .string s, .slice la lt.length lc, .slice da ds.length dc] 41))).alloc (.cells #[.int .u8 6] 5)
  have HE1 := Lib.hid hE1
  clear hE1 hcv
  go_loopw [3, 4] (fun b c wr => ∃ (j : Nat) (y : ByteArray), j ≤ lt.length ∧ c = .int .i64 j ∧ b = .string y ∧ Hid (y.data.toList = [6] ++ kencL (lt.take j)) ∧ Hid (Ext (w.alloc (.cells #[.int .i64 6, .int .i64 i, .string s, .slice la lt.length lc, .slice da ds.length dc] 41)) wr)) (fun _ c _ => lt.length - (intOf c).toNat)
  case atStart => exact ⟨0, _, by omega, rfl, rfl, by show _ = _; simp [kencL], HE1⟩
  case round =>
    obtain ⟨j, y, hj, rfl, rfl, HY, HE⟩ := hrel
    have kk := HE.out.ownc
    have ll := HE.out.lt
    have hys : y.size = y.data.toList.length := by simp
    have hy9 : y.size ≤ 900000000 := by
      rw [hys, HY.out]; have := kencL_take_le lt j; simp only [List.length_append] at hlen this ⊢; omega
    clear hys
    by_cases hlt : j < lt.length
    · obtain ⟨bb, off, c0, c1, c2, c3', c4, rfl, e0, e1, e2, e3, e4, hv⟩ := LRep.at_ lt 0 j lt[j] HL.out (List.getElem?_eq_getElem hlt)
      obtain ⟨k', i', s', la', ln', lc', da', dn', dc', rfl, rfl, rfl, rfl, rfl⟩ := hv.shape5
      have hEr := HE.out.of_alloc
      have q0 := hEr.keep e0
      have q1 := hEr.keep e1
      have q2 := hEr.keep e2
      have q3 := hEr.keep e3
      have q4 := hEr.keep e4
      rw [Nat.zero_add] at q0 q1 q2 q3 q4
      have HV := Lib.hid (VRep.ext hEr _ _ hv)
      clear e0 e1 e2 e3 e4 hv hEr
      have hsn := kencL_snoc (lt.take j) lt[j]
      rw [← List.take_succ_eq_append_getElem hlt] at hsn
      have hle := kencL_take_le lt (j + 1)
      obtain ⟨p, hp⟩ : ∃ p, lt[j] = p := ⟨_, rfl⟩
      have hmem : p ∈ lt := by rw [← hp]; exact List.getElem_mem hlt
      rw [hp] at HV hsn
      obtain ⟨z, hz⟩ : ∃ z : ByteArray, (⟨(kenc p).toArray⟩ : ByteArray) = z := ⟨_, rfl⟩
      have hzl : z.data.toList = kenc p := by rw [← hz]
      have hzs : z.size = z.data.toList.length := by simp
      have hpl : (kenc p).length ≤ 900000000 := by
        rw [hsn] at hle; simp only [List.length_append] at hle hlen; omega
      have hz9 : z.size ≤ 900000000 := by rw [hzs, hzl]; exact hpl
      have HP := Lib.hid hpl
      have HY2 : Hid ((y ++ ((⟨#[1]⟩ : ByteArray) ++ z)).data.toList = [6] ++ kencL (lt.take (j + 1))) := by
        show _ = _
        rw [cat_list, cat_list, HY.out, hzl, hsn]; simp only [List.append_assoc]
      have hone : (⟨#[1]⟩ : ByteArray).size ≤ 1 := Nat.le_refl _
      have h1z : ((⟨#[1]⟩ : ByteArray) ++ z).size ≤ 900000001 := by rw [cat_size]; omega
      have HZ := Lib.hid hz
      clear hp hsn hle hz hzl hzs hpl
      go_wp2_with fail
      refine (HIH.out p hmem _ _ (HSL.out p hmem) HV.out HP.out).mono ?_
      rintro e w4 ⟨rfl, h4⟩
      rw [HZ.out]
      have HE4 := Lib.hid (HE.out.trans h4)
      clear h4
      go_wp2_with fail
      exact ⟨⟨j + 1, _, by omega, by go_num, rfl, HY2, HE4⟩, by simp [intOf]; omega⟩
    · have hj2 : j = lt.length := by omega
      subst hj2
      have hyr : y ++ (⟨#[0]⟩ : ByteArray) = r := by rw [← HR.out]; apply bytes_ext; rw [cat_list, HY.out, List.take_length]; simp
      have HYR := Lib.hid hyr
      have h0s : (⟨#[0]⟩ : ByteArray).size ≤ 1 := Nat.le_refl _
      clear hyr
      go_wp2_with fail
      go_ret
      exact ⟨congrArg (fun x => Ending.returned (.string x)) HYR.out, HE.out.of_alloc⟩
set_option maxRecDepth 20000 in
set_option maxHeartbeats 2000000 in
theorem one_k5 (i : Int) (s : ByteArray) (lt : List Tr) (ns : List ByteArray) (ds : List Tr) (la da : Option Addr) (lc dc : Nat) (w : World) (hln : ns.length = ds.length) (hc1 : ds.length ≤ dc) (hc2 : dc ≤ maxLen) (hL : DRep w da 0 ns ds) (hnm : ∀ n ∈ ns, n.size ≤ 32) (hsl : ∀ t ∈ ds, snd t = true) (ih : ∀ t ∈ ds, OneOk t) (hlen : ([(5 : UInt8)] ++ (kencF ns ds ++ [0])).length ≤ 900000000) :
    Calls Tryd.prog 26 #[.agg #[.int .i64 5, .int .i64 i, .string s, .slice la lt.length lc, .slice da ds.length dc]] w fun e w' => e = .returned (.string ⟨([(5 : UInt8)] ++ (kencF ns ds ++ [0])).toArray⟩) ∧ Ext w w' := by
  obtain ⟨r, hr⟩ : ∃ x : ByteArray, (⟨([(5 : UInt8)] ++ (kencF ns ds ++ [0])).toArray⟩ : ByteArray) = x := ⟨_, rfl⟩
  rw [hr]
  have HR := Lib.hid hr
  clear hr
  have HL := Lib.hid hL
  have HIH := Lib.hid ih
  have HSL := Lib.hid hsl
  have HNM := Lib.hid hnm
  clear hL ih hsl hnm
  unfold maxLen at hc2
  have hcv := conv_oneg (w.alloc (.cells #[.int .i64 5, .int .i64 i, .string s, .slice la lt.length lc, .slice da ds.length dc] 41)) (w.heap.size + 1) (by simp) 5 5 rfl
  go_enter Tryd.func26, Tryd.ntmps26
  go_wp2_with fail
  have hE1 := (Ext.refl (w.alloc (.cells #[.int .i64 5, .int .i64 i, .string s, .slice la lt.length lc, .slice da ds.length dc] 41))).alloc (.cells #[.int .u8 5] 5)
  have HE1 := Lib.hid hE1
  clear hE1 hcv
  go_loopw [3, 5] (fun b c wr => ∃ (j : Nat) (y : ByteArray), j ≤ ds.length ∧ c = .int .i64 j ∧ b = .string y ∧ Hid (y.data.toList = [5] ++ kencF (ns.take j) (ds.take j)) ∧ Hid (Ext (w.alloc (.cells #[.int .i64 5, .int .i64 i, .string s, .slice la lt.length lc, .slice da ds.length dc] 41)) wr)) (fun _ c _ => ds.length - (intOf c).toNat)
  case atStart => exact ⟨0, _, by omega, rfl, rfl, by show _ = _; simp [kencF], HE1⟩
  case round =>
    obtain ⟨j, y, hj, rfl, rfl, HY, HE⟩ := hrel
    have kk := HE.out.ownc
    have ll := HE.out.lt
    have hys : y.size = y.data.toList.length := by simp
    have hy9 : y.size ≤ 900000000 := by
      rw [hys, HY.out]; have := kencF_take_le ns ds j; simp only [List.length_append] at hlen this ⊢; omega
    clear hys
    by_cases hlt : j < ds.length
    · obtain ⟨bb, off, c0, c1, c2, c3', c4, rfl, hnm, en, e0, e1, e2, e3, e4, hv⟩ := DRep.at_ ns ds 0 j (ns[j]'(by omega)) ds[j] HL.out (List.getElem?_eq_getElem (by omega)) (List.getElem?_eq_getElem hlt)
      obtain ⟨k', i', s', la', ln', lc', da', dn', dc', rfl, rfl, rfl, rfl, rfl⟩ := hv.shape5
      have hEr := HE.out.of_alloc
      have qn := hEr.keep en
      have q0 := hEr.keep e0
      have q1 := hEr.keep e1
      have q2 := hEr.keep e2
      have q3 := hEr.keep e3
      have q4 := hEr.keep e4
      rw [Nat.zero_add] at qn q0 q1 q2 q3 q4
      have hbl : bb < wr.heap.size := World.block_lt_of_cell? _ _ qn
      have HV := Lib.hid (VRep.ext hEr _ _ hv)
      clear en e0 e1 e2 e3 e4 hv hEr
      have hsn := kencF_snoc (ns.take j) (ds.take j) (ns[j]'(by omega)) ds[j] (by simp; omega)
      rw [← List.take_succ_eq_append_getElem hlt, ← List.take_succ_eq_append_getElem (by omega)] at hsn
      have hle := kencF_take_le ns ds (j + 1)
      obtain ⟨p, hp⟩ : ∃ p, ds[j] = p := ⟨_, rfl⟩
      obtain ⟨nm, hn⟩ : ∃ n, ns[j]'(by omega) = n := ⟨_, rfl⟩
      have hmem : p ∈ ds := by rw [← hp]; exact List.getElem_mem hlt
      have hmn : nm ∈ ns := by rw [← hn]; exact List.getElem_mem (by omega)
      have h32 : nm.size ≤ 32 := HNM.out nm hmn
      rw [hp] at HV hsn
      rw [hn] at qn hsn hnm
      obtain ⟨z, hz⟩ : ∃ z : ByteArray, (⟨(kenc p).toArray⟩ : ByteArray) = z := ⟨_, rfl⟩
      have hzl : z.data.toList = kenc p := by rw [← hz]
      have hzs : z.size = z.data.toList.length := by simp
      have hpl : (kenc p).length ≤ 900000000 := by
        rw [hsn] at hle; simp only [List.length_append] at hle hlen; omega
      have hz9 : z.size ≤ 900000000 := by rw [hzs, hzl]; exact hpl
      have HP := Lib.hid hpl
      obtain ⟨a1, ha1⟩ : ∃ a : ByteArray, (⟨#[1]⟩ : ByteArray) = a := ⟨_, rfl⟩
      obtain ⟨a0, ha0⟩ : ∃ a : ByteArray, (⟨#[0]⟩ : ByteArray) = a := ⟨_, rfl⟩
      have hs1 : a1.size = 1 := by rw [← ha1]; rfl
      have hs0 : a0.size = 1 := by rw [← ha0]; rfl
      have HY2 : Hid ((y ++ (a1 ++ nm ++ a0 ++ z)).data.toList = [5] ++ kencF (ns.take (j + 1)) (ds.take (j + 1))) := by
        show _ = _
        rw [cat_list, cat_list, cat_list, cat_list, HY.out, hzl, hsn, ← ha1, ← ha0]; simp only [List.append_assoc]
      have e1 : (a1 ++ nm).size = 1 + nm.size := by rw [cat_size]; omega
      have e2 : (a1 ++ nm ++ a0).size = 2 + nm.size := by rw [cat_size, e1]; omega
      have e3 : (a1 ++ nm ++ a0 ++ z).size = 2 + nm.size + z.size := by rw [cat_size, e2]
      have z1 : ¬ 9223372036854775807 < a1.size + nm.size := by omega
      have z2 : ¬ 9223372036854775807 < (a1 ++ nm).size + a0.size := by omega
      have z3 : ¬ 9223372036854775807 < (a1 ++ nm ++ a0).size + z.size := by omega
      have z4 : ¬ 9223372036854775807 < y.size + (a1 ++ nm ++ a0 ++ z).size := by omega
      have y2 : ¬ 9223372036854775807 < a1.size + nm.size + a0.size := by omega
      have y3 : ¬ 9223372036854775807 < a1.size + nm.size + a0.size + z.size := by omega
      have y4 : ¬ 9223372036854775807 < y.size + (a1.size + nm.size + a0.size + z.size) := by omega
      have HZ := Lib.hid hz
      have HA1 := Lib.hid ha1
      have HA0 := Lib.hid ha0
      clear hp hn hsn hle hz hzl hzs hpl e1 e2 e3 hs1 hs0 ha1 ha0
      go_wp2_with fail
      simp only [HA1.out, HA0.out]
      refine wp_region_mix (Ext wr) [(true, 0), (true, 1), (true, 2), (true, 3), (true, 4), (true, 5), (true, 6), (true, 7), (true, 8), (true, 9), (true, 10), (true, 11), (true, 12), (true, 13), (true, 14), (false, 15), (true, 16), (true, 17), (true, 18)] (by kernel_rfl) (by kernel_rfl) (by kernel_rfl) (by kernel_rfl) ?hS ?_
      case hS => exact (Ext.refl _).drew
      repeat (first | (refine wpMix_q (v := ?_) rfl rfl ?_ ?_; rotate_left; (· intro wq hSq; have cq := hSq.cells; go_simp; try (with_reducible rfl)); simp only [Act.put, List.setIfInBounds_toArray, List.set_cons_zero, List.set_cons_succ, List.getElem_toArray, List.getElem_cons_zero, List.getElem_cons_succ]) | (refine wpMix_u rfl rfl ?_; simp only [Act.put, List.setIfInBounds_toArray, List.set_cons_zero, List.set_cons_succ, List.getElem_toArray, List.getElem_cons_zero, List.getElem_cons_succ]))
      refine wpMix_l rfl rfl (fun K hK => ?_)
      go_simp
      refine (HIH.out p hmem _ _ (HSL.out p hmem) (VRep.ext (Ext.refl _).drew _ _ HV.out) HP.out).mono ?_
      rintro e w4 ⟨rfl, h4⟩
      rw [HZ.out]
      have HE4 := Lib.hid ((Ext.refl wr).drew.trans h4)
      have HE5 := Lib.hid (HE.out.trans HE4.out)
      refine hK _ _ HE4.out ?_
      clear hK K h4
      repeat (first | (refine wpMix_q (v := ?_) rfl rfl ?_ ?_; rotate_left; (· intro wq hSq; have cq := hSq.cells; go_simp; try (with_reducible rfl)); simp only [Act.put, List.setIfInBounds_toArray, List.set_cons_zero, List.set_cons_succ, List.getElem_toArray, List.getElem_cons_zero, List.getElem_cons_succ]) | (refine wpMix_u rfl rfl ?_; simp only [Act.put, List.setIfInBounds_toArray, List.set_cons_zero, List.set_cons_succ, List.getElem_toArray, List.getElem_cons_zero, List.getElem_cons_succ]))
      refine wpMix_nil ?_
      go_wp2_with fail
      exact ⟨⟨j + 1, _, by omega, by go_num, rfl, HY2, HE5⟩, by simp [intOf]; omega⟩
    · have hj2 : j = ds.length := by omega
      subst hj2
      have hyr : y ++ (⟨#[0]⟩ : ByteArray) = r := by rw [← HR.out]; apply bytes_ext; rw [cat_list, HY.out, List.take_length, List.take_of_length_le (by omega)]; simp
      have HYR := Lib.hid hyr
      have h0s : (⟨#[0]⟩ : ByteArray).size ≤ 1 := Nat.le_refl _
      clear hyr
      go_wp2_with fail
      go_ret
      exact ⟨congrArg (fun x => Ending.returned (.string x)) HYR.out, HE.out.of_alloc⟩
end Go.Proofs.YtipphlhaaienpaaDoor
set_option linter.unusedSimpArgs false
set_option linter.unusedVariables false
namespace Go.Proofs.YtipphlhaaienpaaDoor
open Go.RowKit
theorem one_step (t : Tr) (ih : ∀ p, p.sz < t.sz → OneOk p) : OneOk t := by
  intro v w hsd hV hlen
  obtain ⟨k, i, s, lt, ns, ds⟩ := t
  unfold VRep at hV
  obtain ⟨la, lc, da, dc, rfl, ⟨hs, hk, hi⟩, hl1, hl2, hd1, hd2, hnd, hL, hD⟩ := hV
  obtain ⟨h1, h2, h3, h4⟩ := snd_list hsd
  have ih2 : ∀ t, t ∈ lt ∨ t ∈ ds → OneOk t := fun t ht => ih t (by rcases ht with h | h; exact Tr.sz_list h; exact Tr.sz_docs h)
  clear ih
  by_cases k1 : k = 1
  · subst k1; exact one_k1 i s lt ns ds la da lc dc w
  by_cases k2 : k = 2
  · subst k2; exact one_k2 i s lt ns ds la da lc dc w
  by_cases k11 : k = 11
  · subst k11; exact one_k11 i s lt ns ds la da lc dc w
  by_cases k3 : k = 3
  · subst k3; exact one_k3 i s lt ns ds la da lc dc w hi
  by_cases k9 : k = 9
  · subst k9; exact one_k9 i s lt ns ds la da lc dc w hi
  by_cases k10 : k = 10
  · subst k10; exact one_k10 i s lt ns ds la da lc dc w hi
  by_cases k4 : k = 4
  · subst k4; exact one_k4 i s lt ns ds la da lc dc w (by simp [leafOk] at h2; exact h2.1)
  by_cases k7 : k = 7
  · subst k7; exact one_k7 i s lt ns ds la da lc dc w (by simpa [leafOk] using h2)
  by_cases k8 : k = 8
  · subst k8; exact one_k8 i s lt ns ds la da lc dc w (by simp [leafOk] at h2; omega)
  by_cases k5 : k = 5
  · subst k5
    have e : kenc (.mk 5 i s lt ns ds) = [5] ++ (kencF ns ds ++ [0]) := by simp [kenc]
    rw [e] at hlen ⊢
    exact one_k5 i s lt ns ds la da lc dc w hnd hd1.1 hd2 hD (fun n hn => nameB_le (sndF_names h4 hnd n hn)) (fun t ht => sndF_mem h4 t ht) (fun t ht => ih2 t (.inr ht)) hlen
  by_cases k6 : k = 6
  · subst k6
    have e : kenc (.mk 6 i s lt ns ds) = [6] ++ (kencL lt ++ [0]) := by simp [kenc]
    rw [e] at hlen ⊢
    exact one_k6 i s lt ns ds la da lc dc w hl1.1 hl2 hL (fun t ht => sndL_mem h3 t ht) (fun t ht => ih2 t (.inl ht)) hlen
  exfalso
  simp [leafOk, k1, k2, k3, k4, k5, k6, k7, k8, k9, k10, k11] at h2
theorem one_ok (t : Tr) : OneOk t := by
  have : ∀ n (t : Tr), t.sz = n → OneOk t := by
    intro n
    induction n using Nat.strongRecOn with
    | _ n ih => intro t ht; exact one_step t (fun p hp => ih p.sz (by rw [← ht]; exact hp) p rfl)
  exact this _ t rfl
theorem oneA_ok (t : Tr) (v : Value) (w : World) (ha : allowB t = true) (hV : VRep w t v) : Calls Tryd.prog 26 #[v] w fun e w' => e = .returned (.string ⟨(kenc t).toArray⟩) ∧ Ext w w' := by
  have hks := kenc_small ha
  by_cases hk : t.kind = 0
  · cases t with
    | mk k i s lt ns ds =>
      have hk' : k = 0 := hk
      subst hk'
      unfold VRep at hV
      obtain ⟨la, lc, da, dc, rfl, _⟩ := hV
      have e : kenc (.mk 0 i s lt ns ds) = [0] := by simp [kenc]
      rw [e]
      exact one_k0 i s lt ns ds la da lc dc w
  · unfold allowB at ha
    rw [if_neg hk] at ha
    simp only [validB, Bool.and_eq_true] at ha
    exact one_ok t v w ha.2 hV (by omega)
theorem allow_miss (t : Tr) (h : allowB t = false) : (decide (t.kind = 0) && zeroB t) = false ∧ validB t = false := by
  unfold allowB at h
  by_cases hk : t.kind = 0
  · rw [if_pos hk] at h
    refine ⟨by rw [h, Bool.and_false], ?_⟩
    cases hv : validB t
    · rfl
    · exfalso
      simp only [validB, Bool.and_eq_true] at hv
      obtain ⟨k, i, s, l, ns, ds⟩ := t
      obtain ⟨-, h2, -, -⟩ := snd_list hv.2
      have hk' : k = 0 := hk
      subst hk'
      simp [leafOk] at h2
  · rw [if_neg hk] at h
    exact ⟨by rw [decide_eq_false hk]; rfl, h⟩
theorem allow_miss2 (t : Tr) (h : allowB t = true) (hm : (decide (t.kind = 0) && zeroB t) = false) : validB t = true := by
  unfold allowB at h
  by_cases hk : t.kind = 0
  · rw [if_pos hk] at h
    rw [decide_eq_true hk, h] at hm; cases hm
  · rw [if_neg hk] at h; exact h
set_option maxRecDepth 20000 in
set_option maxHeartbeats 4000000 in
theorem REncode_ok (ts : List Tr) (ds : List Bool) (la da : Option Addr) (lc dc : Nat) (w : World) (hL : LRep w la 0 ts) (hl1 : ts.length ≤ lc) (hl2 : lc ≤ maxLen) (hD : BRep w da ds) (hd1 : ds.length ≤ dc) (hd2 : dc ≤ maxLen) (h40 : ts.length ≤ 40) :
    Calls Tryd.prog 12 #[.slice la ts.length lc, .slice da ds.length dc] w fun e w' => e = .returned (.tuple #[.string (kencE ts ds).1, .int .i64 (kencE ts ds).2]) ∧ Ext w w' := by
  have HL := Lib.hid hL
  have HD := Lib.hid hD
  clear hL hD
  unfold maxLen at hl2 hd2
  obtain ⟨r, hr⟩ : ∃ r, kencE ts ds = r := ⟨_, rfl⟩
  rw [hr]
  unfold kencE at hr
  by_cases hlen : ts.length = ds.length
  case neg =>
    rw [if_pos hlen] at hr
    have HR := Lib.hid hr
    have d : ((ts.length : Int) != (ds.length : Int)) = true := by simp; omega
    have d' : (ts.length != ds.length) = true := by simpa using hlen
    clear hr
    go_enter Tryd.func12, Tryd.ntmps12
    go_wp2_with fail
    go_ret2
    exact ⟨by rw [← HR.out]; rfl, Ext.refl _⟩
  rw [if_neg (by simpa using hlen)] at hr
  have HR := Lib.hid hr
  have d : ((ts.length : Int) != (ds.length : Int)) = false := by simp; omega
  have d' : (ts.length != ds.length) = false := by simpa using hlen
  have HLen := Lib.hid hlen
  have hle : ts.length ≤ ds.length := by omega
  clear hr hlen
  go_enter Tryd.func12, Tryd.ntmps12
  go_wp2_with fail
  clear d d'
  go_loopw [6, 7] (fun b x wr => ∃ (j : Nat) (y : ByteArray), j ≤ ts.length ∧ x = .int .i64 j ∧ b = .string y ∧ Hid (∀ t ∈ ts.take j, allowB t = true) ∧ Hid (y.data.toList = kencs (ts.take j) (ds.take j)) ∧ Hid (Ext w wr)) (fun _ x _ => ts.length - (intOf x).toNat)
  case atStart => exact ⟨0, ⟨#[]⟩, by omega, rfl, rfl, by intro t ht; simp at ht, by show _ = _; simp [kencs], Ext.refl _⟩
  case round =>
    obtain ⟨j, y, hj, rfl, rfl, HA, HY, HE⟩ := hrel
    have hyl : y.size ≤ 8601600 * 40 := by
      have e : y.size = y.data.toList.length := by simp
      rw [e, HY.out]; have := kencs_le (ts.take j) (ds.take j) HA.out; have : (ts.take j).length ≤ 40 := by simp; omega
      omega
    by_cases hlt : j < ts.length
    · obtain ⟨bb, off, c0, c1, c2, c3, c4, rfl, e0, e1, e2, e3, e4, hv⟩ := LRep.at_ ts 0 j ts[j] HL.out (List.getElem?_eq_getElem hlt)
      obtain ⟨k', i', s', la', ln', lc', da', dn', dc', rfl, rfl, rfl, rfl, rfl⟩ := hv.shape5
      have hEr := HE.out
      have q0 := hEr.keep e0
      have q1 := hEr.keep e1
      have q2 := hEr.keep e2
      have q3 := hEr.keep e3
      have q4 := hEr.keep e4
      rw [Nat.zero_add] at q0 q1 q2 q3 q4
      have HV := Lib.hid (VRep.ext hEr _ _ hv)
      clear e0 e1 e2 e3 e4 hEr hv
      obtain ⟨p, hp⟩ : ∃ p, ts[j] = p := ⟨_, rfl⟩
      obtain ⟨dd, hdd⟩ : ∃ d, ds[j]'(by omega) = d := ⟨_, rfl⟩
      have hmem : p ∈ ts := by rw [← hp]; exact List.getElem_mem hlt
      obtain ⟨db, doff, rfl, hdc0⟩ := HD.out j dd (by rw [← hdd]; exact List.getElem?_eq_getElem (by omega))
      have HDC := Lib.hid hdc0
      have hdb := Nat.lt_of_lt_of_le (World.block_lt_of_cell? _ _ hdc0) HE.out.size
      have htk : ts.take (j + 1) = ts.take j ++ [p] := by rw [List.take_succ_eq_append_getElem hlt, hp]
      have hdk : ds.take (j + 1) = ds.take j ++ [dd] := by rw [List.take_succ_eq_append_getElem (by omega), hdd]
      have hsn : kencs (ts.take (j + 1)) (ds.take (j + 1)) = y.data.toList ++ kone dd p := by rw [htk, hdk, kencs_snoc _ _ _ _ (by simp; omega), HY.out]
      rw [hp] at HV
      have HSn := Lib.hid hsn
      have HTk := Lib.hid htk
      clear hp hdd htk hdk hsn hdc0
      obtain ⟨al, hal⟩ : ∃ a, allowB p = a := ⟨_, rfl⟩
      cases al
      · have hf : ts.all allowB = false := by
          rw [List.all_eq_false]; exact ⟨p, hmem, by simp [hal]⟩
        have e := HR.out
        rw [hf] at e
        have HR2 := Lib.hid e
        have HMi := Lib.hid (allow_miss p hal).1
        have HVa := Lib.hid (allow_miss p hal).2
        clear hal hf e
        go_wp2_with fail
        refine (missing_ok p _ _ HV.out).mono ?_
        rintro e w1 ⟨rfl, h1⟩
        rw [HMi.out]
        have HX1 := Lib.hid h1
        have q0 := h1.keep q0
        have q1 := h1.keep q1
        have q2 := h1.keep q2
        have q3 := h1.keep q3
        have q4 := h1.keep q4
        clear h1
        go_wp2_with fail
        refine (RValid_ok p _ _ (VRep.ext HX1.out _ _ HV.out)).mono ?_
        rintro e w2 ⟨rfl, h2⟩
        rw [HVa.out]
        have HX2 := Lib.hid ((HE.out.trans HX1.out).trans h2)
        clear h2
        go_wp2_with fail
        go_ret2
        exact ⟨by rw [← HR2.out]; rfl, HX2.out⟩
      have hks := kenc_small hal
      have HAl := Lib.hid hal
      have hal2 : ∀ t ∈ ts.take (j + 1), allowB t = true := by
        rw [HTk.out]; intro t ht
        rcases List.mem_append.1 ht with h | h
        · exact HA.out t h
        · rw [List.mem_singleton.1 h]; exact hal
      have HA2 := Lib.hid hal2
      have hjd : j < ds.length := by omega
      obtain ⟨z, hz⟩ : ∃ z : ByteArray, (⟨(kenc p).toArray⟩ : ByteArray) = z := ⟨_, rfl⟩
      have hzl : z.data.toList = kenc p := by rw [← hz]
      have hzs : z.size ≤ 8601600 := by
        have e : z.size = z.data.toList.length := by simp
        rw [e, hzl]; exact hks
      obtain ⟨f, hf⟩ : ∃ f : ByteArray, (⟨(z.data.toList.map flipC).toArray⟩ : ByteArray) = f := ⟨_, rfl⟩
      have hfl : f.data.toList = (kenc p).map flipC := by rw [← hf, ← hzl]
      have hfs : f.size ≤ 8601600 := by
        have e : f.size = f.data.toList.length := by simp
        rw [e, hfl, List.length_map]; exact hks
      have HZ := Lib.hid hz
      have HF := Lib.hid hf
      have HFinF : Hid (dd = false → (y ++ z).data.toList = kencs (ts.take (j + 1)) (ds.take (j + 1))) := by
        intro hd; rw [HSn.out, cat_list, hzl, hd]; rfl
      have HFinT : Hid (dd = true → (y ++ f).data.toList = kencs (ts.take (j + 1)) (ds.take (j + 1))) := by
        intro hd; rw [HSn.out, cat_list, hfl, hd]; rfl
      clear hal hal2 hz hf hzl hfl hks
      go_wp2_with fail
      refine (missing_ok p _ _ HV.out).mono ?_
      rintro e w1 ⟨rfl, h1⟩
      have HX1 := Lib.hid h1
      have q0 := h1.keep q0
      have q1 := h1.keep q1
      have q2 := h1.keep q2
      have q3 := h1.keep q3
      have q4 := h1.keep q4
      have HE1 := Lib.hid (HE.out.trans h1)
      have HV1 := Lib.hid (VRep.ext h1 _ _ HV.out)
      have hsz1 := h1.size
      clear h1
      obtain ⟨mi, hmi⟩ : ∃ m, (decide (p.kind = 0) && zeroB p) = m := ⟨_, rfl⟩
      rw [hmi]
      have HMi := Lib.hid hmi
      clear hmi
      cases mi
      · have HVa := Lib.hid (allow_miss2 p HAl.out HMi.out)
        go_wp2_with fail
        refine (RValid_ok p _ _ HV1.out).mono ?_
        rintro e w2 ⟨rfl, h2⟩
        rw [HVa.out]
        have hdc := (HE1.out.trans h2).keep HDC.out
        have HE2 := Lib.hid (HE1.out.trans h2)
        have HV2 := Lib.hid (VRep.ext h2 _ _ HV1.out)
        have q0 := h2.keep q0
        have q1 := h2.keep q1
        have q2 := h2.keep q2
        have q3 := h2.keep q3
        have q4 := h2.keep q4
        have hsz2 := h2.size
        clear h2
        cases dd
        · go_wp2_with fail
          refine (oneA_ok p _ _ HAl.out HV2.out).mono ?_
          rintro e w3 ⟨rfl, h3⟩
          rw [HZ.out]
          have HE3 := Lib.hid (HE2.out.trans h3)
          clear h3
          go_wp2_with fail
          exact ⟨⟨j + 1, _, by omega, by go_num, rfl, HA2, HFinF.out (by trivial), HE3⟩, by simp [intOf]; omega⟩
        · go_wp2_with fail
          refine (oneA_ok p _ _ HAl.out HV2.out).mono ?_
          rintro e w3 ⟨rfl, h3⟩
          rw [HZ.out]
          have HE3 := Lib.hid (HE2.out.trans h3)
          clear h3
          go_wp2_with fail
          refine (Flip_ok z _ (by omega)).mono ?_
          rintro e w4 ⟨rfl, h4⟩
          rw [HF.out]
          have HE4 := Lib.hid (HE3.out.trans h4)
          clear h4
          go_wp2_with fail
          exact ⟨⟨j + 1, _, by omega, by go_num, rfl, HA2, HFinT.out (by trivial), HE4⟩, by simp [intOf]; omega⟩
      · have hdc := HE1.out.keep HDC.out
        cases dd
        · go_wp2_with fail
          refine (oneA_ok p _ _ HAl.out HV1.out).mono ?_
          rintro e w3 ⟨rfl, h3⟩
          rw [HZ.out]
          have HE3 := Lib.hid (HE1.out.trans h3)
          clear h3
          go_wp2_with fail
          exact ⟨⟨j + 1, _, by omega, by go_num, rfl, HA2, HFinF.out (by trivial), HE3⟩, by simp [intOf]; omega⟩
        · go_wp2_with fail
          refine (oneA_ok p _ _ HAl.out HV1.out).mono ?_
          rintro e w3 ⟨rfl, h3⟩
          rw [HZ.out]
          have HE3 := Lib.hid (HE1.out.trans h3)
          clear h3
          go_wp2_with fail
          refine (Flip_ok z _ (by omega)).mono ?_
          rintro e w4 ⟨rfl, h4⟩
          rw [HF.out]
          have HE4 := Lib.hid (HE3.out.trans h4)
          clear h4
          go_wp2_with fail
          exact ⟨⟨j + 1, _, by omega, by go_num, rfl, HA2, HFinT.out (by trivial), HE4⟩, by simp [intOf]; omega⟩
    · have hj2 : j = ts.length := by omega
      subst hj2
      have hall : ts.all allowB = true := by
        rw [List.all_eq_true]; have := HA.out; rw [List.take_length] at this; exact this
      have e := HR.out
      rw [hall, if_pos rfl] at e
      have hy : (⟨(kencs ts ds).toArray⟩ : ByteArray) = y := by
        apply bytes_ext; rw [HY.out, List.take_length, List.take_of_length_le (by have := HLen.out; omega)]
      rw [hy] at e
      have HR2 := Lib.hid e
      clear hall e hy
      go_wp2_with fail
      go_ret2
      exact ⟨by rw [← HR2.out]; rfl, HE.out⟩
set_option maxRecDepth 20000 in
set_option maxHeartbeats 2000000 in
theorem encode_walk (ts : List Tr) (ds : List Bool) (la da : Option Addr) (lc dc : Nat) (w : World) (hL : LRep w la 0 ts) (hl1 : ts.length ≤ lc) (hl2 : lc ≤ maxLen) (hD : BRep w da ds) (hd1 : ds.length ≤ dc) (hd2 : dc ≤ maxLen) (hT : Tabs w) :
    Calls Tryd.prog 3 #[.slice la ts.length lc, .slice da ds.length dc] w fun e w' => e = .returned (.bool true) ∧ Ext w w' := by
  have HT := Lib.hid hT
  have HD := Lib.hid hD
  have HL := Lib.hid hL
  have HM := Lib.hid hl2
  have HN := Lib.hid hd2
  clear hT hD hL
  unfold maxLen at hl2 hd2
  by_cases h40 : ts.length ≤ 40
  case neg =>
    have d4 : decide (40 < (ts.length : Int)) = true := by simp; omega
    go_enter Tryd.func3, Tryd.ntmps3
    go_wp2_with fail
    refine (awake_ok _ HT.out).mono ?_
    rintro e w2 ⟨rfl, h2⟩
    go_wp2_with fail
    go_ret
    exact ⟨rfl, h2⟩
  have d4 : decide (40 < (ts.length : Int)) = false := by simp; omega
  obtain ⟨r, hr⟩ : ∃ r, kencE ts ds = r := ⟨_, rfl⟩
  have HR := Lib.hid hr
  clear hr
  obtain ⟨rs, rc⟩ := r
  go_enter Tryd.func3, Tryd.ntmps3
  go_wp2_with fail
  refine (Encode_ok ts ds la da lc dc _ HL.out hl1 HM.out HD.out hd1 HN.out h40 HT.out).mono ?_
  rw [HR.out]
  rintro e w1 ⟨rfl, h1⟩
  have HE1 := Lib.hid h1
  clear h1
  go_wp2_with fail
  refine (REncode_ok ts ds la da lc dc _ (LRep.ext HE1.out _ _ _ HL.out) hl1 HM.out (HD.out.ext HE1.out) hd1 HN.out h40).mono ?_
  rw [HR.out]
  rintro e w2 ⟨rfl, h2⟩
  have HE2 := Lib.hid (HE1.out.trans h2)
  clear h2
  go_wp2_with fail
  refine (awake_ok _ (HT.out.ext HE2.out)).mono ?_
  rintro e w5 ⟨rfl, h5⟩
  go_wp2_with fail
  go_ret
  exact ⟨rfl, HE2.out.trans h5⟩
end Go.Proofs.YtipphlhaaienpaaDoor
