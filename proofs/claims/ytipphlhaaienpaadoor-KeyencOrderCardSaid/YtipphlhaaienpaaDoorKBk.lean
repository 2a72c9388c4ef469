/- Comparing keys is comparing values: plain. -/
import Derived.Test.YtipphlhaaienpaaDoorKR
import Derived.Test.YtipphlhaaienpaaDoorKE
import Derived.Test.YtipphlhaaienpaaDoorStr
import Derived.Test.YtipphlhaaienpaaDoorKT
import Derived.Test.YtipphlhaaienpaaDoorR1e
import Derived.Lib.Bytealg
set_option linter.unusedSimpArgs false
set_option linter.unusedVariables false
namespace Go.Proofs.YtipphlhaaienpaaDoor
open Go.RowKit
def seg (s : ByteArray) (p q : Nat) : List UInt8 := (s.data.toList.drop p).take (q - p)
theorem seg_trans (s : ByteArray) {p q r : Nat} (h1 : p ≤ q) (h2 : q ≤ r) : seg s p q ++ seg s q r = seg s p r := by
  unfold seg
  have e : r - p = (q - p) + (r - q) := by omega
  rw [e, List.take_add, List.drop_drop]
  congr 3
  omega
/-- From p to q lie the bytes l, turned by fl. -/
def Lies (s : ByteArray) (fl : UInt8) (p q : Nat) (l : List UInt8) : Prop := p ≤ q ∧ q ≤ s.size ∧ seg s p q = l.map (· ^^^ fl)
theorem Lies.trans {s : ByteArray} {fl : UInt8} {p q r : Nat} {l m : List UInt8} (h : Lies s fl p q l) (k : Lies s fl q r m) : Lies s fl p r (l ++ m) :=
  ⟨Nat.le_trans h.1 k.1, k.2.1, by rw [List.map_append, ← h.2.2, ← k.2.2, seg_trans s h.1 k.1]⟩
theorem Lies.nil {s : ByteArray} {fl : UInt8} {p : Nat} (h : p ≤ s.size) : Lies s fl p p [] := ⟨Nat.le_refl _, h, by unfold seg; simp⟩
theorem xor_back (b fl : UInt8) : (b ^^^ fl) ^^^ fl = b := by rw [UInt8.xor_assoc, UInt8.xor_self, UInt8.xor_zero]
theorem next_lies {s : ByteArray} {fl : UInt8} {p : Nat} {b : UInt8} {q : Nat} (h : nextE s fl p = .ok (b, q)) : Lies s fl p q [b] := by
  obtain ⟨h1, rfl, rfl⟩ := nextE_ok h
  refine ⟨by omega, by omega, ?_⟩
  unfold seg
  rw [Nat.add_sub_cancel_left, List.drop_eq_getElem_cons (by simpa using h1)]
  simp only [List.take_succ_cons, List.take_zero, List.map_cons, List.map_nil, xor_back]
  unfold kbyte
  rw [List.getD_eq_getElem?_getD, List.getElem?_eq_getElem (by simpa using h1)]; rfl
theorem num_lies {s : ByteArray} {fl : UInt8} : ∀ (n p u u' q : Nat), p ≤ s.size → numN s fl n p u = .ok (u', q) → ∃ bs : List UInt8, bs.length = n ∧ Lies s fl p q bs ∧ u' = bs.foldl (fun a b => a * 256 + b.toNat) u := by
  intro n
  induction n with
  | zero => intro p u u' q hp h; injection h with h; injection h with h1 h2; subst h1 h2; exact ⟨[], rfl, Lies.nil hp, rfl⟩
  | succ n ih =>
    intro p u u' q hp h
    simp only [numN] at h
    cases hx : nextE s fl p with
    | error e => rw [hx] at h; cases h
    | ok z =>
      obtain ⟨b, q1⟩ := z
      rw [hx] at h
      have hl := next_lies hx
      obtain ⟨bs, h1, h2, h3⟩ := ih q1 _ u' q hl.2.1 h
      exact ⟨b :: bs, by simp [h1], hl.trans h2, h3⟩
theorem num8_back (bs : List UInt8) (h : bs.length = 8) : num8 (bs.foldl (fun a b => a * 256 + b.toNat) 0) = bs ∧ bs.foldl (fun a b => a * 256 + b.toNat) 0 < 18446744073709551616 := by
  match bs, h with
  | [b0, b1, b2, b3, b4, b5, b6, b7], _ =>
    have h0 := b0.toNat_lt
    have h1 := b1.toNat_lt
    have h2 := b2.toNat_lt
    have h3 := b3.toNat_lt
    have h4 := b4.toNat_lt
    have h5 := b5.toNat_lt
    have h6 := b6.toNat_lt
    have h7 := b7.toNat_lt
    simp only [List.foldl_cons, List.foldl_nil]
    refine ⟨?_, by omega⟩
    have key : ∀ (x : Nat) (b : UInt8), x % 256 = b.toNat → UInt8.ofNat x = b := fun x b h => UInt8.toNat_inj.1 (by rw [UInt8.toNat_ofNat']; exact h)
    unfold num8
    rw [key _ b0 (by omega), key _ b1 (by omega), key _ b2 (by omega), key _ b3 (by omega), key _ b4 (by omega), key _ b5 (by omega), key _ b6 (by omega), key _ b7 (by omega)]
theorem text_lies {s : ByteArray} {fl : UInt8} : ∀ (n p : Nat) (acc l : List UInt8) (q : Nat), textE s fl n p acc = .ok (l, q) → ∃ m, l = acc ++ m ∧ Lies s fl p q (esc m ++ [0, 0]) := by
  intro n
  induction n with
  | zero => intro p acc l q h; cases h
  | succ n ih =>
    intro p acc l q h
    simp only [textE] at h
    cases hx : nextE s fl p with
    | error e => rw [hx] at h; cases h
    | ok z =>
      obtain ⟨c, q1⟩ := z
      rw [hx] at h
      have hl := next_lies hx
      simp only at h
      by_cases hc : c = 0
      · rw [if_neg (by simpa using hc)] at h
        cases hy : nextE s fl q1 with
        | error e => rw [hy] at h; cases h
        | ok z2 =>
          obtain ⟨c2, q2⟩ := z2
          rw [hy] at h
          have hl2 := next_lies hy
          simp only at h
          by_cases h2 : c2 = 0
          · rw [if_pos h2] at h
            injection h with h; injection h with e1 e2; subst e1 e2
            refine ⟨[], by simp, ?_⟩
            have := hl.trans hl2
            rw [hc, h2] at this
            simpa [esc] using this
          · rw [if_neg h2] at h
            by_cases h5 : c2 = 255
            · rw [if_neg (by simpa using h5)] at h
              obtain ⟨m, e1, e2⟩ := ih _ _ _ _ h
              refine ⟨0 :: m, by rw [e1]; simp, ?_⟩
              have := (hl.trans hl2).trans e2
              rw [hc, h5] at this
              simpa [esc, escC] using this
            · rw [if_pos h5] at h; cases h
      · rw [if_pos hc] at h
        obtain ⟨m, e1, e2⟩ := ih _ _ _ _ h
        refine ⟨c :: m, by rw [e1]; simp, ?_⟩
        have := hl.trans e2
        simpa [esc, escC, hc] using this
theorem name_lies {s : ByteArray} {fl : UInt8} : ∀ (n p : Nat) (acc l : List UInt8) (q : Nat), nameE s fl n p acc = .ok (l, q) → ∃ m, l = acc ++ m ∧ Lies s fl p q (m ++ [0]) := by
  intro n
  induction n with
  | zero => intro p acc l q h; cases h
  | succ n ih =>
    intro p acc l q h
    simp only [nameE] at h
    cases hx : nextE s fl p with
    | error e => rw [hx] at h; cases h
    | ok z =>
      obtain ⟨c, q1⟩ := z
      rw [hx] at h
      have hl := next_lies hx
      simp only at h
      by_cases hc : c = 0
      · rw [if_pos hc] at h
        injection h with h; injection h with e1 e2; subst e1 e2
        exact ⟨[], by simp, by rw [hc] at hl; simpa using hl⟩
      · rw [if_neg hc] at h
        obtain ⟨m, e1, e2⟩ := ih _ _ _ _ h
        exact ⟨c :: m, by rw [e1]; simp, by simpa using hl.trans e2⟩
theorem more_lies {s : ByteArray} {fl : UInt8} {p : Nat} {b : Bool} {q : Nat} (h : moreE s fl p = .ok (b, q)) : Lies s fl p q [if b then 1 else 0] := by
  unfold moreE at h
  cases hx : nextE s fl p with
  | error e => rw [hx] at h; cases h
  | ok z =>
    obtain ⟨c, q1⟩ := z
    rw [hx] at h
    have hl := next_lies hx
    simp only [moreK] at h
    split at h
    · cases h
    · rename_i hc
      injection h with h; injection h with e1 e2; subst e1 e2
      by_cases h1 : c.toNat = 1
      · have : c = 1 := UInt8.toNat_inj.1 h1
        subst this; simpa using hl
      · have : c = 0 := UInt8.toNat_inj.1 (by show c.toNat = 0; omega)
        subst this; simpa using hl
theorem list_lies {s : ByteArray} {fl : UInt8} {f : Nat → Except Int (Tr × Nat)} (hf : ∀ p t q, f p = .ok (t, q) → Lies s fl p q (kenc t)) : ∀ (n p : Nat) (acc l : List Tr) (q : Nat), klistE s fl f n p acc = .ok (l, q) → ∃ m, l = acc ++ m ∧ Lies s fl p q (kencL m ++ [0]) := by
  intro n
  induction n with
  | zero => intro p acc l q h; cases h
  | succ n ih =>
    intro p acc l q h
    simp only [klistE] at h
    cases hx : moreE s fl p with
    | error e => rw [hx] at h; cases h
    | ok z =>
      obtain ⟨b, q1⟩ := z
      rw [hx] at h
      have hl := more_lies hx
      cases b
      · injection h with h; injection h with e1 e2; subst e1 e2
        exact ⟨[], by simp, by simpa [kencL] using hl⟩
      · simp only at h
        cases hy : f q1 with
        | error e => rw [hy] at h; cases h
        | ok z2 =>
          obtain ⟨t, q2⟩ := z2
          rw [hy] at h
          obtain ⟨m, e1, e2⟩ := ih _ _ _ _ h
          refine ⟨t :: m, by rw [e1]; simp, ?_⟩
          have := (hl.trans (hf _ _ _ hy)).trans e2
          simpa [kencL] using this
theorem doc_lies {s : ByteArray} {fl : UInt8} {f : Nat → Except Int (Tr × Nat)} (hf : ∀ p t q, f p = .ok (t, q) → Lies s fl p q (kenc t)) : ∀ (n p : Nat) (ns : List ByteArray) (ds : List Tr) (l : List ByteArray × List Tr) (q : Nat), kdocE s fl f n p ns ds = .ok (l, q) → ∃ mn md, l = (ns ++ mn, ds ++ md) ∧ mn.length = md.length ∧ Lies s fl p q (kencF mn md ++ [0]) := by
  intro n
  induction n with
  | zero => intro p ns ds l q h; cases h
  | succ n ih =>
    intro p ns ds l q h
    simp only [kdocE] at h
    cases hx : moreE s fl p with
    | error e => rw [hx] at h; cases h
    | ok z =>
      obtain ⟨b, q1⟩ := z
      rw [hx] at h
      have hl := more_lies hx
      cases b
      · injection h with h; injection h with e1 e2; subst e1 e2
        exact ⟨[], [], by simp, rfl, by simpa [kencF] using hl⟩
      · simp only at h
        cases hn : nameE s fl (s.size + 1) q1 [] with
        | error e => rw [hn] at h; cases h
        | ok zn =>
          obtain ⟨nm, q3⟩ := zn
          rw [hn] at h
          obtain ⟨m0, e0, hl3⟩ := name_lies _ _ _ _ _ hn
          simp only [List.nil_append] at e0
          subst e0
          simp only at h
          cases hy : f q3 with
          | error e => rw [hy] at h; cases h
          | ok z2 =>
            obtain ⟨t, q2⟩ := z2
            rw [hy] at h
            obtain ⟨mn, md, e1, e3, e2⟩ := ih _ _ _ _ _ h
            refine ⟨⟨nm.toArray⟩ :: mn, t :: md, by rw [e1]; simp, by simp [e3], ?_⟩
            have := ((hl.trans hl3).trans (hf _ _ _ hy)).trans e2
            simpa [kencF] using this
theorem kv_lies (s : ByteArray) (fl : UInt8) : ∀ (d p : Nat) (t : Tr) (q : Nat), kvE s fl d p = .ok (t, q) → Lies s fl p q (kenc t) := by
  intro d
  induction d with
  | zero =>
    intro p t q h
    simp only [kvE] at h
    cases hx : nextE s fl p with
    | error e => rw [hx] at h; cases h
    | ok z => rw [hx] at h; cases h
  | succ d ih =>
    intro p t q h
    simp only [kvE] at h
    cases hx : nextE s fl p with
    | error e => rw [hx] at h; cases h
    | ok z =>
      obtain ⟨b, q1⟩ := z
      rw [hx] at h
      have hl := next_lies hx
      simp only [kvK] at h
      have hk : ∀ k : Nat, b.toNat = k → [UInt8.ofNat ((k : Int)).toNat] = [b] := fun k hk => by
        rw [← hk]; simp
      split at h
      · cases h
      split at h
      · rename_i hk3
        cases hy : numN s fl 8 q1 0 with
        | error e => rw [hy] at h; cases h
        | ok z2 =>
          obtain ⟨u, q2⟩ := z2
          rw [hy] at h
          injection h with h; injection h with e1 e2; subst e1 e2
          obtain ⟨bs, h8, h9, h10⟩ := num_lies 8 q1 0 u q2 hl.2.1 hy
          have hnb := num8_back bs h8
          rw [← h10] at hnb
          have hi : uOf ((u : Int) - 9223372036854775808) = u := by unfold uOf; omega
          have : kenc (kLeaf b.toNat ((u : Int) - 9223372036854775808) ⟨#[]⟩) = [b] ++ bs := by
            unfold kLeaf kenc
            rw [hk _ rfl, if_pos (by rcases hk3 with h | h | h <;> rw [h] <;> simp), hi, hnb.1]
          rw [this]; exact hl.trans h9
      split at h
      · rename_i hk3 hk4
        cases hy : textE s fl (s.size + 1) q1 [] with
        | error e => rw [hy] at h; cases h
        | ok z2 =>
          obtain ⟨l, q2⟩ := z2
          rw [hy] at h
          injection h with h; injection h with e1 e2; subst e1 e2
          obtain ⟨m, e0, h9⟩ := text_lies _ _ _ _ _ hy
          simp only [List.nil_append] at e0
          subst e0
          have : kenc (kLeaf b.toNat 0 ⟨l.toArray⟩) = [b] ++ (esc l ++ [0, 0]) := by
            unfold kLeaf kenc
            rw [hk _ rfl, if_neg (by omega), if_pos (by omega)]
          rw [this]; exact hl.trans h9
      split at h
      · rename_i hk3 hk4 hk6
        cases hy : klistE s fl (kvE s fl d) (s.size + 1) q1 [] with
        | error e => rw [hy] at h; cases h
        | ok z2 =>
          obtain ⟨l, q2⟩ := z2
          rw [hy] at h
          injection h with h; injection h with e1 e2; subst e1 e2
          obtain ⟨m, e0, h9⟩ := list_lies ih _ _ _ _ _ hy
          simp only [List.nil_append] at e0
          subst e0
          have : kenc (.mk 6 0 ⟨#[]⟩ l [] []) = [b] ++ (kencL l ++ [0]) := by
            have e : b = 6 := UInt8.toNat_inj.1 hk6
            subst e; simp [kenc]
          rw [this]; exact hl.trans h9
      split at h
      · rename_i hk3 hk4 hk6 hk5
        cases hy : kdocE s fl (kvE s fl d) (s.size + 1) q1 [] [] with
        | error e => rw [hy] at h; cases h
        | ok z2 =>
          obtain ⟨⟨ns, ds⟩, q2⟩ := z2
          rw [hy] at h
          injection h with h; injection h with e1 e2; subst e1 e2
          obtain ⟨mn, md, e0, _, h9⟩ := doc_lies ih _ _ _ _ _ _ hy
          simp only [List.nil_append, Prod.mk.injEq] at e0
          obtain ⟨rfl, rfl⟩ := e0
          have : kenc (.mk 5 0 ⟨#[]⟩ [] ns ds) = [b] ++ (kencF ns ds ++ [0]) := by
            have e : b = 5 := UInt8.toNat_inj.1 hk5
            subst e; simp [kenc]
          rw [this]; exact hl.trans h9
      · rename_i hk3 hk4 hk6 hk5
        injection h with h; injection h with e1 e2; subst e1 e2
        have : kenc (kLeaf b.toNat 0 ⟨#[]⟩) = [b] := by
          unfold kLeaf kenc
          rw [hk _ rfl, if_neg (by omega), if_neg (by omega), if_neg (by omega), if_neg (by omega)]; rfl
        rw [this]; exact hl
theorem flip_nat : ∀ n, n < 256 → n ^^^ 255 = 255 - n := by decide +kernel
theorem flip_xor (c : UInt8) : 255 - c = c ^^^ 255 := by
  have h := c.toNat_lt
  apply UInt8.toNat_inj.1
  rw [UInt8.toNat_xor, UInt8.toNat_sub_of_le _ _ (by rw [UInt8.le_iff_toNat_le]; show c.toNat ≤ 255; omega)]
  exact (flip_nat c.toNat (by omega)).symm
theorem kone_lies {s : ByteArray} {d : Bool} {p q : Nat} {t : Tr} (h : Lies s (if d then 255 else 0) p q (kenc t)) : seg s p q = kone d t := by
  rw [h.2.2]; unfold kone
  cases d
  · simp
  · simp only [if_true]
    apply List.map_congr_left
    intro c _; exact (flip_xor c).symm
theorem kds_lies (s : ByteArray) : ∀ (ds : List Bool) (p : Nat) (acc l : List Tr) (q : Nat), p ≤ s.size → kdsE s ds p acc = .ok (l, q) → ∃ m, l = acc ++ m ∧ m.length = ds.length ∧ (∀ t ∈ m, allowB t = true) ∧ p ≤ q ∧ q ≤ s.size ∧ seg s p q = kencs m ds := by
  intro ds
  induction ds with
  | nil => intro p acc l q hp h; injection h with h; injection h with e1 e2; subst e1 e2; exact ⟨[], by simp, rfl, by simp, Nat.le_refl _, hp, by simp [seg, kencs]⟩
  | cons d r ih =>
    intro p acc l q hp h
    simp only [kdsE] at h
    cases hx : kvE s (if d then 255 else 0) 16 p with
    | error e => rw [hx] at h; cases h
    | ok z =>
      obtain ⟨t, q1⟩ := z
      rw [hx] at h
      have hl := kv_lies s _ 16 p t q1 hx
      simp only at h
      split at h
      · rename_i ha
        obtain ⟨m, e1, e2, e3, e4, e5, e6⟩ := ih _ _ _ _ hl.2.1 h
        refine ⟨t :: m, by rw [e1]; simp, by simp [e2], ?_, Nat.le_trans hl.1 e4, e5, ?_⟩
        · intro x hx; rcases List.mem_cons.1 hx with rfl | hx
          · exact ha
          · exact e3 x hx
        · rw [← seg_trans s hl.1 e4, e6, kone_lies hl]; rfl
      · cases h
theorem kdec_only {s : ByteArray} {ds : List Bool} {ts : List Tr} (h : kdecE s ds = .ok ts) : ts.length = ds.length ∧ kencE ts ds = (s, 0) := by
  unfold kdecE at h
  cases hx : kdsE s ds 0 [] with
  | error e => rw [hx] at h; cases h
  | ok z =>
    obtain ⟨l, q⟩ := z
    rw [hx] at h
    simp only at h
    split at h
    · cases h
    · rename_i hq
      injection h with h
      subst h
      obtain ⟨m, e1, e2, e3, e4, e5, e6⟩ := kds_lies s ds 0 [] l q (by omega) hx
      simp only [List.nil_append] at e1
      subst e1
      have hq2 : q = s.size := by omega
      refine ⟨e2, ?_⟩
      unfold kencE
      rw [if_neg (by simpa using e2), if_pos (List.all_eq_true.2 e3), ← e6, hq2]
      congr 1
      apply bytes_ext
      show seg s 0 s.size = _
      unfold seg
      exact List.take_of_length_le (by simp)
theorem next_bad {s : ByteArray} {fl : UInt8} {p : Nat} {e : Int} (h : nextE s fl p = .error e) : e ≠ 0 := by have := (nextE_err h).1; omega
theorem more_bad {s : ByteArray} {fl : UInt8} {p : Nat} {e : Int} (h : moreE s fl p = .error e) : e ≠ 0 := by
  unfold moreE at h
  cases hx : nextE s fl p with
  | error e0 => rw [hx] at h; injection h with h; subst h; exact next_bad hx
  | ok z =>
    obtain ⟨b, q⟩ := z
    rw [hx] at h
    simp only [moreK] at h
    split at h
    · injection h with h; omega
    · cases h
theorem num_bad {s : ByteArray} {fl : UInt8} : ∀ (n p u : Nat) (e : Int), numN s fl n p u = .error e → e ≠ 0 := by
  intro n
  induction n with
  | zero => intro p u e h; cases h
  | succ n ih =>
    intro p u e h
    simp only [numN] at h
    cases hx : nextE s fl p with
    | error e0 => rw [hx] at h; injection h with h; subst h; exact next_bad hx
    | ok z => obtain ⟨b, q⟩ := z; rw [hx] at h; exact ih _ _ _ h
theorem text_bad {s : ByteArray} {fl : UInt8} : ∀ (n p : Nat) (acc : List UInt8) (e : Int), textE s fl n p acc = .error e → e ≠ 0 := by
  intro n
  induction n with
  | zero => intro p acc e h; injection h with h; omega
  | succ n ih =>
    intro p acc e h
    simp only [textE] at h
    cases hx : nextE s fl p with
    | error e0 => rw [hx] at h; injection h with h; subst h; exact next_bad hx
    | ok z =>
      obtain ⟨c, q⟩ := z
      rw [hx] at h
      simp only at h
      split at h
      · exact ih _ _ _ h
      · cases hy : nextE s fl q with
        | error e0 => rw [hy] at h; injection h with h; subst h; exact next_bad hy
        | ok z2 =>
          obtain ⟨c2, q2⟩ := z2
          rw [hy] at h
          simp only at h
          split at h
          · cases h
          · split at h
            · injection h with h; omega
            · exact ih _ _ _ h
theorem name_bad {s : ByteArray} {fl : UInt8} : ∀ (n p : Nat) (acc : List UInt8) (e : Int), nameE s fl n p acc = .error e → e ≠ 0 := by
  intro n
  induction n with
  | zero => intro p acc e h; injection h with h; omega
  | succ n ih =>
    intro p acc e h
    simp only [nameE] at h
    cases hx : nextE s fl p with
    | error e0 => rw [hx] at h; injection h with h; subst h; exact next_bad hx
    | ok z =>
      obtain ⟨c, q⟩ := z
      rw [hx] at h
      simp only at h
      split at h
      · cases h
      · exact ih _ _ _ h
theorem list_bad {s : ByteArray} {fl : UInt8} {f : Nat → Except Int (Tr × Nat)} (hf : ∀ p e, f p = .error e → e ≠ 0) : ∀ (n p : Nat) (acc : List Tr) (e : Int), klistE s fl f n p acc = .error e → e ≠ 0 := by
  intro n
  induction n with
  | zero => intro p acc e h; injection h with h; omega
  | succ n ih =>
    intro p acc e h
    simp only [klistE] at h
    cases hx : moreE s fl p with
    | error e0 => rw [hx] at h; injection h with h; subst h; exact more_bad hx
    | ok z =>
      obtain ⟨b, q⟩ := z
      rw [hx] at h
      cases b
      · cases h
      · simp only at h
        cases hy : f q with
        | error e0 => rw [hy] at h; injection h with h; subst h; exact hf _ _ hy
        | ok z2 => obtain ⟨t, q2⟩ := z2; rw [hy] at h; exact ih _ _ _ h
theorem doc_bad {s : ByteArray} {fl : UInt8} {f : Nat → Except Int (Tr × Nat)} (hf : ∀ p e, f p = .error e → e ≠ 0) : ∀ (n p : Nat) (ns : List ByteArray) (ds : List Tr) (e : Int), kdocE s fl f n p ns ds = .error e → e ≠ 0 := by
  intro n
  induction n with
  | zero => intro p ns ds e h; injection h with h; omega
  | succ n ih =>
    intro p ns ds e h
    simp only [kdocE] at h
    cases hx : moreE s fl p with
    | error e0 => rw [hx] at h; injection h with h; subst h; exact more_bad hx
    | ok z =>
      obtain ⟨b, q⟩ := z
      rw [hx] at h
      cases b
      · cases h
      · simp only at h
        cases hn : nameE s fl (s.size + 1) q [] with
        | error e0 => rw [hn] at h; injection h with h; subst h; exact name_bad _ _ _ _ hn
        | ok zn =>
          obtain ⟨nm, q3⟩ := zn
          rw [hn] at h
          simp only at h
          cases hy : f q3 with
          | error e0 => rw [hy] at h; injection h with h; subst h; exact hf _ _ hy
          | ok z2 => obtain ⟨t, q2⟩ := z2; rw [hy] at h; exact ih _ _ _ _ h
theorem kv_bad (s : ByteArray) (fl : UInt8) : ∀ (d p : Nat) (e : Int), kvE s fl d p = .error e → e ≠ 0 := by
  intro d
  induction d with
  | zero =>
    intro p e h
    simp only [kvE] at h
    cases hx : nextE s fl p with
    | error e0 => rw [hx] at h; injection h with h; subst h; exact next_bad hx
    | ok z => rw [hx] at h; injection h with h; omega
  | succ d ih =>
    intro p e h
    simp only [kvE] at h
    cases hx : nextE s fl p with
    | error e0 => rw [hx] at h; injection h with h; subst h; exact next_bad hx
    | ok z =>
      obtain ⟨b, q1⟩ := z
      rw [hx] at h
      simp only [kvK] at h
      split at h
      · injection h with h; omega
      split at h
      · cases hy : numN s fl 8 q1 0 with
        | error e0 => rw [hy] at h; injection h with h; subst h; exact num_bad _ _ _ _ hy
        | ok z2 => rw [hy] at h; cases h
      split at h
      · cases hy : textE s fl (s.size + 1) q1 [] with
        | error e0 => rw [hy] at h; injection h with h; subst h; exact text_bad _ _ _ _ hy
        | ok z2 => rw [hy] at h; cases h
      split at h
      · cases hy : klistE s fl (kvE s fl d) (s.size + 1) q1 [] with
        | error e0 => rw [hy] at h; injection h with h; subst h; exact list_bad ih _ _ _ _ hy
        | ok z2 => rw [hy] at h; cases h
      split at h
      · cases hy : kdocE s fl (kvE s fl d) (s.size + 1) q1 [] [] with
        | error e0 => rw [hy] at h; injection h with h; subst h; exact doc_bad ih _ _ _ _ _ hy
        | ok z2 => rw [hy] at h; cases h
      · cases h
theorem kds_bad (s : ByteArray) : ∀ (ds : List Bool) (p : Nat) (acc : List Tr) (e : Int), kdsE s ds p acc = .error e → e ≠ 0 := by
  intro ds
  induction ds with
  | nil => intro p acc e h; cases h
  | cons d r ih =>
    intro p acc e h
    simp only [kdsE] at h
    cases hx : kvE s (if d then 255 else 0) 16 p with
    | error e0 => rw [hx] at h; injection h with h; subst h; exact kv_bad _ _ _ _ _ hx
    | ok z =>
      obtain ⟨t, q⟩ := z
      rw [hx] at h
      simp only at h
      split at h
      · exact ih _ _ _ h
      · injection h with h; omega
theorem kdec_err {s : ByteArray} {ds : List Bool} {e : Int} (h : kdecE s ds = .error e) : e ≠ 0 := by
  unfold kdecE at h
  cases hx : kdsE s ds 0 [] with
  | error e0 => rw [hx] at h; injection h with h; subst h; exact kds_bad _ _ _ _ _ hx
  | ok z =>
    obtain ⟨l, q⟩ := z
    rw [hx] at h
    simp only at h
    split at h
    · injection h with h; omega
    · cases h
end Go.Proofs.YtipphlhaaienpaaDoor
set_option linter.unusedSimpArgs false
set_option linter.unusedVariables false
namespace Go.Proofs.YtipphlhaaienpaaDoor
open Go.RowKit
def awA : Tr := .mk 3 5 ⟨#[]⟩ [] [] []
def awB : Tr := .mk 4 0 ⟨#[97]⟩ [] [] []
theorem awA_ok : allowB awA = true := by simp [allowB, awA, Tr.kind, validB, Tr.cnt, Tr.cntL, Tr.dep, Tr.depL, snd, sndL, sndF, headOk, leafOk, bytes_e]
theorem awB_ok : allowB awB = true := by
  simp [allowB, awB, Tr.kind, validB, Tr.cnt, Tr.cntL, Tr.dep, Tr.depL, snd, sndL, sndF, headOk, leafOk, bytes_e]
  decide
theorem aw_enc : kencE [awA, awB] [false, true] = (⟨#[3, 128, 0, 0, 0, 0, 0, 0, 5, 251, 158, 255, 255]⟩, 0) := by
  unfold kencE
  rw [if_neg (by simp)]
  simp only [List.all_cons, awA_ok, awB_ok, List.all_nil, Bool.and_self, if_true]
  decide
theorem aw_dec : kdecE ⟨#[2, 253]⟩ [false, true] = .ok [.mk 2 0 ⟨#[]⟩ [] [] [], .mk 2 0 ⟨#[]⟩ [] [] []] := by
  rfl
theorem aw_aft : aftR ⟨#[97, 255]⟩ = (⟨#[98]⟩, true) := by decide
theorem leaf_rep (w : World) (k i : Int) (t : ByteArray) (hk : I64 k) (hi : I64 i) (ht : t.size ≤ maxLen) : VRep w (.mk k i t [] [] []) (.agg #[.int .i64 k, .int .i64 i, .string t, .slice none 0 0, .slice none 0 0]) := VNew.rep (VNew.leaf 0 0 w k i t hk hi ht)
theorem aw_list {w : World} {g : Nat} (h : w.heap[g]? = some (.cells #[.int .i64 3, .int .i64 5, .string ⟨#[]⟩, .slice none 0 0, .slice none 0 0, .int .i64 4, .int .i64 0, .string ⟨#[97]⟩, .slice none 0 0, .slice none 0 0] 41 (0, 0))) : LRep w (some ⟨g, 0, none⟩) 0 [awA, awB] := by
  have hc := blk_cell h
  unfold LRep
  refine ⟨⟨g, 0, _, _, _, _, _, rfl, hc 0, hc 1, hc 2, hc 3, hc 4, leaf_rep w 3 5 ⟨#[]⟩ (by unfold I64; omega) (by unfold I64; omega) (by unfold maxLen; decide)⟩, ?_⟩
  unfold LRep
  refine ⟨⟨g, 0, _, _, _, _, _, rfl, hc 5, hc 6, hc 7, hc 8, hc 9, leaf_rep w 4 0 ⟨#[97]⟩ (by unfold I64; omega) (by unfold I64; omega) (by unfold maxLen; decide)⟩, ?_⟩
  unfold LRep; trivial
theorem aw_bools {w : World} {g : Nat} (h : w.heap[g]? = some (.cells #[.bool false, .bool true] 4 (0, 0))) : BRep w (some ⟨g, 0, none⟩) [false, true] := by
  have hc := blk_cell h
  intro j d hj
  match j, hj with
  | 0, hj => injection hj with hj; subst hj; exact ⟨g, 0, rfl, hc 0⟩
  | 1, hj => injection hj with hj; subst hj; exact ⟨g, 0, rfl, hc 1⟩
  | j + 2, hj => simp at hj
set_option maxRecDepth 20000 in
set_option maxHeartbeats 2000000 in
theorem awake_ok (w : World) (hT : Tabs w) : Calls Tryd.prog 10 #[] w fun e w' => e = .returned (.bool true) ∧ Ext w w' := by
  have HT := Lib.hid hT
  clear hT
  go_enter Tryd.func10, Tryd.ntmps10
  go_wp2_with fail
  refine (Encode_ok [awA, awB] [false, true] _ _ 2 2 _ (aw_list (blk_alloc (blk_at0 w _) _)) (by simp) (by unfold maxLen; omega) (aw_bools (blk_at1 w _ _)) (by simp) (by unfold maxLen; omega) (by simp) (HT.out.ext (((Ext.refl w).alloc _).alloc _))).mono ?_
  rw [aw_enc]
  rintro e w1 ⟨rfl, h1⟩
  have HE1 := Lib.hid ((((Ext.refl w).alloc _).alloc _).trans h1)
  clear h1
  go_wp2_with fail
  refine (Decode_ok ⟨#[2, 253]⟩ [false, true] _ 2 _ (by decide) (aw_bools (blk_at0 w1 _)) (by simp) (by unfold maxLen; omega) (by simp) (HT.out.ext (HE1.out.alloc _))).mono ?_
  rw [aw_dec]
  rintro e w2 ⟨a, c, rfl, hc1, hc2, hL, h2⟩
  have HE2 := Lib.hid (HE1.out.trans h2.of_alloc)
  obtain ⟨b, off, c0, c1, c2, c3, c4, rfl, e0, -, -, -, -, hv⟩ := LRep.at_ _ 0 1 (.mk 2 0 ⟨#[]⟩ [] [] []) hL rfl
  unfold VRep at hv
  obtain ⟨_, _, _, _, ev, -⟩ := hv
  injection ev with ev
  simp only [Array.mk.injEq, List.cons.injEq] at ev
  obtain ⟨rfl, -⟩ := ev
  have HC0 := Lib.hid e0
  clear h2 hL e0
  go_wp2_with fail
  refine (After_ok ⟨#[97, 255]⟩ _ (by decide)).mono ?_
  rw [aw_aft]
  rintro e w3 ⟨rfl, h3⟩
  have HE3 := Lib.hid (HE2.out.trans h3)
  have q0 := h3.keep HC0.out
  have hb : b < w3.heap.size := World.block_lt_of_cell? _ _ q0
  simp only [Nat.zero_add, Nat.one_mul] at q0
  unfold maxLen at hc2
  simp at hc1
  clear h3 HC0
  go_wp2_with fail
  go_ret
  exact ⟨rfl, HE3.out⟩
def preB (p x : ByteArray) : Bool := p.data.toList.isPrefixOf x.data.toList
theorem isPre_take (p x : List UInt8) : p.isPrefixOf x = decide (x.take p.length = p) := by
  by_cases h : x.take p.length = p
  · rw [decide_eq_true h]; exact List.isPrefixOf_iff_prefix.2 (by rw [← h]; exact List.take_prefix _ _)
  · rw [decide_eq_false h, Bool.eq_false_iff]
    intro h2
    obtain ⟨y, hy⟩ := List.isPrefixOf_iff_prefix.1 h2
    exact h (by rw [← hy]; simp)
theorem extract_eq (x p : ByteArray) : (x.extract 0 p.size = p) ↔ x.data.toList.take p.data.toList.length = p.data.toList := by
  have hl : p.data.toList.length = p.size := by simp
  constructor
  · intro h
    have := congrArg (fun b : ByteArray => b.data.toList) h
    simp only [ByteArray.data_extract, Array.toList_extract] at this
    rw [hl, ← this]; simp
  · intro h
    apply bytes_ext
    rw [ByteArray.data_extract, Array.toList_extract, ← hl]
    simpa using h
set_option maxRecDepth 20000 in
set_option maxHeartbeats 2000000 in
theorem HasPrefix2_ok (x p : ByteArray) (w : World) (hp : p.size ≤ 140737488355327) (hx : x.size ≤ 140737488355327) : Calls Tryd.prog 31 #[.string x, .string p] w fun e w' => e = .returned (.bool (preB p x)) ∧ w = w' := by
  have hlp : p.data.toList.length = p.size := by simp
  have hlx : x.data.toList.length = x.size := by simp
  by_cases h : p.size ≤ x.size
  · have d : decide (p.size ≤ x.size) = true := by simpa using h
    have hr : preB p x = ((x.extract 0 p.size).toList == p.toList) := by
      unfold preB
      rw [isPre_take, str_eqv]
      by_cases e : x.extract 0 p.size = p
      · rw [decide_eq_true e, decide_eq_true ((extract_eq x p).1 e)]
      · rw [decide_eq_false e, decide_eq_false (fun e2 => e ((extract_eq x p).2 e2))]
    rw [hr]
    clear hr hlp hlx
    go_enter Tryd.func31, Tryd.ntmps31
    go_wp2_with fail
    go_ret
    exact ⟨rfl, rfl⟩
  · have d : decide (p.size ≤ x.size) = false := by simpa using h
    have hr : preB p x = false := by
      unfold preB
      rw [isPre_take, decide_eq_false]
      intro e
      have := congrArg List.length e
      rw [List.length_take, hlp, hlx] at this; omega
    rw [hr]
    clear hr hlp hlx
    go_enter Tryd.func31, Tryd.ntmps31
    go_wp2_with fail
    go_ret
    exact ⟨rfl, rfl⟩
set_option maxRecDepth 20000 in
theorem HasPrefix_ok (x p : ByteArray) (w : World) (hp : p.size ≤ 140737488355327) (hx : x.size ≤ 140737488355327) : Calls Tryd.prog 18 #[.string x, .string p] w fun e w' => e = .returned (.bool (preB p x)) ∧ w = w' := by
  go_enter Tryd.func18, Tryd.ntmps18
  go_wp2_with fail
  refine (HasPrefix2_ok x p _ hp hx).mono ?_
  rintro e w1 ⟨rfl, rfl⟩
  go_wp2_with fail
  go_ret
  exact ⟨rfl, rfl⟩
set_option maxRecDepth 20000 in
set_option maxHeartbeats 2000000 in
theorem after_walk (p x : ByteArray) (w : World) (hp : p.size ≤ 140737488355327) (hx : x.size ≤ 140737488355327) (hT : Tabs w) : Calls Tryd.prog 7 #[.string p, .string x] w fun e w' => e = .returned (.bool true) ∧ Ext w w' := by
  have HT := Lib.hid hT
  clear hT
  obtain ⟨r, hr⟩ : ∃ r, aftR p = r := ⟨_, rfl⟩
  obtain ⟨a, b⟩ := r
  have HR := Lib.hid hr
  cases b
  · obtain ⟨rfl, hall⟩ := aft_none hr
    have HAll := Lib.hid hall
    clear hr hall
    go_enter Tryd.func7, Tryd.ntmps7
    go_wp2_with fail
    refine (After_ok p _ hp).mono ?_
    rw [HR.out]
    rintro e w1 ⟨rfl, h1⟩
    have HE1 := Lib.hid h1
    clear h1
    go_wp2_with fail
    go_loopw [17] (fun i wr => ∃ j : Nat, j ≤ p.size ∧ i = .int .i64 j ∧ wr = w1) (fun i _ => p.size - (intOf i).toNat)
    case atStart => exact ⟨0, by omega, rfl, rfl⟩
    case round =>
      obtain ⟨j, hj, rfl, rfl⟩ := hrel
      by_cases hlt : j < p.size
      · have hb := kbyte_at' p j hlt
        rw [HAll.out j hlt] at hb
        go_wp2_with fail
        exact ⟨⟨j + 1, by omega, by go_num, trivial⟩, by simp [intOf]; omega⟩
      · go_wp2_with fail
        refine (awake_ok _ (HT.out.ext HE1.out)).mono ?_
        rintro e w2 ⟨rfl, h2⟩
        go_wp2_with fail
        go_ret
        exact ⟨rfl, HE1.out.trans h2⟩
  · obtain ⟨u, b, s, hb, hs, ep, ea⟩ := aft_split hr
    have h1 := aft_more b hb s u
    have h2 := aft_range b hb s hs u x.data.toList
    rw [← ep, ← ea] at h1 h2
    have d1 : Op.bytesLess a.toList p.toList = false := by rw [ByteArray.toList_eq, ByteArray.toList_eq]; exact h1.1
    have d2 : (a.toList == p.toList) = false := by rw [ByteArray.toList_eq, ByteArray.toList_eq, beq_eq_false_iff_ne]; exact h1.2
    have h2' : preB p x = (!Op.bytesLess x.toList p.toList && Op.bytesLess x.toList a.toList) := by
      rw [ByteArray.toList_eq, ByteArray.toList_eq, ByteArray.toList_eq]; exact h2
    have HP := Lib.hid h2'
    clear hr h1 h2 h2' ep ea hb hs
    go_enter Tryd.func7, Tryd.ntmps7
    go_wp2_with fail
    refine (After_ok p _ hp).mono ?_
    rw [HR.out]
    rintro e w1 ⟨rfl, h1⟩
    have HE1 := Lib.hid h1
    clear h1
    go_wp2_with fail
    refine (HasPrefix_ok x p _ hp hx).mono ?_
    rintro e w2 ⟨rfl, rfl⟩
    rw [HP.out]
    obtain ⟨b1, hb1⟩ : ∃ b, Op.bytesLess x.toList p.toList = b := ⟨_, rfl⟩
    obtain ⟨b2, hb2⟩ : ∃ b, Op.bytesLess x.toList a.toList = b := ⟨_, rfl⟩
    rw [hb1, hb2]
    cases b1 <;> cases b2
    all_goals
      go_wp2_with fail
      refine (awake_ok _ (HT.out.ext HE1.out)).mono ?_
      rintro e w3 ⟨rfl, h3⟩
      go_wp2_with fail
      go_ret
      exact ⟨rfl, HE1.out.trans h3⟩
end Go.Proofs.YtipphlhaaienpaaDoor
set_option linter.unusedSimpArgs false
set_option linter.unusedVariables false
namespace Go.Proofs.YtipphlhaaienpaaDoor
open Go.ChangeShapes Go.WideShapes Go.ChangeAt Go.RowKit
section
variable {H : Type} {enc : TypeId × Value → H} {w : World}
theorem cellsBool : Tryd.prog.cellsOf 4 = 1 := by kernel_rfl
theorem brep_arg {v : Value} {d : DataW H} {ps : List MemPlace} {base : Nat} (hval : Value.okWide Tryd.prog w .any base 23 v) (h : DataW.Trod enc Tryd.prog w 0 (fun _ => true) true 23 v d ps) : ∃ (a : Option Addr) (ds : List Bool) (c : Nat), v = .slice a ds.length c ∧ ds.length ≤ c ∧ c ≤ maxLen ∧ BRep w a ds := by
  obtain ⟨fuel, hf⟩ := h
  obtain ⟨a0, len0, cap0, rfl⟩ := okWide_slice Tryd.underlying23 hval
  rcases DataW.trod_slice Tryd.underlying23 hf with ⟨e, _⟩ | ⟨a, len, cap, elems, rest, m, rfl, e, -, -, hlc, hcm, hel, hat, -, -⟩
  · simp only [Value.cells, List.cons.injEq, and_true] at e
    exact ⟨none, [], 0, e, by simp, by unfold maxLen; omega, fun j d hj => by simp at hj⟩
  · simp only [Value.cells, List.cons.injEq, and_true] at e
    rw [e]
    simp only [cellsBool, Nat.mul_one] at hat
    have each : ∀ j, j < len → ∃ b : Bool, w.cell? (a.add j) = some (.bool b) := by
      intro j hj
      obtain ⟨cs', y, hc, hy⟩ := bind_some (by omega) (hat j hj)
      obtain ⟨b, rfl, _⟩ := DataW.trod_bool Tryd.underlying4 hy
      refine ⟨b, ?_⟩
      have := (World.cells?_some hc).2.2 0 (by simp)
      have h0 : ∀ x : Addr, x.add 0 = x := fun x => by unfold Addr.add; simp
      rw [h0] at this
      rw [this]; rfl
    cases len with
    | zero => exact ⟨some a, [], cap, rfl, by simp, hcm, fun j d hj => by simp at hj⟩
    | succ len =>
      have ha : a = ⟨a.block, a.off, none⟩ := by
        obtain ⟨b, hc⟩ := each 0 (by omega)
        have h0 : a.add 0 = a := by unfold Addr.add; simp
        rw [h0] at hc
        exact spot_none hc
      obtain ⟨bl, off, sp⟩ := a
      simp only [Addr.mk.injEq, true_and] at ha
      subst ha
      have hex : ∀ n, n ≤ len + 1 → ∃ ds : List Bool, ds.length = n ∧ ∀ j d, ds[j]? = some d → w.cell? ⟨bl, off + j, none⟩ = some (.bool d) := by
        intro n
        induction n with
        | zero => intro _; exact ⟨[], rfl, fun j d hj => by simp at hj⟩
        | succ n ih =>
          intro hn
          obtain ⟨ds, h1, h2⟩ := ih (by omega)
          obtain ⟨b, hb⟩ := each n (by omega)
          rw [add_plain2] at hb
          refine ⟨ds ++ [b], by simp [h1], fun j d hj => ?_⟩
          by_cases hjn : j < ds.length
          · rw [List.getElem?_append_left hjn] at hj; exact h2 j d hj
          · have hjn2 : j = n := by
              have := (List.getElem?_eq_some_iff.1 hj).1
              simp at this; omega
            subst hjn2
            rw [List.getElem?_append_right (by omega), h1, Nat.sub_self] at hj
            injection hj with hj; subst hj; exact hb
      obtain ⟨ds, h1, h2⟩ := hex (len + 1) (Nat.le_refl _)
      exact ⟨some ⟨bl, off, none⟩, ds, cap, by rw [h1], by omega, hcm, fun j d hj => ⟨bl, off, rfl, h2 j d hj⟩⟩
end
set_option maxRecDepth 20000 in
set_option maxHeartbeats 2000000 in
theorem only_walk (s : ByteArray) (ds : List Bool) (da : Option Addr) (dc : Nat) (w : World) (hs : s.size ≤ maxLen) (hD : BRep w da ds) (hd1 : ds.length ≤ dc) (hd2 : dc ≤ maxLen) (hT : Tabs w) : Calls Tryd.prog 6 #[.string s, .slice da ds.length dc] w fun e w' => e = .returned (.bool true) ∧ Ext w w' := by
  have HT := Lib.hid hT
  have HD := Lib.hid hD
  have HM := Lib.hid hd2
  clear hT hD
  unfold maxLen at hs hd2
  by_cases h2 : 20000 < s.size
  · have d : decide (20000 < (s.size : Int)) = true := by simp; omega
    go_enter Tryd.func6, Tryd.ntmps6
    go_wp2_with fail
    refine (awake_ok _ HT.out).mono ?_
    rintro e w2 ⟨rfl, h2⟩
    go_wp2_with fail
    go_ret
    exact ⟨rfl, h2⟩
  have d : decide (20000 < (s.size : Int)) = false := by simp; omega
  by_cases h4 : 40 < ds.length
  · have d4 : decide (40 < (ds.length : Int)) = true := by simp; omega
    go_enter Tryd.func6, Tryd.ntmps6
    go_wp2_with fail
    refine (awake_ok _ HT.out).mono ?_
    rintro e w2 ⟨rfl, h2⟩
    go_wp2_with fail
    go_ret
    exact ⟨rfl, h2⟩
  have d4 : decide (40 < (ds.length : Int)) = false := by simp; omega
  obtain ⟨r, hr⟩ : ∃ r, kdecE s ds = r := ⟨_, rfl⟩
  have HR := Lib.hid hr
  have HO := Lib.hid (fun ts (h : r = .ok ts) => kdec_only (hr.trans h))
  have HZ := Lib.hid (fun c (h : r = .error c) => kdec_err (hr.trans h))
  clear hr
  go_enter Tryd.func6, Tryd.ntmps6
  go_wp2_with fail
  refine (Decode_ok s ds da dc _ (by omega) HD.out hd1 HM.out (by omega) HT.out).mono ?_
  rw [HR.out]
  cases r with
  | error c =>
    rintro e w1 ⟨rfl, h1⟩
    have HE1 := Lib.hid h1
    have hc := HZ.out c rfl
    have d1 : (c != 0) = true := by simpa using hc
    clear h1 hc
    go_wp2_with fail
    refine (awake_ok _ (HT.out.ext HE1.out)).mono ?_
    rintro e w2 ⟨rfl, h2⟩
    go_wp2_with fail
    go_ret
    exact ⟨rfl, HE1.out.trans h2⟩
  | ok ts =>
    rintro e w1 ⟨a, c, rfl, hc1, hc2, hL, h1⟩
    have HE1 := Lib.hid h1
    have HL := Lib.hid hL
    obtain ⟨hlen, henc⟩ := HO.out ts rfl
    have HEn := Lib.hid henc
    have HLe := Lib.hid hlen
    have h40 : ts.length ≤ 40 := by omega
    have d5 : ((ts.length : Int) == (ds.length : Int)) = true := by simp; omega
    have d6 : (ts.length == ds.length) = true := by simpa using hlen
    clear h1 hL henc hlen
    go_wp2_with fail
    refine (Encode_ok ts ds a da c dc _ HL.out hc1 hc2 (HD.out.ext HE1.out) hd1 HM.out h40 (HT.out.ext HE1.out)).mono ?_
    rw [HEn.out]
    rintro e w2 ⟨rfl, h2⟩
    have HE2 := Lib.hid (HE1.out.trans h2)
    clear h2
    go_wp2_with fail
    refine (awake_ok _ (HT.out.ext HE2.out)).mono ?_
    rintro e w3 ⟨rfl, h3⟩
    go_wp2_with fail
    go_ret
    exact ⟨rfl, HE2.out.trans h3⟩
end Go.Proofs.YtipphlhaaienpaaDoor
set_option linter.unusedSimpArgs false
set_option linter.unusedVariables false
namespace Go.Proofs.YtipphlhaaienpaaDoor
open Go.RowKit
mutual
/-- names and fields go together, integers are integers -/
def Tr.Ok : Tr → Prop | .mk _ i _ l ns ds => ns.length = ds.length ∧ I64 i ∧ Tr.OkL l ∧ Tr.OkL ds
def Tr.OkL : List Tr → Prop | [] => True | t :: r => Tr.Ok t ∧ Tr.OkL r
end
mutual
theorem VRep.trok {w : World} : ∀ (t : Tr) (v : Value), VRep w t v → t.Ok
  | .mk k i s l ns ds, v, hv => by
    unfold VRep at hv
    unfold Tr.Ok
    obtain ⟨la, lc, da, dc, h1, h2, h3, h4, h5, h6, h7, h8, h9⟩ := hv
    exact ⟨h7, h2.2.2, LRep.trok la 0 l h8, DRep.trok da 0 ns ds h9⟩
theorem LRep.trok {w : World} (a : Option Addr) : ∀ (o : Nat) (l : List Tr), LRep w a o l → Tr.OkL l
  | _, [], _ => by unfold Tr.OkL; trivial
  | o, t :: r, hl => by
    unfold LRep at hl
    unfold Tr.OkL
    obtain ⟨⟨b, off, c0, c1, c2, c3, c4, h0, h1, h2, h3, h4, h5, h6⟩, hr⟩ := hl
    exact ⟨VRep.trok t _ h6, LRep.trok a (o + 5) r hr⟩
theorem DRep.trok {w : World} (a : Option Addr) : ∀ (o : Nat) (ns : List ByteArray) (l : List Tr), DRep w a o ns l → Tr.OkL l
  | _, _, [], _ => by unfold Tr.OkL; trivial
  | _, [], _ :: _, hl => by unfold DRep at hl; exact hl.elim
  | o, n :: nr, t :: r, hl => by
    unfold DRep at hl
    unfold Tr.OkL
    obtain ⟨⟨b, off, c0, c1, c2, c3, c4, h0, hn, h1, h2, h3, h4, h5, h6, h7⟩, hr⟩ := hl
    exact ⟨VRep.trok t _ h7, DRep.trok a (o + 6) nr r hr⟩
end
theorem Tr.OkL_mem {l : List Tr} (h : Tr.OkL l) : ∀ t ∈ l, t.Ok := by
  induction l with
  | nil => intro t ht; cases ht
  | cons x r ih =>
    unfold Tr.OkL at h
    intro t ht
    rcases List.mem_cons.1 ht with rfl | ht
    · exact h.1
    · exact ih h.2 t ht

theorem depL_mem {l : List Tr} {t : Tr} (h : t ∈ l) : t.dep ≤ Tr.depL l := by
  induction l with
  | nil => cases h
  | cons x r ih =>
    simp only [Tr.depL]
    rcases List.mem_cons.1 h with rfl | h
    · omega
    · have := ih h; omega
theorem Lies.len {s : ByteArray} {fl : UInt8} {p q : Nat} {l : List UInt8} (h : Lies s fl p q l) : q = p + l.length := by
  have := congrArg List.length h.2.2
  have h1 := h.1
  have h2 := h.2.1
  unfold seg at this
  simp only [List.length_take, List.length_drop, List.length_map] at this
  have hs : s.data.toList.length = s.size := by simp
  omega
theorem seg_len (s : ByteArray) {p q : Nat} (h1 : p ≤ q) (h2 : q ≤ s.size) : (seg s p q).length = q - p := by
  have hs : s.data.toList.length = s.size := by simp
  unfold seg
  simp only [List.length_take, List.length_drop]
  omega
theorem Lies.split {s : ByteArray} {fl : UInt8} {p r : Nat} {l m : List UInt8} (h : Lies s fl p r (l ++ m)) : ∃ q, Lies s fl p q l ∧ Lies s fl q r m := by
  have hl := h.len
  rw [List.length_append] at hl
  have h1 := h.2.1
  refine ⟨p + l.length, ?_⟩
  have e := h.2.2
  rw [← seg_trans s (show p ≤ p + l.length by omega) (show p + l.length ≤ r by omega), List.map_append] at e
  have h3 := List.append_inj e (by rw [seg_len s (by omega) (by omega), List.length_map]; omega)
  exact ⟨⟨by omega, by omega, h3.1⟩, ⟨by omega, by omega, h3.2⟩⟩
theorem Lies.next {s : ByteArray} {fl : UInt8} {p q : Nat} {b : UInt8} (h : Lies s fl p q [b]) : nextE s fl p = .ok (b, q) := by
  have hl := h.len
  simp only [List.length_cons, List.length_nil] at hl
  have h1 := h.2.1
  have hs : s.data.toList.length = s.size := by simp
  unfold nextE
  rw [if_pos (by omega)]
  have e := h.2.2
  unfold seg at e
  rw [show q - p = 1 by omega, List.drop_eq_getElem_cons (by omega)] at e
  simp only [List.take_succ_cons, List.take_zero, List.map_cons, List.map_nil, List.cons.injEq, and_true] at e
  have hk : kbyte s p = b ^^^ fl := by
    unfold kbyte
    rw [List.getD_eq_getElem?_getD, List.getElem?_eq_getElem (by omega)]; exact e
  rw [hk, xor_back, hl]
theorem num_back {s : ByteArray} {fl : UInt8} : ∀ (bs : List UInt8) (p q u : Nat), Lies s fl p q bs → numN s fl bs.length p u = .ok (bs.foldl (fun a b => a * 256 + b.toNat) u, q)
  | [], p, q, u, h => by have := h.len; simp at this; subst this; rfl
  | b :: bs, p, q, u, h => by
    obtain ⟨q1, h1, h2⟩ := Lies.split (l := [b]) (m := bs) h
    simp only [List.length_cons, numN, h1.next, List.foldl_cons]
    exact num_back bs q1 q _ h2
theorem num8_fold (u : Nat) (h : u < 18446744073709551616) : (num8 u).foldl (fun a b => a * 256 + b.toNat) 0 = u := by
  simp only [num8, List.foldl_cons, List.foldl_nil, UInt8.toNat_ofNat']
  omega
theorem text_back {s : ByteArray} {fl : UInt8} : ∀ (m : List UInt8) (n p q : Nat) (acc : List UInt8), m.length < n → Lies s fl p q (esc m ++ [0, 0]) → textE s fl n p acc = .ok (acc ++ m, q)
  | [], n, p, q, acc, hn, h => by
    obtain ⟨n, rfl⟩ : ∃ k, n = k + 1 := ⟨n - 1, by omega⟩
    simp only [esc, List.nil_append] at h
    obtain ⟨q1, h1, h2⟩ := Lies.split (l := [0]) (m := [0]) h
    simp [textE, h1.next, h2.next]
  | c :: m, n, p, q, acc, hn, h => by
    obtain ⟨n, rfl⟩ : ∃ k, n = k + 1 := ⟨n - 1, by simp at hn; omega⟩
    simp only [esc, List.append_assoc] at h
    by_cases hc : c = 0
    · subst hc
      simp only [escC, if_pos rfl] at h
      obtain ⟨q1, h1, h2⟩ := Lies.split (l := [0]) (m := 255 :: (esc m ++ [0, 0])) h
      obtain ⟨q2, h3, h4⟩ := Lies.split (l := [255]) (m := esc m ++ [0, 0]) h2
      have := text_back m n q2 q (acc ++ [0]) (by simp at hn; omega) h4
      simp only [textE, h1.next, h3.next]
      rw [if_neg (by simp), if_neg (by decide), if_neg (by simp), this]; simp
    · simp only [escC, if_neg hc] at h
      obtain ⟨q1, h1, h2⟩ := Lies.split (l := [c]) (m := esc m ++ [0, 0]) h
      have := text_back m n q1 q (acc ++ [c]) (by simp at hn; omega) h2
      simp only [textE, h1.next]
      rw [if_pos hc, this]; simp
theorem name_back {s : ByteArray} {fl : UInt8} : ∀ (m : List UInt8) (n p q : Nat) (acc : List UInt8), m.length < n → (∀ c ∈ m, c ≠ 0) → Lies s fl p q (m ++ [0]) → nameE s fl n p acc = .ok (acc ++ m, q)
  | [], n, p, q, acc, hn, _, h => by
    obtain ⟨n, rfl⟩ : ∃ k, n = k + 1 := ⟨n - 1, by omega⟩
    simp only [List.nil_append] at h
    simp [nameE, h.next]
  | c :: m, n, p, q, acc, hn, hc, h => by
    obtain ⟨n, rfl⟩ : ∃ k, n = k + 1 := ⟨n - 1, by simp at hn; omega⟩
    obtain ⟨q1, h1, h2⟩ := Lies.split (l := [c]) (m := m ++ [0]) h
    have := name_back m n q1 q (acc ++ [c]) (by simp at hn; omega) (fun x hx => hc x (by simp [hx])) h2
    simp only [nameE, h1.next]
    rw [if_neg (hc c (by simp)), this]; simp
theorem more_back {s : ByteArray} {fl : UInt8} {p q : Nat} (b : Bool) (h : Lies s fl p q [if b then 1 else 0]) : moreE s fl p = .ok (b, q) := by
  unfold moreE
  rw [h.next]
  cases b <;> simp [moreK]
theorem list_back {s : ByteArray} {fl : UInt8} {f : Nat → Except Int (Tr × Nat)} : ∀ (l : List Tr) (n p q : Nat) (acc : List Tr), l.length < n → (∀ t ∈ l, ∀ p q, Lies s fl p q (kenc t) → f p = .ok (t, q)) → Lies s fl p q (kencL l ++ [0]) → klistE s fl f n p acc = .ok (acc ++ l, q)
  | [], n, p, q, acc, hn, _, h => by
    obtain ⟨n, rfl⟩ : ∃ k, n = k + 1 := ⟨n - 1, by omega⟩
    simp only [kencL, List.nil_append] at h
    simp [klistE, more_back false h]
  | t :: l, n, p, q, acc, hn, hf, h => by
    obtain ⟨n, rfl⟩ : ∃ k, n = k + 1 := ⟨n - 1, by simp at hn; omega⟩
    simp only [kencL, List.append_assoc] at h
    obtain ⟨q1, h1, h2⟩ := Lies.split h
    obtain ⟨q2, h3, h4⟩ := Lies.split h2
    have := list_back l n q2 q (acc ++ [t]) (by simp at hn; omega) (fun x hx => hf x (by simp [hx])) h4
    simp only [klistE, more_back true h1, hf t (by simp) q1 q2 h3]
    rw [this]; simp
theorem doc_back {s : ByteArray} {fl : UInt8} {f : Nat → Except Int (Tr × Nat)} : ∀ (ns : List ByteArray) (ds : List Tr) (n p q : Nat) (an : List ByteArray) (ad : List Tr), ns.length = ds.length → ds.length < n → (∀ m ∈ ns, ∀ c ∈ m.data.toList, c ≠ 0) → (∀ t ∈ ds, ∀ p q, Lies s fl p q (kenc t) → f p = .ok (t, q)) → Lies s fl p q (kencF ns ds ++ [0]) → kdocE s fl f n p an ad = .ok ((an ++ ns, ad ++ ds), q)
  | [], [], n, p, q, an, ad, _, hn, _, _, h => by
    obtain ⟨n, rfl⟩ : ∃ k, n = k + 1 := ⟨n - 1, by omega⟩
    simp only [kencF, List.nil_append] at h
    simp [kdocE, more_back false h]
  | [], _ :: _, _, _, _, _, _, hl, _, _, _, _ => by simp at hl
  | _ :: _, [], _, _, _, _, _, hl, _, _, _, _ => by simp at hl
  | m :: ns, t :: ds, n, p, q, an, ad, hl, hn, hm, hf, h => by
    obtain ⟨n, rfl⟩ : ∃ k, n = k + 1 := ⟨n - 1, by simp at hn; omega⟩
    simp only [kencF, List.append_assoc] at h
    obtain ⟨q1, h1, h2⟩ := Lies.split h
    rw [← List.append_assoc m.data.toList] at h2
    obtain ⟨q2, h3, h4⟩ := Lies.split h2
    obtain ⟨q3, h5, h6⟩ := Lies.split h4
    have hsz : m.data.toList.length < s.size + 1 := by
      have h9 := h3.len; have h10 := h3.2.1; simp only [List.length_append] at h9; omega
    have hnm := name_back m.data.toList (s.size + 1) q1 q2 [] hsz (hm m (by simp)) h3
    have := doc_back ns ds n q3 q (an ++ [⟨m.data.toList.toArray⟩]) (ad ++ [t]) (by simpa using hl) (by simp at hn; omega) (fun x hx => hm x (by simp [hx])) (fun x hx => hf x (by simp [hx])) h6
    have em : (⟨m.data.toList.toArray⟩ : ByteArray) = m := by cases m; simp
    simp only [kdocE, more_back true h1, hnm, List.nil_append, hf t (by simp) q2 q3 h5]
    rw [this, em]; simp
theorem nameB_nz {n : ByteArray} (h : nameB n = true) : ∀ c ∈ n.data.toList, c ≠ 0 := by
  intro c hc e
  subst e
  unfold nameB nameL at h
  split at h
  · cases h
  · simp only [Bool.and_eq_true, List.all_eq_true] at h
    have := h.2 0 (by assumption)
    revert this; decide
theorem head_parts {k i : Int} {s : ByteArray} {nl nd : Nat} (h : headOk k i s nl nd = true) : (k ≠ 3 → k ≠ 9 → k ≠ 10 → i = 0) ∧ (k ≠ 4 → k ≠ 7 → k ≠ 8 → s.size = 0) ∧ (k ≠ 6 → nl = 0) ∧ (k ≠ 5 → nd = 0) := by
  unfold headOk at h
  simp only [Bool.and_eq_true, Bool.or_eq_true, beq_iff_eq, decide_eq_true_eq] at h
  obtain ⟨⟨⟨h1, h2⟩, h3⟩, h4⟩ := h
  refine ⟨fun a b c => ?_, fun a b c => ?_, fun a => ?_, fun a => ?_⟩
  · rcases h1 with ((h | h) | h) | h <;> first | exact absurd h (by assumption) | exact h
  · rcases h2 with ((h | h) | h) | h <;> first | exact absurd h (by assumption) | exact h
  · rcases h3 with h | h <;> first | exact absurd h (by assumption) | exact h
  · rcases h4 with h | h <;> first | exact absurd h (by assumption) | exact h
theorem kv_back (s : ByteArray) (fl : UInt8) : ∀ (d : Nat) (t : Tr), t.Ok → snd t = true → t.dep ≤ d → ∀ p q, Lies s fl p q (kenc t) → kvE s fl d p = .ok (t, q) := by
  intro d
  induction d with
  | zero => intro t _ _ hd; have := t.dep_pos; omega
  | succ d ih =>
    intro t hO hsd hd p q h
    obtain ⟨k, i, x, l, ns, ds⟩ := t
    obtain ⟨h1, h2, h3, h4⟩ := snd_list hsd
    unfold Tr.Ok at hO
    obtain ⟨hln, hi, hOl, hOd⟩ := hO
    obtain ⟨p1, p2, p3, p4⟩ := head_parts h1
    have hk : 1 ≤ k ∧ k ≤ 11 := by
      unfold leafOk at h2
      by_cases c1 : k = 1 ∨ k = 2 ∨ k = 11 ∨ k = 3
      · omega
      rw [if_neg c1] at h2
      by_cases c2 : k = 9
      · omega
      rw [if_neg c2] at h2
      by_cases c3 : k = 10
      · omega
      rw [if_neg c3] at h2
      by_cases c4 : k = 4
      · omega
      rw [if_neg c4] at h2
      by_cases c5 : k = 7
      · omega
      rw [if_neg c5] at h2
      by_cases c6 : k = 8
      · omega
      rw [if_neg c6] at h2
      simp at h2; omega
    obtain ⟨m, rfl⟩ : ∃ m : Nat, k = m := Int.eq_ofNat_of_zero_le (by omega)
    simp only [kenc, Int.toNat_natCast] at h
    obtain ⟨q1, hn, hr⟩ := Lies.split h
    have hb : (UInt8.ofNat m).toNat = m := by rw [UInt8.toNat_ofNat']; omega
    simp only [kvE, hn.next, hb, kvK]
    rw [if_neg (by omega)]
    have hnil : ∀ (h5 : (m : Int) ≠ 5), ns = [] ∧ ds = [] := fun h5 => by
      have := p4 h5
      exact ⟨List.eq_nil_of_length_eq_zero (by omega), List.eq_nil_of_length_eq_zero this⟩
    by_cases c3 : m = 3 ∨ m = 9 ∨ m = 10
    · rw [if_pos (by omega)] at hr
      rw [if_pos c3]
      have hu := uOf_lt i hi
      have := num_back (num8 (uOf i)) q1 q 0 hr
      rw [num8_fold _ hu, show (num8 (uOf i)).length = 8 from rfl] at this
      rw [this]
      obtain ⟨rfl, rfl⟩ := hnil (by omega)
      obtain rfl : l = [] := List.eq_nil_of_length_eq_zero (p3 (by omega))
      obtain rfl := bytes_nil (p2 (by omega) (by omega) (by omega))
      have e : ((uOf i : Nat) : Int) - 9223372036854775808 = i := by unfold I64 at hi; unfold uOf; omega
      simp only [numT, kLeaf, e]
    rw [if_neg (by omega)] at hr
    rw [if_neg c3]
    by_cases c4 : m = 4 ∨ m = 7 ∨ m = 8
    · rw [if_pos (by omega)] at hr
      rw [if_pos c4]
      have hsz : x.data.toList.length < s.size + 1 := by
        have h9 := hr.len; have := hr.2.1
        simp only [List.length_append] at h9
        have : x.data.toList.length ≤ (esc x.data.toList).length := by
          have : ∀ l : List UInt8, l.length ≤ (esc l).length := fun l => by
            induction l with
            | nil => simp [esc]
            | cons c r ih => simp only [esc, List.length_append, List.length_cons, escC]; split <;> simp <;> omega
          exact this _
        omega
      have := text_back x.data.toList (s.size + 1) q1 q [] hsz hr
      rw [this]
      obtain ⟨rfl, rfl⟩ := hnil (by omega)
      obtain rfl : l = [] := List.eq_nil_of_length_eq_zero (p3 (by omega))
      have hi0 : i = 0 := p1 (by omega) (by omega) (by omega)
      subst hi0
      have em : (⟨x.data.toList.toArray⟩ : ByteArray) = x := by cases x; simp
      simp only [textT, kLeaf, List.nil_append, em]
    rw [if_neg (by omega)] at hr
    rw [if_neg c4]
    have hi0 : i = 0 := p1 (by omega) (by omega) (by omega)
    subst hi0
    obtain rfl := bytes_nil (p2 (by omega) (by omega) (by omega))
    have hdep : (Tr.mk (m : Int) 0 ⟨#[]⟩ l ns ds).dep ≤ d + 1 := hd
    by_cases c6 : m = 6
    · subst c6
      rw [if_pos (by rfl)] at hr
      rw [if_pos rfl]
      obtain ⟨rfl, rfl⟩ := hnil (by decide)
      have hdl : Tr.depL l ≤ d := by simp only [Tr.dep] at hdep; rw [if_pos (by rfl)] at hdep; omega
      have hsz : l.length < s.size + 1 := by
        have h9 := hr.len; have := hr.2.1; have := kencL_len l
        simp only [List.length_append] at h9; omega
      rw [list_back l (s.size + 1) q1 q [] hsz (fun t ht p q hL => ih t (Tr.OkL_mem hOl t ht) (sndL_mem h3 t ht) (Nat.le_trans (depL_mem ht) hdl) p q hL) hr]
      simp [listT]
    rw [if_neg (by omega)] at hr
    rw [if_neg c6]
    obtain rfl : l = [] := List.eq_nil_of_length_eq_zero (p3 (by omega))
    by_cases c5 : m = 5
    · subst c5
      rw [if_pos (by rfl)] at hr
      rw [if_pos rfl]
      have hdl : Tr.depL ds ≤ d := by simp only [Tr.dep] at hdep; rw [if_neg (by decide), if_pos (by rfl)] at hdep; omega
      have hsz : ds.length < s.size + 1 := by
        have h9 := hr.len; have := hr.2.1; have := kencF_len ns ds hln
        simp only [List.length_append] at h9; omega
      rw [doc_back ns ds (s.size + 1) q1 q [] [] hln hsz (fun n hn => nameB_nz (sndF_names h4 hln n hn)) (fun t ht p q hL => ih t (Tr.OkL_mem hOd t ht) (sndF_mem h4 t ht) (Nat.le_trans (depL_mem ht) hdl) p q hL) hr]
      simp [docT]
    rw [if_neg (by omega)] at hr
    rw [if_neg c5]
    obtain ⟨rfl, rfl⟩ := hnil (by omega)
    have := hr.len
    simp only [List.length_nil, Nat.add_zero] at this
    rw [← this]; rfl
theorem kvA_back (s : ByteArray) (fl : UInt8) (t : Tr) (hO : t.Ok) (ha : allowB t = true) (p q : Nat) (h : Lies s fl p q (kenc t)) : kvE s fl 16 p = .ok (t, q) := by
  by_cases hk : t.kind = 0
  · unfold allowB at ha
    rw [if_pos hk] at ha
    obtain ⟨k, i, x, l, ns, ds⟩ := t
    have hk' : k = 0 := hk
    subst hk'
    unfold zeroB at ha
    simp only [Bool.and_eq_true, decide_eq_true_eq] at ha
    obtain ⟨⟨⟨a1, a2⟩, a3⟩, a4⟩ := ha
    unfold Tr.Ok at hO
    have a1' : i = 0 := a1
    have a2' : x.size = 0 := a2
    have a3' : l.length = 0 := a3
    have a4' : ds.length = 0 := a4
    subst a1'
    obtain rfl := bytes_nil a2'
    obtain rfl : l = [] := List.eq_nil_of_length_eq_zero a3'
    obtain rfl : ds = [] := List.eq_nil_of_length_eq_zero a4'
    obtain rfl : ns = [] := List.eq_nil_of_length_eq_zero (by have := hO.1; simpa using this)
    have e : kenc (.mk 0 0 ⟨#[]⟩ [] [] []) = [0] := by simp [kenc]
    rw [e] at h
    simp only [kvE, h.next]
    rfl
  · unfold allowB at ha
    rw [if_neg hk] at ha
    simp only [validB, Bool.and_eq_true, decide_eq_true_eq] at ha
    exact kv_back s fl 16 t hO ha.2 ha.1.2 p q h
theorem kds_back (s : ByteArray) : ∀ (ts : List Tr) (ds : List Bool) (p : Nat) (acc : List Tr), ts.length = ds.length → (∀ t ∈ ts, t.Ok ∧ allowB t = true) → p ≤ s.size → seg s p s.size = kencs ts ds → kdsE s ds p acc = .ok (acc ++ ts, s.size)
  | [], [], p, acc, _, _, hp, h => by
    have := congrArg List.length h
    rw [seg_len s hp (Nat.le_refl _)] at this
    simp only [kencs, List.length_nil] at this
    have : p = s.size := by omega
    subst this; simp [kdsE]
  | [], _ :: _, _, _, hl, _, _, _ => by simp at hl
  | _ :: _, [], _, _, hl, _, _, _ => by simp at hl
  | t :: ts, d :: ds, p, acc, hl, ht, hp, h => by
    have hlen := congrArg List.length h
    rw [seg_len s hp (Nat.le_refl _)] at hlen
    simp only [kencs, List.length_append, kone_len] at hlen
    have hq : p + (kenc t).length ≤ s.size := by omega
    rw [← seg_trans s (show p ≤ p + (kenc t).length by omega) hq] at h
    have h3 := List.append_inj h (by rw [seg_len s (by omega) hq, kone_len]; omega)
    have hL : Lies s (if d then 255 else 0) p (p + (kenc t).length) (kenc t) := by
      refine ⟨by omega, hq, ?_⟩
      rw [h3.1]
      unfold kone
      cases d
      · simp
      · simp only [if_true]
        apply List.map_congr_left
        intro c _; exact flip_xor c
    obtain ⟨hO, ha⟩ := ht t (by simp)
    simp only [kdsE, kvA_back s _ t hO ha p _ hL, ha, if_true]
    rw [kds_back s ts ds (p + (kenc t).length) (acc ++ [t]) (by simpa using hl) (fun x hx => ht x (by simp [hx])) hq h3.2]; simp
theorem kdec_back (ts : List Tr) (ds : List Bool) (hl : ts.length = ds.length) (ht : ∀ t ∈ ts, t.Ok ∧ allowB t = true) : kencE ts ds = (⟨(kencs ts ds).toArray⟩, 0) ∧ kdecE ⟨(kencs ts ds).toArray⟩ ds = .ok ts := by
  constructor
  · unfold kencE
    rw [if_neg (by simpa using hl), if_pos (List.all_eq_true.2 (fun t h => (ht t h).2))]
  · unfold kdecE
    rw [kds_back _ ts ds 0 [] hl ht (by omega) (by unfold seg; exact List.take_of_length_le (by show _ ≤ (kencs ts ds).toArray.size; simp))]
    simp
end Go.Proofs.YtipphlhaaienpaaDoor
set_option linter.unusedSimpArgs false
set_option linter.unusedVariables false
namespace Go.Proofs.YtipphlhaaienpaaDoor
open Go.RowKit
def SameOk (t : Tr) : Prop := ∀ (v v' : Value) (w : World), VRep w t v → VRep w t v' → Calls Tryd.prog 30 #[v, v'] w fun e w' => e = .returned (.bool true) ∧ Ext w w'
set_option maxRecDepth 20000 in
set_option maxHeartbeats 4000000 in
theorem sameL_of (l : List Tr) (ih : ∀ t ∈ l, SameOk t) (la la' : Option Addr) (lc lc' : Nat) (w : World) (hL : LRep w la 0 l) (hL' : LRep w la' 0 l) (hl1 : l.length ≤ lc) (hl2 : lc ≤ maxLen) (hl1' : l.length ≤ lc') (hl2' : lc' ≤ maxLen) :
    Calls Tryd.prog 15 #[.slice la l.length lc, .slice la' l.length lc'] w fun e w' => e = .returned (.bool true) ∧ Ext w w' := by
  have HL := Lib.hid hL
  have HL' := Lib.hid hL'
  have HI := Lib.hid ih
  clear hL hL' ih
  unfold maxLen at hl2 hl2'
  go_enter Tryd.func15, Tryd.ntmps15
  go_wp2_with fail
  go_loopw [13] (fun c wr => ∃ j : Nat, j ≤ l.length ∧ c = .int .i64 j ∧ Hid (Ext w wr)) (fun c _ => l.length - (intOf c).toNat)
  case atStart => exact ⟨0, by omega, rfl, Ext.refl _⟩
  case round =>
    obtain ⟨j, hj, rfl, HE⟩ := hrel
    by_cases hlt : j < l.length
    · obtain ⟨b, off, c0, c1, c2, c3, c4, rfl, e0, e1, e2, e3, e4, hv⟩ := LRep.at_ l 0 j l[j] HL.out (List.getElem?_eq_getElem hlt)
      obtain ⟨b', off', x0, x1, x2, x3, x4, rfl, y0, y1, y2, y3, y4, hv'⟩ := LRep.at_ l 0 j l[j] HL'.out (List.getElem?_eq_getElem hlt)
      obtain ⟨k1, i1, s1, la1, ln1, lc1, da1, dn1, dc1, rfl, rfl, rfl, rfl, rfl⟩ := hv.shape5
      obtain ⟨k2, i2, s2, la2, ln2, lc2, da2, dn2, dc2, rfl, rfl, rfl, rfl, rfl⟩ := hv'.shape5
      have hEr := HE.out
      have q0 := hEr.keep e0
      have q1 := hEr.keep e1
      have q2 := hEr.keep e2
      have q3 := hEr.keep e3
      have q4 := hEr.keep e4
      have r0 := hEr.keep y0
      have r1 := hEr.keep y1
      have r2 := hEr.keep y2
      have r3 := hEr.keep y3
      have r4 := hEr.keep y4
      rw [Nat.zero_add] at q0 q1 q2 q3 q4 r0 r1 r2 r3 r4
      have hb1 : b < wr.heap.size := World.block_lt_of_cell? _ _ q0
      have hb2 : b' < wr.heap.size := World.block_lt_of_cell? _ _ r0
      have HV := Lib.hid (VRep.ext hEr _ _ hv)
      have HV' := Lib.hid (VRep.ext hEr _ _ hv')
      obtain ⟨p, hp⟩ : ∃ p, l[j] = p := ⟨_, rfl⟩
      have hmem : p ∈ l := by rw [← hp]; exact List.getElem_mem hlt
      rw [hp] at HV HV'
      clear e0 e1 e2 e3 e4 hv hEr y0 y1 y2 y3 y4 hv' hp
      go_wp2_with fail
      refine wp_region_mix (Ext wr) [(true, 0), (true, 1), (true, 2), (true, 3), (true, 4), (true, 5), (true, 6), (true, 7), (false, 8), (true, 9)] (by kernel_rfl) (by kernel_rfl) (by kernel_rfl) (by kernel_rfl) ?hS ?_
      case hS => exact (Ext.refl _).drew
      repeat (first | (refine wpMix_q (v := ?_) rfl rfl ?_ ?_; rotate_left; (· intro wq hSq; have cq := hSq.cells; go_simp; try (with_reducible rfl)); simp only [Act.put, List.setIfInBounds_toArray, List.set_cons_zero, List.set_cons_succ, List.getElem_toArray, List.getElem_cons_zero, List.getElem_cons_succ]) | (refine wpMix_u rfl rfl ?_; simp only [Act.put, List.setIfInBounds_toArray, List.set_cons_zero, List.set_cons_succ, List.getElem_toArray, List.getElem_cons_zero, List.getElem_cons_succ]))
      refine wpMix_l rfl rfl (fun K hK => ?_)
      go_simp
      refine (HI.out p hmem _ _ _ (VRep.ext (Ext.refl wr).drew _ _ HV.out) (VRep.ext (Ext.refl wr).drew _ _ HV'.out)).mono ?_
      rintro e w3 ⟨rfl, h3⟩
      have HE3 := Lib.hid ((Ext.refl wr).drew.trans h3)
      refine hK _ _ HE3.out ?_
      clear hK K h3
      repeat (first | (refine wpMix_q (v := ?_) rfl rfl ?_ ?_; rotate_left; (· intro wq hSq; have cq := hSq.cells; go_simp; try (with_reducible rfl)); simp only [Act.put, List.setIfInBounds_toArray, List.set_cons_zero, List.set_cons_succ, List.getElem_toArray, List.getElem_cons_zero, List.getElem_cons_succ]) | (refine wpMix_u rfl rfl ?_; simp only [Act.put, List.setIfInBounds_toArray, List.set_cons_zero, List.set_cons_succ, List.getElem_toArray, List.getElem_cons_zero, List.getElem_cons_succ]))
      refine wpMix_nil ?_
      have HE4 := Lib.hid (HE.out.trans HE3.out)
      clear q0 q1 q2 q3 q4 r0 r1 r2 r3 r4 HE3
      go_wp2_with fail
      exact ⟨⟨j + 1, by omega, by go_num, HE4⟩, by simp [intOf]; omega⟩
    · go_wp2_with fail
      go_ret
      exact ⟨rfl, HE.out⟩
set_option maxRecDepth 20000 in
set_option maxHeartbeats 4000000 in
theorem same_step (t : Tr) (ih : ∀ p, p.sz < t.sz → SameOk p) : SameOk t := by
  intro v v' w hV hV'
  obtain ⟨k, i, s, l, ns, ds⟩ := t
  have ih2 : ∀ t, t ∈ l ∨ t ∈ ds → SameOk t := fun t ht => ih t (by rcases ht with h | h; exact Tr.sz_list h; exact Tr.sz_docs h)
  unfold VRep at hV hV'
  obtain ⟨la, lc, da, dc, rfl, _, ⟨hl1, _⟩, hl2, ⟨hd1, _⟩, hd2, hnd, hL, hD⟩ := hV
  obtain ⟨la', lc', da', dc', rfl, _, ⟨hl1', _⟩, hl2', ⟨hd1', _⟩, hd2', _, hL', hD'⟩ := hV'
  have HL := Lib.hid hL
  have HD := Lib.hid hD
  have HL' := Lib.hid hL'
  have HD' := Lib.hid hD'
  have HI := Lib.hid ih2
  have HM := Lib.hid hl2
  have HM' := Lib.hid hl2'
  clear hL hD hL' hD' ih ih2
  unfold maxLen at hl2 hd2 hl2' hd2'
  go_enter Tryd.func30, Tryd.ntmps30
  go_wp2_with fail
  go_loopw [37] (fun c wr => ∃ j : Nat, j ≤ ds.length ∧ c = .int .i64 j ∧ Hid (Ext ((w.alloc (.cells #[.int .i64 k, .int .i64 i, .string s, .slice la l.length lc, .slice da ds.length dc] 41)).alloc (.cells #[.int .i64 k, .int .i64 i, .string s, .slice la' l.length lc', .slice da' ds.length dc'] 41)) wr)) (fun c _ => ds.length - (intOf c).toNat)
  case atStart => exact ⟨0, by omega, rfl, Ext.refl _⟩
  case round =>
    obtain ⟨j, hj, rfl, HE⟩ := hrel
    have ka := blk_cell (blk_ext (blk_alloc (blk_at0 w (.cells #[.int .i64 k, .int .i64 i, .string s, .slice la l.length lc, .slice da ds.length dc] 41)) _) HE.out)
    have kb := blk_cell (blk_ext (blk_at1 w _ (.cells #[.int .i64 k, .int .i64 i, .string s, .slice la' l.length lc', .slice da' ds.length dc'] 41)) HE.out)
    have hz : w.heap.size + 1 < wr.heap.size := by have := HE.out.size; simp at this; omega
    have hz0 : w.heap.size < wr.heap.size := by omega
    have HEw := Lib.hid (((Ext.refl w).alloc _).alloc _ |>.trans HE.out)
    by_cases hlt : j < ds.length
    · obtain ⟨b, off, c0, c1, c2, c3, c4, rfl, hnm, en, e0, e1, e2, e3, e4, hv⟩ := DRep.at_ ns ds 0 j (ns[j]'(by omega)) ds[j] HD.out (List.getElem?_eq_getElem (by omega)) (List.getElem?_eq_getElem hlt)
      obtain ⟨b', off', x0, x1, x2, x3, x4, rfl, _, yn, y0, y1, y2, y3, y4, hv'⟩ := DRep.at_ ns ds 0 j (ns[j]'(by omega)) ds[j] HD'.out (List.getElem?_eq_getElem (by omega)) (List.getElem?_eq_getElem hlt)
      obtain ⟨k1, i1, s1, la1, ln1, lc1, da1, dn1, dc1, rfl, rfl, rfl, rfl, rfl⟩ := hv.shape5
      obtain ⟨k2, i2, s2, la2, ln2, lc2, da2, dn2, dc2, rfl, rfl, rfl, rfl, rfl⟩ := hv'.shape5
      have hEr := HEw.out
      have qn := hEr.keep en
      have q0 := hEr.keep e0
      have q1 := hEr.keep e1
      have q2 := hEr.keep e2
      have q3 := hEr.keep e3
      have q4 := hEr.keep e4
      have rn := hEr.keep yn
      have r0 := hEr.keep y0
      have r1 := hEr.keep y1
      have r2 := hEr.keep y2
      have r3 := hEr.keep y3
      have r4 := hEr.keep y4
      rw [Nat.zero_add] at qn q0 q1 q2 q3 q4 rn r0 r1 r2 r3 r4
      have hb1 : b < wr.heap.size := World.block_lt_of_cell? _ _ q0
      have hb2 : b' < wr.heap.size := World.block_lt_of_cell? _ _ r0
      have HV := Lib.hid (VRep.ext hEr _ _ hv)
      have HV' := Lib.hid (VRep.ext hEr _ _ hv')
      obtain ⟨p, hp⟩ : ∃ p, ds[j] = p := ⟨_, rfl⟩
      obtain ⟨nm, hn⟩ : ∃ n, ns[j]'(by omega) = n := ⟨_, rfl⟩
      have hmem : p ∈ ds := by rw [← hp]; exact List.getElem_mem hlt
      rw [hp] at HV HV'
      rw [hn] at qn rn
      clear en e0 e1 e2 e3 e4 hv hEr yn y0 y1 y2 y3 y4 hv' hp hn
      go_wp2_with fail
      refine wp_region_mix (Ext wr) [(true, 0), (true, 1), (true, 2), (true, 3), (true, 4), (true, 5), (true, 6), (true, 7), (true, 8), (true, 9), (true, 10), (true, 11), (true, 12), (true, 13), (true, 14), (true, 15), (true, 16), (true, 17), (true, 18), (true, 19), (true, 20), (true, 21), (true, 22), (true, 23), (true, 24), (true, 25), (false, 26), (true, 27), (true, 28)] (by kernel_rfl) (by kernel_rfl) (by kernel_rfl) (by kernel_rfl) ?hS ?_
      case hS => exact (Ext.refl _).drew
      repeat (first | (refine wpMix_q (v := ?_) rfl rfl ?_ ?_; rotate_left; (· intro wq hSq; have cq := hSq.cells; go_simp; try (with_reducible rfl)); simp only [Act.put, List.setIfInBounds_toArray, List.set_cons_zero, List.set_cons_succ, List.getElem_toArray, List.getElem_cons_zero, List.getElem_cons_succ]) | (refine wpMix_u rfl rfl ?_; simp only [Act.put, List.setIfInBounds_toArray, List.set_cons_zero, List.set_cons_succ, List.getElem_toArray, List.getElem_cons_zero, List.getElem_cons_succ]))
      refine wpMix_l rfl rfl (fun K hK => ?_)
      go_simp
      refine (HI.out p (.inr hmem) _ _ _ (VRep.ext (Ext.refl wr).drew _ _ HV.out) (VRep.ext (Ext.refl wr).drew _ _ HV'.out)).mono ?_
      rintro e w3 ⟨rfl, h3⟩
      have HE3 := Lib.hid ((Ext.refl wr).drew.trans h3)
      refine hK _ _ HE3.out ?_
      clear hK K h3
      repeat (first | (refine wpMix_q (v := ?_) rfl rfl ?_ ?_; rotate_left; (· intro wq hSq; have cq := hSq.cells; go_simp; try (with_reducible rfl)); simp only [Act.put, List.setIfInBounds_toArray, List.set_cons_zero, List.set_cons_succ, List.getElem_toArray, List.getElem_cons_zero, List.getElem_cons_succ]) | (refine wpMix_u rfl rfl ?_; simp only [Act.put, List.setIfInBounds_toArray, List.set_cons_zero, List.set_cons_succ, List.getElem_toArray, List.getElem_cons_zero, List.getElem_cons_succ]))
      refine wpMix_nil ?_
      have HE4 := Lib.hid (HE.out.trans HE3.out)
      clear ka kb qn q0 q1 q2 q3 q4 rn r0 r1 r2 r3 r4 HE3
      go_wp2_with fail
      exact ⟨⟨j + 1, by omega, by go_num, HE4⟩, by simp [intOf]; omega⟩
    · go_wp2_with fail
      refine (sameL_of l (fun t ht => HI.out t (.inl ht)) la la' lc lc' _ (LRep.ext HEw.out _ _ _ HL.out) (LRep.ext HEw.out _ _ _ HL'.out) hl1 HM.out hl1' HM'.out).mono ?_
      rintro e w3 ⟨rfl, h3⟩
      go_wp2_with fail
      go_ret
      exact ⟨rfl, HEw.out.trans h3⟩
theorem same_ok (t : Tr) : SameOk t := by
  have : ∀ n (t : Tr), t.sz = n → SameOk t := by
    intro n
    induction n using Nat.strongRecOn with
    | _ n ih => intro t ht; exact same_step t (fun p hp => ih p.sz (by rw [← ht]; exact hp) p rfl)
  exact this _ t rfl
set_option maxRecDepth 20000 in
set_option maxHeartbeats 4000000 in
theorem sameZ_ok (t : Tr) (v : Value) (w : World) (hV : VRep w t v) : Calls Tryd.prog 30 #[v, .agg #[.int .i64 0, .int .i64 0, .string ⟨#[]⟩, .slice none 0 0, .slice none 0 0]] w fun e w' => e = .returned (.bool (decide (t.kind = 0) && zeroB t)) ∧ Ext w w' := by
  obtain ⟨k, i, s, l, ns, ds⟩ := t
  unfold VRep at hV
  obtain ⟨la, lc, da, dc, rfl, ⟨hs, hk, hi⟩, ⟨hl1, _⟩, hl2, ⟨hd1, _⟩, hd2, hnd, _, _⟩ := hV
  rw [zeroB_eq]
  show Calls _ _ _ _ fun e w' => e = .returned (.bool (decide (k = 0) && _)) ∧ Ext w w'
  obtain ⟨r, hr⟩ : ∃ r, (decide (k = 0) && (decide (i = 0) && decide (s.size = 0) && decide (l.length = 0) && decide (ds.length = 0))) = r := ⟨_, rfl⟩
  rw [hr]
  by_cases hk0 : k = 0
  case neg =>
    have hf : r = false := by rw [← hr]; simp [hk0]
    subst hf
    have d : (k != 0) = true := by simpa using hk0
    clear hr hk0
    go_enter Tryd.func30, Tryd.ntmps30
    go_wp2_with fail
    go_ret
    exact ⟨rfl, by repeat (first | with_reducible assumption | with_reducible exact Ext.refl _ | with_reducible refine Ext.drew ?_ | with_reducible refine Ext.alloc ?_ _ | ((with_reducible refine Ext.setCell ?_ ?_ _); rotate_left; (· first | exact Nat.le_refl _ | (simp; done) | omega | (simp; omega))))⟩
  subst hk0
  by_cases hi0 : i = 0
  case neg =>
    have hf : r = false := by rw [← hr]; simp [hi0]
    subst hf
    have d : (i != 0) = true := by simpa using hi0
    clear hr hi0
    go_enter Tryd.func30, Tryd.ntmps30
    go_wp2_with fail
    go_ret
    exact ⟨rfl, by repeat (first | with_reducible assumption | with_reducible exact Ext.refl _ | with_reducible refine Ext.drew ?_ | with_reducible refine Ext.alloc ?_ _ | ((with_reducible refine Ext.setCell ?_ ?_ _); rotate_left; (· first | exact Nat.le_refl _ | (simp; done) | omega | (simp; omega))))⟩
  subst hi0
  by_cases hz0 : s.size = 0
  case neg =>
    have hf : r = false := by rw [← hr]; simp [hz0]
    subst hf
    have d0 := bytes_some hz0
    clear hr hz0
    go_enter Tryd.func30, Tryd.ntmps30
    go_wp2_with fail
    go_ret
    exact ⟨rfl, by repeat (first | with_reducible assumption | with_reducible exact Ext.refl _ | with_reducible refine Ext.drew ?_ | with_reducible refine Ext.alloc ?_ _ | ((with_reducible refine Ext.setCell ?_ ?_ _); rotate_left; (· first | exact Nat.le_refl _ | (simp; done) | omega | (simp; omega))))⟩
  obtain rfl := bytes_nil hz0
  by_cases hd0 : ds.length = 0
  case neg =>
    have hf : r = false := by rw [← hr]; simp [hd0]
    subst hf
    have d0 : ((ds.length : Int) != 0) = true := by rw [bne_iff_ne]; omega
    clear hr
    go_enter Tryd.func30, Tryd.ntmps30
    go_wp2_with fail
    go_ret
    exact ⟨rfl, by repeat (first | with_reducible assumption | with_reducible exact Ext.refl _ | with_reducible refine Ext.drew ?_ | with_reducible refine Ext.alloc ?_ _ | ((with_reducible refine Ext.setCell ?_ ?_ _); rotate_left; (· first | exact Nat.le_refl _ | (simp; done) | omega | (simp; omega))))⟩
  obtain rfl : ds = [] := List.eq_nil_of_length_eq_zero hd0
  by_cases hl0 : l.length = 0
  case neg =>
    have hf : r = false := by rw [← hr]; simp [hl0]
    subst hf
    have HZ : ∀ W : World, Calls Tryd.prog 15 #[.slice la l.length lc, .slice none 0 0] W fun e w' => e = .returned (.bool false) ∧ W = w' := fun W => by
      have d0 : ((l.length : Int) != 0) = true := by rw [bne_iff_ne]; omega
      go_enter Tryd.func15, Tryd.ntmps15
      go_wp2_with fail
      go_ret
      exact ⟨rfl, rfl⟩
    have HZ2 := Lib.hid HZ
    clear hr HZ
    go_enter Tryd.func30, Tryd.ntmps30
    go_wp2_with fail
    refine wp_loop_rounds 1 ?_
    rw [rounds_succ]
    go_wp2_with fail
    refine (HZ2.out _).mono ?_
    rintro e w1 ⟨rfl, rfl⟩
    go_wp2_with fail
    go_ret
    exact ⟨rfl, by repeat (first | with_reducible assumption | with_reducible exact Ext.refl _ | with_reducible refine Ext.drew ?_ | with_reducible refine Ext.alloc ?_ _ | ((with_reducible refine Ext.setCell ?_ ?_ _); rotate_left; (· first | exact Nat.le_refl _ | (simp; done) | omega | (simp; omega))))⟩
  obtain rfl : l = [] := List.eq_nil_of_length_eq_zero hl0
  have hf : r = true := by rw [← hr]; simp [bytes_e]
  subst hf
  have HZ : ∀ W : World, Calls Tryd.prog 15 #[.slice la 0 lc, .slice none 0 0] W fun e w' => e = .returned (.bool true) ∧ W = w' := fun W => by
    go_enter Tryd.func15, Tryd.ntmps15
    go_wp2_with fail
    refine wp_loop_rounds 1 ?_
    rw [rounds_succ]
    go_wp2_with fail
    go_ret
    exact ⟨rfl, rfl⟩
  have HZ2 := Lib.hid HZ
  clear hr HZ
  go_enter Tryd.func30, Tryd.ntmps30
  go_wp2_with fail
  refine wp_loop_rounds 1 ?_
  rw [rounds_succ]
  go_wp2_with fail
  refine (HZ2.out _).mono ?_
  rintro e w1 ⟨rfl, rfl⟩
  go_wp2_with fail
  go_ret
  exact ⟨rfl, by repeat (first | with_reducible assumption | with_reducible exact Ext.refl _ | with_reducible refine Ext.drew ?_ | with_reducible refine Ext.alloc ?_ _ | ((with_reducible refine Ext.setCell ?_ ?_ _); rotate_left; (· first | exact Nat.le_refl _ | (simp; done) | omega | (simp; omega))))⟩
end Go.Proofs.YtipphlhaaienpaaDoor
set_option linter.unusedSimpArgs false
set_option linter.unusedVariables false
namespace Go.Proofs.YtipphlhaaienpaaDoor
open Go.RowKit
theorem valid_kind {t : Tr} (h : validB t = true) : t.kind ≠ 0 := by
  intro hk
  obtain ⟨k, i, s, l, ns, ds⟩ := t
  have hk' : k = 0 := hk
  subst hk'
  simp only [validB, Bool.and_eq_true] at h
  have := (snd_list h.2).2.1
  simp [leafOk] at this
theorem allow_or (t : Tr) : (validB t || (decide (t.kind = 0) && zeroB t)) = allowB t := by
  unfold allowB
  by_cases hk : t.kind = 0
  · rw [if_pos hk, decide_eq_true hk, Bool.true_and]
    cases hv : validB t
    · rfl
    · exact absurd hk (valid_kind hv)
  · rw [if_neg hk, decide_eq_false hk]; simp
/-- fits, plain -/
def fitsB (ts : List Tr) (ds : List Bool) : Bool := decide (ts.length = ds.length) && decide (ts.length ≤ 40) && ts.all allowB
set_option maxRecDepth 20000 in
set_option maxHeartbeats 4000000 in
theorem fits_ok (ts : List Tr) (ds : List Bool) (la da : Option Addr) (lc dc : Nat) (w : World) (hL : LRep w la 0 ts) (hl1 : ts.length ≤ lc) (hl2 : lc ≤ maxLen) (hd1 : ds.length ≤ dc) (hd2 : dc ≤ maxLen) :
    Calls Tryd.prog 16 #[.slice la ts.length lc, .slice da ds.length dc] w fun e w' => e = .returned (.bool (fitsB ts ds)) ∧ Ext w w' := by
  have HL := Lib.hid hL
  clear hL
  unfold maxLen at hl2 hd2
  obtain ⟨r, hr⟩ : ∃ r, fitsB ts ds = r := ⟨_, rfl⟩
  rw [hr]
  unfold fitsB at hr
  by_cases hlen : ts.length = ds.length
  case neg =>
    have hf : r = false := by rw [← hr, decide_eq_false hlen]; rfl
    subst hf
    have d : ((ts.length : Int) != (ds.length : Int)) = true := by rw [bne_iff_ne]; omega
    have d' : (ts.length != ds.length) = true := by simpa using hlen
    clear hr
    go_enter Tryd.func16, Tryd.ntmps16
    go_wp2_with fail
    go_ret
    exact ⟨rfl, Ext.refl _⟩
  rw [decide_eq_true hlen, Bool.true_and] at hr
  have d : ((ts.length : Int) != (ds.length : Int)) = false := by simp; omega
  have d' : (ts.length != ds.length) = false := by simpa using hlen
  by_cases h40 : ts.length ≤ 40
  case neg =>
    have hf : r = false := by rw [← hr, decide_eq_false h40]; rfl
    subst hf
    have d4 : decide (40 < (ts.length : Int)) = true := by simp; omega
    clear hr hlen
    go_enter Tryd.func16, Tryd.ntmps16
    go_wp2_with fail
    go_ret
    exact ⟨rfl, Ext.refl _⟩
  rw [decide_eq_true h40, Bool.true_and] at hr
  have d4 : decide (40 < (ts.length : Int)) = false := by simp; omega
  have HR := Lib.hid hr
  clear hr hlen
  go_enter Tryd.func16, Tryd.ntmps16
  go_wp2_with fail
  clear d d' d4
  go_loopw [18] (fun c wr => ∃ j : Nat, j ≤ ts.length ∧ c = .int .i64 j ∧ Hid ((ts.drop j).all allowB = r) ∧ Hid (Ext w wr)) (fun c _ => ts.length - (intOf c).toNat)
  case atStart => exact ⟨0, by omega, rfl, HR, Ext.refl _⟩
  case round =>
    obtain ⟨j, hj, rfl, HF, HE⟩ := hrel
    by_cases hlt : j < ts.length
    · obtain ⟨b, off, c0, c1, c2, c3, c4, rfl, e0, e1, e2, e3, e4, hv⟩ := LRep.at_ ts 0 j ts[j] HL.out (List.getElem?_eq_getElem hlt)
      obtain ⟨k1, i1, s1, la1, ln1, lc1, da1, dn1, dc1, rfl, rfl, rfl, rfl, rfl⟩ := hv.shape5
      have hEr := HE.out
      have q0 := hEr.keep e0
      have q1 := hEr.keep e1
      have q2 := hEr.keep e2
      have q3 := hEr.keep e3
      have q4 := hEr.keep e4
      rw [Nat.zero_add] at q0 q1 q2 q3 q4
      have hb1 : b < wr.heap.size := World.block_lt_of_cell? _ _ q0
      have HV := Lib.hid (VRep.ext hEr _ _ hv)
      have hF := HF.out
      rw [List.drop_eq_getElem_cons hlt, List.all_cons] at hF
      obtain ⟨p, hp⟩ : ∃ p, ts[j] = p := ⟨_, rfl⟩
      rw [hp] at HV hF
      rw [← allow_or] at hF
      have HF1 := Lib.hid hF
      clear e0 e1 e2 e3 e4 hv hEr hp hF HF
      go_wp2_with fail
      refine (RValid_ok p _ _ HV.out).mono ?_
      rintro e w1 ⟨rfl, h1⟩
      cases hvb : validB p
      · have hF := HF1.out
        rw [hvb, Bool.false_or] at hF
        have HF2 := Lib.hid hF
        have HE1 := Lib.hid (HE.out.trans h1)
        have z0 := h1.keep q0
        have z1 := h1.keep q1
        have z2 := h1.keep q2
        have z3 := h1.keep q3
        have z4 := h1.keep q4
        have hb2 : b < w1.heap.size := World.block_lt_of_cell? _ _ z0
        have HV1 := Lib.hid (VRep.ext h1 _ _ HV.out)
        clear hvb hF HF1 q0 q1 q2 q3 q4 h1
        go_wp2_with fail
        refine (sameZ_ok p _ _ HV1.out).mono ?_
        rintro e w2 ⟨rfl, h2⟩
        have HE2 := Lib.hid (HE1.out.trans h2)
        obtain ⟨zb, hzb⟩ : ∃ b, (decide (p.kind = 0) && zeroB p) = b := ⟨_, rfl⟩
        rw [hzb] at HF2 ⊢
        clear hzb z0 z1 z2 z3 z4 h2
        cases zb
        · have hF := HF2.out
          rw [Bool.false_and] at hF
          subst hF
          go_wp2_with fail
          go_ret
          exact ⟨rfl, HE2.out⟩
        · have hF := HF2.out
          rw [Bool.true_and] at hF
          have HF3 := Lib.hid hF
          clear hF
          go_wp2_with fail
          exact ⟨⟨j + 1, by omega, by go_num, HF3, HE2⟩, by simp [intOf]; omega⟩
      · have hF := HF1.out
        rw [hvb, Bool.true_or, Bool.true_and] at hF
        have HF2 := Lib.hid hF
        have HE1 := Lib.hid (HE.out.trans h1)
        clear hvb hF HF1 q0 q1 q2 q3 q4 h1
        go_wp2_with fail
        exact ⟨⟨j + 1, by omega, by go_num, HF2, HE1⟩, by simp [intOf]; omega⟩
    · have hF := HF.out
      rw [List.drop_eq_nil_of_le (by omega)] at hF
      simp only [List.all_nil] at hF
      subst hF
      go_wp2_with fail
      go_ret
      exact ⟨rfl, HE.out⟩
theorem fits_parts {ts : List Tr} {ds : List Bool} (h : fitsB ts ds = true) : ts.length = ds.length ∧ ts.length ≤ 40 ∧ ∀ t ∈ ts, allowB t = true := by
  unfold fitsB at h
  simp only [Bool.and_eq_true, decide_eq_true_eq, List.all_eq_true] at h
  exact ⟨h.1.1, h.1.2, h.2⟩
set_option maxRecDepth 20000 in
set_option maxHeartbeats 2000000 in
theorem back_walk (ts : List Tr) (ds : List Bool) (la da : Option Addr) (lc dc : Nat) (w : World) (hL : LRep w la 0 ts) (hl1 : ts.length ≤ lc) (hl2 : lc ≤ maxLen) (hD : BRep w da ds) (hd1 : ds.length ≤ dc) (hd2 : dc ≤ maxLen) (hT : Tabs w) :
    Calls Tryd.prog 5 #[.slice la ts.length lc, .slice da ds.length dc] w fun e w' => e = .returned (.bool true) ∧ Ext w w' := by
  have HT := Lib.hid hT
  have HD := Lib.hid hD
  have HL := Lib.hid hL
  have HM := Lib.hid hl2
  have HN := Lib.hid hd2
  clear hT hD hL
  unfold maxLen at hl2 hd2
  obtain ⟨fb, hfb⟩ : ∃ b, fitsB ts ds = b := ⟨_, rfl⟩
  have HFb := Lib.hid hfb
  go_enter Tryd.func5, Tryd.ntmps5
  go_wp2_with fail
  refine (fits_ok ts ds la da lc dc _ HL.out hl1 HM.out hd1 HN.out).mono ?_
  rw [HFb.out]
  rintro e w1 ⟨rfl, h1⟩
  have HE1 := Lib.hid h1
  clear h1
  cases fb
  · clear hfb
    go_wp2_with fail
    refine (awake_ok _ (HT.out.ext HE1.out)).mono ?_
    rintro e w2 ⟨rfl, h2⟩
    go_wp2_with fail
    go_ret
    exact ⟨rfl, HE1.out.trans h2⟩
  obtain ⟨hlen, h40, hall⟩ := fits_parts hfb
  have hB := kdec_back ts ds hlen (fun t ht => ⟨Tr.OkL_mem (LRep.trok _ _ _ HL.out) t ht, hall t ht⟩)
  have hks := kencs_le ts ds hall
  obtain ⟨s, hs⟩ : ∃ s : ByteArray, ⟨(kencs ts ds).toArray⟩ = s := ⟨_, rfl⟩
  have hsz : s.size ≤ 1000000000 := by
    rw [← hs]; show (kencs ts ds).toArray.size ≤ _; simp; omega
  rw [hs] at hB
  have HBe := Lib.hid hB.1
  have HBd := Lib.hid hB.2
  have h41 : ds.length ≤ 40 := by omega
  clear hB hs hks hall hfb hlen
  go_wp2_with fail
  refine (Encode_ok ts ds la da lc dc _ (LRep.ext HE1.out _ _ _ HL.out) hl1 HM.out (HD.out.ext HE1.out) hd1 HN.out h40 (HT.out.ext HE1.out)).mono ?_
  rw [HBe.out]
  rintro e w2 ⟨rfl, h2⟩
  have HE2 := Lib.hid (HE1.out.trans h2)
  clear h2
  go_wp2_with fail
  refine (Decode_ok s ds da dc _ hsz (HD.out.ext HE2.out) hd1 HN.out h41 (HT.out.ext HE2.out)).mono ?_
  rw [HBd.out]
  rintro e w3 ⟨a, c, rfl, hc1, hc2, hL3, h3⟩
  have HE3 := Lib.hid (HE2.out.trans h3)
  have HL3 := Lib.hid hL3
  clear h3 hL3
  go_wp2_with fail
  refine (sameL_of ts (fun t _ => same_ok t) la a lc c _ (LRep.ext HE3.out _ _ _ HL.out) HL3.out hl1 HM.out hc1 hc2).mono ?_
  rintro e w4 ⟨rfl, h4⟩
  have HE4 := Lib.hid (HE3.out.trans h4)
  clear h4
  go_wp2_with fail
  refine (awake_ok _ (HT.out.ext HE4.out)).mono ?_
  rintro e w5 ⟨rfl, h5⟩
  go_wp2_with fail
  go_ret
  exact ⟨rfl, HE4.out.trans h5⟩
end Go.Proofs.YtipphlhaaienpaaDoor
set_option linter.unusedSimpArgs false
set_option linter.unusedVariables false
namespace Go.Proofs.YtipphlhaaienpaaDoor
open Go.RowKit
def cmpI (a b : Int) : Int := if a < b then -1 else if b < a then 1 else 0
def cmpS : List UInt8 → List UInt8 → Int := Lib.compareBytes
mutual
def cmpT : Tr → Tr → Int
  | .mk k i s l ns ds, .mk k' i' s' l' ns' ds' =>
    if k ≠ k' then cmpI k k' else if k = 3 ∨ k = 9 ∨ k = 10 then cmpI i i' else if k = 4 ∨ k = 7 ∨ k = 8 then cmpS s.data.toList s'.data.toList
    else if k = 6 then cmpTL l l' else if k = 5 then cmpTD ns ds ns' ds' else 0
def cmpTL : List Tr → List Tr → Int
  | [], [] => 0
  | [], _ :: _ => -1
  | _ :: _, [] => 1
  | x :: r, y :: q => if cmpT x y ≠ 0 then cmpT x y else cmpTL r q
def cmpTD : List ByteArray → List Tr → List ByteArray → List Tr → Int
  | _, [], _, [] => 0
  | _, [], _, _ :: _ => -1
  | _, _ :: _, _, [] => 1
  | n :: nr, x :: r, m :: mr, y :: q => if cmpS n.data.toList m.data.toList ≠ 0 then cmpS n.data.toList m.data.toList else if cmpT x y ≠ 0 then cmpT x y else cmpTD nr r mr q
  | [], _ :: _, _, _ :: _ => 0
  | _ :: _, _ :: _, [], _ :: _ => 0
end
/-- The first difference of two rows, with neither's end before it. -/
inductive Dif : List UInt8 → List UInt8 → Int → Prop
  | eq (x : List UInt8) : Dif x x 0
  | ne (p : List UInt8) (a b : UInt8) (x y : List UInt8) (h : a ≠ b) : Dif (p ++ a :: x) (p ++ b :: y) (cmpI a.toNat b.toNat)
theorem cmpI_ne {a b : Int} (h : a ≠ b) : cmpI a b ≠ 0 := by unfold cmpI; split; · omega
                                                             split <;> omega
theorem cmpI_neg (a b : Int) : cmpI b a = - cmpI a b := by unfold cmpI; split <;> split <;> omega
theorem u8_neI {a b : UInt8} (h : a ≠ b) : (a.toNat : Int) ≠ (b.toNat : Int) := fun e => h (UInt8.toNat_inj.1 (by exact_mod_cast e))
theorem Dif.zero {x y : List UInt8} {c : Int} (h : Dif x y c) (hc : c = 0) : x = y := by
  cases h with
  | eq => rfl
  | ne p a b x y hab => exact absurd hc (cmpI_ne (u8_neI hab))
theorem Dif.tail {x y : List UInt8} {c : Int} (h : Dif x y c) (hc : c ≠ 0) (r q : List UInt8) : Dif (x ++ r) (y ++ q) c := by
  cases h with
  | eq => exact absurd rfl hc
  | ne p a b x y hab => simpa using Dif.ne p a b (x ++ r) (y ++ q) hab
theorem Dif.head (p : List UInt8) {x y : List UInt8} {c : Int} (h : Dif x y c) : Dif (p ++ x) (p ++ y) c := by
  cases h with
  | eq => exact Dif.eq _
  | ne p' a b x y hab => simpa using Dif.ne (p ++ p') a b x y hab
theorem Dif.app {x y r q : List UInt8} {c d : Int} (h : Dif x y c) (k : c = 0 → Dif r q d) : Dif (x ++ r) (y ++ q) (if c ≠ 0 then c else d) := by
  by_cases hc : c = 0
  · rw [if_neg (by simpa using hc)]
    obtain rfl := h.zero hc
    exact (k hc).head x
  · rw [if_pos hc]; exact h.tail hc r q
theorem flipC_toNat (a : UInt8) : (flipC a).toNat = 255 - a.toNat := by have := flipC_nat a; have := a.toNat_lt; omega
theorem Dif.flip {x y : List UInt8} {c : Int} (h : Dif x y c) : Dif (x.map flipC) (y.map flipC) (-c) := by
  cases h with
  | eq => exact Dif.eq _
  | ne p a b x y hab =>
    have h1 : flipC a ≠ flipC b := fun e => hab (UInt8.toNat_inj.1 (by have := congrArg UInt8.toNat e; rw [flipC_toNat, flipC_toNat] at this; have := a.toNat_lt; have := b.toNat_lt; omega))
    have h2 : cmpI (flipC a).toNat (flipC b).toNat = - cmpI a.toNat b.toNat := by
      have := a.toNat_lt
      have := b.toNat_lt
      rw [flipC_toNat, flipC_toNat]; unfold cmpI; split <;> split <;> (try split) <;> (try split) <;> omega
    have := Dif.ne (p.map flipC) (flipC a) (flipC b) (x.map flipC) (y.map flipC) h1
    rw [h2] at this
    simpa using this
theorem cmpS_head (p x y : List UInt8) : cmpS (p ++ x) (p ++ y) = cmpS x y := by
  induction p with
  | nil => rfl
  | cons a p ih =>
    show Lib.compareBytes (a :: (p ++ x)) (a :: (p ++ y)) = _
    rw [Lib.compareBytes, if_neg (UInt8.lt_irrefl a), if_neg (UInt8.lt_irrefl a)]; exact ih
theorem cmpS_refl (x : List UInt8) : cmpS x x = 0 := by have := cmpS_head x [] []; simpa [cmpS, Lib.compareBytes] using this
theorem cmpS_cons (a b : UInt8) (x y : List UInt8) : cmpS (a :: x) (b :: y) = if cmpI a.toNat b.toNat ≠ 0 then cmpI a.toNat b.toNat else cmpS x y := by
  show Lib.compareBytes _ _ = _
  rw [Lib.compareBytes]
  unfold cmpI
  by_cases h1 : a < b
  · have g1 := UInt8.lt_iff_toNat_lt.1 h1
    rw [if_pos h1, if_pos (show (a.toNat : Int) < b.toNat by omega)]; rfl
  · have g1 : ¬ a.toNat < b.toNat := fun h => h1 (UInt8.lt_iff_toNat_lt.2 h)
    rw [if_neg h1, if_neg (show ¬ (a.toNat : Int) < b.toNat by omega)]
    by_cases h2 : b < a
    · have g2 := UInt8.lt_iff_toNat_lt.1 h2
      rw [if_pos h2, if_pos (show (b.toNat : Int) < a.toNat by omega)]; rfl
    · have g2 : ¬ b.toNat < a.toNat := fun h => h2 (UInt8.lt_iff_toNat_lt.2 h)
      rw [if_neg h2, if_neg (show ¬ (b.toNat : Int) < a.toNat by omega)]; rfl
theorem Dif.cmp {x y : List UInt8} {c : Int} (h : Dif x y c) : cmpS x y = c := by
  cases h with
  | eq => exact cmpS_refl _
  | ne p a b x y hab => rw [cmpS_head, cmpS_cons, if_pos (cmpI_ne (u8_neI hab))]
/-- one byte -/
theorem Dif.byte (a b : UInt8) : Dif [a] [b] (cmpI a.toNat b.toNat) := by
  by_cases h : a = b
  · subst h
    have : cmpI a.toNat a.toNat = 0 := by unfold cmpI; simp
    rw [this]; exact Dif.eq _
  · exact Dif.ne [] a b [] [] h
theorem num8_dif (a b : Nat) (ha : a < 18446744073709551616) (hb : b < 18446744073709551616) : Dif (num8 a) (num8 b) (cmpI a b) := by
  have key : ∀ d : Nat, cmpI (a / d % 256 : Nat) (b / d % 256 : Nat) = cmpI ((UInt8.ofNat (a / d)).toNat) ((UInt8.ofNat (b / d)).toNat) := fun d => by
    rw [UInt8.toNat_ofNat', UInt8.toNat_ofNat']
  have h8 := (Dif.byte (UInt8.ofNat (a / 72057594037927936)) (UInt8.ofNat (b / 72057594037927936))).app fun _ => (Dif.byte (UInt8.ofNat (a / 281474976710656)) (UInt8.ofNat (b / 281474976710656))).app fun _ => (Dif.byte (UInt8.ofNat (a / 1099511627776)) (UInt8.ofNat (b / 1099511627776))).app fun _ => (Dif.byte (UInt8.ofNat (a / 4294967296)) (UInt8.ofNat (b / 4294967296))).app fun _ => (Dif.byte (UInt8.ofNat (a / 16777216)) (UInt8.ofNat (b / 16777216))).app fun _ => (Dif.byte (UInt8.ofNat (a / 65536)) (UInt8.ofNat (b / 65536))).app fun _ => (Dif.byte (UInt8.ofNat (a / 256)) (UInt8.ofNat (b / 256))).app fun _ => Dif.byte (UInt8.ofNat a) (UInt8.ofNat b)
  rw [← key, ← key, ← key, ← key, ← key, ← key, ← key] at h8
  have k0 : cmpI (UInt8.ofNat a).toNat (UInt8.ofNat b).toNat = cmpI (a % 256 : Nat) (b % 256 : Nat) := by rw [UInt8.toNat_ofNat', UInt8.toNat_ofNat']
  rw [k0] at h8
  have step : ∀ (x y : Nat), (if cmpI (x / 256 : Nat) (y / 256 : Nat) ≠ 0 then cmpI (x / 256 : Nat) (y / 256 : Nat) else cmpI (x % 256 : Nat) (y % 256 : Nat)) = cmpI x y := fun x y => by
    unfold cmpI
    split <;> (repeat' split) <;> omega
  have assoc : ∀ (p q r : Int), (if p ≠ 0 then p else if q ≠ 0 then q else r) = (if (if p ≠ 0 then p else q) ≠ 0 then (if p ≠ 0 then p else q) else r) := fun p q r => by
    by_cases hp : p = 0 <;> simp [hp]
  have dm : ∀ (d : Nat), a / (d * 256) = a / d / 256 ∧ b / (d * 256) = b / d / 256 := fun d => ⟨(Nat.div_div_eq_div_mul a d 256).symm, (Nat.div_div_eq_div_mul b d 256).symm⟩
  have s8 : a / 72057594037927936 % 256 = a / 72057594037927936 ∧ b / 72057594037927936 % 256 = b / 72057594037927936 := ⟨by omega, by omega⟩
  rw [s8.1, s8.2] at h8
  have d7 := dm 281474976710656
  have d6 := dm 1099511627776
  have d5 := dm 4294967296
  have d4 := dm 16777216
  have d3 := dm 65536
  have d2 := dm 256
  simp only [Nat.reduceMul] at d7 d6 d5 d4 d3 d2
  have r7 := step (a / 281474976710656) (b / 281474976710656)
  have r6 := step (a / 1099511627776) (b / 1099511627776)
  have r5 := step (a / 4294967296) (b / 4294967296)
  have r4 := step (a / 16777216) (b / 16777216)
  have r3 := step (a / 65536) (b / 65536)
  have r2 := step (a / 256) (b / 256)
  have r1 := step a b
  rw [← d7.1, ← d7.2] at r7
  rw [← d6.1, ← d6.2] at r6
  rw [← d5.1, ← d5.2] at r5
  rw [← d4.1, ← d4.2] at r4
  rw [← d3.1, ← d3.2] at r3
  rw [← d2.1, ← d2.2] at r2
  rw [assoc, r7, assoc, r6, assoc, r5, assoc, r4, assoc, r3, assoc, r2, r1] at h8
  exact h8
theorem uOf_cmp (i j : Int) (hi : I64 i) (hj : I64 j) : cmpI (uOf i) (uOf j) = cmpI i j := by
  unfold I64 at hi hj; unfold cmpI uOf
  repeat' split
  all_goals omega
theorem u8_k (k : Int) (h0 : 0 ≤ k) (h1 : k ≤ 255) : ((UInt8.ofNat k.toNat).toNat : Int) = k := by rw [UInt8.toNat_ofNat']; omega
theorem u8_pos {c : UInt8} (h : c ≠ 0) : 0 < c.toNat := by
  rcases Nat.eq_zero_or_pos c.toNat with e | e
  · exact absurd (UInt8.toNat_inj.1 (by rw [e]; rfl)) h
  · exact e
theorem esc_dif : ∀ (x y r q : List UInt8), Dif (esc x ++ [0, 0]) (esc y ++ [0, 0]) (cmpS x y)
  | [], [], _, _ => Dif.eq _
  | [], c :: y, _, _ => by
    show Dif ([0, 0]) (escC c ++ esc y ++ [0, 0]) (-1)
    unfold escC
    by_cases h : c = 0
    · rw [if_pos h]
      simpa [cmpI] using Dif.ne [0] 0 255 [] (esc y ++ [0, 0]) (by decide)
    · rw [if_neg h]
      have := Dif.ne [] 0 c [0] (esc y ++ [0, 0]) (fun e => h e.symm)
      rw [show cmpI (0 : UInt8).toNat c.toNat = -1 by unfold cmpI; rw [if_pos (by have := u8_pos h; simp; omega)]] at this
      simpa using this
  | c :: x, [], _, _ => by
    show Dif (escC c ++ esc x ++ [0, 0]) [0, 0] 1
    unfold escC
    by_cases h : c = 0
    · rw [if_pos h]
      simpa [cmpI] using Dif.ne [0] 255 0 (esc x ++ [0, 0]) [] (by decide)
    · rw [if_neg h]
      have := Dif.ne [] c 0 (esc x ++ [0, 0]) [0] h
      rw [show cmpI c.toNat (0 : UInt8).toNat = 1 by unfold cmpI; rw [if_neg (by simp), if_pos (by have := u8_pos h; simp; omega)]] at this
      simpa using this
  | c :: x, d :: y, r, q => by
    rw [cmpS_cons]
    show Dif (escC c ++ esc x ++ [0, 0]) (escC d ++ esc y ++ [0, 0]) _
    by_cases h : c = d
    · subst h
      have e : cmpI (c.toNat : Int) c.toNat = 0 := by unfold cmpI; simp
      rw [e, if_neg (by simp)]
      simpa using (esc_dif x y r q).head (escC c)
    · rw [if_pos (cmpI_ne (u8_neI h))]
      have hc : ∃ m, escC c = c :: m := by unfold escC; split; · rename_i h0; rw [h0]; exact ⟨_, rfl⟩
                                           exact ⟨_, rfl⟩
      have hd : ∃ m, escC d = d :: m := by unfold escC; split; · rename_i h0; rw [h0]; exact ⟨_, rfl⟩
                                           exact ⟨_, rfl⟩
      obtain ⟨m, hm⟩ := hc
      obtain ⟨m', hm'⟩ := hd
      rw [hm, hm']
      simpa using Dif.ne [] c d (m ++ (esc x ++ [0, 0])) (m' ++ (esc y ++ [0, 0])) h
theorem name_dif : ∀ (x y : List UInt8), (∀ c ∈ x, c ≠ 0) → (∀ c ∈ y, c ≠ 0) → Dif (x ++ [0]) (y ++ [0]) (cmpS x y)
  | [], [], _, _ => Dif.eq _
  | [], c :: y, _, h => by
    have hc := h c (by simp)
    have := Dif.ne [] 0 c [] (y ++ [0]) (fun e => hc e.symm)
    rw [show cmpI (0 : UInt8).toNat c.toNat = -1 by unfold cmpI; rw [if_pos (by have := u8_pos hc; simp; omega)]] at this
    simpa [cmpS, Lib.compareBytes] using this
  | c :: x, [], h, _ => by
    have hc := h c (by simp)
    have := Dif.ne [] c 0 (x ++ [0]) [] hc
    rw [show cmpI c.toNat (0 : UInt8).toNat = 1 by unfold cmpI; rw [if_neg (by simp), if_pos (by have := u8_pos hc; simp; omega)]] at this
    simpa [cmpS, Lib.compareBytes] using this
  | c :: x, d :: y, h, h' => by
    rw [cmpS_cons]
    by_cases e : c = d
    · subst e
      have e : cmpI (c.toNat : Int) c.toNat = 0 := by unfold cmpI; simp
      rw [e, if_neg (by simp)]
      exact (name_dif x y (fun a ha => h a (by simp [ha])) (fun a ha => h' a (by simp [ha]))).head [c]
    · rw [if_pos (cmpI_ne (u8_neI e))]
      exact Dif.ne [] c d (x ++ [0]) (y ++ [0]) e
theorem if_zero (c : Int) : (if c ≠ 0 then c else 0) = c := by split <;> omega
theorem kencL_dif (f : ∀ t u : Tr, Prop) : ∀ (l m : List Tr), (∀ t ∈ l, ∀ u ∈ m, Dif (kenc t) (kenc u) (cmpT t u)) → Dif (kencL l ++ [0]) (kencL m ++ [0]) (cmpTL l m)
  | [], [], _ => by unfold cmpTL; exact Dif.eq _
  | [], u :: m, _ => by
    have := Dif.ne [] 0 1 [] (kenc u ++ (kencL m ++ [0])) (by decide)
    simpa [cmpTL, kencL, cmpI] using this
  | t :: l, [], _ => by
    have := Dif.ne [] 1 0 (kenc t ++ (kencL l ++ [0])) [] (by decide)
    simpa [cmpTL, kencL, cmpI] using this
  | t :: l, u :: m, h => by
    have h1 := (h t (by simp) u (by simp)).app fun _ => kencL_dif f l m (fun a ha b hb => h a (by simp [ha]) b (by simp [hb]))
    have := h1.head [1]
    unfold cmpTL
    simpa [kencL] using this
theorem kencF_dif : ∀ (ns : List ByteArray) (l : List Tr) (ns' : List ByteArray) (m : List Tr), ns.length = l.length → ns'.length = m.length → (∀ n ∈ ns, ∀ c ∈ n.data.toList, c ≠ 0) → (∀ n ∈ ns', ∀ c ∈ n.data.toList, c ≠ 0) → (∀ t ∈ l, ∀ u ∈ m, Dif (kenc t) (kenc u) (cmpT t u)) → Dif (kencF ns l ++ [0]) (kencF ns' m ++ [0]) (cmpTD ns l ns' m)
  | [], [], [], [], _, _, _, _, _ => by unfold cmpTD; exact Dif.eq _
  | [], [], n' :: ns', u :: m, _, _, _, _, _ => by
    have := Dif.ne [] 0 1 [] (n'.data.toList ++ (0 :: (kenc u ++ (kencF ns' m ++ [0])))) (by decide)
    simpa [cmpTD, kencF, cmpI] using this
  | n :: ns, t :: l, [], [], _, _, _, _, _ => by
    have := Dif.ne [] 1 0 (n.data.toList ++ (0 :: (kenc t ++ (kencF ns l ++ [0])))) [] (by decide)
    simpa [cmpTD, kencF, cmpI] using this
  | n :: ns, t :: l, n' :: ns', u :: m, h1, h2, h3, h4, h => by
    have hn := name_dif n.data.toList n'.data.toList (h3 n (by simp)) (h4 n' (by simp))
    have h1 := hn.app fun _ => (h t (by simp) u (by simp)).app fun _ => kencF_dif ns l ns' m (by simpa using h1) (by simpa using h2) (fun a ha => h3 a (by simp [ha])) (fun a ha => h4 a (by simp [ha])) (fun a ha b hb => h a (by simp [ha]) b (by simp [hb]))
    have := h1.head [1]
    unfold cmpTD
    simpa [kencF] using this
  | [], _ :: _, _, _, h, _, _, _, _ => by simp at h
  | _ :: _, [], _, _, h, _, _, _, _ => by simp at h
  | _, _, [], _ :: _, _, h, _, _, _ => by simp at h
  | _, _, _ :: _, [], _, h, _, _, _ => by simp at h
theorem snd_kind {t : Tr} (h : snd t = true) : 1 ≤ t.kind ∧ t.kind ≤ 11 := by
  obtain ⟨k, i, s, l, ns, ds⟩ := t
  obtain ⟨_, h2, _, _⟩ := snd_list h
  show 1 ≤ k ∧ k ≤ 11
  unfold leafOk at h2
  by_cases a : k = 1 ∨ k = 2 ∨ k = 11 ∨ k = 3
  · omega
  rw [if_neg a] at h2
  by_cases b : k = 9
  · omega
  rw [if_neg b] at h2
  by_cases c : k = 10
  · omega
  rw [if_neg c] at h2
  by_cases d : k = 4
  · omega
  rw [if_neg d] at h2
  by_cases e : k = 7
  · omega
  rw [if_neg e] at h2
  by_cases g : k = 8
  · omega
  rw [if_neg g] at h2
  have := of_decide_eq_true h2
  omega
theorem kenc_dif : ∀ (n : Nat) (t u : Tr), t.sz = n → snd t = true → snd u = true → t.Ok → u.Ok → Dif (kenc t) (kenc u) (cmpT t u) := by
  intro n
  induction n using Nat.strongRecOn with
  | _ n ih =>
    intro t u hn ht hu ot ou
    have kt := snd_kind ht
    have ku := snd_kind hu
    obtain ⟨k, i, s, l, ns, ds⟩ := t
    obtain ⟨k', i', s', l', ns', ds'⟩ := u
    obtain ⟨_, _, h3, h4⟩ := snd_list ht
    obtain ⟨_, _, h3', h4'⟩ := snd_list hu
    have kt : 1 ≤ k ∧ k ≤ 11 := kt
    have ku : 1 ≤ k' ∧ k' ≤ 11 := ku
    unfold Tr.Ok at ot ou
    obtain ⟨o1, o2, o3, o4⟩ := ot
    obtain ⟨p1, p2, p3, p4⟩ := ou
    simp only [cmpT, kenc]
    by_cases hk : k = k'
    case neg =>
      rw [if_pos hk]
      have := Dif.byte (UInt8.ofNat k.toNat) (UInt8.ofNat k'.toNat)
      rw [u8_k k (by omega) (by omega), u8_k k' (by omega) (by omega)] at this
      exact this.tail (cmpI_ne hk) _ _
    subst hk
    rw [if_neg (show ¬ k ≠ k by simp)]
    refine Dif.head _ ?_
    by_cases c3 : k = 3 ∨ k = 9 ∨ k = 10
    · rw [if_pos c3, if_pos c3, if_pos c3, ← uOf_cmp i i' o2 p2]
      exact num8_dif _ _ (uOf_lt i o2) (uOf_lt i' p2)
    rw [if_neg c3, if_neg c3, if_neg c3]
    by_cases c4 : k = 4 ∨ k = 7 ∨ k = 8
    · rw [if_pos c4, if_pos c4, if_pos c4]; exact esc_dif _ _ [] []
    rw [if_neg c4, if_neg c4, if_neg c4]
    by_cases c6 : k = 6
    · rw [if_pos c6, if_pos c6, if_pos c6]
      exact kencL_dif (fun _ _ => True) l l' fun a ha b hb => ih a.sz (by rw [← hn]; exact Tr.sz_list ha) a b rfl (sndL_mem h3 a ha) (sndL_mem h3' b hb) (Tr.OkL_mem o3 a ha) (Tr.OkL_mem p3 b hb)
    rw [if_neg c6, if_neg c6, if_neg c6]
    by_cases c5 : k = 5
    · rw [if_pos c5, if_pos c5, if_pos c5]
      exact kencF_dif ns ds ns' ds' o1 p1 (fun n hn => nameB_nz (sndF_names h4 o1 n hn)) (fun n hn => nameB_nz (sndF_names h4' p1 n hn)) fun a ha b hb => ih a.sz (by rw [← hn]; exact Tr.sz_docs ha) a b rfl (sndF_mem h4 a ha) (sndF_mem h4' b hb) (Tr.OkL_mem o4 a ha) (Tr.OkL_mem p4 b hb)
    rw [if_neg c5, if_neg c5, if_neg c5]
    exact Dif.eq _
theorem kencA_dif (t u : Tr) (ht : allowB t = true) (hu : allowB u = true) (ot : t.Ok) (ou : u.Ok) : Dif (kenc t) (kenc u) (cmpT t u) := by
  have hv : ∀ x : Tr, allowB x = true → x.kind ≠ 0 → snd x = true := fun x hx hk => by
    unfold allowB at hx
    rw [if_neg hk] at hx
    simp only [validB, Bool.and_eq_true] at hx
    exact hx.2
  by_cases kt : t.kind = 0
  · by_cases ku : u.kind = 0
    · obtain ⟨k, i, s, l, ns, ds⟩ := t
      obtain ⟨k', i', s', l', ns', ds'⟩ := u
      have kt : k = 0 := kt
      have ku : k' = 0 := ku
      subst kt ku
      simp only [cmpT, kenc]
      exact Dif.eq _
    · have k2 := snd_kind (hv u hu ku)
      obtain ⟨k, i, s, l, ns, ds⟩ := t
      obtain ⟨k', i', s', l', ns', ds'⟩ := u
      have kt : k = 0 := kt
      have k2 : 1 ≤ k' ∧ k' ≤ 11 := k2
      subst kt
      simp only [cmpT, kenc]
      rw [if_pos (show (0 : Int) ≠ k' by omega)]
      have := Dif.byte (UInt8.ofNat (0 : Int).toNat) (UInt8.ofNat k'.toNat)
      rw [u8_k 0 (by omega) (by omega), u8_k k' (by omega) (by omega)] at this
      exact this.tail (cmpI_ne (by omega)) _ _
  · by_cases ku : u.kind = 0
    · have k1 := snd_kind (hv t ht kt)
      obtain ⟨k, i, s, l, ns, ds⟩ := t
      obtain ⟨k', i', s', l', ns', ds'⟩ := u
      have ku : k' = 0 := ku
      have k1 : 1 ≤ k ∧ k ≤ 11 := k1
      subst ku
      simp only [cmpT, kenc]
      rw [if_pos (show k ≠ (0 : Int) by omega)]
      have := Dif.byte (UInt8.ofNat k.toNat) (UInt8.ofNat (0 : Int).toNat)
      rw [u8_k 0 (by omega) (by omega), u8_k k (by omega) (by omega)] at this
      exact this.tail (cmpI_ne (by omega)) _ _
    · exact kenc_dif _ t u rfl (hv t ht kt) (hv u hu ku) ot ou
/-- the law's comparing of two lists -/
def cmpK : List Tr → List Tr → List Bool → Int
  | x :: r, y :: q, d :: e => if cmpT x y ≠ 0 then (if d then - cmpT x y else cmpT x y) else cmpK r q e
  | _, _, _ => 0
theorem kone_dif (d : Bool) {t u : Tr} (h : Dif (kenc t) (kenc u) (cmpT t u)) : Dif (kone d t) (kone d u) (if d then - cmpT t u else cmpT t u) := by
  unfold kone
  cases d
  · simpa using h
  · simp only [if_true]; exact h.flip
theorem kencs_dif : ∀ (a b : List Tr) (ds : List Bool), a.length = ds.length → b.length = ds.length → (∀ t ∈ a, t.Ok ∧ allowB t = true) → (∀ t ∈ b, t.Ok ∧ allowB t = true) → Dif (kencs a ds) (kencs b ds) (cmpK a b ds)
  | [], [], [], _, _, _, _ => by simp only [kencs, cmpK]; exact Dif.eq _
  | x :: r, y :: q, d :: e, h1, h2, h3, h4 => by
    have hx := h3 x (by simp)
    have hy := h4 y (by simp)
    have k := (kone_dif d (kencA_dif x y hx.2 hy.2 hx.1 hy.1)).app fun _ => kencs_dif r q e (by simpa using h1) (by simpa using h2) (fun t ht => h3 t (by simp [ht])) (fun t ht => h4 t (by simp [ht]))
    simp only [kencs, cmpK]
    have e : (if (if d then - cmpT x y else cmpT x y) ≠ 0 then (if d then - cmpT x y else cmpT x y) else cmpK r q e) = (if cmpT x y ≠ 0 then (if d then - cmpT x y else cmpT x y) else cmpK r q e) := by
      cases d <;> simp
    rw [e] at k
    exact k
  | [], [], _ :: _, h, _, _, _ => by simp at h
  | _, _ :: _, [], _, h, _, _ => by simp at h
  | _ :: _, _, [], h, _, _, _ => by simp at h
  | [], _, _ :: _, h, _, _, _ => by simp at h
  | _, [], _ :: _, _, h, _, _ => by simp at h
theorem cmpT_range : ∀ (x y : List UInt8), cmpS x y = -1 ∨ cmpS x y = 0 ∨ cmpS x y = 1
  | [], [] => by simp [cmpS, Lib.compareBytes]
  | [], _ :: _ => by simp [cmpS, Lib.compareBytes]
  | _ :: _, [] => by simp [cmpS, Lib.compareBytes]
  | a :: x, b :: y => by
    have := cmpT_range x y
    rw [cmpS_cons]
    split
    · unfold cmpI; split; · exact .inl rfl
      split; · exact .inr (.inr rfl)
      exact .inr (.inl rfl)
    · exact this
end Go.Proofs.YtipphlhaaienpaaDoor
