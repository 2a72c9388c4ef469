/- KeyencEncode: for every input the law returns true: Encode agrees with the reference (the card, tied to the program's text). -/
import Derived.Test.YtipphlhaaienpaaDoorKR
import Derived.Test.YtipphlhaaienpaaDoorKE
import Derived.Test.YtipphlhaaienpaaDoorStr
import Derived.Test.YtipphlhaaienpaaDoorTr
import Derived.Test.YtipphlhaaienpaaDoorD0
import Derived.Test.YtipphlhaaienpaaDoorMix
import Derived.Test.YtipphlhaaienpaaDoorR1e
import Derived.Test.YtipphlhaaienpaaDoorTab
set_option linter.unusedSimpArgs false
set_option linter.unusedVariables false
namespace Go.Proofs.YtipphlhaaienpaaDoor
open Go.RowKit
def seg (s : ByteArray) (p q : Nat) : List UInt8 := (s.data.toList.drop p).take (q - p)
theorem seg_trans (s : ByteArray) {p q r : Nat} (h1 : p ≤ q) (h2 : q ≤ r) : seg s p q ++ seg s q r = seg s p r := by
  unfold seg
  have e : r - p = (q - p) + (r - q) := by omega
  rw [e, List.take_add, List.drop_drop]
  congr 3
  omega
/-- From p to q lie the bytes l, turned by fl. -/
def Lies (s : ByteArray) (fl : UInt8) (p q : Nat) (l : List UInt8) : Prop := p ≤ q ∧ q ≤ s.size ∧ seg s p q = l.map (· ^^^ fl)
theorem Lies.trans {s : ByteArray} {fl : UInt8} {p q r : Nat} {l m : List UInt8} (h : Lies s fl p q l) (k : Lies s fl q r m) : Lies s fl p r (l ++ m) :=
  ⟨Nat.le_trans h.1 k.1, k.2.1, by rw [List.map_append, ← h.2.2, ← k.2.2, seg_trans s h.1 k.1]⟩
theorem Lies.nil {s : ByteArray} {fl : UInt8} {p : Nat} (h : p ≤ s.size) : Lies s fl p p [] := ⟨Nat.le_refl _, h, by unfold seg; simp⟩
theorem xor_back (b fl : UInt8) : (b ^^^ fl) ^^^ fl = b := by rw [UInt8.xor_assoc, UInt8.xor_self, UInt8.xor_zero]
theorem next_lies {s : ByteArray} {fl : UInt8} {p : Nat} {b : UInt8} {q : Nat} (h : nextE s fl p = .ok (b, q)) : Lies s fl p q [b] := by
  obtain ⟨h1, rfl, rfl⟩ := nextE_ok h
  refine ⟨by omega, by omega, ?_⟩
  unfold seg
  rw [Nat.add_sub_cancel_left, List.drop_eq_getElem_cons (by simpa using h1)]
  simp only [List.take_succ_cons, List.take_zero, List.map_cons, List.map_nil, xor_back]
  unfold kbyte
  rw [List.getD_eq_getElem?_getD, List.getElem?_eq_getElem (by simpa using h1)]; rfl
theorem num_lies {s : ByteArray} {fl : UInt8} : ∀ (n p u u' q : Nat), p ≤ s.size → numN s fl n p u = .ok (u', q) → ∃ bs : List UInt8, bs.length = n ∧ Lies s fl p q bs ∧ u' = bs.foldl (fun a b => a * 256 + b.toNat) u := by
  intro n
  induction n with
  | zero => intro p u u' q hp h; injection h with h; injection h with h1 h2; subst h1 h2; exact ⟨[], rfl, Lies.nil hp, rfl⟩
  | succ n ih =>
    intro p u u' q hp h
    simp only [numN] at h
    cases hx : nextE s fl p with
    | error e => rw [hx] at h; cases h
    | ok z =>
      obtain ⟨b, q1⟩ := z
      rw [hx] at h
      have hl := next_lies hx
      obtain ⟨bs, h1, h2, h3⟩ := ih q1 _ u' q hl.2.1 h
      exact ⟨b :: bs, by simp [h1], hl.trans h2, h3⟩
theorem num8_back (bs : List UInt8) (h : bs.length = 8) : num8 (bs.foldl (fun a b => a * 256 + b.toNat) 0) = bs ∧ bs.foldl (fun a b => a * 256 + b.toNat) 0 < 18446744073709551616 := by
  match bs, h with
  | [b0, b1, b2, b3, b4, b5, b6, b7], _ =>
    have h0 := b0.toNat_lt
    have h1 := b1.toNat_lt
    have h2 := b2.toNat_lt
    have h3 := b3.toNat_lt
    have h4 := b4.toNat_lt
    have h5 := b5.toNat_lt
    have h6 := b6.toNat_lt
    have h7 := b7.toNat_lt
    simp only [List.foldl_cons, List.foldl_nil]
    refine ⟨?_, by omega⟩
    have key : ∀ (x : Nat) (b : UInt8), x % 256 = b.toNat → UInt8.ofNat x = b := fun x b h => UInt8.toNat_inj.1 (by rw [UInt8.toNat_ofNat']; exact h)
    unfold num8
    rw [key _ b0 (by omega), key _ b1 (by omega), key _ b2 (by omega), key _ b3 (by omega), key _ b4 (by omega), key _ b5 (by omega), key _ b6 (by omega), key _ b7 (by omega)]
theorem text_lies {s : ByteArray} {fl : UInt8} : ∀ (n p : Nat) (acc l : List UInt8) (q : Nat), textE s fl n p acc = .ok (l, q) → ∃ m, l = acc ++ m ∧ Lies s fl p q (esc m ++ [0, 0]) := by
  intro n
  induction n with
  | zero => intro p acc l q h; cases h
  | succ n ih =>
    intro p acc l q h
    simp only [textE] at h
    cases hx : nextE s fl p with
    | error e => rw [hx] at h; cases h
    | ok z =>
      obtain ⟨c, q1⟩ := z
      rw [hx] at h
      have hl := next_lies hx
      simp only at h
      by_cases hc : c = 0
      · rw [if_neg (by simpa using hc)] at h
        cases hy : nextE s fl q1 with
        | error e => rw [hy] at h; cases h
        | ok z2 =>
          obtain ⟨c2, q2⟩ := z2
          rw [hy] at h
          have hl2 := next_lies hy
          simp only at h
          by_cases h2 : c2 = 0
          · rw [if_pos h2] at h
            injection h with h; injection h with e1 e2; subst e1 e2
            refine ⟨[], by simp, ?_⟩
            have := hl.trans hl2
            rw [hc, h2] at this
            simpa [esc] using this
          · rw [if_neg h2] at h
            by_cases h5 : c2 = 255
            · rw [if_neg (by simpa using h5)] at h
              obtain ⟨m, e1, e2⟩ := ih _ _ _ _ h
              refine ⟨0 :: m, by rw [e1]; simp, ?_⟩
              have := (hl.trans hl2).trans e2
              rw [hc, h5] at this
              simpa [esc, escC] using this
            · rw [if_pos h5] at h; cases h
      · rw [if_pos hc] at h
        obtain ⟨m, e1, e2⟩ := ih _ _ _ _ h
        refine ⟨c :: m, by rw [e1]; simp, ?_⟩
        have := hl.trans e2
        simpa [esc, escC, hc] using this
theorem name_lies {s : ByteArray} {fl : UInt8} : ∀ (n p : Nat) (acc l : List UInt8) (q : Nat), nameE s fl n p acc = .ok (l, q) → ∃ m, l = acc ++ m ∧ Lies s fl p q (m ++ [0]) := by
  intro n
  induction n with
  | zero => intro p acc l q h; cases h
  | succ n ih =>
    intro p acc l q h
    simp only [nameE] at h
    cases hx : nextE s fl p with
    | error e => rw [hx] at h; cases h
    | ok z =>
      obtain ⟨c, q1⟩ := z
      rw [hx] at h
      have hl := next_lies hx
      simp only at h
      by_cases hc : c = 0
      · rw [if_pos hc] at h
        injection h with h; injection h with e1 e2; subst e1 e2
        exact ⟨[], by simp, by rw [hc] at hl; simpa using hl⟩
      · rw [if_neg hc] at h
        obtain ⟨m, e1, e2⟩ := ih _ _ _ _ h
        exact ⟨c :: m, by rw [e1]; simp, by simpa using hl.trans e2⟩
theorem more_lies {s : ByteArray} {fl : UInt8} {p : Nat} {b : Bool} {q : Nat} (h : moreE s fl p = .ok (b, q)) : Lies s fl p q [if b then 1 else 0] := by
  unfold moreE at h
  cases hx : nextE s fl p with
  | error e => rw [hx] at h; cases h
  | ok z =>
    obtain ⟨c, q1⟩ := z
    rw [hx] at h
    have hl := next_lies hx
    simp only [moreK] at h
    split at h
    · cases h
    · rename_i hc
      injection h with h; injection h with e1 e2; subst e1 e2
      by_cases h1 : c.toNat = 1
      · have : c = 1 := UInt8.toNat_inj.1 h1
        subst this; simpa using hl
      · have : c = 0 := UInt8.toNat_inj.1 (by show c.toNat = 0; omega)
        subst this; simpa using hl
theorem list_lies {s : ByteArray} {fl : UInt8} {f : Nat → Except Int (Tr × Nat)} (hf : ∀ p t q, f p = .ok (t, q) → Lies s fl p q (kenc t)) : ∀ (n p : Nat) (acc l : List Tr) (q : Nat), klistE s fl f n p acc = .ok (l, q) → ∃ m, l = acc ++ m ∧ Lies s fl p q (kencL m ++ [0]) := by
  intro n
  induction n with
  | zero => intro p acc l q h; cases h
  | succ n ih =>
    intro p acc l q h
    simp only [klistE] at h
    cases hx : moreE s fl p with
    | error e => rw [hx] at h; cases h
    | ok z =>
      obtain ⟨b, q1⟩ := z
      rw [hx] at h
      have hl := more_lies hx
      cases b
      · injection h with h; injection h with e1 e2; subst e1 e2
        exact ⟨[], by simp, by simpa [kencL] using hl⟩
      · simp only at h
        cases hy : f q1 with
        | error e => rw [hy] at h; cases h
        | ok z2 =>
          obtain ⟨t, q2⟩ := z2
          rw [hy] at h
          obtain ⟨m, e1, e2⟩ := ih _ _ _ _ h
          refine ⟨t :: m, by rw [e1]; simp, ?_⟩
          have := (hl.trans (hf _ _ _ hy)).trans e2
          simpa [kencL] using this
theorem doc_lies {s : ByteArray} {fl : UInt8} {f : Nat → Except Int (Tr × Nat)} (hf : ∀ p t q, f p = .ok (t, q) → Lies s fl p q (kenc t)) : ∀ (n p : Nat) (ns : List ByteArray) (ds : List Tr) (l : List ByteArray × List Tr) (q : Nat), kdocE s fl f n p ns ds = .ok (l, q) → ∃ mn md, l = (ns ++ mn, ds ++ md) ∧ mn.length = md.length ∧ Lies s fl p q (kencF mn md ++ [0]) := by
  intro n
  induction n with
  | zero => intro p ns ds l q h; cases h
  | succ n ih =>
    intro p ns ds l q h
    simp only [kdocE] at h
    cases hx : moreE s fl p with
    | error e => rw [hx] at h; cases h
    | ok z =>
      obtain ⟨b, q1⟩ := z
      rw [hx] at h
      have hl := more_lies hx
      cases b
      · injection h with h; injection h with e1 e2; subst e1 e2
        exact ⟨[], [], by simp, rfl, by simpa [kencF] using hl⟩
      · simp only at h
        cases hn : nameE s fl (s.size + 1) q1 [] with
        | error e => rw [hn] at h; cases h
        | ok zn =>
          obtain ⟨nm, q3⟩ := zn
          rw [hn] at h
          obtain ⟨m0, e0, hl3⟩ := name_lies _ _ _ _ _ hn
          simp only [List.nil_append] at e0
          subst e0
          simp only at h
          cases hy : f q3 with
          | error e => rw [hy] at h; cases h
          | ok z2 =>
            obtain ⟨t, q2⟩ := z2
            rw [hy] at h
            obtain ⟨mn, md, e1, e3, e2⟩ := ih _ _ _ _ _ h
            refine ⟨⟨nm.toArray⟩ :: mn, t :: md, by rw [e1]; simp, by simp [e3], ?_⟩
            have := ((hl.trans hl3).trans (hf _ _ _ hy)).trans e2
            simpa [kencF] using this
theorem kv_lies (s : ByteArray) (fl : UInt8) : ∀ (d p : Nat) (t : Tr) (q : Nat), kvE s fl d p = .ok (t, q) → Lies s fl p q (kenc t) := by
  intro d
  induction d with
  | zero =>
    intro p t q h
    simp only [kvE] at h
    cases hx : nextE s fl p with
    | error e => rw [hx] at h; cases h
    | ok z => rw [hx] at h; cases h
  | succ d ih =>
    intro p t q h
    simp only [kvE] at h
    cases hx : nextE s fl p with
    | error e => rw [hx] at h; cases h
    | ok z =>
      obtain ⟨b, q1⟩ := z
      rw [hx] at h
      have hl := next_lies hx
      simp only [kvK] at h
      have hk : ∀ k : Nat, b.toNat = k → [UInt8.ofNat ((k : Int)).toNat] = [b] := fun k hk => by
        rw [← hk]; simp
      split at h
      · cases h
      split at h
      · rename_i hk3
        cases hy : numN s fl 8 q1 0 with
        | error e => rw [hy] at h; cases h
        | ok z2 =>
          obtain ⟨u, q2⟩ := z2
          rw [hy] at h
          injection h with h; injection h with e1 e2; subst e1 e2
          obtain ⟨bs, h8, h9, h10⟩ := num_lies 8 q1 0 u q2 hl.2.1 hy
          have hnb := num8_back bs h8
          rw [← h10] at hnb
          have hi : uOf ((u : Int) - 9223372036854775808) = u := by unfold uOf; omega
          have : kenc (kLeaf b.toNat ((u : Int) - 9223372036854775808) ⟨#[]⟩) = [b] ++ bs := by
            unfold kLeaf kenc
            rw [hk _ rfl, if_pos (by rcases hk3 with h | h | h <;> rw [h] <;> simp), hi, hnb.1]
          rw [this]; exact hl.trans h9
      split at h
      · rename_i hk3 hk4
        cases hy : textE s fl (s.size + 1) q1 [] with
        | error e => rw [hy] at h; cases h
        | ok z2 =>
          obtain ⟨l, q2⟩ := z2
          rw [hy] at h
          injection h with h; injection h with e1 e2; subst e1 e2
          obtain ⟨m, e0, h9⟩ := text_lies _ _ _ _ _ hy
          simp only [List.nil_append] at e0
          subst e0
          have : kenc (kLeaf b.toNat 0 ⟨l.toArray⟩) = [b] ++ (esc l ++ [0, 0]) := by
            unfold kLeaf kenc
            rw [hk _ rfl, if_neg (by omega), if_pos (by omega)]
          rw [this]; exact hl.trans h9
      split at h
      · rename_i hk3 hk4 hk6
        cases hy : klistE s fl (kvE s fl d) (s.size + 1) q1 [] with
        | error e => rw [hy] at h; cases h
        | ok z2 =>
          obtain ⟨l, q2⟩ := z2
          rw [hy] at h
          injection h with h; injection h with e1 e2; subst e1 e2
          obtain ⟨m, e0, h9⟩ := list_lies ih _ _ _ _ _ hy
          simp only [List.nil_append] at e0
          subst e0
          have : kenc (.mk 6 0 ⟨#[]⟩ l [] []) = [b] ++ (kencL l ++ [0]) := by
            have e : b = 6 := UInt8.toNat_inj.1 hk6
            subst e; simp [kenc]
          rw [this]; exact hl.trans h9
      split at h
      · rename_i hk3 hk4 hk6 hk5
        cases hy : kdocE s fl (kvE s fl d) (s.size + 1) q1 [] [] with
        | error e => rw [hy] at h; cases h
        | ok z2 =>
          obtain ⟨⟨ns, ds⟩, q2⟩ := z2
          rw [hy] at h
          injection h with h; injection h with e1 e2; subst e1 e2
          obtain ⟨mn, md, e0, _, h9⟩ := doc_lies ih _ _ _ _ _ _ hy
          simp only [List.nil_append, Prod.mk.injEq] at e0
          obtain ⟨rfl, rfl⟩ := e0
          have : kenc (.mk 5 0 ⟨#[]⟩ [] ns ds) = [b] ++ (kencF ns ds ++ [0]) := by
            have e : b = 5 := UInt8.toNat_inj.1 hk5
            subst e; simp [kenc]
          rw [this]; exact hl.trans h9
      · rename_i hk3 hk4 hk6 hk5
        injection h with h; injection h with e1 e2; subst e1 e2
        have : kenc (kLeaf b.toNat 0 ⟨#[]⟩) = [b] := by
          unfold kLeaf kenc
          rw [hk _ rfl, if_neg (by omega), if_neg (by omega), if_neg (by omega), if_neg (by omega)]; rfl
        rw [this]; exact hl
theorem flip_nat : ∀ n, n < 256 → n ^^^ 255 = 255 - n := by decide +kernel
theorem flip_xor (c : UInt8) : 255 - c = c ^^^ 255 := by
  have h := c.toNat_lt
  apply UInt8.toNat_inj.1
  rw [UInt8.toNat_xor, UInt8.toNat_sub_of_le _ _ (by rw [UInt8.le_iff_toNat_le]; show c.toNat ≤ 255; omega)]
  exact (flip_nat c.toNat (by omega)).symm
theorem kone_lies {s : ByteArray} {d : Bool} {p q : Nat} {t : Tr} (h : Lies s (if d then 255 else 0) p q (kenc t)) : seg s p q = kone d t := by
  rw [h.2.2]; unfold kone
  cases d
  · simp
  · simp only [if_true]
    apply List.map_congr_left
    intro c _; exact (flip_xor c).symm
theorem kds_lies (s : ByteArray) : ∀ (ds : List Bool) (p : Nat) (acc l : List Tr) (q : Nat), p ≤ s.size → kdsE s ds p acc = .ok (l, q) → ∃ m, l = acc ++ m ∧ m.length = ds.length ∧ (∀ t ∈ m, allowB t = true) ∧ p ≤ q ∧ q ≤ s.size ∧ seg s p q = kencs m ds := by
  intro ds
  induction ds with
  | nil => intro p acc l q hp h; injection h with h; injection h with e1 e2; subst e1 e2; exact ⟨[], by simp, rfl, by simp, Nat.le_refl _, hp, by simp [seg, kencs]⟩
  | cons d r ih =>
    intro p acc l q hp h
    simp only [kdsE] at h
    cases hx : kvE s (if d then 255 else 0) 16 p with
    | error e => rw [hx] at h; cases h
    | ok z =>
      obtain ⟨t, q1⟩ := z
      rw [hx] at h
      have hl := kv_lies s _ 16 p t q1 hx
      simp only at h
      split at h
      · rename_i ha
        obtain ⟨m, e1, e2, e3, e4, e5, e6⟩ := ih _ _ _ _ hl.2.1 h
        refine ⟨t :: m, by rw [e1]; simp, by simp [e2], ?_, Nat.le_trans hl.1 e4, e5, ?_⟩
        · intro x hx; rcases List.mem_cons.1 hx with rfl | hx
          · exact ha
          · exact e3 x hx
        · rw [← seg_trans s hl.1 e4, e6, kone_lies hl]; rfl
      · cases h
theorem kdec_only {s : ByteArray} {ds : List Bool} {ts : List Tr} (h : kdecE s ds = .ok ts) : ts.length = ds.length ∧ kencE ts ds = (s, 0) := by
  unfold kdecE at h
  cases hx : kdsE s ds 0 [] with
  | error e => rw [hx] at h; cases h
  | ok z =>
    obtain ⟨l, q⟩ := z
    rw [hx] at h
    simp only at h
    split at h
    · cases h
    · rename_i hq
      injection h with h
      subst h
      obtain ⟨m, e1, e2, e3, e4, e5, e6⟩ := kds_lies s ds 0 [] l q (by omega) hx
      simp only [List.nil_append] at e1
      subst e1
      have hq2 : q = s.size := by omega
      refine ⟨e2, ?_⟩
      unfold kencE
      rw [if_neg (by simpa using e2), if_pos (List.all_eq_true.2 e3), ← e6, hq2]
      congr 1
      apply bytes_ext
      show seg s 0 s.size = _
      unfold seg
      exact List.take_of_length_le (by simp)
theorem next_bad {s : ByteArray} {fl : UInt8} {p : Nat} {e : Int} (h : nextE s fl p = .error e) : e ≠ 0 := by have := (nextE_err h).1; omega
theorem more_bad {s : ByteArray} {fl : UInt8} {p : Nat} {e : Int} (h : moreE s fl p = .error e) : e ≠ 0 := by
  unfold moreE at h
  cases hx : nextE s fl p with
  | error e0 => rw [hx] at h; injection h with h; subst h; exact next_bad hx
  | ok z =>
    obtain ⟨b, q⟩ := z
    rw [hx] at h
    simp only [moreK] at h
    split at h
    · injection h with h; omega
    · cases h
theorem num_bad {s : ByteArray} {fl : UInt8} : ∀ (n p u : Nat) (e : Int), numN s fl n p u = .error e → e ≠ 0 := by
  intro n
  induction n with
  | zero => intro p u e h; cases h
  | succ n ih =>
    intro p u e h
    simp only [numN] at h
    cases hx : nextE s fl p with
    | error e0 => rw [hx] at h; injection h with h; subst h; exact next_bad hx
    | ok z => obtain ⟨b, q⟩ := z; rw [hx] at h; exact ih _ _ _ h
theorem text_bad {s : ByteArray} {fl : UInt8} : ∀ (n p : Nat) (acc : List UInt8) (e : Int), textE s fl n p acc = .error e → e ≠ 0 := by
  intro n
  induction n with
  | zero => intro p acc e h; injection h with h; omega
  | succ n ih =>
    intro p acc e h
    simp only [textE] at h
    cases hx : nextE s fl p with
    | error e0 => rw [hx] at h; injection h with h; subst h; exact next_bad hx
    | ok z =>
      obtain ⟨c, q⟩ := z
      rw [hx] at h
      simp only at h
      split at h
      · exact ih _ _ _ h
      · cases hy : nextE s fl q with
        | error e0 => rw [hy] at h; injection h with h; subst h; exact next_bad hy
        | ok z2 =>
          obtain ⟨c2, q2⟩ := z2
          rw [hy] at h
          simp only at h
          split at h
          · cases h
          · split at h
            · injection h with h; omega
            · exact ih _ _ _ h
theorem name_bad {s : ByteArray} {fl : UInt8} : ∀ (n p : Nat) (acc : List UInt8) (e : Int), nameE s fl n p acc = .error e → e ≠ 0 := by
  intro n
  induction n with
  | zero => intro p acc e h; injection h with h; omega
  | succ n ih =>
    intro p acc e h
    simp only [nameE] at h
    cases hx : nextE s fl p with
    | error e0 => rw [hx] at h; injection h with h; subst h; exact next_bad hx
    | ok z =>
      obtain ⟨c, q⟩ := z
      rw [hx] at h
      simp only at h
      split at h
      · cases h
      · exact ih _ _ _ h
theorem list_bad {s : ByteArray} {fl : UInt8} {f : Nat → Except Int (Tr × Nat)} (hf : ∀ p e, f p = .error e → e ≠ 0) : ∀ (n p : Nat) (acc : List Tr) (e : Int), klistE s fl f n p acc = .error e → e ≠ 0 := by
  intro n
  induction n with
  | zero => intro p acc e h; injection h with h; omega
  | succ n ih =>
    intro p acc e h
    simp only [klistE] at h
    cases hx : moreE s fl p with
    | error e0 => rw [hx] at h; injection h with h; subst h; exact more_bad hx
    | ok z =>
      obtain ⟨b, q⟩ := z
      rw [hx] at h
      cases b
      · cases h
      · simp only at h
        cases hy : f q with
        | error e0 => rw [hy] at h; injection h with h; subst h; exact hf _ _ hy
        | ok z2 => obtain ⟨t, q2⟩ := z2; rw [hy] at h; exact ih _ _ _ h
theorem doc_bad {s : ByteArray} {fl : UInt8} {f : Nat → Except Int (Tr × Nat)} (hf : ∀ p e, f p = .error e → e ≠ 0) : ∀ (n p : Nat) (ns : List ByteArray) (ds : List Tr) (e : Int), kdocE s fl f n p ns ds = .error e → e ≠ 0 := by
  intro n
  induction n with
  | zero => intro p ns ds e h; injection h with h; omega
  | succ n ih =>
    intro p ns ds e h
    simp only [kdocE] at h
    cases hx : moreE s fl p with
    | error e0 => rw [hx] at h; injection h with h; subst h; exact more_bad hx
    | ok z =>
      obtain ⟨b, q⟩ := z
      rw [hx] at h
      cases b
      · cases h
      · simp only at h
        cases hn : nameE s fl (s.size + 1) q [] with
        | error e0 => rw [hn] at h; injection h with h; subst h; exact name_bad _ _ _ _ hn
        | ok zn =>
          obtain ⟨nm, q3⟩ := zn
          rw [hn] at h
          simp only at h
          cases hy : f q3 with
          | error e0 => rw [hy] at h; injection h with h; subst h; exact hf _ _ hy
          | ok z2 => obtain ⟨t, q2⟩ := z2; rw [hy] at h; exact ih _ _ _ _ h
theorem kv_bad (s : ByteArray) (fl : UInt8) : ∀ (d p : Nat) (e : Int), kvE s fl d p = .error e → e ≠ 0 := by
  intro d
  induction d with
  | zero =>
    intro p e h
    simp only [kvE] at h
    cases hx : nextE s fl p with
    | error e0 => rw [hx] at h; injection h with h; subst h; exact next_bad hx
    | ok z => rw [hx] at h; injection h with h; omega
  | succ d ih =>
    intro p e h
    simp only [kvE] at h
    cases hx : nextE s fl p with
    | error e0 => rw [hx] at h; injection h with h; subst h; exact next_bad hx
    | ok z =>
      obtain ⟨b, q1⟩ := z
      rw [hx] at h
      simp only [kvK] at h
      split at h
      · injection h with h; omega
      split at h
      · cases hy : numN s fl 8 q1 0 with
        | error e0 => rw [hy] at h; injection h with h; subst h; exact num_bad _ _ _ _ hy
        | ok z2 => rw [hy] at h; cases h
      split at h
      · cases hy : textE s fl (s.size + 1) q1 [] with
        | error e0 => rw [hy] at h; injection h with h; subst h; exact text_bad _ _ _ _ hy
        | ok z2 => rw [hy] at h; cases h
      split at h
      · cases hy : klistE s fl (kvE s fl d) (s.size + 1) q1 [] with
        | error e0 => rw [hy] at h; injection h with h; subst h; exact list_bad ih _ _ _ _ hy
        | ok z2 => rw [hy] at h; cases h
      split at h
      · cases hy : kdocE s fl (kvE s fl d) (s.size + 1) q1 [] [] with
        | error e0 => rw [hy] at h; injection h with h; subst h; exact doc_bad ih _ _ _ _ _ hy
        | ok z2 => rw [hy] at h; cases h
      · cases h
theorem kds_bad (s : ByteArray) : ∀ (ds : List Bool) (p : Nat) (acc : List Tr) (e : Int), kdsE s ds p acc = .error e → e ≠ 0 := by
  intro ds
  induction ds with
  | nil => intro p acc e h; cases h
  | cons d r ih =>
    intro p acc e h
    simp only [kdsE] at h
    cases hx : kvE s (if d then 255 else 0) 16 p with
    | error e0 => rw [hx] at h; injection h with h; subst h; exact kv_bad _ _ _ _ _ hx
    | ok z =>
      obtain ⟨t, q⟩ := z
      rw [hx] at h
      simp only at h
      split at h
      · exact ih _ _ _ h
      · injection h with h; omega
theorem kdec_err {s : ByteArray} {ds : List Bool} {e : Int} (h : kdecE s ds = .error e) : e ≠ 0 := by
  unfold kdecE at h
  cases hx : kdsE s ds 0 [] with
  | error e0 => rw [hx] at h; injection h with h; subst h; exact kds_bad _ _ _ _ _ hx
  | ok z =>
    obtain ⟨l, q⟩ := z
    rw [hx] at h
    simp only at h
    split at h
    · injection h with h; omega
    · cases h
end Go.Proofs.YtipphlhaaienpaaDoor
set_option linter.unusedSimpArgs false
set_option linter.unusedVariables false
namespace Go.Proofs.YtipphlhaaienpaaDoor
open Go.RowKit
def awA : Tr := .mk 3 5 ⟨#[]⟩ [] [] []
def awB : Tr := .mk 4 0 ⟨#[97]⟩ [] [] []
theorem awA_ok : allowB awA = true := by simp [allowB, awA, Tr.kind, validB, Tr.cnt, Tr.cntL, Tr.dep, Tr.depL, snd, sndL, sndF, headOk, leafOk, bytes_e]
theorem awB_ok : allowB awB = true := by
  simp [allowB, awB, Tr.kind, validB, Tr.cnt, Tr.cntL, Tr.dep, Tr.depL, snd, sndL, sndF, headOk, leafOk, bytes_e]
  decide
theorem aw_enc : kencE [awA, awB] [false, true] = (⟨#[3, 128, 0, 0, 0, 0, 0, 0, 5, 251, 158, 255, 255]⟩, 0) := by
  unfold kencE
  rw [if_neg (by simp)]
  simp only [List.all_cons, awA_ok, awB_ok, List.all_nil, Bool.and_self, if_true]
  decide
theorem aw_dec : kdecE ⟨#[2, 253]⟩ [false, true] = .ok [.mk 2 0 ⟨#[]⟩ [] [] [], .mk 2 0 ⟨#[]⟩ [] [] []] := by
  rfl
theorem aw_aft : aftR ⟨#[97, 255]⟩ = (⟨#[98]⟩, true) := by decide
theorem leaf_rep (w : World) (k i : Int) (t : ByteArray) (hk : I64 k) (hi : I64 i) (ht : t.size ≤ maxLen) : VRep w (.mk k i t [] [] []) (.agg #[.int .i64 k, .int .i64 i, .string t, .slice none 0 0, .slice none 0 0]) := VNew.rep (VNew.leaf 0 0 w k i t hk hi ht)
theorem aw_list {w : World} {g : Nat} (h : w.heap[g]? = some (.cells #[.int .i64 3, .int .i64 5, .string ⟨#[]⟩, .slice none 0 0, .slice none 0 0, .int .i64 4, .int .i64 0, .string ⟨#[97]⟩, .slice none 0 0, .slice none 0 0] 41 (0, 0))) : LRep w (some ⟨g, 0, none⟩) 0 [awA, awB] := by
  have hc := blk_cell h
  unfold LRep
  refine ⟨⟨g, 0, _, _, _, _, _, rfl, hc 0, hc 1, hc 2, hc 3, hc 4, leaf_rep w 3 5 ⟨#[]⟩ (by unfold I64; omega) (by unfold I64; omega) (by unfold maxLen; decide)⟩, ?_⟩
  unfold LRep
  refine ⟨⟨g, 0, _, _, _, _, _, rfl, hc 5, hc 6, hc 7, hc 8, hc 9, leaf_rep w 4 0 ⟨#[97]⟩ (by unfold I64; omega) (by unfold I64; omega) (by unfold maxLen; decide)⟩, ?_⟩
  unfold LRep; trivial
theorem aw_bools {w : World} {g : Nat} (h : w.heap[g]? = some (.cells #[.bool false, .bool true] 4 (0, 0))) : BRep w (some ⟨g, 0, none⟩) [false, true] := by
  have hc := blk_cell h
  intro j d hj
  match j, hj with
  | 0, hj => injection hj with hj; subst hj; exact ⟨g, 0, rfl, hc 0⟩
  | 1, hj => injection hj with hj; subst hj; exact ⟨g, 0, rfl, hc 1⟩
  | j + 2, hj => simp at hj
set_option maxRecDepth 20000 in
set_option maxHeartbeats 2000000 in
theorem awake_ok (w : World) (hT : Tabs w) : Calls Tryd.prog 10 #[] w fun e w' => e = .returned (.bool true) ∧ Ext w w' := by
  have HT := Lib.hid hT
  clear hT
  go_enter Tryd.func10, Tryd.ntmps10
  go_wp2_with fail
  refine (Encode_ok [awA, awB] [false, true] _ _ 2 2 _ (aw_list (blk_alloc (blk_at0 w _) _)) (by simp) (by unfold maxLen; omega) (aw_bools (blk_at1 w _ _)) (by simp) (by unfold maxLen; omega) (by simp) (HT.out.ext (((Ext.refl w).alloc _).alloc _))).mono ?_
  rw [aw_enc]
  rintro e w1 ⟨rfl, h1⟩
  have HE1 := Lib.hid ((((Ext.refl w).alloc _).alloc _).trans h1)
  clear h1
  go_wp2_with fail
  refine (Decode_ok ⟨#[2, 253]⟩ [false, true] _ 2 _ (by decide) (aw_bools (blk_at0 w1 _)) (by simp) (by unfold maxLen; omega) (by simp) (HT.out.ext (HE1.out.alloc _))).mono ?_
  rw [aw_dec]
  rintro e w2 ⟨a, c, rfl, hc1, hc2, hL, h2⟩
  have HE2 := Lib.hid (HE1.out.trans h2.of_alloc)
  obtain ⟨b, off, c0, c1, c2, c3, c4, rfl, e0, -, -, -, -, hv⟩ := LRep.at_ _ 0 1 (.mk 2 0 ⟨#[]⟩ [] [] []) hL rfl
  unfold VRep at hv
  obtain ⟨_, _, _, _, ev, -⟩ := hv
  injection ev with ev
  simp only [Array.mk.injEq, List.cons.injEq] at ev
  obtain ⟨rfl, -⟩ := ev
  have HC0 := Lib.hid e0
  clear h2 hL e0
  go_wp2_with fail
  refine (After_ok ⟨#[97, 255]⟩ _ (by decide)).mono ?_
  rw [aw_aft]
  rintro e w3 ⟨rfl, h3⟩
  have HE3 := Lib.hid (HE2.out.trans h3)
  have q0 := h3.keep HC0.out
  have hb : b < w3.heap.size := World.block_lt_of_cell? _ _ q0
  simp only [Nat.zero_add, Nat.one_mul] at q0
  unfold maxLen at hc2
  simp at hc1
  clear h3 HC0
  go_wp2_with fail
  go_ret
  exact ⟨rfl, HE3.out⟩
def preB (p x : ByteArray) : Bool := p.data.toList.isPrefixOf x.data.toList
theorem isPre_take (p x : List UInt8) : p.isPrefixOf x = decide (x.take p.length = p) := by
  by_cases h : x.take p.length = p
  · rw [decide_eq_true h]; exact List.isPrefixOf_iff_prefix.2 (by rw [← h]; exact List.take_prefix _ _)
  · rw [decide_eq_false h, Bool.eq_false_iff]
    intro h2
    obtain ⟨y, hy⟩ := List.isPrefixOf_iff_prefix.1 h2
    exact h (by rw [← hy]; simp)
theorem extract_eq (x p : ByteArray) : (x.extract 0 p.size = p) ↔ x.data.toList.take p.data.toList.length = p.data.toList := by
  have hl : p.data.toList.length = p.size := by simp
  constructor
  · intro h
    have := congrArg (fun b : ByteArray => b.data.toList) h
    simp only [ByteArray.data_extract, Array.toList_extract] at this
    rw [hl, ← this]; simp
  · intro h
    apply bytes_ext
    rw [ByteArray.data_extract, Array.toList_extract, ← hl]
    simpa using h
set_option maxRecDepth 20000 in
set_option maxHeartbeats 2000000 in
theorem HasPrefix2_ok (x p : ByteArray) (w : World) (hp : p.size ≤ 140737488355327) (hx : x.size ≤ 140737488355327) : Calls Tryd.prog 31 #[.string x, .string p] w fun e w' => e = .returned (.bool (preB p x)) ∧ w = w' := by
  have hlp : p.data.toList.length = p.size := by simp
  have hlx : x.data.toList.length = x.size := by simp
  by_cases h : p.size ≤ x.size
  · have d : decide (p.size ≤ x.size) = true := by simpa using h
    have hr : preB p x = ((x.extract 0 p.size).toList == p.toList) := by
      unfold preB
      rw [isPre_take, str_eqv]
      by_cases e : x.extract 0 p.size = p
      · rw [decide_eq_true e, decide_eq_true ((extract_eq x p).1 e)]
      · rw [decide_eq_false e, decide_eq_false (fun e2 => e ((extract_eq x p).2 e2))]
    rw [hr]
    clear hr hlp hlx
    go_enter Tryd.func31, Tryd.ntmps31
    go_wp2_with fail
    go_ret
    exact ⟨rfl, rfl⟩
  · have d : decide (p.size ≤ x.size) = false := by simpa using h
    have hr : preB p x = false := by
      unfold preB
      rw [isPre_take, decide_eq_false]
      intro e
      have := congrArg List.length e
      rw [List.length_take, hlp, hlx] at this; omega
    rw [hr]
    clear hr hlp hlx
    go_enter Tryd.func31, Tryd.ntmps31
    go_wp2_with fail
    go_ret
    exact ⟨rfl, rfl⟩
set_option maxRecDepth 20000 in
theorem HasPrefix_ok (x p : ByteArray) (w : World) (hp : p.size ≤ 140737488355327) (hx : x.size ≤ 140737488355327) : Calls Tryd.prog 18 #[.string x, .string p] w fun e w' => e = .returned (.bool (preB p x)) ∧ w = w' := by
  go_enter Tryd.func18, Tryd.ntmps18
  go_wp2_with fail
  refine (HasPrefix2_ok x p _ hp hx).mono ?_
  rintro e w1 ⟨rfl, rfl⟩
  go_wp2_with fail
  go_ret
  exact ⟨rfl, rfl⟩
set_option maxRecDepth 20000 in
set_option maxHeartbeats 2000000 in
theorem after_walk (p x : ByteArray) (w : World) (hp : p.size ≤ 140737488355327) (hx : x.size ≤ 140737488355327) (hT : Tabs w) : Calls Tryd.prog 7 #[.string p, .string x] w fun e w' => e = .returned (.bool true) ∧ Ext w w' := by
  have HT := Lib.hid hT
  clear hT
  obtain ⟨r, hr⟩ : ∃ r, aftR p = r := ⟨_, rfl⟩
  obtain ⟨a, b⟩ := r
  have HR := Lib.hid hr
  cases b
  · obtain ⟨rfl, hall⟩ := aft_none hr
    have HAll := Lib.hid hall
    clear hr hall
    go_enter Tryd.func7, Tryd.ntmps7
    go_wp2_with fail
    refine (After_ok p _ hp).mono ?_
    rw [HR.out]
    rintro e w1 ⟨rfl, h1⟩
    have HE1 := Lib.hid h1
    clear h1
    go_wp2_with fail
    go_loopw [17] (fun i wr => ∃ j : Nat, j ≤ p.size ∧ i = .int .i64 j ∧ wr = w1) (fun i _ => p.size - (intOf i).toNat)
    case atStart => exact ⟨0, by omega, rfl, rfl⟩
    case round =>
      obtain ⟨j, hj, rfl, rfl⟩ := hrel
      by_cases hlt : j < p.size
      · have hb := kbyte_at' p j hlt
        rw [HAll.out j hlt] at hb
        go_wp2_with fail
        exact ⟨⟨j + 1, by omega, by go_num, trivial⟩, by simp [intOf]; omega⟩
      · go_wp2_with fail
        refine (awake_ok _ (HT.out.ext HE1.out)).mono ?_
        rintro e w2 ⟨rfl, h2⟩
        go_wp2_with fail
        go_ret
        exact ⟨rfl, HE1.out.trans h2⟩
  · obtain ⟨u, b, s, hb, hs, ep, ea⟩ := aft_split hr
    have h1 := aft_more b hb s u
    have h2 := aft_range b hb s hs u x.data.toList
    rw [← ep, ← ea] at h1 h2
    have d1 : Op.bytesLess a.toList p.toList = false := by rw [ByteArray.toList_eq, ByteArray.toList_eq]; exact h1.1
    have d2 : (a.toList == p.toList) = false := by rw [ByteArray.toList_eq, ByteArray.toList_eq, beq_eq_false_iff_ne]; exact h1.2
    have h2' : preB p x = (!Op.bytesLess x.toList p.toList && Op.bytesLess x.toList a.toList) := by
      rw [ByteArray.toList_eq, ByteArray.toList_eq, ByteArray.toList_eq]; exact h2
    have HP := Lib.hid h2'
    clear hr h1 h2 h2' ep ea hb hs
    go_enter Tryd.func7, Tryd.ntmps7
    go_wp2_with fail
    refine (After_ok p _ hp).mono ?_
    rw [HR.out]
    rintro e w1 ⟨rfl, h1⟩
    have HE1 := Lib.hid h1
    clear h1
    go_wp2_with fail
    refine (HasPrefix_ok x p _ hp hx).mono ?_
    rintro e w2 ⟨rfl, rfl⟩
    rw [HP.out]
    obtain ⟨b1, hb1⟩ : ∃ b, Op.bytesLess x.toList p.toList = b := ⟨_, rfl⟩
    obtain ⟨b2, hb2⟩ : ∃ b, Op.bytesLess x.toList a.toList = b := ⟨_, rfl⟩
    rw [hb1, hb2]
    cases b1 <;> cases b2
    all_goals
      go_wp2_with fail
      refine (awake_ok _ (HT.out.ext HE1.out)).mono ?_
      rintro e w3 ⟨rfl, h3⟩
      go_wp2_with fail
      go_ret
      exact ⟨rfl, HE1.out.trans h3⟩
end Go.Proofs.YtipphlhaaienpaaDoor
set_option linter.unusedSimpArgs false
set_option linter.unusedVariables false
namespace Go.Proofs.YtipphlhaaienpaaDoor
open Go.RowKit
mutual
/-- The value v is the tree t, in world w. -/
def VRepW (w : World) : Tr → Value → Prop
  | .mk k i s l ns ds, v => ∃ (la : Option Addr) (lc : Nat) (da : Option Addr) (dc : Nat), v = .agg #[.int .i64 k, .int .i64 i, .string s, .slice la l.length lc, .slice da ds.length dc] ∧ (s.size ≤ maxLen ∧ I64 k ∧ I64 i) ∧
      l.length ≤ lc ∧ lc ≤ maxLen ∧ ds.length ≤ dc ∧ dc ≤ maxLen ∧ ns.length = ds.length ∧ LRepW w la 0 l ∧ DRepW w da 0 ns ds
/-- From offset o on lie the values of l. -/
def LRepW (w : World) (a : Option Addr) : Nat → List Tr → Prop
  | _, [] => True
  | o, t :: r => (∃ b off c0 c1 c2 c3 c4, a = some ⟨b, off, none⟩ ∧ w.cell? ⟨b, off + o, none⟩ = some c0 ∧ w.cell? ⟨b, off + o + 1, none⟩ = some c1 ∧ w.cell? ⟨b, off + o + 2, none⟩ = some c2 ∧ w.cell? ⟨b, off + o + 3, none⟩ = some c3 ∧ w.cell? ⟨b, off + o + 4, none⟩ = some c4 ∧ VRepW w t (.agg #[c0, c1, c2, c3, c4])) ∧ LRepW w a (o + 5) r
/-- From offset o on lie the fields. -/
def DRepW (w : World) (a : Option Addr) : Nat → List ByteArray → List Tr → Prop
  | _, _, [] => True
  | _, [], _ :: _ => False
  | o, n :: nr, t :: r => (∃ b off c0 c1 c2 c3 c4, a = some ⟨b, off, none⟩ ∧ n.size ≤ maxLen ∧ w.cell? ⟨b, off + o, none⟩ = some (.string n) ∧ w.cell? ⟨b, off + o + 1, none⟩ = some c0 ∧ w.cell? ⟨b, off + o + 2, none⟩ = some c1 ∧ w.cell? ⟨b, off + o + 3, none⟩ = some c2 ∧ w.cell? ⟨b, off + o + 4, none⟩ = some c3 ∧ w.cell? ⟨b, off + o + 5, none⟩ = some c4 ∧ VRepW w t (.agg #[c0, c1, c2, c3, c4])) ∧ DRepW w a (o + 6) nr r
end
mutual
theorem VRepW.ext {w w' : World} (h : Ext w w') : ∀ (t : Tr) (v : Value), VRepW w t v → VRepW w' t v
  | .mk k i s l ns ds, v, hv => by
    unfold VRepW at hv ⊢
    obtain ⟨la, lc, da, dc, h1, h2, h3, h4, h5, h6, h7, h8, h9⟩ := hv
    exact ⟨la, lc, da, dc, h1, h2, h3, h4, h5, h6, h7, LRepW.ext h la 0 l h8, DRepW.ext h da 0 ns ds h9⟩
theorem LRepW.ext {w w' : World} (h : Ext w w') (a : Option Addr) : ∀ (o : Nat) (l : List Tr), LRepW w a o l → LRepW w' a o l
  | _, [], _ => by unfold LRepW; trivial
  | o, t :: r, hl => by
    unfold LRepW at hl ⊢
    obtain ⟨⟨b, off, c0, c1, c2, c3, c4, h0, h1, h2, h3, h4, h5, h6⟩, hr⟩ := hl
    exact ⟨⟨b, off, c0, c1, c2, c3, c4, h0, h.keep h1, h.keep h2, h.keep h3, h.keep h4, h.keep h5, VRepW.ext h t _ h6⟩, LRepW.ext h a (o + 5) r hr⟩
theorem DRepW.ext {w w' : World} (h : Ext w w') (a : Option Addr) : ∀ (o : Nat) (ns : List ByteArray) (l : List Tr), DRepW w a o ns l → DRepW w' a o ns l
  | _, _, [], _ => by unfold DRepW; trivial
  | _, [], _ :: _, hl => by unfold DRepW at hl; exact hl.elim
  | o, n :: nr, t :: r, hl => by
    unfold DRepW at hl ⊢
    obtain ⟨⟨b, off, c0, c1, c2, c3, c4, h0, hn, h1, h2, h3, h4, h5, h6, h7⟩, hr⟩ := hl
    exact ⟨⟨b, off, c0, c1, c2, c3, c4, h0, hn, h.keep h1, h.keep h2, h.keep h3, h.keep h4, h.keep h5, h.keep h6, VRepW.ext h t _ h7⟩, DRepW.ext h a (o + 6) nr r hr⟩
end
/-- The element j of a list. -/
theorem LRepW.at_ {w : World} {a : Option Addr} : ∀ (l : List Tr) (o j : Nat) (t : Tr), LRepW w a o l → l[j]? = some t →
    ∃ b off c0 c1 c2 c3 c4, a = some ⟨b, off, none⟩ ∧ w.cell? ⟨b, off + (o + j * 5), none⟩ = some c0 ∧ w.cell? ⟨b, off + (o + j * 5) + 1, none⟩ = some c1 ∧ w.cell? ⟨b, off + (o + j * 5) + 2, none⟩ = some c2 ∧ w.cell? ⟨b, off + (o + j * 5) + 3, none⟩ = some c3 ∧ w.cell? ⟨b, off + (o + j * 5) + 4, none⟩ = some c4 ∧ VRepW w t (.agg #[c0, c1, c2, c3, c4])
  | [], _, j, t, _, hj => by simp at hj
  | x :: r, o, 0, t, hl, hj => by
    unfold LRepW at hl
    obtain rfl : x = t := by simpa using hj
    simpa using hl.1
  | x :: r, o, j + 1, t, hl, hj => by
    unfold LRepW at hl
    have := LRepW.at_ r (o + 5) j t hl.2 (by simpa using hj)
    rw [show o + (j + 1) * 5 = o + 5 + j * 5 by omega]
    exact this
/-- The field j. -/
theorem DRepW.at_ {w : World} {a : Option Addr} : ∀ (ns : List ByteArray) (l : List Tr) (o j : Nat) (n : ByteArray) (t : Tr), DRepW w a o ns l → ns[j]? = some n → l[j]? = some t →
    ∃ b off c0 c1 c2 c3 c4, a = some ⟨b, off, none⟩ ∧ n.size ≤ maxLen ∧ w.cell? ⟨b, off + (o + j * 6), none⟩ = some (.string n) ∧ w.cell? ⟨b, off + (o + j * 6) + 1, none⟩ = some c0 ∧ w.cell? ⟨b, off + (o + j * 6) + 2, none⟩ = some c1 ∧ w.cell? ⟨b, off + (o + j * 6) + 3, none⟩ = some c2 ∧ w.cell? ⟨b, off + (o + j * 6) + 4, none⟩ = some c3 ∧ w.cell? ⟨b, off + (o + j * 6) + 5, none⟩ = some c4 ∧ VRepW w t (.agg #[c0, c1, c2, c3, c4])
  | ns, [], _, j, _, t, _, _, hj => by simp at hj
  | [], x :: r, _, j, _, t, hl, hn, _ => by simp at hn
  | m :: nr, x :: r, o, 0, n, t, hl, hn, hj => by
    unfold DRepW at hl
    obtain rfl : x = t := by simpa using hj
    obtain rfl : m = n := by simpa using hn
    simpa using hl.1
  | m :: nr, x :: r, o, j + 1, n, t, hl, hn, hj => by
    unfold DRepW at hl
    have := DRepW.at_ nr r (o + 6) j n t hl.2 (by simpa using hn) (by simpa using hj)
    rw [show o + (j + 1) * 6 = o + 6 + j * 6 by omega]
    exact this
/-- The cells of a value. -/
theorem VRepW.shape {w : World} {t : Tr} {v : Value} (h : VRepW w t v) : ∃ (k i : Int) (s : ByteArray) (la : Option Addr) (ln lc : Nat) (da : Option Addr) (dn dc : Nat), v = .agg #[.int .i64 k, .int .i64 i, .string s, .slice la ln lc, .slice da dn dc] := by
  cases t
  unfold VRepW at h
  obtain ⟨la, lc, da, dc, rfl, _⟩ := h
  exact ⟨_, _, _, _, _, _, _, _, _, rfl⟩
theorem VRepW.shape5 {w : World} {t : Tr} {c0 c1 c2 c3 c4 : Value} (h : VRepW w t (.agg #[c0, c1, c2, c3, c4])) : ∃ (k i : Int) (s : ByteArray) (la : Option Addr) (ln lc : Nat) (da : Option Addr) (dn dc : Nat), c0 = .int .i64 k ∧ c1 = .int .i64 i ∧ c2 = .string s ∧ c3 = .slice la ln lc ∧ c4 = .slice da dn dc := by
  obtain ⟨k, i, s, la, ln, lc, da, dn, dc, e⟩ := h.shape
  injection e with e
  simp only [Array.mk.injEq, List.cons.injEq, and_true] at e
  exact ⟨k, i, s, la, ln, lc, da, dn, dc, e.1, e.2.1, e.2.2.1, e.2.2.2.1, e.2.2.2.2⟩
mutual
/-- no list or document of more than 3000 parts -/
def Tr.Sm : Tr → Prop | .mk _ _ _ l _ ds => l.length ≤ 3000 ∧ ds.length ≤ 3000 ∧ Tr.SmL l ∧ Tr.SmL ds
def Tr.SmL : List Tr → Prop | [] => True | t :: r => Tr.Sm t ∧ Tr.SmL r
end
theorem Tr.SmL_of : ∀ (l : List Tr), (∀ t ∈ l, t.Sm) → Tr.SmL l
  | [], _ => by unfold Tr.SmL; trivial
  | t :: r, h => by unfold Tr.SmL; exact ⟨h t (by simp), Tr.SmL_of r (fun x hx => h x (by simp [hx]))⟩
mutual
theorem VRepW.strong {w : World} : ∀ (t : Tr) (v : Value), VRepW w t v → t.Sm → VRep w t v
  | .mk k i s l ns ds, v, hv, hs => by
    unfold VRepW at hv
    unfold Tr.Sm at hs
    unfold VRep
    obtain ⟨la, lc, da, dc, h1, h2, h3, h4, h5, h6, h7, h8, h9⟩ := hv
    exact ⟨la, lc, da, dc, h1, h2, ⟨h3, by omega⟩, h4, ⟨h5, by omega⟩, h6, h7, LRepW.strong la 0 l h8 hs.2.2.1, DRepW.strong da 0 ns ds h9 hs.2.2.2⟩
theorem LRepW.strong {w : World} (a : Option Addr) : ∀ (o : Nat) (l : List Tr), LRepW w a o l → Tr.SmL l → LRep w a o l
  | _, [], _, _ => by unfold LRep; trivial
  | o, t :: r, hl, hs => by
    unfold LRepW at hl
    unfold Tr.SmL at hs
    unfold LRep
    obtain ⟨⟨b, off, c0, c1, c2, c3, c4, h0, h1, h2, h3, h4, h5, h6⟩, hr⟩ := hl
    exact ⟨⟨b, off, c0, c1, c2, c3, c4, h0, h1, h2, h3, h4, h5, VRepW.strong t _ h6 hs.1⟩, LRepW.strong a (o + 5) r hr hs.2⟩
theorem DRepW.strong {w : World} (a : Option Addr) : ∀ (o : Nat) (ns : List ByteArray) (l : List Tr), DRepW w a o ns l → Tr.SmL l → DRep w a o ns l
  | _, _, [], _, _ => by unfold DRep; trivial
  | _, [], _ :: _, hl, _ => by unfold DRepW at hl; exact hl.elim
  | o, n :: nr, t :: r, hl, hs => by
    unfold DRepW at hl
    unfold Tr.SmL at hs
    unfold DRep
    obtain ⟨⟨b, off, c0, c1, c2, c3, c4, h0, hn, h1, h2, h3, h4, h5, h6, h7⟩, hr⟩ := hl
    exact ⟨⟨b, off, c0, c1, c2, c3, c4, h0, hn, h1, h2, h3, h4, h5, h6, VRepW.strong t _ h7 hs.1⟩, DRepW.strong a (o + 6) nr r hr hs.2⟩
end
/-- A list of elements that each lie in memory as some tree is a list of trees. -/
theorem lrepW_of {w : World} {b off : Nat} : ∀ (n o : Nat), (∀ j, j < n → ∃ c0 c1 c2 c3 c4 t, w.cell? ⟨b, off + (o + j * 5), none⟩ = some c0 ∧ w.cell? ⟨b, off + (o + j * 5) + 1, none⟩ = some c1 ∧ w.cell? ⟨b, off + (o + j * 5) + 2, none⟩ = some c2 ∧ w.cell? ⟨b, off + (o + j * 5) + 3, none⟩ = some c3 ∧ w.cell? ⟨b, off + (o + j * 5) + 4, none⟩ = some c4 ∧ VRepW w t (.agg #[c0, c1, c2, c3, c4])) →
    ∃ l : List Tr, l.length = n ∧ LRepW w (some ⟨b, off, none⟩) o l
  | 0, o, _ => ⟨[], rfl, by unfold LRepW; trivial⟩
  | n + 1, o, h => by
    obtain ⟨c0, c1, c2, c3, c4, t, e0, e1, e2, e3, e4, hv⟩ := h 0 (by omega)
    obtain ⟨l, hl, hr⟩ := lrepW_of (w := w) (b := b) (off := off) n (o + 5) (fun j hj => by
      have := h (j + 1) (by omega)
      rw [show o + (j + 1) * 5 = o + 5 + j * 5 by omega] at this
      exact this)
    simp only [Nat.zero_mul, Nat.add_zero] at e0 e1 e2 e3 e4
    refine ⟨t :: l, by simp [hl], ?_⟩
    unfold LRepW
    exact ⟨⟨b, off, c0, c1, c2, c3, c4, rfl, e0, e1, e2, e3, e4, hv⟩, hr⟩
theorem drepW_of {w : World} {b off : Nat} : ∀ (n o : Nat), (∀ j, j < n → ∃ nm c0 c1 c2 c3 c4 t, nm.size ≤ maxLen ∧ w.cell? ⟨b, off + (o + j * 6), none⟩ = some (.string nm) ∧ w.cell? ⟨b, off + (o + j * 6) + 1, none⟩ = some c0 ∧ w.cell? ⟨b, off + (o + j * 6) + 2, none⟩ = some c1 ∧ w.cell? ⟨b, off + (o + j * 6) + 3, none⟩ = some c2 ∧ w.cell? ⟨b, off + (o + j * 6) + 4, none⟩ = some c3 ∧ w.cell? ⟨b, off + (o + j * 6) + 5, none⟩ = some c4 ∧ VRepW w t (.agg #[c0, c1, c2, c3, c4])) →
    ∃ (ns : List ByteArray) (l : List Tr), ns.length = n ∧ l.length = n ∧ DRepW w (some ⟨b, off, none⟩) o ns l
  | 0, o, _ => ⟨[], [], rfl, rfl, by unfold DRepW; trivial⟩
  | n + 1, o, h => by
    obtain ⟨nm, c0, c1, c2, c3, c4, t, hn, en, e0, e1, e2, e3, e4, hv⟩ := h 0 (by omega)
    obtain ⟨ns, l, hns, hl, hr⟩ := drepW_of (w := w) (b := b) (off := off) n (o + 6) (fun j hj => by
      have := h (j + 1) (by omega)
      rw [show o + (j + 1) * 6 = o + 6 + j * 6 by omega] at this
      exact this)
    simp only [Nat.zero_mul, Nat.add_zero] at en e0 e1 e2 e3 e4
    refine ⟨nm :: ns, t :: l, by simp [hns], by simp [hl], ?_⟩
    unfold DRepW
    exact ⟨⟨b, off, c0, c1, c2, c3, c4, rfl, hn, en, e0, e1, e2, e3, e4, hv⟩, hr⟩
end Go.Proofs.YtipphlhaaienpaaDoor
set_option linter.unusedSimpArgs false
set_option linter.unusedVariables false
namespace Go.Proofs.YtipphlhaaienpaaDoor
open Go.ChangeShapes Go.WideShapes Go.ChangeAt Go.RowKit
section
variable {H : Type} {enc : TypeId × Value → H} {w : World}
theorem len5 {α : Type} {l : List α} (h : l.length = 5) : ∃ a b c d e, l = [a, b, c, d, e] := by
  match l, h with
  | [a, b, c, d, e], _ => exact ⟨a, b, c, d, e, rfl⟩
theorem len6 {α : Type} {l : List α} (h : l.length = 6) : ∃ a b c d e f, l = [a, b, c, d, e, f] := by
  match l, h with
  | [a, b, c, d, e, f], _ => exact ⟨a, b, c, d, e, f, rfl⟩
theorem cellsVal : Tryd.prog.cellsOf 41 = 5 := by kernel_rfl
theorem cellsFld : Tryd.prog.cellsOf 58 = 6 := by kernel_rfl
theorem cellsInt : Tryd.prog.cellsOf 3 = 1 := by kernel_rfl
theorem cellsStr : Tryd.prog.cellsOf 9 = 1 := by kernel_rfl
theorem cellsLVal : Tryd.prog.cellsOf 22 = 1 := by kernel_rfl
theorem cellsLFld : Tryd.prog.cellsOf 39 = 1 := by kernel_rfl
theorem spot_none {a : Addr} {v : Value} (h : w.cell? a = some v) : a = ⟨a.block, a.off, none⟩ := by
  unfold World.cell? at h
  split at h
  · split at h
    · cases h
    · rename_i hs
      obtain ⟨b, o, s⟩ := a
      cases s
      · rfl
      · simp at hs
  · cases h
theorem add_plain2 (b o q : Nat) : (⟨b, o, none⟩ : Addr).add q = ⟨b, o + q, none⟩ := by unfold Addr.add; split <;> simp_all
theorem i64_of_wf {n : Int} (h : (Lit.int .i64 n).wf = true) : I64 n := by
  simp only [Lit.wf, Bool.and_eq_true, decide_eq_true_eq] at h
  have h1 : IntKind.min .i64 = -9223372036854775808 := by kernel_rfl
  have h2 : IntKind.max .i64 = 9223372036854775807 := by kernel_rfl
  unfold I64; omega
theorem bind_some {α β : Type} {o : Option α} {f : α → Option β} {l : List β} {i : Nat} (hi : i < l.length) (h : o.bind f = l[i]?) : ∃ a y, o = some a ∧ f a = some y := by
  rw [List.getElem?_eq_getElem hi, Option.bind_eq_some_iff] at h
  obtain ⟨a, h1, h2⟩ := h
  exact ⟨a, _, h1, h2⟩
theorem get_some {α : Type} {o : Option α} {l : List α} {i : Nat} (hi : i < l.length) (h : o = l[i]?) : ∃ y, o = some y := ⟨_, h.trans (List.getElem?_eq_getElem hi)⟩
theorem vrepW_of_trod : ∀ (fuel : Nat) (cs : List Value) (x : DataW H × List MemPlace), DataW.trod enc Tryd.prog w 0 (fun _ => true) true fuel 41 cs = some x →
    ∃ t c0 c1 c2 c3 c4, cs = [c0, c1, c2, c3, c4] ∧ VRepW w t (.agg #[c0, c1, c2, c3, c4]) := by
  intro fuel
  induction fuel using Nat.strongRecOn with
  | _ fuel ih =>
    intro cs x h
    obtain ⟨xs, n, rfl, rfl, hl, hlen, hf⟩ := DataW.trod_struct Tryd.underlying41 h
    rw [cellsVal] at hl
    obtain ⟨c0, c1, c2, c3, c4, rfl⟩ := len5 hl
    have hlen5 : xs.length = 5 := hlen
    obtain ⟨y0, h0⟩ := get_some (show 0 < xs.length by omega) (hf 0 _ rfl)
    obtain ⟨y1, h1⟩ := get_some (show 1 < xs.length by omega) (hf 1 _ rfl)
    obtain ⟨y2, h2⟩ := get_some (show 2 < xs.length by omega) (hf 2 _ rfl)
    obtain ⟨y3, h3⟩ := get_some (show 3 < xs.length by omega) (hf 3 _ rfl)
    obtain ⟨y4, h4⟩ := get_some (show 4 < xs.length by omega) (hf 4 _ rfl)
    simp only [List.getElem_toArray, List.getElem_cons_zero, List.getElem_cons_succ, cellsInt, cellsStr, cellsLVal, cellsLFld, List.drop_succ_cons, List.drop_zero, List.take_succ_cons, List.take_zero] at h0 h1 h2 h3 h4
    obtain ⟨k, e0, -, k0⟩ := DataW.trod_int Tryd.underlying3 h0
    obtain ⟨i, e1, -, k1⟩ := DataW.trod_int Tryd.underlying3 h1
    obtain ⟨s, e2, -, k2⟩ := DataW.trod_string Tryd.underlying9 h2
    simp only [List.cons.injEq, and_true] at e0 e1 e2
    subst e0 e1 e2
    clear hf h0 h1 h2 h hl hlen
    have L : ∃ (la : Option Addr) (lc : Nat) (l : List Tr), c3 = .slice la l.length lc ∧ l.length ≤ lc ∧ lc ≤ maxLen ∧ LRepW w la 0 l := by
      rcases DataW.trod_slice Tryd.underlying22 h3 with ⟨e, _⟩ | ⟨a, len, cap, elems, rest, m, rfl, e, -, -, hlc, hcm, hel, hat, -, -⟩
      · simp only [List.cons.injEq, and_true] at e
        exact ⟨none, 0, [], e, by simp, by simp, by unfold LRepW; trivial⟩
      · simp only [List.cons.injEq, and_true] at e
        cases len with
        | zero => exact ⟨some a, cap, [], e, by simp, hcm, by unfold LRepW; trivial⟩
        | succ len =>
          simp only [cellsVal] at hat
          have each : ∀ j, j < len + 1 → ∃ c0 c1 c2 c3 c4 t, (∀ q u, [c0, c1, c2, c3, c4][q]? = some u → w.cell? ((a.add (j * 5)).add q) = some u) ∧ VRepW w t (.agg #[c0, c1, c2, c3, c4]) := by
            intro j hj
            obtain ⟨cs', y, hc, hy⟩ := bind_some (by omega) (hat j hj)
            obtain ⟨t, c0, c1, c2, c3, c4, rfl, hv⟩ := ih m (by omega) cs' y hy
            refine ⟨c0, c1, c2, c3, c4, t, fun q u hq => ?_, hv⟩
            rw [(World.cells?_some hc).2.2 q (by have := (List.getElem?_eq_some_iff.1 hq).1; simpa using this), hq]
          have ha : a = ⟨a.block, a.off, none⟩ := by
            obtain ⟨c0, _, _, _, _, _, hc, _⟩ := each 0 (by omega)
            have := hc 0 c0 rfl
            simp only [Nat.zero_mul, Addr.add, if_true] at this
            exact spot_none this
          obtain ⟨b, off, sp⟩ := a
          simp only [Addr.mk.injEq, true_and] at ha
          subst ha
          obtain ⟨l, hl, hr⟩ := lrepW_of (w := w) (b := b) (off := off) (len + 1) 0 (fun j hj => by
            obtain ⟨c0, c1, c2, c3, c4, t, hc, hv⟩ := each j hj
            have key : ∀ q, ((⟨b, off, none⟩ : Addr).add (j * 5)).add q = ⟨b, off + (0 + j * 5) + q, none⟩ := by
              intro q
              rw [add_plain2, add_plain2, Nat.zero_add]
            refine ⟨c0, c1, c2, c3, c4, t, ?_, ?_, ?_, ?_, ?_, hv⟩
            · have := hc 0 c0 rfl; rwa [key] at this
            · have := hc 1 c1 rfl; rwa [key] at this
            · have := hc 2 c2 rfl; rwa [key] at this
            · have := hc 3 c3 rfl; rwa [key] at this
            · have := hc 4 c4 rfl; rwa [key] at this)
          exact ⟨_, cap, l, by rw [hl]; exact e, by omega, hcm, hr⟩
    have D : ∃ (da : Option Addr) (dc : Nat) (ns : List ByteArray) (ds : List Tr), c4 = .slice da ds.length dc ∧ ns.length = ds.length ∧ ds.length ≤ dc ∧ dc ≤ maxLen ∧ DRepW w da 0 ns ds := by
      rcases DataW.trod_slice Tryd.underlying39 h4 with ⟨e, _⟩ | ⟨a, len, cap, elems, rest, m, rfl, e, -, -, hlc, hcm, hel, hat, -, -⟩
      · simp only [List.cons.injEq, and_true] at e
        exact ⟨none, 0, [], [], e, by simp, by simp, by simp, by unfold DRepW; trivial⟩
      · simp only [List.cons.injEq, and_true] at e
        cases len with
        | zero => exact ⟨some a, cap, [], [], e, by simp, by simp, hcm, by unfold DRepW; trivial⟩
        | succ len =>
          simp only [cellsFld] at hat
          have each : ∀ j, j < len + 1 → ∃ nm c0 c1 c2 c3 c4 t, nm.size ≤ maxLen ∧ (∀ q u, [.string nm, c0, c1, c2, c3, c4][q]? = some u → w.cell? ((a.add (j * 6)).add q) = some u) ∧ VRepW w t (.agg #[c0, c1, c2, c3, c4]) := by
            intro j hj
            obtain ⟨cs', y, hc, hy⟩ := bind_some (by omega) (hat j hj)
            obtain ⟨xs', n', rfl, rfl, hl', hlen', hf'⟩ := DataW.trod_struct Tryd.underlying58 hy
            rw [cellsFld] at hl'
            obtain ⟨cn, c0, c1, c2, c3, c4, rfl⟩ := len6 hl'
            have hlen2 : xs'.length = 2 := hlen'
            obtain ⟨z0, g0⟩ := get_some (show 0 < xs'.length by omega) (hf' 0 _ rfl)
            obtain ⟨z1, g1⟩ := get_some (show 1 < xs'.length by omega) (hf' 1 _ rfl)
            simp only [List.getElem_toArray, List.getElem_cons_zero, List.getElem_cons_succ, cellsStr, cellsVal, List.drop_succ_cons, List.drop_zero, List.take_succ_cons, List.take_zero, List.take_nil] at g0 g1
            obtain ⟨nm, en, -, kn⟩ := DataW.trod_string Tryd.underlying9 g0
            simp only [List.cons.injEq, and_true] at en
            subst en
            obtain ⟨t, d0, d1, d2, d3, d4, e, hv⟩ := ih n' (by omega) _ z1 g1
            simp only [List.cons.injEq, and_true] at e
            obtain ⟨rfl, rfl, rfl, rfl, rfl⟩ := e
            refine ⟨nm, c0, c1, c2, c3, c4, t, kn, fun q u hq => ?_, hv⟩
            rw [(World.cells?_some hc).2.2 q (by have := (List.getElem?_eq_some_iff.1 hq).1; simpa using this), hq]
          have ha : a = ⟨a.block, a.off, none⟩ := by
            obtain ⟨nm, _, _, _, _, _, _, _, hc, _⟩ := each 0 (by omega)
            have := hc 0 (.string nm) rfl
            simp only [Nat.zero_mul, Addr.add, if_true] at this
            exact spot_none this
          obtain ⟨b, off, sp⟩ := a
          simp only [Addr.mk.injEq, true_and] at ha
          subst ha
          obtain ⟨ns, l, hns, hl, hr⟩ := drepW_of (w := w) (b := b) (off := off) (len + 1) 0 (fun j hj => by
            obtain ⟨nm, c0, c1, c2, c3, c4, t, hnm, hc, hv⟩ := each j hj
            have key : ∀ q, ((⟨b, off, none⟩ : Addr).add (j * 6)).add q = ⟨b, off + (0 + j * 6) + q, none⟩ := by
              intro q
              rw [add_plain2, add_plain2, Nat.zero_add]
            refine ⟨nm, c0, c1, c2, c3, c4, t, hnm, ?_, ?_, ?_, ?_, ?_, ?_, hv⟩
            · have := hc 0 _ rfl; rwa [key] at this
            · have := hc 1 c0 rfl; rwa [key] at this
            · have := hc 2 c1 rfl; rwa [key] at this
            · have := hc 3 c2 rfl; rwa [key] at this
            · have := hc 4 c3 rfl; rwa [key] at this
            · have := hc 5 c4 rfl; rwa [key] at this)
          exact ⟨_, cap, ns, l, by rw [hl]; exact e, by omega, by omega, hcm, hr⟩
    obtain ⟨la, lc, l, rfl, l1, l2, l3⟩ := L
    obtain ⟨da, dc, ns, ds, rfl, d0, d1, d2, d3⟩ := D
    refine ⟨.mk k i s l ns ds, _, _, _, _, _, rfl, ?_⟩
    unfold VRepW
    exact ⟨la, lc, da, dc, rfl, ⟨k2, i64_of_wf k0, i64_of_wf k1⟩, l1, l2, d1, d2, d0, l3, d3⟩
/-- A value that is handed over. -/
theorem vrepW_arg {v : Value} {d : DataW H} {ps : List MemPlace} {base : Nat} (hval : Value.okWide Tryd.prog w .any base 41 v) (h : DataW.Trod enc Tryd.prog w 0 (fun _ => true) true 41 v d ps) : ∃ t, VRepW w t v := by
  obtain ⟨fuel, hf⟩ := h
  obtain ⟨cs, rfl, hcs⟩ := okWide_struct Tryd.underlying41 hval
  obtain ⟨t, c0, c1, c2, c3, c4, e, hv⟩ := vrepW_of_trod fuel _ _ hf
  refine ⟨t, ?_⟩
  have : cs = #[c0, c1, c2, c3, c4] := by
    cases cs; simpa [Value.cells] using e
  rw [this]; exact hv
end
end Go.Proofs.YtipphlhaaienpaaDoor
set_option linter.unusedSimpArgs false
set_option linter.unusedVariables false
namespace Go.Proofs.YtipphlhaaienpaaDoor
open Go.ChangeShapes Go.WideShapes Go.ChangeAt Go.RowKit
section
variable {H : Type} {enc : TypeId × Value → H} {w : World}
theorem cellsBool : Tryd.prog.cellsOf 4 = 1 := by kernel_rfl
theorem brep_arg {v : Value} {d : DataW H} {ps : List MemPlace} {base : Nat} (hval : Value.okWide Tryd.prog w .any base 23 v) (h : DataW.Trod enc Tryd.prog w 0 (fun _ => true) true 23 v d ps) : ∃ (a : Option Addr) (ds : List Bool) (c : Nat), v = .slice a ds.length c ∧ ds.length ≤ c ∧ c ≤ maxLen ∧ BRep w a ds := by
  obtain ⟨fuel, hf⟩ := h
  obtain ⟨a0, len0, cap0, rfl⟩ := okWide_slice Tryd.underlying23 hval
  rcases DataW.trod_slice Tryd.underlying23 hf with ⟨e, _⟩ | ⟨a, len, cap, elems, rest, m, rfl, e, -, -, hlc, hcm, hel, hat, -, -⟩
  · simp only [Value.cells, List.cons.injEq, and_true] at e
    exact ⟨none, [], 0, e, by simp, by unfold maxLen; omega, fun j d hj => by simp at hj⟩
  · simp only [Value.cells, List.cons.injEq, and_true] at e
    rw [e]
    simp only [cellsBool, Nat.mul_one] at hat
    have each : ∀ j, j < len → ∃ b : Bool, w.cell? (a.add j) = some (.bool b) := by
      intro j hj
      obtain ⟨cs', y, hc, hy⟩ := bind_some (by omega) (hat j hj)
      obtain ⟨b, rfl, _⟩ := DataW.trod_bool Tryd.underlying4 hy
      refine ⟨b, ?_⟩
      have := (World.cells?_some hc).2.2 0 (by simp)
      have h0 : ∀ x : Addr, x.add 0 = x := fun x => by unfold Addr.add; simp
      rw [h0] at this
      rw [this]; rfl
    cases len with
    | zero => exact ⟨some a, [], cap, rfl, by simp, hcm, fun j d hj => by simp at hj⟩
    | succ len =>
      have ha : a = ⟨a.block, a.off, none⟩ := by
        obtain ⟨b, hc⟩ := each 0 (by omega)
        have h0 : a.add 0 = a := by unfold Addr.add; simp
        rw [h0] at hc
        exact spot_none hc
      obtain ⟨bl, off, sp⟩ := a
      simp only [Addr.mk.injEq, true_and] at ha
      subst ha
      have hex : ∀ n, n ≤ len + 1 → ∃ ds : List Bool, ds.length = n ∧ ∀ j d, ds[j]? = some d → w.cell? ⟨bl, off + j, none⟩ = some (.bool d) := by
        intro n
        induction n with
        | zero => intro _; exact ⟨[], rfl, fun j d hj => by simp at hj⟩
        | succ n ih =>
          intro hn
          obtain ⟨ds, h1, h2⟩ := ih (by omega)
          obtain ⟨b, hb⟩ := each n (by omega)
          rw [add_plain2] at hb
          refine ⟨ds ++ [b], by simp [h1], fun j d hj => ?_⟩
          by_cases hjn : j < ds.length
          · rw [List.getElem?_append_left hjn] at hj; exact h2 j d hj
          · have hjn2 : j = n := by
              have := (List.getElem?_eq_some_iff.1 hj).1
              simp at this; omega
            subst hjn2
            rw [List.getElem?_append_right (by omega), h1, Nat.sub_self] at hj
            injection hj with hj; subst hj; exact hb
      obtain ⟨ds, h1, h2⟩ := hex (len + 1) (Nat.le_refl _)
      exact ⟨some ⟨bl, off, none⟩, ds, cap, by rw [h1], by omega, hcm, fun j d hj => ⟨bl, off, rfl, h2 j d hj⟩⟩
end
set_option maxRecDepth 20000 in
set_option maxHeartbeats 2000000 in
theorem only_walk (s : ByteArray) (ds : List Bool) (da : Option Addr) (dc : Nat) (w : World) (hs : s.size ≤ maxLen) (hD : BRep w da ds) (hd1 : ds.length ≤ dc) (hd2 : dc ≤ maxLen) (hT : Tabs w) : Calls Tryd.prog 6 #[.string s, .slice da ds.length dc] w fun e w' => e = .returned (.bool true) ∧ Ext w w' := by
  have HT := Lib.hid hT
  have HD := Lib.hid hD
  have HM := Lib.hid hd2
  clear hT hD
  unfold maxLen at hs hd2
  by_cases h2 : 20000 < s.size
  · have d : decide (20000 < (s.size : Int)) = true := by simp; omega
    go_enter Tryd.func6, Tryd.ntmps6
    go_wp2_with fail
    refine (awake_ok _ HT.out).mono ?_
    rintro e w2 ⟨rfl, h2⟩
    go_wp2_with fail
    go_ret
    exact ⟨rfl, h2⟩
  have d : decide (20000 < (s.size : Int)) = false := by simp; omega
  by_cases h4 : 40 < ds.length
  · have d4 : decide (40 < (ds.length : Int)) = true := by simp; omega
    go_enter Tryd.func6, Tryd.ntmps6
    go_wp2_with fail
    refine (awake_ok _ HT.out).mono ?_
    rintro e w2 ⟨rfl, h2⟩
    go_wp2_with fail
    go_ret
    exact ⟨rfl, h2⟩
  have d4 : decide (40 < (ds.length : Int)) = false := by simp; omega
  obtain ⟨r, hr⟩ : ∃ r, kdecE s ds = r := ⟨_, rfl⟩
  have HR := Lib.hid hr
  have HO := Lib.hid (fun ts (h : r = .ok ts) => kdec_only (hr.trans h))
  have HZ := Lib.hid (fun c (h : r = .error c) => kdec_err (hr.trans h))
  clear hr
  go_enter Tryd.func6, Tryd.ntmps6
  go_wp2_with fail
  refine (Decode_ok s ds da dc _ (by omega) HD.out hd1 HM.out (by omega) HT.out).mono ?_
  rw [HR.out]
  cases r with
  | error c =>
    rintro e w1 ⟨rfl, h1⟩
    have HE1 := Lib.hid h1
    have hc := HZ.out c rfl
    have d1 : (c != 0) = true := by simpa using hc
    clear h1 hc
    go_wp2_with fail
    refine (awake_ok _ (HT.out.ext HE1.out)).mono ?_
    rintro e w2 ⟨rfl, h2⟩
    go_wp2_with fail
    go_ret
    exact ⟨rfl, HE1.out.trans h2⟩
  | ok ts =>
    rintro e w1 ⟨a, c, rfl, hc1, hc2, hL, h1⟩
    have HE1 := Lib.hid h1
    have HL := Lib.hid hL
    obtain ⟨hlen, henc⟩ := HO.out ts rfl
    have HEn := Lib.hid henc
    have HLe := Lib.hid hlen
    have h40 : ts.length ≤ 40 := by omega
    have d5 : ((ts.length : Int) == (ds.length : Int)) = true := by simp; omega
    have d6 : (ts.length == ds.length) = true := by simpa using hlen
    clear h1 hL henc hlen
    go_wp2_with fail
    refine (Encode_ok ts ds a da c dc _ HL.out hc1 hc2 (HD.out.ext HE1.out) hd1 HM.out h40 (HT.out.ext HE1.out)).mono ?_
    rw [HEn.out]
    rintro e w2 ⟨rfl, h2⟩
    have HE2 := Lib.hid (HE1.out.trans h2)
    clear h2
    go_wp2_with fail
    refine (awake_ok _ (HT.out.ext HE2.out)).mono ?_
    rintro e w3 ⟨rfl, h3⟩
    go_wp2_with fail
    go_ret
    exact ⟨rfl, HE2.out.trans h3⟩
end Go.Proofs.YtipphlhaaienpaaDoor
set_option linter.unusedSimpArgs false
set_option linter.unusedVariables false
namespace Go.Proofs.YtipphlhaaienpaaDoor
open Go.ChangeShapes Go.WideShapes Go.ChangeAt Go.RowKit
/-- A list of elements that each lie in memory as some tree is a list of trees. -/
theorem lrep_of {w : World} {b off : Nat} : ∀ (n o : Nat), (∀ j, j < n → ∃ c0 c1 c2 c3 c4 t, w.cell? ⟨b, off + (o + j * 5), none⟩ = some c0 ∧ w.cell? ⟨b, off + (o + j * 5) + 1, none⟩ = some c1 ∧ w.cell? ⟨b, off + (o + j * 5) + 2, none⟩ = some c2 ∧ w.cell? ⟨b, off + (o + j * 5) + 3, none⟩ = some c3 ∧ w.cell? ⟨b, off + (o + j * 5) + 4, none⟩ = some c4 ∧ VRep w t (.agg #[c0, c1, c2, c3, c4])) →
    ∃ l : List Tr, l.length = n ∧ LRep w (some ⟨b, off, none⟩) o l
  | 0, o, _ => ⟨[], rfl, by unfold LRep; trivial⟩
  | n + 1, o, h => by
    obtain ⟨c0, c1, c2, c3, c4, t, e0, e1, e2, e3, e4, hv⟩ := h 0 (by omega)
    obtain ⟨l, hl, hr⟩ := lrep_of (w := w) (b := b) (off := off) n (o + 5) (fun j hj => by
      have := h (j + 1) (by omega)
      rw [show o + (j + 1) * 5 = o + 5 + j * 5 by omega] at this
      exact this)
    simp only [Nat.zero_mul, Nat.add_zero] at e0 e1 e2 e3 e4
    refine ⟨t :: l, by simp [hl], ?_⟩
    unfold LRep
    exact ⟨⟨b, off, c0, c1, c2, c3, c4, rfl, e0, e1, e2, e3, e4, hv⟩, hr⟩
theorem drep_of {w : World} {b off : Nat} : ∀ (n o : Nat), (∀ j, j < n → ∃ nm c0 c1 c2 c3 c4 t, nm.size ≤ maxLen ∧ w.cell? ⟨b, off + (o + j * 6), none⟩ = some (.string nm) ∧ w.cell? ⟨b, off + (o + j * 6) + 1, none⟩ = some c0 ∧ w.cell? ⟨b, off + (o + j * 6) + 2, none⟩ = some c1 ∧ w.cell? ⟨b, off + (o + j * 6) + 3, none⟩ = some c2 ∧ w.cell? ⟨b, off + (o + j * 6) + 4, none⟩ = some c3 ∧ w.cell? ⟨b, off + (o + j * 6) + 5, none⟩ = some c4 ∧ VRep w t (.agg #[c0, c1, c2, c3, c4])) →
    ∃ (ns : List ByteArray) (l : List Tr), ns.length = n ∧ l.length = n ∧ DRep w (some ⟨b, off, none⟩) o ns l
  | 0, o, _ => ⟨[], [], rfl, rfl, by unfold DRep; trivial⟩
  | n + 1, o, h => by
    obtain ⟨nm, c0, c1, c2, c3, c4, t, hn, en, e0, e1, e2, e3, e4, hv⟩ := h 0 (by omega)
    obtain ⟨ns, l, hns, hl, hr⟩ := drep_of (w := w) (b := b) (off := off) n (o + 6) (fun j hj => by
      have := h (j + 1) (by omega)
      rw [show o + (j + 1) * 6 = o + 6 + j * 6 by omega] at this
      exact this)
    simp only [Nat.zero_mul, Nat.add_zero] at en e0 e1 e2 e3 e4
    refine ⟨nm :: ns, t :: l, by simp [hns], by simp [hl], ?_⟩
    unfold DRep
    exact ⟨⟨b, off, c0, c1, c2, c3, c4, rfl, hn, en, e0, e1, e2, e3, e4, hv⟩, hr⟩
section
variable {H : Type} {enc : TypeId × Value → H} {w : World}
/-- within the reach -/
def Reach (l : List Nat) : Prop := ∀ n ∈ l, n ≤ 140737488351232
theorem w_val (l : List (DataW H)) : DataW.weights Tryd.prog 41 (.agg l) = DataW.weightsEach Tryd.prog [3, 3, 9, 22, 39] l := by
  rw [DataW.weights, Tryd.underlying41]; rfl
theorem w_fld (l : List (DataW H)) : DataW.weights Tryd.prog 58 (.agg l) = DataW.weightsEach Tryd.prog [9, 41] l := by
  rw [DataW.weights, Tryd.underlying58]; rfl
theorem bytesVal : Tryd.prog.bytesOf 41 = 80 := by kernel_rfl
theorem bytesFld : Tryd.prog.bytesOf 58 = 96 := by kernel_rfl
theorem w_lval (l r : List (DataW H)) : DataW.weights Tryd.prog 22 (.slice l r) = (l.length + r.length) * 80 :: (DataW.weightsAll Tryd.prog 41 l ++ DataW.weightsAll Tryd.prog 41 r) := by
  rw [DataW.weights, Tryd.underlying22]; simp only [bytesVal]
theorem w_lfld (l r : List (DataW H)) : DataW.weights Tryd.prog 39 (.slice l r) = (l.length + r.length) * 96 :: (DataW.weightsAll Tryd.prog 58 l ++ DataW.weightsAll Tryd.prog 58 r) := by
  rw [DataW.weights, Tryd.underlying39]; simp only [bytesFld]
theorem w_all {e : TypeId} {n : Nat} : ∀ {l : List (DataW H)} {d : DataW H}, d ∈ l → n ∈ DataW.weights Tryd.prog e d → n ∈ DataW.weightsAll Tryd.prog e l
  | x :: r, d, hd, hn => by
    rw [DataW.weightsAll, List.mem_append]
    rcases List.mem_cons.1 hd with rfl | hd
    · exact .inl hn
    · exact .inr (w_all hd hn)
theorem bind_some2 {α β : Type} {o : Option α} {f : α → Option β} {l : List β} {i : Nat} (hi : i < l.length) (h : o.bind f = l[i]?) : ∃ a y, o = some a ∧ f a = some y ∧ y ∈ l := by
  rw [List.getElem?_eq_getElem hi, Option.bind_eq_some_iff] at h
  obtain ⟨a, h1, h2⟩ := h
  exact ⟨a, _, h1, h2, List.getElem_mem hi⟩
theorem lrep_of_trod (fuel : Nat) (ih : ∀ m, m < fuel → ∀ (cs : List Value) (x : DataW H × List MemPlace), DataW.trod enc Tryd.prog w 0 (fun _ => true) true m 41 cs = some x → Reach (DataW.weights Tryd.prog 41 x.1) → ∃ t c0 c1 c2 c3 c4, cs = [c0, c1, c2, c3, c4] ∧ VRep w t (.agg #[c0, c1, c2, c3, c4]))
    (c3 : Value) (x3 : DataW H × List MemPlace) (h3 : DataW.trod enc Tryd.prog w 0 (fun _ => true) true fuel 22 [c3] = some x3) (hw : Reach (DataW.weights Tryd.prog 22 x3.1)) :
    ∃ (la : Option Addr) (lc : Nat) (l : List Tr), c3 = .slice la l.length lc ∧ (l.length ≤ lc ∧ l.length * 80 ≤ 140737488351232) ∧ lc ≤ maxLen ∧ LRep w la 0 l := by
  rcases DataW.trod_slice Tryd.underlying22 h3 with ⟨e, _⟩ | ⟨a, len, cap, elems, rest, m, rfl, e, ex, -, hlc, hcm, hel, hat, -, -⟩
  · simp only [List.cons.injEq, and_true] at e
    exact ⟨none, 0, [], e, by simp, by simp, by unfold LRep; trivial⟩
  · simp only [List.cons.injEq, and_true] at e
    subst ex
    rw [w_lval] at hw
    have hb : elems.length * 80 ≤ 140737488351232 := by
      have := hw _ (.head _); simp at this; omega
    have hel2 : ∀ y ∈ elems, Reach (DataW.weights Tryd.prog 41 y.1) := fun y hy n hn => hw n (.tail _ (List.mem_append.2 (.inl (w_all (List.mem_map.2 ⟨y, hy, rfl⟩) hn))))
    cases len with
    | zero => exact ⟨some a, cap, [], e, by simp, hcm, by unfold LRep; trivial⟩
    | succ len =>
      simp only [cellsVal] at hat
      have each : ∀ j, j < len + 1 → ∃ c0 c1 c2 c3 c4 t, (∀ q u, [c0, c1, c2, c3, c4][q]? = some u → w.cell? ((a.add (j * 5)).add q) = some u) ∧ VRep w t (.agg #[c0, c1, c2, c3, c4]) := by
        intro j hj
        obtain ⟨cs', y, hc, hy, hmem⟩ := bind_some2 (by omega) (hat j hj)
        obtain ⟨t, c0, c1, c2, c3, c4, rfl, hv⟩ := ih m (by omega) cs' y hy (hel2 y hmem)
        refine ⟨c0, c1, c2, c3, c4, t, fun q u hq => ?_, hv⟩
        rw [(World.cells?_some hc).2.2 q (by have := (List.getElem?_eq_some_iff.1 hq).1; simpa using this), hq]
      have ha : a = ⟨a.block, a.off, none⟩ := by
        obtain ⟨c0, _, _, _, _, _, hc, _⟩ := each 0 (by omega)
        have := hc 0 c0 rfl
        simp only [Nat.zero_mul, Addr.add, if_true] at this
        exact spot_none this
      obtain ⟨b, off, sp⟩ := a
      simp only [Addr.mk.injEq, true_and] at ha
      subst ha
      obtain ⟨l, hl, hr⟩ := lrep_of (w := w) (b := b) (off := off) (len + 1) 0 (fun j hj => by
        obtain ⟨c0, c1, c2, c3, c4, t, hc, hv⟩ := each j hj
        have key : ∀ q, ((⟨b, off, none⟩ : Addr).add (j * 5)).add q = ⟨b, off + (0 + j * 5) + q, none⟩ := by
          intro q
          rw [add_plain2, add_plain2, Nat.zero_add]
        refine ⟨c0, c1, c2, c3, c4, t, ?_, ?_, ?_, ?_, ?_, hv⟩
        · have := hc 0 c0 rfl; rwa [key] at this
        · have := hc 1 c1 rfl; rwa [key] at this
        · have := hc 2 c2 rfl; rwa [key] at this
        · have := hc 3 c3 rfl; rwa [key] at this
        · have := hc 4 c4 rfl; rwa [key] at this)
      exact ⟨_, cap, l, by rw [hl]; exact e, ⟨by omega, by omega⟩, hcm, hr⟩
theorem drep_of_trod (fuel : Nat) (ih : ∀ m, m < fuel → ∀ (cs : List Value) (x : DataW H × List MemPlace), DataW.trod enc Tryd.prog w 0 (fun _ => true) true m 41 cs = some x → Reach (DataW.weights Tryd.prog 41 x.1) → ∃ t c0 c1 c2 c3 c4, cs = [c0, c1, c2, c3, c4] ∧ VRep w t (.agg #[c0, c1, c2, c3, c4]))
    (c4 : Value) (x4 : DataW H × List MemPlace) (h4 : DataW.trod enc Tryd.prog w 0 (fun _ => true) true fuel 39 [c4] = some x4) (hw : Reach (DataW.weights Tryd.prog 39 x4.1)) :
    ∃ (da : Option Addr) (dc : Nat) (ns : List ByteArray) (ds : List Tr), c4 = .slice da ds.length dc ∧ ns.length = ds.length ∧ (ds.length ≤ dc ∧ ds.length * 96 ≤ 140737488351232) ∧ dc ≤ maxLen ∧ DRep w da 0 ns ds := by
  rcases DataW.trod_slice Tryd.underlying39 h4 with ⟨e, _⟩ | ⟨a, len, cap, elems, rest, m, rfl, e, ex, -, hlc, hcm, hel, hat, -, -⟩
  · simp only [List.cons.injEq, and_true] at e
    exact ⟨none, 0, [], [], e, by simp, by simp, by simp, by unfold DRep; trivial⟩
  · simp only [List.cons.injEq, and_true] at e
    subst ex
    rw [w_lfld] at hw
    have hb : elems.length * 96 ≤ 140737488351232 := by
      have := hw _ (.head _); simp at this; omega
    have hel2 : ∀ y ∈ elems, Reach (DataW.weights Tryd.prog 58 y.1) := fun y hy n hn => hw n (.tail _ (List.mem_append.2 (.inl (w_all (List.mem_map.2 ⟨y, hy, rfl⟩) hn))))
    cases len with
    | zero => exact ⟨some a, cap, [], [], e, by simp, by simp, hcm, by unfold DRep; trivial⟩
    | succ len =>
      simp only [cellsFld] at hat
      have each : ∀ j, j < len + 1 → ∃ nm c0 c1 c2 c3 c4 t, nm.size ≤ maxLen ∧ (∀ q u, [.string nm, c0, c1, c2, c3, c4][q]? = some u → w.cell? ((a.add (j * 6)).add q) = some u) ∧ VRep w t (.agg #[c0, c1, c2, c3, c4]) := by
        intro j hj
        obtain ⟨cs', y, hc, hy, hmem⟩ := bind_some2 (by omega) (hat j hj)
        have hwy := hel2 y hmem
        obtain ⟨xs', n', rfl, rfl, hl', hlen', hf'⟩ := DataW.trod_struct Tryd.underlying58 hy
        rw [cellsFld] at hl'
        obtain ⟨cn, c0, c1, c2, c3, c4, rfl⟩ := len6 hl'
        have hlen2 : xs'.length = 2 := hlen'
        obtain ⟨z0, z1, rfl⟩ : ∃ a b, xs' = [a, b] := by
          match xs', hlen2 with
          | [a, b], _ => exact ⟨a, b, rfl⟩
        have g0 := hf' 0 _ rfl
        have g1 := hf' 1 _ rfl
        simp only [List.getElem?_cons_zero, List.getElem?_cons_succ] at g0 g1
        have hwz : Reach (DataW.weights Tryd.prog 41 z1.1) := fun n hn => hwy n (by
          show n ∈ DataW.weights Tryd.prog 58 (.agg ([z0, z1].map (·.1)))
          rw [w_fld]
          simp only [List.map_cons, List.map_nil, DataW.weightsEach, List.mem_append]
          exact .inr (.inl hn))
        simp only [List.getElem_toArray, List.getElem_cons_zero, List.getElem_cons_succ, cellsStr, cellsVal, List.drop_succ_cons, List.drop_zero, List.take_succ_cons, List.take_zero, List.take_nil] at g0 g1
        obtain ⟨nm, en, -, kn⟩ := DataW.trod_string Tryd.underlying9 g0
        simp only [List.cons.injEq, and_true] at en
        subst en
        obtain ⟨t, d0, d1, d2, d3, d4, e, hv⟩ := ih n' (by omega) _ z1 g1 hwz
        simp only [List.cons.injEq, and_true] at e
        obtain ⟨rfl, rfl, rfl, rfl, rfl⟩ := e
        refine ⟨nm, c0, c1, c2, c3, c4, t, kn, fun q u hq => ?_, hv⟩
        rw [(World.cells?_some hc).2.2 q (by have := (List.getElem?_eq_some_iff.1 hq).1; simpa using this), hq]
      have ha : a = ⟨a.block, a.off, none⟩ := by
        obtain ⟨nm, _, _, _, _, _, _, _, hc, _⟩ := each 0 (by omega)
        have := hc 0 (.string nm) rfl
        simp only [Nat.zero_mul, Addr.add, if_true] at this
        exact spot_none this
      obtain ⟨b, off, sp⟩ := a
      simp only [Addr.mk.injEq, true_and] at ha
      subst ha
      obtain ⟨ns, l, hns, hl, hr⟩ := drep_of (w := w) (b := b) (off := off) (len + 1) 0 (fun j hj => by
        obtain ⟨nm, c0, c1, c2, c3, c4, t, hnm, hc, hv⟩ := each j hj
        have key : ∀ q, ((⟨b, off, none⟩ : Addr).add (j * 6)).add q = ⟨b, off + (0 + j * 6) + q, none⟩ := by
          intro q
          rw [add_plain2, add_plain2, Nat.zero_add]
        refine ⟨nm, c0, c1, c2, c3, c4, t, hnm, ?_, ?_, ?_, ?_, ?_, ?_, hv⟩
        · have := hc 0 _ rfl; rwa [key] at this
        · have := hc 1 c0 rfl; rwa [key] at this
        · have := hc 2 c1 rfl; rwa [key] at this
        · have := hc 3 c2 rfl; rwa [key] at this
        · have := hc 4 c3 rfl; rwa [key] at this
        · have := hc 5 c4 rfl; rwa [key] at this)
      exact ⟨_, cap, ns, l, by rw [hl]; exact e, by omega, ⟨by omega, by omega⟩, hcm, hr⟩
theorem vrep_of_trod : ∀ (fuel : Nat) (cs : List Value) (x : DataW H × List MemPlace), DataW.trod enc Tryd.prog w 0 (fun _ => true) true fuel 41 cs = some x → Reach (DataW.weights Tryd.prog 41 x.1) →
    ∃ t c0 c1 c2 c3 c4, cs = [c0, c1, c2, c3, c4] ∧ VRep w t (.agg #[c0, c1, c2, c3, c4]) := by
  intro fuel
  induction fuel using Nat.strongRecOn with
  | _ fuel ih =>
    intro cs x h hw
    obtain ⟨xs, n, rfl, rfl, hl, hlen, hf⟩ := DataW.trod_struct Tryd.underlying41 h
    rw [cellsVal] at hl
    obtain ⟨c0, c1, c2, c3, c4, rfl⟩ := len5 hl
    have hlen5 : xs.length = 5 := hlen
    obtain ⟨y0, y1, y2, y3, y4, rfl⟩ := len5 hlen5
    have h0 := hf 0 _ rfl
    have h1 := hf 1 _ rfl
    have h2 := hf 2 _ rfl
    have h3 := hf 3 _ rfl
    have h4 := hf 4 _ rfl
    simp only [List.getElem?_cons_zero, List.getElem?_cons_succ, List.getElem_toArray, List.getElem_cons_zero, List.getElem_cons_succ, cellsInt, cellsStr, cellsLVal, cellsLFld, List.drop_succ_cons, List.drop_zero, List.take_succ_cons, List.take_zero] at h0 h1 h2 h3 h4
    have hw' : Reach (DataW.weightsEach Tryd.prog [3, 3, 9, 22, 39] ([y0, y1, y2, y3, y4].map (·.1))) := by rw [← w_val]; exact hw
    simp only [List.map_cons, List.map_nil, DataW.weightsEach] at hw'
    have hw3 : Reach (DataW.weights Tryd.prog 22 y3.1) := fun n hn => hw' n (by simp [hn])
    have hw4 : Reach (DataW.weights Tryd.prog 39 y4.1) := fun n hn => hw' n (by simp [hn])
    obtain ⟨k, e0, -, k0⟩ := DataW.trod_int Tryd.underlying3 h0
    obtain ⟨i, e1, -, k1⟩ := DataW.trod_int Tryd.underlying3 h1
    obtain ⟨s, e2, -, k2⟩ := DataW.trod_string Tryd.underlying9 h2
    simp only [List.cons.injEq, and_true] at e0 e1 e2
    subst e0 e1 e2
    clear hf h0 h1 h2 h hl hlen hw hw'
    obtain ⟨la, lc, l, rfl, l1, l2, l3⟩ := lrep_of_trod n (fun m hm => ih m (by omega)) c3 y3 h3 hw3
    obtain ⟨da, dc, ns, ds, rfl, d0, d1, d2, d3⟩ := drep_of_trod n (fun m hm => ih m (by omega)) c4 y4 h4 hw4
    refine ⟨.mk k i s l ns ds, _, _, _, _, _, rfl, ?_⟩
    unfold VRep
    exact ⟨la, lc, da, dc, rfl, ⟨k2, i64_of_wf k0, i64_of_wf k1⟩, l1, l2, d1, d2, d0, l3, d3⟩
/-- A value that is handed over. -/
theorem vrep_arg {v : Value} {d : DataW H} {ps : List MemPlace} {base : Nat} (hval : Value.okWide Tryd.prog w .any base 41 v) (h : DataW.Trod enc Tryd.prog w 0 (fun _ => true) true 41 v d ps) (hw : Reach (DataW.weights Tryd.prog 41 d)) : ∃ t, VRep w t v := by
  obtain ⟨fuel, hf⟩ := h
  obtain ⟨cs, rfl, hcs⟩ := okWide_struct Tryd.underlying41 hval
  obtain ⟨t, c0, c1, c2, c3, c4, e, hv⟩ := vrep_of_trod fuel _ _ hf hw
  refine ⟨t, ?_⟩
  have : cs = #[c0, c1, c2, c3, c4] := by
    cases cs; simpa [Value.cells] using e
  rw [this]; exact hv
/-- A list of values that is handed over. -/
theorem lrep_arg {v : Value} {d : DataW H} {ps : List MemPlace} {base : Nat} (hval : Value.okWide Tryd.prog w .any base 22 v) (h : DataW.Trod enc Tryd.prog w 0 (fun _ => true) true 22 v d ps) (hw : Reach (DataW.weights Tryd.prog 22 d)) : ∃ (a : Option Addr) (c : Nat) (ts : List Tr), v = .slice a ts.length c ∧ (ts.length ≤ c ∧ ts.length * 80 ≤ 140737488351232) ∧ c ≤ maxLen ∧ LRep w a 0 ts := by
  obtain ⟨fuel, hf⟩ := h
  obtain ⟨a0, len0, cap0, rfl⟩ := okWide_slice Tryd.underlying22 hval
  exact lrep_of_trod fuel (fun m _ => vrep_of_trod m) _ _ hf hw
end
end Go.Proofs.YtipphlhaaienpaaDoor
set_option linter.unusedSimpArgs false
set_option linter.unusedVariables false
namespace Go.Proofs.YtipphlhaaienpaaDoor
open Go.RowKit
set_option maxRecDepth 20000 in
set_option maxHeartbeats 4000000 in
theorem number_ok (i : Int) (w : World) (hI : I64 i) : Calls Tryd.prog 38 #[.int .i64 i] w fun e w' => e = .returned (.string ⟨(num8 (uOf i)).toArray⟩) ∧ Ext w w' := by
  obtain ⟨u, hu⟩ : ∃ u, uOf i = u := ⟨_, rfl⟩
  have hX := xor63 i hI
  have hU := uOf_lt i hI
  rw [hu] at hX hU ⊢
  have HXr := Lib.hid hX
  clear hX hu hI
  go_enter Tryd.func38, Tryd.ntmps38
  go_wp2_with fail
  simp only [HXr.out]
  go_loopw [4, 5] (fun b x wr => ∃ (j : Nat) (y : ByteArray), j ≤ 8 ∧ x = .int .i64 j ∧ b = .string y ∧ Hid (y.data.toList = (num8 u).take j) ∧ Hid (Ext w wr)) (fun _ x _ => 8 - (intOf x).toNat)
  case atStart => exact ⟨0, ⟨#[]⟩, by omega, rfl, rfl, rfl, Ext.refl _⟩
  case round =>
    obtain ⟨j, y, hj, rfl, rfl, HY, HE⟩ := hrel
    clear HXr
    have hys : y.size ≤ 8 := by
      have e : y.size = y.data.toList.length := by simp
      rw [e, HY.out]; simp [num8]; omega
    have hj9 : j = 0 ∨ j = 1 ∨ j = 2 ∨ j = 3 ∨ j = 4 ∨ j = 5 ∨ j = 6 ∨ j = 7 ∨ j = 8 := by omega
    clear hj
    rcases hj9 with rfl | rfl | rfl | rfl | rfl | rfl | rfl | rfl | rfl
    · have hcv := conv_one wr (UInt8.ofNat (u / 72057594037927936)) ((u : Int) / 72057594037927936) (u8_atT u hU)
      obtain ⟨z, hz⟩ : ∃ z : ByteArray, (⟨#[UInt8.ofNat (u / 72057594037927936)]⟩ : ByteArray) = z := ⟨_, rfl⟩
      have hzs : z.size ≤ 1 := by rw [← hz]; exact Nat.le_refl _
      have HY2 : Hid ((y ++ z).data.toList = (num8 u).take 1) := by
        show _ = _
        rw [cat_list, HY.out, ← hz]; rfl
      rw [hz] at hcv
      clear hz
      go_wp2_with fail
      exact ⟨⟨1, _, by omega, rfl, rfl, HY2, HE.out.alloc _⟩, by simp [intOf]⟩
    · have hcv := conv_one wr (UInt8.ofNat (u / 281474976710656)) ((u : Int) / 281474976710656 % 256) (u8_at u 281474976710656)
      obtain ⟨z, hz⟩ : ∃ z : ByteArray, (⟨#[UInt8.ofNat (u / 281474976710656)]⟩ : ByteArray) = z := ⟨_, rfl⟩
      have hzs : z.size ≤ 1 := by rw [← hz]; exact Nat.le_refl _
      have HY2 : Hid ((y ++ z).data.toList = (num8 u).take 2) := by
        show _ = _
        rw [cat_list, HY.out, ← hz]; rfl
      rw [hz] at hcv
      clear hz
      go_wp2_with fail
      exact ⟨⟨2, _, by omega, rfl, rfl, HY2, HE.out.alloc _⟩, by simp [intOf]⟩
    · have hcv := conv_one wr (UInt8.ofNat (u / 1099511627776)) ((u : Int) / 1099511627776 % 256) (u8_at u 1099511627776)
      obtain ⟨z, hz⟩ : ∃ z : ByteArray, (⟨#[UInt8.ofNat (u / 1099511627776)]⟩ : ByteArray) = z := ⟨_, rfl⟩
      have hzs : z.size ≤ 1 := by rw [← hz]; exact Nat.le_refl _
      have HY2 : Hid ((y ++ z).data.toList = (num8 u).take 3) := by
        show _ = _
        rw [cat_list, HY.out, ← hz]; rfl
      rw [hz] at hcv
      clear hz
      go_wp2_with fail
      exact ⟨⟨3, _, by omega, rfl, rfl, HY2, HE.out.alloc _⟩, by simp [intOf]⟩
    · have hcv := conv_one wr (UInt8.ofNat (u / 4294967296)) ((u : Int) / 4294967296 % 256) (u8_at u 4294967296)
      obtain ⟨z, hz⟩ : ∃ z : ByteArray, (⟨#[UInt8.ofNat (u / 4294967296)]⟩ : ByteArray) = z := ⟨_, rfl⟩
      have hzs : z.size ≤ 1 := by rw [← hz]; exact Nat.le_refl _
      have HY2 : Hid ((y ++ z).data.toList = (num8 u).take 4) := by
        show _ = _
        rw [cat_list, HY.out, ← hz]; rfl
      rw [hz] at hcv
      clear hz
      go_wp2_with fail
      exact ⟨⟨4, _, by omega, rfl, rfl, HY2, HE.out.alloc _⟩, by simp [intOf]⟩
    · have hcv := conv_one wr (UInt8.ofNat (u / 16777216)) ((u : Int) / 16777216 % 256) (u8_at u 16777216)
      obtain ⟨z, hz⟩ : ∃ z : ByteArray, (⟨#[UInt8.ofNat (u / 16777216)]⟩ : ByteArray) = z := ⟨_, rfl⟩
      have hzs : z.size ≤ 1 := by rw [← hz]; exact Nat.le_refl _
      have HY2 : Hid ((y ++ z).data.toList = (num8 u).take 5) := by
        show _ = _
        rw [cat_list, HY.out, ← hz]; rfl
      rw [hz] at hcv
      clear hz
      go_wp2_with fail
      exact ⟨⟨5, _, by omega, rfl, rfl, HY2, HE.out.alloc _⟩, by simp [intOf]⟩
    · have hcv := conv_one wr (UInt8.ofNat (u / 65536)) ((u : Int) / 65536 % 256) (u8_at u 65536)
      obtain ⟨z, hz⟩ : ∃ z : ByteArray, (⟨#[UInt8.ofNat (u / 65536)]⟩ : ByteArray) = z := ⟨_, rfl⟩
      have hzs : z.size ≤ 1 := by rw [← hz]; exact Nat.le_refl _
      have HY2 : Hid ((y ++ z).data.toList = (num8 u).take 6) := by
        show _ = _
        rw [cat_list, HY.out, ← hz]; rfl
      rw [hz] at hcv
      clear hz
      go_wp2_with fail
      exact ⟨⟨6, _, by omega, rfl, rfl, HY2, HE.out.alloc _⟩, by simp [intOf]⟩
    · have hcv := conv_one wr (UInt8.ofNat (u / 256)) ((u : Int) / 256 % 256) (u8_at u 256)
      obtain ⟨z, hz⟩ : ∃ z : ByteArray, (⟨#[UInt8.ofNat (u / 256)]⟩ : ByteArray) = z := ⟨_, rfl⟩
      have hzs : z.size ≤ 1 := by rw [← hz]; exact Nat.le_refl _
      have HY2 : Hid ((y ++ z).data.toList = (num8 u).take 7) := by
        show _ = _
        rw [cat_list, HY.out, ← hz]; rfl
      rw [hz] at hcv
      clear hz
      go_wp2_with fail
      exact ⟨⟨7, _, by omega, rfl, rfl, HY2, HE.out.alloc _⟩, by simp [intOf]⟩
    · have hcv := conv_one wr (UInt8.ofNat u) ((u : Int) % 256) (u8_at0 u)
      obtain ⟨z, hz⟩ : ∃ z : ByteArray, (⟨#[UInt8.ofNat u]⟩ : ByteArray) = z := ⟨_, rfl⟩
      have hzs : z.size ≤ 1 := by rw [← hz]; exact Nat.le_refl _
      have HY2 : Hid ((y ++ z).data.toList = (num8 u).take 8) := by
        show _ = _
        rw [cat_list, HY.out, ← hz]; rfl
      rw [hz] at hcv
      clear hz
      go_wp2_with fail
      exact ⟨⟨8, _, by omega, rfl, rfl, HY2, HE.out.alloc _⟩, by simp [intOf]⟩
    · have hyr : y = ⟨(num8 u).toArray⟩ := by apply bytes_ext; rw [HY.out]; rfl
      have HYR := Lib.hid hyr
      clear hyr
      go_wp2_with fail
      go_ret
      exact ⟨congrArg (fun x => Ending.returned (.string x)) HYR.out, HE.out⟩
set_option maxRecDepth 20000 in
set_option maxHeartbeats 4000000 in
theorem text_ok' (s : ByteArray) (w : World) (hs : s.size ≤ 4096) : Calls Tryd.prog 39 #[.string s] w fun e w' => e = .returned (.string ⟨(esc s.data.toList ++ [0, 0]).toArray⟩) ∧ w = w' := by
  obtain ⟨r, hr⟩ : ∃ x : ByteArray, (⟨(esc s.data.toList ++ [0, 0]).toArray⟩ : ByteArray) = x := ⟨_, rfl⟩
  rw [hr]
  have HR := Lib.hid hr
  clear hr
  go_enter Tryd.func39, Tryd.ntmps39
  go_wp2_with fail
  go_loopw [3, 4] (fun b x wr => ∃ (j : Nat) (y : ByteArray), j ≤ s.size ∧ x = .int .i64 j ∧ b = .string y ∧ Hid (y.data.toList = esc (s.data.toList.take j)) ∧ wr = w) (fun _ x _ => s.size - (intOf x).toNat)
  case atStart => exact ⟨0, ⟨#[]⟩, by omega, rfl, rfl, rfl, rfl⟩
  case round =>
    obtain ⟨j, y, hj, rfl, rfl, HY, rfl⟩ := hrel
    have hys : y.size ≤ 8192 := by
      have e : y.size = y.data.toList.length := by simp
      rw [e, HY.out]; have := esc_le (s.data.toList.take j); simp at this; omega
    by_cases hlt : j < s.size
    · have htk : s.data.toList.take (j + 1) = s.data.toList.take j ++ [s[j]] := by rw [List.take_succ_eq_append_getElem (by simpa using hlt)]; rfl
      have hsn : esc (s.data.toList.take (j + 1)) = esc (s.data.toList.take j) ++ escC s[j] := by rw [htk, esc_snoc]
      have hex : (s.extract j (j + 1)).data.toList = [s[j]] := by
        rw [ByteArray.data_extract]; simp
        rw [List.drop_eq_getElem_cons (by simpa using hlt)]; rfl
      obtain ⟨cc, hcc⟩ : ∃ c, s[j] = c := ⟨_, rfl⟩
      rw [hcc] at hsn hex
      obtain ⟨z, hz⟩ : ∃ z, s.extract j (j + 1) = z := ⟨_, rfl⟩
      rw [hz] at hex
      have hze : z.size = z.data.toList.length := by simp
      have hzs : z.size ≤ 1 := by rw [hze, hex]; simp
      clear hze
      have hyz : (y ++ z).size ≤ 8193 := by rw [cat_size]; omega
      have HYZ : Hid ((y ++ z).data.toList = esc (s.data.toList.take j) ++ [cc]) := by show _ = _; rw [cat_list, HY.out, hex]
      have HSN := Lib.hid hsn
      have HZ := Lib.hid hz
      clear htk hsn hex hz
      by_cases hc : cc = 0
      · have d : ((cc.toNat : Int) == 0) = true := by rw [hc]; rfl
        have dz : cc.toNat = 0 := by rw [hc]; rfl
        have HY2 : Hid (((y ++ z) ++ (⟨#[255]⟩ : ByteArray)).data.toList = esc (s.data.toList.take (j + 1))) := by
          show _ = _
          rw [cat_list, HYZ.out, HSN.out, hc]; simp [escC]
        have h255 : (⟨#[255]⟩ : ByteArray).size ≤ 1 := Nat.le_refl _
        clear hc
        go_wp2_with fail
        rw [HZ.out]
        exact ⟨⟨j + 1, _, by omega, by go_num, rfl, HY2, trivial⟩, by simp [intOf]; omega⟩
      · have d : ((cc.toNat : Int) == 0) = false := by
          rw [beq_eq_false_iff_ne]; intro e; exact hc (UInt8.toNat_inj.1 (by simpa using e))
        have HY2 : Hid ((y ++ z).data.toList = esc (s.data.toList.take (j + 1))) := by
          show _ = _
          rw [HYZ.out, HSN.out]; simp [escC, hc]
        clear hc
        go_wp2_with fail
        rw [HZ.out]
        exact ⟨⟨j + 1, _, by omega, by go_num, rfl, HY2, trivial⟩, by simp [intOf]; omega⟩
    · have hj2 : j = s.size := by omega
      subst hj2
      have hyr : y ++ (⟨#[0, 0]⟩ : ByteArray) = r := by
        rw [← HR.out]; apply bytes_ext; rw [cat_list, HY.out, List.take_of_length_le (by simp)]
      have HYR := Lib.hid hyr
      clear hyr
      go_wp2_with fail
      go_ret
      exact ⟨congrArg (fun x => Ending.returned (.string x)) HYR.out, rfl⟩
end Go.Proofs.YtipphlhaaienpaaDoor
set_option linter.unusedSimpArgs false
set_option linter.unusedVariables false
namespace Go.Proofs.YtipphlhaaienpaaDoor
open Go.RowKit
theorem notx (c : UInt8) : bits .xor .u8 IntKind.u8.max (c.toNat : Int) = ((flipC c).toNat : Int) := by
  have h := xor_u8 255 c
  have e : IntKind.u8.max = (((255 : UInt8).toNat : Nat) : Int) := by kernel_rfl
  rw [e, h]
  unfold flipC
  rw [flip_xor, UInt8.xor_comm]
set_option maxRecDepth 20000 in
set_option maxHeartbeats 4000000 in
theorem Flip_ok (s : ByteArray) (w : World) (hs : s.size ≤ 1000000000) : Calls Tryd.prog 25 #[.string s] w fun e w' => e = .returned (.string ⟨(s.data.toList.map flipC).toArray⟩) ∧ Ext w w' := by
  obtain ⟨r, hr⟩ : ∃ x : ByteArray, (⟨(s.data.toList.map flipC).toArray⟩ : ByteArray) = x := ⟨_, rfl⟩
  rw [hr]
  have HR := Lib.hid hr
  clear hr
  go_enter Tryd.func25, Tryd.ntmps25
  go_wp2_with fail
  go_loopw [3, 4] (fun b x wr => ∃ (j : Nat) (y : ByteArray), j ≤ s.size ∧ x = .int .i64 j ∧ b = .string y ∧ Hid (y.data.toList = (s.data.toList.take j).map flipC) ∧ Hid (Ext w wr)) (fun _ x _ => s.size - (intOf x).toNat)
  case atStart => exact ⟨0, ⟨#[]⟩, by omega, rfl, rfl, rfl, Ext.refl _⟩
  case round =>
    obtain ⟨j, y, hj, rfl, rfl, HY, HE⟩ := hrel
    have hys : y.size ≤ 1000000000 := by
      have e : y.size = y.data.toList.length := by simp
      rw [e, HY.out]; simp; omega
    by_cases hlt : j < s.size
    · have htk : s.data.toList.take (j + 1) = s.data.toList.take j ++ [s[j]] := by rw [List.take_succ_eq_append_getElem (by simpa using hlt)]; rfl
      obtain ⟨cc, hcc⟩ : ∃ c, s[j] = c := ⟨_, rfl⟩
      rw [hcc] at htk
      have hcb := cc.toNat_lt
      have hcv := conv_one wr (flipC cc) (bits .xor .u8 IntKind.u8.max (cc.toNat : Int)) (notx cc)
      obtain ⟨z, hz⟩ : ∃ z : ByteArray, (⟨#[flipC cc]⟩ : ByteArray) = z := ⟨_, rfl⟩
      have hzs : z.size ≤ 1 := by rw [← hz]; exact Nat.le_refl _
      have HY2 : Hid ((y ++ z).data.toList = (s.data.toList.take (j + 1)).map flipC) := by
        show _ = _
        rw [cat_list, HY.out, ← hz, htk, List.map_append]; rfl
      rw [hz] at hcv
      clear hz htk
      go_wp2_with fail
      exact ⟨⟨j + 1, _, by omega, by go_num, rfl, HY2, HE.out.alloc _⟩, by simp [intOf]; omega⟩
    · have hj2 : j = s.size := by omega
      subst hj2
      have hyr : y = r := by
        rw [← HR.out]; apply bytes_ext; rw [HY.out, List.take_of_length_le (by simp)]
      subst hyr
      go_wp2_with fail
      go_ret
      exact ⟨rfl, HE.out⟩
def OneOk (t : Tr) : Prop := ∀ (v : Value) (w : World), snd t = true → VRep w t v → (kenc t).length ≤ 900000000 → Calls Tryd.prog 26 #[v] w fun e w' => e = .returned (.string ⟨(kenc t).toArray⟩) ∧ Ext w w'
set_option maxRecDepth 20000 in
set_option maxHeartbeats 2000000 in
theorem one_k0 (i : Int) (s : ByteArray) (lt : List Tr) (ns : List ByteArray) (ds : List Tr) (la da : Option Addr) (lc dc : Nat) (w : World) :
    Calls Tryd.prog 26 #[.agg #[.int .i64 0, .int .i64 i, .string s, .slice la lt.length lc, .slice da ds.length dc]] w fun e w' => e = .returned (.string ⟨([(0 : UInt8)]).toArray⟩) ∧ Ext w w' := by
  obtain ⟨r, hr⟩ : ∃ x : ByteArray, (⟨([(0 : UInt8)]).toArray⟩ : ByteArray) = x := ⟨_, rfl⟩
  rw [hr]
  have HR := Lib.hid hr
  clear hr
  have hcv := conv_oneg (w.alloc (.cells #[.int .i64 0, .int .i64 i, .string s, .slice la lt.length lc, .slice da ds.length dc] 41)) (w.heap.size + 1) (by simp) 0 0 rfl
  go_enter Tryd.func26, Tryd.ntmps26
  go_wp2_with fail
  go_ret
  exact ⟨by rw [← HR.out]; rfl, by repeat (first | with_reducible assumption | with_reducible exact Ext.refl _ | with_reducible refine Ext.drew ?_ | with_reducible refine Ext.alloc ?_ _ | ((with_reducible refine Ext.setCell ?_ ?_ _); rotate_left; (· first | exact Nat.le_refl _ | (simp; done) | omega | (simp; omega))))⟩
set_option maxRecDepth 20000 in
set_option maxHeartbeats 2000000 in
theorem one_k1 (i : Int) (s : ByteArray) (lt : List Tr) (ns : List ByteArray) (ds : List Tr) (la da : Option Addr) (lc dc : Nat) (w : World) :
    Calls Tryd.prog 26 #[.agg #[.int .i64 1, .int .i64 i, .string s, .slice la lt.length lc, .slice da ds.length dc]] w fun e w' => e = .returned (.string ⟨([(1 : UInt8)]).toArray⟩) ∧ Ext w w' := by
  obtain ⟨r, hr⟩ : ∃ x : ByteArray, (⟨([(1 : UInt8)]).toArray⟩ : ByteArray) = x := ⟨_, rfl⟩
  rw [hr]
  have HR := Lib.hid hr
  clear hr
  have hcv := conv_oneg (w.alloc (.cells #[.int .i64 1, .int .i64 i, .string s, .slice la lt.length lc, .slice da ds.length dc] 41)) (w.heap.size + 1) (by simp) 1 1 rfl
  go_enter Tryd.func26, Tryd.ntmps26
  go_wp2_with fail
  go_ret
  exact ⟨by rw [← HR.out]; rfl, by repeat (first | with_reducible assumption | with_reducible exact Ext.refl _ | with_reducible refine Ext.drew ?_ | with_reducible refine Ext.alloc ?_ _ | ((with_reducible refine Ext.setCell ?_ ?_ _); rotate_left; (· first | exact Nat.le_refl _ | (simp; done) | omega | (simp; omega))))⟩
set_option maxRecDepth 20000 in
set_option maxHeartbeats 2000000 in
theorem one_k2 (i : Int) (s : ByteArray) (lt : List Tr) (ns : List ByteArray) (ds : List Tr) (la da : Option Addr) (lc dc : Nat) (w : World) :
    Calls Tryd.prog 26 #[.agg #[.int .i64 2, .int .i64 i, .string s, .slice la lt.length lc, .slice da ds.length dc]] w fun e w' => e = .returned (.string ⟨([(2 : UInt8)]).toArray⟩) ∧ Ext w w' := by
  obtain ⟨r, hr⟩ : ∃ x : ByteArray, (⟨([(2 : UInt8)]).toArray⟩ : ByteArray) = x := ⟨_, rfl⟩
  rw [hr]
  have HR := Lib.hid hr
  clear hr
  have hcv := conv_oneg (w.alloc (.cells #[.int .i64 2, .int .i64 i, .string s, .slice la lt.length lc, .slice da ds.length dc] 41)) (w.heap.size + 1) (by simp) 2 2 rfl
  go_enter Tryd.func26, Tryd.ntmps26
  go_wp2_with fail
  go_ret
  exact ⟨by rw [← HR.out]; rfl, by repeat (first | with_reducible assumption | with_reducible exact Ext.refl _ | with_reducible refine Ext.drew ?_ | with_reducible refine Ext.alloc ?_ _ | ((with_reducible refine Ext.setCell ?_ ?_ _); rotate_left; (· first | exact Nat.le_refl _ | (simp; done) | omega | (simp; omega))))⟩
set_option maxRecDepth 20000 in
set_option maxHeartbeats 2000000 in
theorem one_k11 (i : Int) (s : ByteArray) (lt : List Tr) (ns : List ByteArray) (ds : List Tr) (la da : Option Addr) (lc dc : Nat) (w : World) :
    Calls Tryd.prog 26 #[.agg #[.int .i64 11, .int .i64 i, .string s, .slice la lt.length lc, .slice da ds.length dc]] w fun e w' => e = .returned (.string ⟨([(11 : UInt8)]).toArray⟩) ∧ Ext w w' := by
  obtain ⟨r, hr⟩ : ∃ x : ByteArray, (⟨([(11 : UInt8)]).toArray⟩ : ByteArray) = x := ⟨_, rfl⟩
  rw [hr]
  have HR := Lib.hid hr
  clear hr
  have hcv := conv_oneg (w.alloc (.cells #[.int .i64 11, .int .i64 i, .string s, .slice la lt.length lc, .slice da ds.length dc] 41)) (w.heap.size + 1) (by simp) 11 11 rfl
  go_enter Tryd.func26, Tryd.ntmps26
  go_wp2_with fail
  go_ret
  exact ⟨by rw [← HR.out]; rfl, by repeat (first | with_reducible assumption | with_reducible exact Ext.refl _ | with_reducible refine Ext.drew ?_ | with_reducible refine Ext.alloc ?_ _ | ((with_reducible refine Ext.setCell ?_ ?_ _); rotate_left; (· first | exact Nat.le_refl _ | (simp; done) | omega | (simp; omega))))⟩
set_option maxRecDepth 20000 in
set_option maxHeartbeats 2000000 in
theorem one_k3 (i : Int) (s : ByteArray) (lt : List Tr) (ns : List ByteArray) (ds : List Tr) (la da : Option Addr) (lc dc : Nat) (w : World) (hI : I64 i) :
    Calls Tryd.prog 26 #[.agg #[.int .i64 3, .int .i64 i, .string s, .slice la lt.length lc, .slice da ds.length dc]] w fun e w' => e = .returned (.string ⟨([(3 : UInt8)] ++ num8 (uOf i)).toArray⟩) ∧ Ext w w' := by
  obtain ⟨r, hr⟩ : ∃ x : ByteArray, (⟨([(3 : UInt8)] ++ num8 (uOf i)).toArray⟩ : ByteArray) = x := ⟨_, rfl⟩
  rw [hr]
  have HR := Lib.hid hr
  clear hr
  have HI := Lib.hid hI
  clear hI
  obtain ⟨q, hq⟩ : ∃ x : ByteArray, (⟨(num8 (uOf i)).toArray⟩ : ByteArray) = x := ⟨_, rfl⟩
  have HQ := Lib.hid hq
  have hqs : q.size ≤ 8194 := by rw [← hq]; show (num8 (uOf i)).toArray.size ≤ _; simp [num8]
  have HFin : Hid ((⟨#[3]⟩ : ByteArray) ++ q = r) := by
    show _ = _
    rw [← HR.out]; apply bytes_ext; rw [cat_list, ← hq]
  have hk1 : (⟨#[3]⟩ : ByteArray).size ≤ 1 := Nat.le_refl _
  clear hq
  have hcv := conv_oneg (w.alloc (.cells #[.int .i64 3, .int .i64 i, .string s, .slice la lt.length lc, .slice da ds.length dc] 41)) (w.heap.size + 1) (by simp) 3 3 rfl
  go_enter Tryd.func26, Tryd.ntmps26
  go_wp2_with fail
  refine (number_ok i _ HI.out).mono ?_
  rintro e w1 ⟨rfl, h1⟩
  rw [HQ.out]
  have hE := h1.of_alloc.of_alloc
  go_wp2_with fail
  go_ret
  exact ⟨congrArg (fun x => Ending.returned (.string x)) HFin.out, hE⟩
set_option maxRecDepth 20000 in
set_option maxHeartbeats 2000000 in
theorem one_k9 (i : Int) (s : ByteArray) (lt : List Tr) (ns : List ByteArray) (ds : List Tr) (la da : Option Addr) (lc dc : Nat) (w : World) (hI : I64 i) :
    Calls Tryd.prog 26 #[.agg #[.int .i64 9, .int .i64 i, .string s, .slice la lt.length lc, .slice da ds.length dc]] w fun e w' => e = .returned (.string ⟨([(9 : UInt8)] ++ num8 (uOf i)).toArray⟩) ∧ Ext w w' := by
  obtain ⟨r, hr⟩ : ∃ x : ByteArray, (⟨([(9 : UInt8)] ++ num8 (uOf i)).toArray⟩ : ByteArray) = x := ⟨_, rfl⟩
  rw [hr]
  have HR := Lib.hid hr
  clear hr
  have HI := Lib.hid hI
  clear hI
  obtain ⟨q, hq⟩ : ∃ x : ByteArray, (⟨(num8 (uOf i)).toArray⟩ : ByteArray) = x := ⟨_, rfl⟩
  have HQ := Lib.hid hq
  have hqs : q.size ≤ 8194 := by rw [← hq]; show (num8 (uOf i)).toArray.size ≤ _; simp [num8]
  have HFin : Hid ((⟨#[9]⟩ : ByteArray) ++ q = r) := by
    show _ = _
    rw [← HR.out]; apply bytes_ext; rw [cat_list, ← hq]
  have hk1 : (⟨#[9]⟩ : ByteArray).size ≤ 1 := Nat.le_refl _
  clear hq
  have hcv := conv_oneg (w.alloc (.cells #[.int .i64 9, .int .i64 i, .string s, .slice la lt.length lc, .slice da ds.length dc] 41)) (w.heap.size + 1) (by simp) 9 9 rfl
  go_enter Tryd.func26, Tryd.ntmps26
  go_wp2_with fail
  refine (number_ok i _ HI.out).mono ?_
  rintro e w1 ⟨rfl, h1⟩
  rw [HQ.out]
  have hE := h1.of_alloc.of_alloc
  go_wp2_with fail
  go_ret
  exact ⟨congrArg (fun x => Ending.returned (.string x)) HFin.out, hE⟩
set_option maxRecDepth 20000 in
set_option maxHeartbeats 2000000 in
theorem one_k10 (i : Int) (s : ByteArray) (lt : List Tr) (ns : List ByteArray) (ds : List Tr) (la da : Option Addr) (lc dc : Nat) (w : World) (hI : I64 i) :
    Calls Tryd.prog 26 #[.agg #[.int .i64 10, .int .i64 i, .string s, .slice la lt.length lc, .slice da ds.length dc]] w fun e w' => e = .returned (.string ⟨([(10 : UInt8)] ++ num8 (uOf i)).toArray⟩) ∧ Ext w w' := by
  obtain ⟨r, hr⟩ : ∃ x : ByteArray, (⟨([(10 : UInt8)] ++ num8 (uOf i)).toArray⟩ : ByteArray) = x := ⟨_, rfl⟩
  rw [hr]
  have HR := Lib.hid hr
  clear hr
  have HI := Lib.hid hI
  clear hI
  obtain ⟨q, hq⟩ : ∃ x : ByteArray, (⟨(num8 (uOf i)).toArray⟩ : ByteArray) = x := ⟨_, rfl⟩
  have HQ := Lib.hid hq
  have hqs : q.size ≤ 8194 := by rw [← hq]; show (num8 (uOf i)).toArray.size ≤ _; simp [num8]
  have HFin : Hid ((⟨#[10]⟩ : ByteArray) ++ q = r) := by
    show _ = _
    rw [← HR.out]; apply bytes_ext; rw [cat_list, ← hq]
  have hk1 : (⟨#[10]⟩ : ByteArray).size ≤ 1 := Nat.le_refl _
  clear hq
  have hcv := conv_oneg (w.alloc (.cells #[.int .i64 10, .int .i64 i, .string s, .slice la lt.length lc, .slice da ds.length dc] 41)) (w.heap.size + 1) (by simp) 10 10 rfl
  go_enter Tryd.func26, Tryd.ntmps26
  go_wp2_with fail
  refine (number_ok i _ HI.out).mono ?_
  rintro e w1 ⟨rfl, h1⟩
  rw [HQ.out]
  have hE := h1.of_alloc.of_alloc
  go_wp2_with fail
  go_ret
  exact ⟨congrArg (fun x => Ending.returned (.string x)) HFin.out, hE⟩
set_option maxRecDepth 20000 in
set_option maxHeartbeats 2000000 in
theorem one_k4 (i : Int) (s : ByteArray) (lt : List Tr) (ns : List ByteArray) (ds : List Tr) (la da : Option Addr) (lc dc : Nat) (w : World) (hs : s.size ≤ 4096) :
    Calls Tryd.prog 26 #[.agg #[.int .i64 4, .int .i64 i, .string s, .slice la lt.length lc, .slice da ds.length dc]] w fun e w' => e = .returned (.string ⟨([(4 : UInt8)] ++ (esc s.data.toList ++ [0, 0])).toArray⟩) ∧ Ext w w' := by
  obtain ⟨r, hr⟩ : ∃ x : ByteArray, (⟨([(4 : UInt8)] ++ (esc s.data.toList ++ [0, 0])).toArray⟩ : ByteArray) = x := ⟨_, rfl⟩
  rw [hr]
  have HR := Lib.hid hr
  clear hr
  obtain ⟨q, hq⟩ : ∃ x : ByteArray, (⟨(esc s.data.toList ++ [0, 0]).toArray⟩ : ByteArray) = x := ⟨_, rfl⟩
  have HQ := Lib.hid hq
  have hqs : q.size ≤ 8194 := by rw [← hq]; show (esc s.data.toList ++ [0, 0]).toArray.size ≤ _; have := esc_le s.data.toList; simp at this ⊢; omega
  have HFin : Hid ((⟨#[4]⟩ : ByteArray) ++ q = r) := by
    show _ = _
    rw [← HR.out]; apply bytes_ext; rw [cat_list, ← hq]
  have hk1 : (⟨#[4]⟩ : ByteArray).size ≤ 1 := Nat.le_refl _
  clear hq
  have hcv := conv_oneg (w.alloc (.cells #[.int .i64 4, .int .i64 i, .string s, .slice la lt.length lc, .slice da ds.length dc] 41)) (w.heap.size + 1) (by simp) 4 4 rfl
  go_enter Tryd.func26, Tryd.ntmps26
  go_wp2_with fail
  refine (text_ok' s _ hs).mono ?_
  rintro e w1 ⟨rfl, rfl⟩
  rw [HQ.out]
  go_wp2_with fail
  go_ret
  exact ⟨congrArg (fun x => Ending.returned (.string x)) HFin.out, by repeat (first | with_reducible assumption | with_reducible exact Ext.refl _ | with_reducible refine Ext.drew ?_ | with_reducible refine Ext.alloc ?_ _ | ((with_reducible refine Ext.setCell ?_ ?_ _); rotate_left; (· first | exact Nat.le_refl _ | (simp; done) | omega | (simp; omega))))⟩
set_option maxRecDepth 20000 in
set_option maxHeartbeats 2000000 in
theorem one_k7 (i : Int) (s : ByteArray) (lt : List Tr) (ns : List ByteArray) (ds : List Tr) (la da : Option Addr) (lc dc : Nat) (w : World) (hs : s.size ≤ 4096) :
    Calls Tryd.prog 26 #[.agg #[.int .i64 7, .int .i64 i, .string s, .slice la lt.length lc, .slice da ds.length dc]] w fun e w' => e = .returned (.string ⟨([(7 : UInt8)] ++ (esc s.data.toList ++ [0, 0])).toArray⟩) ∧ Ext w w' := by
  obtain ⟨r, hr⟩ : ∃ x : ByteArray, (⟨([(7 : UInt8)] ++ (esc s.data.toList ++ [0, 0])).toArray⟩ : ByteArray) = x := ⟨_, rfl⟩
  rw [hr]
  have HR := Lib.hid hr
  clear hr
  obtain ⟨q, hq⟩ : ∃ x : ByteArray, (⟨(esc s.data.toList ++ [0, 0]).toArray⟩ : ByteArray) = x := ⟨_, rfl⟩
  have HQ := Lib.hid hq
  have hqs : q.size ≤ 8194 := by rw [← hq]; show (esc s.data.toList ++ [0, 0]).toArray.size ≤ _; have := esc_le s.data.toList; simp at this ⊢; omega
  have HFin : Hid ((⟨#[7]⟩ : ByteArray) ++ q = r) := by
    show _ = _
    rw [← HR.out]; apply bytes_ext; rw [cat_list, ← hq]
  have hk1 : (⟨#[7]⟩ : ByteArray).size ≤ 1 := Nat.le_refl _
  clear hq
  have hcv := conv_oneg (w.alloc (.cells #[.int .i64 7, .int .i64 i, .string s, .slice la lt.length lc, .slice da ds.length dc] 41)) (w.heap.size + 1) (by simp) 7 7 rfl
  go_enter Tryd.func26, Tryd.ntmps26
  go_wp2_with fail
  refine (text_ok' s _ hs).mono ?_
  rintro e w1 ⟨rfl, rfl⟩
  rw [HQ.out]
  go_wp2_with fail
  go_ret
  exact ⟨congrArg (fun x => Ending.returned (.string x)) HFin.out, by repeat (first | with_reducible assumption | with_reducible exact Ext.refl _ | with_reducible refine Ext.drew ?_ | with_reducible refine Ext.alloc ?_ _ | ((with_reducible refine Ext.setCell ?_ ?_ _); rotate_left; (· first | exact Nat.le_refl _ | (simp; done) | omega | (simp; omega))))⟩
set_option maxRecDepth 20000 in
set_option maxHeartbeats 2000000 in
theorem one_k8 (i : Int) (s : ByteArray) (lt : List Tr) (ns : List ByteArray) (ds : List Tr) (la da : Option Addr) (lc dc : Nat) (w : World) (hs : s.size ≤ 4096) :
    Calls Tryd.prog 26 #[.agg #[.int .i64 8, .int .i64 i, .string s, .slice la lt.length lc, .slice da ds.length dc]] w fun e w' => e = .returned (.string ⟨([(8 : UInt8)] ++ (esc s.data.toList ++ [0, 0])).toArray⟩) ∧ Ext w w' := by
  obtain ⟨r, hr⟩ : ∃ x : ByteArray, (⟨([(8 : UInt8)] ++ (esc s.data.toList ++ [0, 0])).toArray⟩ : ByteArray) = x := ⟨_, rfl⟩
  rw [hr]
  have HR := Lib.hid hr
  clear hr
  obtain ⟨q, hq⟩ : ∃ x : ByteArray, (⟨(esc s.data.toList ++ [0, 0]).toArray⟩ : ByteArray) = x := ⟨_, rfl⟩
  have HQ := Lib.hid hq
  have hqs : q.size ≤ 8194 := by rw [← hq]; show (esc s.data.toList ++ [0, 0]).toArray.size ≤ _; have := esc_le s.data.toList; simp at this ⊢; omega
  have HFin : Hid ((⟨#[8]⟩ : ByteArray) ++ q = r) := by
    show _ = _
    rw [← HR.out]; apply bytes_ext; rw [cat_list, ← hq]
  have hk1 : (⟨#[8]⟩ : ByteArray).size ≤ 1 := Nat.le_refl _
  clear hq
  have hcv := conv_oneg (w.alloc (.cells #[.int .i64 8, .int .i64 i, .string s, .slice la lt.length lc, .slice da ds.length dc] 41)) (w.heap.size + 1) (by simp) 8 8 rfl
  go_enter Tryd.func26, Tryd.ntmps26
  go_wp2_with fail
  refine (text_ok' s _ hs).mono ?_
  rintro e w1 ⟨rfl, rfl⟩
  rw [HQ.out]
  go_wp2_with fail
  go_ret
  exact ⟨congrArg (fun x => Ending.returned (.string x)) HFin.out, by repeat (first | with_reducible assumption | with_reducible exact Ext.refl _ | with_reducible refine Ext.drew ?_ | with_reducible refine Ext.alloc ?_ _ | ((with_reducible refine Ext.setCell ?_ ?_ _); rotate_left; (· first | exact Nat.le_refl _ | (simp; done) | omega | (simp; omega))))⟩
set_option maxRecDepth 20000 in
set_option maxHeartbeats 2000000 in
theorem one_k6 (i : Int) (s : ByteArray) (lt : List Tr) (ns : List ByteArray) (ds : List Tr) (la da : Option Addr) (lc dc : Nat) (w : World) (hc1 : lt.length ≤ lc) (hc2 : lc ≤ maxLen) (hL : LRep w la 0 lt) (hsl : ∀ t ∈ lt, snd t = true) (ih : ∀ t ∈ lt, OneOk t) (hlen : ([(6 : UInt8)] ++ (kencL lt ++ [0])).length ≤ 900000000) :
    Calls Tryd.prog 26 #[.agg #[.int .i64 6, .int .i64 i, .string s, .slice la lt.length lc, .slice da ds.length dc]] w fun e w' => e = .returned (.string ⟨([(6 : UInt8)] ++ (kencL lt ++ [0])).toArray⟩) ∧ Ext w w' := by
  obtain ⟨r, hr⟩ : ∃ x : ByteArray, (⟨([(6 : UInt8)] ++ (kencL lt ++ [0])).toArray⟩ : ByteArray) = x := ⟨_, rfl⟩
  rw [hr]
  have HR := Lib.hid hr
  clear hr
  have HL := Lib.hid hL
  have HIH := Lib.hid ih
  have HSL := Lib.hid hsl
  clear hL ih hsl
  unfold maxLen at hc2
  have hcv := conv_oneg (w.alloc (.cells #[.int .i64 6, .int .i64 i, .string s, .slice la lt.length lc, .slice da ds.length dc] 41)) (w.heap.size + 1) (by simp) 6 6 rfl
  go_enter Tryd.func26, Tryd.ntmps26
  go_wp2_with fail
  have hE1 := (Ext.refl (w.alloc (.cells #[.int .i64 6, .int .i64 i, .string s, .slice la lt.length lc, .slice da ds.length dc] 41))).alloc (.cells #[.int .u8 6] 5)
  have HE1 := Lib.hid hE1
  clear hE1 hcv
  go_loopw [3, 4] (fun b c wr => ∃ (j : Nat) (y : ByteArray), j ≤ lt.length ∧ c = .int .i64 j ∧ b = .string y ∧ Hid (y.data.toList = [6] ++ kencL (lt.take j)) ∧ Hid (Ext (w.alloc (.cells #[.int .i64 6, .int .i64 i, .string s, .slice la lt.length lc, .slice da ds.length dc] 41)) wr)) (fun _ c _ => lt.length - (intOf c).toNat)
  case atStart => exact ⟨0, _, by omega, rfl, rfl, by show _ = _; simp [kencL], HE1⟩
  case round =>
    obtain ⟨j, y, hj, rfl, rfl, HY, HE⟩ := hrel
    have kk := HE.out.ownc
    have ll := HE.out.lt
    have hys : y.size = y.data.toList.length := by simp
    have hy9 : y.size ≤ 900000000 := by
      rw [hys, HY.out]; have := kencL_take_le lt j; simp only [List.length_append] at hlen this ⊢; omega
    clear hys
    by_cases hlt : j < lt.length
    · obtain ⟨bb, off, c0, c1, c2, c3', c4, rfl, e0, e1, e2, e3, e4, hv⟩ := LRep.at_ lt 0 j lt[j] HL.out (List.getElem?_eq_getElem hlt)
      obtain ⟨k', i', s', la', ln', lc', da', dn', dc', rfl, rfl, rfl, rfl, rfl⟩ := hv.shape5
      have hEr := HE.out.of_alloc
      have q0 := hEr.keep e0
      have q1 := hEr.keep e1
      have q2 := hEr.keep e2
      have q3 := hEr.keep e3
      have q4 := hEr.keep e4
      rw [Nat.zero_add] at q0 q1 q2 q3 q4
      have HV := Lib.hid (VRep.ext hEr _ _ hv)
      clear e0 e1 e2 e3 e4 hv hEr
      have hsn := kencL_snoc (lt.take j) lt[j]
      rw [← List.take_succ_eq_append_getElem hlt] at hsn
      have hle := kencL_take_le lt (j + 1)
      obtain ⟨p, hp⟩ : ∃ p, lt[j] = p := ⟨_, rfl⟩
      have hmem : p ∈ lt := by rw [← hp]; exact List.getElem_mem hlt
      rw [hp] at HV hsn
      obtain ⟨z, hz⟩ : ∃ z : ByteArray, (⟨(kenc p).toArray⟩ : ByteArray) = z := ⟨_, rfl⟩
      have hzl : z.data.toList = kenc p := by rw [← hz]
      have hzs : z.size = z.data.toList.length := by simp
      have hpl : (kenc p).length ≤ 900000000 := by
        rw [hsn] at hle; simp only [List.length_append] at hle hlen; omega
      have hz9 : z.size ≤ 900000000 := by rw [hzs, hzl]; exact hpl
      have HP := Lib.hid hpl
      have HY2 : Hid ((y ++ ((⟨#[1]⟩ : ByteArray) ++ z)).data.toList = [6] ++ kencL (lt.take (j + 1))) := by
        show _ = _
        rw [cat_list, cat_list, HY.out, hzl, hsn]; simp only [List.append_assoc]
      have hone : (⟨#[1]⟩ : ByteArray).size ≤ 1 := Nat.le_refl _
      have h1z : ((⟨#[1]⟩ : ByteArray) ++ z).size ≤ 900000001 := by rw [cat_size]; omega
      have HZ := Lib.hid hz
      clear hp hsn hle hz hzl hzs hpl
      go_wp2_with fail
      refine (HIH.out p hmem _ _ (HSL.out p hmem) HV.out HP.out).mono ?_
      rintro e w4 ⟨rfl, h4⟩
      rw [HZ.out]
      have HE4 := Lib.hid (HE.out.trans h4)
      clear h4
      go_wp2_with fail
      exact ⟨⟨j + 1, _, by omega, by go_num, rfl, HY2, HE4⟩, by simp [intOf]; omega⟩
    · have hj2 : j = lt.length := by omega
      subst hj2
      have hyr : y ++ (⟨#[0]⟩ : ByteArray) = r := by rw [← HR.out]; apply bytes_ext; rw [cat_list, HY.out, List.take_length]; simp
      have HYR := Lib.hid hyr
      have h0s : (⟨#[0]⟩ : ByteArray).size ≤ 1 := Nat.le_refl _
      clear hyr
      go_wp2_with fail
      go_ret
      exact ⟨congrArg (fun x => Ending.returned (.string x)) HYR.out, HE.out.of_alloc⟩
set_option maxRecDepth 20000 in
set_option maxHeartbeats 2000000 in
theorem one_k5 (i : Int) (s : ByteArray) (lt : List Tr) (ns : List ByteArray) (ds : List Tr) (la da : Option Addr) (lc dc : Nat) (w : World) (hln : ns.length = ds.length) (hc1 : ds.length ≤ dc) (hc2 : dc ≤ maxLen) (hL : DRep w da 0 ns ds) (hnm : ∀ n ∈ ns, n.size ≤ 32) (hsl : ∀ t ∈ ds, snd t = true) (ih : ∀ t ∈ ds, OneOk t) (hlen : ([(5 : UInt8)] ++ (kencF ns ds ++ [0])).length ≤ 900000000) :
    Calls Tryd.prog 26 #[.agg #[.int .i64 5, .int .i64 i, .string s, .slice la lt.length lc, .slice da ds.length dc]] w fun e w' => e = .returned (.string ⟨([(5 : UInt8)] ++ (kencF ns ds ++ [0])).toArray⟩) ∧ Ext w w' := by
  obtain ⟨r, hr⟩ : ∃ x : ByteArray, (⟨([(5 : UInt8)] ++ (kencF ns ds ++ [0])).toArray⟩ : ByteArray) = x := ⟨_, rfl⟩
  rw [hr]
  have HR := Lib.hid hr
  clear hr
  have HL := Lib.hid hL
  have HIH := Lib.hid ih
  have HSL := Lib.hid hsl
  have HNM := Lib.hid hnm
  clear hL ih hsl hnm
  unfold maxLen at hc2
  have hcv := conv_oneg (w.alloc (.cells #[.int .i64 5, .int .i64 i, .string s, .slice la lt.length lc, .slice da ds.length dc] 41)) (w.heap.size + 1) (by simp) 5 5 rfl
  go_enter Tryd.func26, Tryd.ntmps26
  go_wp2_with fail
  have hE1 := (Ext.refl (w.alloc (.cells #[.int .i64 5, .int .i64 i, .string s, .slice la lt.length lc, .slice da ds.length dc] 41))).alloc (.cells #[.int .u8 5] 5)
  have HE1 := Lib.hid hE1
  clear hE1 hcv
  go_loopw [3, 5] (fun b c wr => ∃ (j : Nat) (y : ByteArray), j ≤ ds.length ∧ c = .int .i64 j ∧ b = .string y ∧ Hid (y.data.toList = [5] ++ kencF (ns.take j) (ds.take j)) ∧ Hid (Ext (w.alloc (.cells #[.int .i64 5, .int .i64 i, .string s, .slice la lt.length lc, .slice da ds.length dc] 41)) wr)) (fun _ c _ => ds.length - (intOf c).toNat)
  case atStart => exact ⟨0, _, by omega, rfl, rfl, by show _ = _; simp [kencF], HE1⟩
  case round =>
    obtain ⟨j, y, hj, rfl, rfl, HY, HE⟩ := hrel
    have kk := HE.out.ownc
    have ll := HE.out.lt
    have hys : y.size = y.data.toList.length := by simp
    have hy9 : y.size ≤ 900000000 := by
      rw [hys, HY.out]; have := kencF_take_le ns ds j; simp only [List.length_append] at hlen this ⊢; omega
    clear hys
    by_cases hlt : j < ds.length
    · obtain ⟨bb, off, c0, c1, c2, c3', c4, rfl, hnm, en, e0, e1, e2, e3, e4, hv⟩ := DRep.at_ ns ds 0 j (ns[j]'(by omega)) ds[j] HL.out (List.getElem?_eq_getElem (by omega)) (List.getElem?_eq_getElem hlt)
      obtain ⟨k', i', s', la', ln', lc', da', dn', dc', rfl, rfl, rfl, rfl, rfl⟩ := hv.shape5
      have hEr := HE.out.of_alloc
      have qn := hEr.keep en
      have q0 := hEr.keep e0
      have q1 := hEr.keep e1
      have q2 := hEr.keep e2
      have q3 := hEr.keep e3
      have q4 := hEr.keep e4
      rw [Nat.zero_add] at qn q0 q1 q2 q3 q4
      have hbl : bb < wr.heap.size := World.block_lt_of_cell? _ _ qn
      have HV := Lib.hid (VRep.ext hEr _ _ hv)
      clear en e0 e1 e2 e3 e4 hv hEr
      have hsn := kencF_snoc (ns.take j) (ds.take j) (ns[j]'(by omega)) ds[j] (by simp; omega)
      rw [← List.take_succ_eq_append_getElem hlt, ← List.take_succ_eq_append_getElem (by omega)] at hsn
      have hle := kencF_take_le ns ds (j + 1)
      obtain ⟨p, hp⟩ : ∃ p, ds[j] = p := ⟨_, rfl⟩
      obtain ⟨nm, hn⟩ : ∃ n, ns[j]'(by omega) = n := ⟨_, rfl⟩
      have hmem : p ∈ ds := by rw [← hp]; exact List.getElem_mem hlt
      have hmn : nm ∈ ns := by rw [← hn]; exact List.getElem_mem (by omega)
      have h32 : nm.size ≤ 32 := HNM.out nm hmn
      rw [hp] at HV hsn
      rw [hn] at qn hsn hnm
      obtain ⟨z, hz⟩ : ∃ z : ByteArray, (⟨(kenc p).toArray⟩ : ByteArray) = z := ⟨_, rfl⟩
      have hzl : z.data.toList = kenc p := by rw [← hz]
      have hzs : z.size = z.data.toList.length := by simp
      have hpl : (kenc p).length ≤ 900000000 := by
        rw [hsn] at hle; simp only [List.length_append] at hle hlen; omega
      have hz9 : z.size ≤ 900000000 := by rw [hzs, hzl]; exact hpl
      have HP := Lib.hid hpl
      obtain ⟨a1, ha1⟩ : ∃ a : ByteArray, (⟨#[1]⟩ : ByteArray) = a := ⟨_, rfl⟩
      obtain ⟨a0, ha0⟩ : ∃ a : ByteArray, (⟨#[0]⟩ : ByteArray) = a := ⟨_, rfl⟩
      have hs1 : a1.size = 1 := by rw [← ha1]; rfl
      have hs0 : a0.size = 1 := by rw [← ha0]; rfl
      have HY2 : Hid ((y ++ (a1 ++ nm ++ a0 ++ z)).data.toList = [5] ++ kencF (ns.take (j + 1)) (ds.take (j + 1))) := by
        show _ = _
        rw [cat_list, cat_list, cat_list, cat_list, HY.out, hzl, hsn, ← ha1, ← ha0]; simp only [List.append_assoc]
      have e1 : (a1 ++ nm).size = 1 + nm.size := by rw [cat_size]; omega
      have e2 : (a1 ++ nm ++ a0).size = 2 + nm.size := by rw [cat_size, e1]; omega
      have e3 : (a1 ++ nm ++ a0 ++ z).size = 2 + nm.size + z.size := by rw [cat_size, e2]
      have z1 : ¬ 9223372036854775807 < a1.size + nm.size := by omega
      have z2 : ¬ 9223372036854775807 < (a1 ++ nm).size + a0.size := by omega
      have z3 : ¬ 9223372036854775807 < (a1 ++ nm ++ a0).size + z.size := by omega
      have z4 : ¬ 9223372036854775807 < y.size + (a1 ++ nm ++ a0 ++ z).size := by omega
      have y2 : ¬ 9223372036854775807 < a1.size + nm.size + a0.size := by omega
      have y3 : ¬ 9223372036854775807 < a1.size + nm.size + a0.size + z.size := by omega
      have y4 : ¬ 9223372036854775807 < y.size + (a1.size + nm.size + a0.size + z.size) := by omega
      have HZ := Lib.hid hz
      have HA1 := Lib.hid ha1
      have HA0 := Lib.hid ha0
      clear hp hn hsn hle hz hzl hzs hpl e1 e2 e3 hs1 hs0 ha1 ha0
      go_wp2_with fail
      simp only [HA1.out, HA0.out]
      refine wp_region_mix (Ext wr) [(true, 0), (true, 1), (true, 2), (true, 3), (true, 4), (true, 5), (true, 6), (true, 7), (true, 8), (true, 9), (true, 10), (true, 11), (true, 12), (true, 13), (true, 14), (false, 15), (true, 16), (true, 17), (true, 18)] (by kernel_rfl) (by kernel_rfl) (by kernel_rfl) (by kernel_rfl) ?hS ?_
      case hS => exact (Ext.refl _).drew
      repeat (first | (refine wpMix_q (v := ?_) rfl rfl ?_ ?_; rotate_left; (· intro wq hSq; have cq := hSq.cells; go_simp; try (with_reducible rfl)); simp only [Act.put, List.setIfInBounds_toArray, List.set_cons_zero, List.set_cons_succ, List.getElem_toArray, List.getElem_cons_zero, List.getElem_cons_succ]) | (refine wpMix_u rfl rfl ?_; simp only [Act.put, List.setIfInBounds_toArray, List.set_cons_zero, List.set_cons_succ, List.getElem_toArray, List.getElem_cons_zero, List.getElem_cons_succ]))
      refine wpMix_l rfl rfl (fun K hK => ?_)
      go_simp
      refine (HIH.out p hmem _ _ (HSL.out p hmem) (VRep.ext (Ext.refl _).drew _ _ HV.out) HP.out).mono ?_
      rintro e w4 ⟨rfl, h4⟩
      rw [HZ.out]
      have HE4 := Lib.hid ((Ext.refl wr).drew.trans h4)
      have HE5 := Lib.hid (HE.out.trans HE4.out)
      refine hK _ _ HE4.out ?_
      clear hK K h4
      repeat (first | (refine wpMix_q (v := ?_) rfl rfl ?_ ?_; rotate_left; (· intro wq hSq; have cq := hSq.cells; go_simp; try (with_reducible rfl)); simp only [Act.put, List.setIfInBounds_toArray, List.set_cons_zero, List.set_cons_succ, List.getElem_toArray, List.getElem_cons_zero, List.getElem_cons_succ]) | (refine wpMix_u rfl rfl ?_; simp only [Act.put, List.setIfInBounds_toArray, List.set_cons_zero, List.set_cons_succ, List.getElem_toArray, List.getElem_cons_zero, List.getElem_cons_succ]))
      refine wpMix_nil ?_
      go_wp2_with fail
      exact ⟨⟨j + 1, _, by omega, by go_num, rfl, HY2, HE5⟩, by simp [intOf]; omega⟩
    · have hj2 : j = ds.length := by omega
      subst hj2
      have hyr : y ++ (⟨#[0]⟩ : ByteArray) = r := by rw [← HR.out]; apply bytes_ext; rw [cat_list, HY.out, List.take_length, List.take_of_length_le (by omega)]; simp
      have HYR := Lib.hid hyr
      have h0s : (⟨#[0]⟩ : ByteArray).size ≤ 1 := Nat.le_refl _
      clear hyr
      go_wp2_with fail
      go_ret
      exact ⟨congrArg (fun x => Ending.returned (.string x)) HYR.out, HE.out.of_alloc⟩
end Go.Proofs.YtipphlhaaienpaaDoor
set_option linter.unusedSimpArgs false
set_option linter.unusedVariables false
namespace Go.Proofs.YtipphlhaaienpaaDoor
open Go.RowKit
theorem one_step (t : Tr) (ih : ∀ p, p.sz < t.sz → OneOk p) : OneOk t := by
  intro v w hsd hV hlen
  obtain ⟨k, i, s, lt, ns, ds⟩ := t
  unfold VRep at hV
  obtain ⟨la, lc, da, dc, rfl, ⟨hs, hk, hi⟩, hl1, hl2, hd1, hd2, hnd, hL, hD⟩ := hV
  obtain ⟨h1, h2, h3, h4⟩ := snd_list hsd
  have ih2 : ∀ t, t ∈ lt ∨ t ∈ ds → OneOk t := fun t ht => ih t (by rcases ht with h | h; exact Tr.sz_list h; exact Tr.sz_docs h)
  clear ih
  by_cases k1 : k = 1
  · subst k1; exact one_k1 i s lt ns ds la da lc dc w
  by_cases k2 : k = 2
  · subst k2; exact one_k2 i s lt ns ds la da lc dc w
  by_cases k11 : k = 11
  · subst k11; exact one_k11 i s lt ns ds la da lc dc w
  by_cases k3 : k = 3
  · subst k3; exact one_k3 i s lt ns ds la da lc dc w hi
  by_cases k9 : k = 9
  · subst k9; exact one_k9 i s lt ns ds la da lc dc w hi
  by_cases k10 : k = 10
  · subst k10; exact one_k10 i s lt ns ds la da lc dc w hi
  by_cases k4 : k = 4
  · subst k4; exact one_k4 i s lt ns ds la da lc dc w (by simp [leafOk] at h2; exact h2.1)
  by_cases k7 : k = 7
  · subst k7; exact one_k7 i s lt ns ds la da lc dc w (by simpa [leafOk] using h2)
  by_cases k8 : k = 8
  · subst k8; exact one_k8 i s lt ns ds la da lc dc w (by simp [leafOk] at h2; omega)
  by_cases k5 : k = 5
  · subst k5
    have e : kenc (.mk 5 i s lt ns ds) = [5] ++ (kencF ns ds ++ [0]) := by simp [kenc]
    rw [e] at hlen ⊢
    exact one_k5 i s lt ns ds la da lc dc w hnd hd1.1 hd2 hD (fun n hn => nameB_le (sndF_names h4 hnd n hn)) (fun t ht => sndF_mem h4 t ht) (fun t ht => ih2 t (.inr ht)) hlen
  by_cases k6 : k = 6
  · subst k6
    have e : kenc (.mk 6 i s lt ns ds) = [6] ++ (kencL lt ++ [0]) := by simp [kenc]
    rw [e] at hlen ⊢
    exact one_k6 i s lt ns ds la da lc dc w hl1.1 hl2 hL (fun t ht => sndL_mem h3 t ht) (fun t ht => ih2 t (.inl ht)) hlen
  exfalso
  simp [leafOk, k1, k2, k3, k4, k5, k6, k7, k8, k9, k10, k11] at h2
theorem one_ok (t : Tr) : OneOk t := by
  have : ∀ n (t : Tr), t.sz = n → OneOk t := by
    intro n
    induction n using Nat.strongRecOn with
    | _ n ih => intro t ht; exact one_step t (fun p hp => ih p.sz (by rw [← ht]; exact hp) p rfl)
  exact this _ t rfl
theorem oneA_ok (t : Tr) (v : Value) (w : World) (ha : allowB t = true) (hV : VRep w t v) : Calls Tryd.prog 26 #[v] w fun e w' => e = .returned (.string ⟨(kenc t).toArray⟩) ∧ Ext w w' := by
  have hks := kenc_small ha
  by_cases hk : t.kind = 0
  · cases t with
    | mk k i s lt ns ds =>
      have hk' : k = 0 := hk
      subst hk'
      unfold VRep at hV
      obtain ⟨la, lc, da, dc, rfl, _⟩ := hV
      have e : kenc (.mk 0 i s lt ns ds) = [0] := by simp [kenc]
      rw [e]
      exact one_k0 i s lt ns ds la da lc dc w
  · unfold allowB at ha
    rw [if_neg hk] at ha
    simp only [validB, Bool.and_eq_true] at ha
    exact one_ok t v w ha.2 hV (by omega)
theorem allow_miss (t : Tr) (h : allowB t = false) : (decide (t.kind = 0) && zeroB t) = false ∧ validB t = false := by
  unfold allowB at h
  by_cases hk : t.kind = 0
  · rw [if_pos hk] at h
    refine ⟨by rw [h, Bool.and_false], ?_⟩
    cases hv : validB t
    · rfl
    · exfalso
      simp only [validB, Bool.and_eq_true] at hv
      obtain ⟨k, i, s, l, ns, ds⟩ := t
      obtain ⟨-, h2, -, -⟩ := snd_list hv.2
      have hk' : k = 0 := hk
      subst hk'
      simp [leafOk] at h2
  · rw [if_neg hk] at h
    exact ⟨by rw [decide_eq_false hk]; rfl, h⟩
theorem allow_miss2 (t : Tr) (h : allowB t = true) (hm : (decide (t.kind = 0) && zeroB t) = false) : validB t = true := by
  unfold allowB at h
  by_cases hk : t.kind = 0
  · rw [if_pos hk] at h
    rw [decide_eq_true hk, h] at hm; cases hm
  · rw [if_neg hk] at h; exact h
set_option maxRecDepth 20000 in
set_option maxHeartbeats 4000000 in
theorem REncode_ok (ts : List Tr) (ds : List Bool) (la da : Option Addr) (lc dc : Nat) (w : World) (hL : LRep w la 0 ts) (hl1 : ts.length ≤ lc) (hl2 : lc ≤ maxLen) (hD : BRep w da ds) (hd1 : ds.length ≤ dc) (hd2 : dc ≤ maxLen) (h40 : ts.length ≤ 40) :
    Calls Tryd.prog 12 #[.slice la ts.length lc, .slice da ds.length dc] w fun e w' => e = .returned (.tuple #[.string (kencE ts ds).1, .int .i64 (kencE ts ds).2]) ∧ Ext w w' := by
  have HL := Lib.hid hL
  have HD := Lib.hid hD
  clear hL hD
  unfold maxLen at hl2 hd2
  obtain ⟨r, hr⟩ : ∃ r, kencE ts ds = r := ⟨_, rfl⟩
  rw [hr]
  unfold kencE at hr
  by_cases hlen : ts.length = ds.length
  case neg =>
    rw [if_pos hlen] at hr
    have HR := Lib.hid hr
    have d : ((ts.length : Int) != (ds.length : Int)) = true := by simp; omega
    have d' : (ts.length != ds.length) = true := by simpa using hlen
    clear hr
    go_enter Tryd.func12, Tryd.ntmps12
    go_wp2_with fail
    go_ret2
    exact ⟨by rw [← HR.out]; rfl, Ext.refl _⟩
  rw [if_neg (by simpa using hlen)] at hr
  have HR := Lib.hid hr
  have d : ((ts.length : Int) != (ds.length : Int)) = false := by simp; omega
  have d' : (ts.length != ds.length) = false := by simpa using hlen
  have HLen := Lib.hid hlen
  have hle : ts.length ≤ ds.length := by omega
  clear hr hlen
  go_enter Tryd.func12, Tryd.ntmps12
  go_wp2_with fail
  clear d d'
  go_loopw [6, 7] (fun b x wr => ∃ (j : Nat) (y : ByteArray), j ≤ ts.length ∧ x = .int .i64 j ∧ b = .string y ∧ Hid (∀ t ∈ ts.take j, allowB t = true) ∧ Hid (y.data.toList = kencs (ts.take j) (ds.take j)) ∧ Hid (Ext w wr)) (fun _ x _ => ts.length - (intOf x).toNat)
  case atStart => exact ⟨0, ⟨#[]⟩, by omega, rfl, rfl, by intro t ht; simp at ht, by show _ = _; simp [kencs], Ext.refl _⟩
  case round =>
    obtain ⟨j, y, hj, rfl, rfl, HA, HY, HE⟩ := hrel
    have hyl : y.size ≤ 8601600 * 40 := by
      have e : y.size = y.data.toList.length := by simp
      rw [e, HY.out]; have := kencs_le (ts.take j) (ds.take j) HA.out; have : (ts.take j).length ≤ 40 := by simp; omega
      omega
    by_cases hlt : j < ts.length
    · obtain ⟨bb, off, c0, c1, c2, c3, c4, rfl, e0, e1, e2, e3, e4, hv⟩ := LRep.at_ ts 0 j ts[j] HL.out (List.getElem?_eq_getElem hlt)
      obtain ⟨k', i', s', la', ln', lc', da', dn', dc', rfl, rfl, rfl, rfl, rfl⟩ := hv.shape5
      have hEr := HE.out
      have q0 := hEr.keep e0
      have q1 := hEr.keep e1
      have q2 := hEr.keep e2
      have q3 := hEr.keep e3
      have q4 := hEr.keep e4
      rw [Nat.zero_add] at q0 q1 q2 q3 q4
      have HV := Lib.hid (VRep.ext hEr _ _ hv)
      clear e0 e1 e2 e3 e4 hEr hv
      obtain ⟨p, hp⟩ : ∃ p, ts[j] = p := ⟨_, rfl⟩
      obtain ⟨dd, hdd⟩ : ∃ d, ds[j]'(by omega) = d := ⟨_, rfl⟩
      have hmem : p ∈ ts := by rw [← hp]; exact List.getElem_mem hlt
      obtain ⟨db, doff, rfl, hdc0⟩ := HD.out j dd (by rw [← hdd]; exact List.getElem?_eq_getElem (by omega))
      have HDC := Lib.hid hdc0
      have hdb := Nat.lt_of_lt_of_le (World.block_lt_of_cell? _ _ hdc0) HE.out.size
      have htk : ts.take (j + 1) = ts.take j ++ [p] := by rw [List.take_succ_eq_append_getElem hlt, hp]
      have hdk : ds.take (j + 1) = ds.take j ++ [dd] := by rw [List.take_succ_eq_append_getElem (by omega), hdd]
      have hsn : kencs (ts.take (j + 1)) (ds.take (j + 1)) = y.data.toList ++ kone dd p := by rw [htk, hdk, kencs_snoc _ _ _ _ (by simp; omega), HY.out]
      rw [hp] at HV
      have HSn := Lib.hid hsn
      have HTk := Lib.hid htk
      clear hp hdd htk hdk hsn hdc0
      obtain ⟨al, hal⟩ : ∃ a, allowB p = a := ⟨_, rfl⟩
      cases al
      · have hf : ts.all allowB = false := by
          rw [List.all_eq_false]; exact ⟨p, hmem, by simp [hal]⟩
        have e := HR.out
        rw [hf] at e
        have HR2 := Lib.hid e
        have HMi := Lib.hid (allow_miss p hal).1
        have HVa := Lib.hid (allow_miss p hal).2
        clear hal hf e
        go_wp2_with fail
        refine (missing_ok p _ _ HV.out).mono ?_
        rintro e w1 ⟨rfl, h1⟩
        rw [HMi.out]
        have HX1 := Lib.hid h1
        have q0 := h1.keep q0
        have q1 := h1.keep q1
        have q2 := h1.keep q2
        have q3 := h1.keep q3
        have q4 := h1.keep q4
        clear h1
        go_wp2_with fail
        refine (RValid_ok p _ _ (VRep.ext HX1.out _ _ HV.out)).mono ?_
        rintro e w2 ⟨rfl, h2⟩
        rw [HVa.out]
        have HX2 := Lib.hid ((HE.out.trans HX1.out).trans h2)
        clear h2
        go_wp2_with fail
        go_ret2
        exact ⟨by rw [← HR2.out]; rfl, HX2.out⟩
      have hks := kenc_small hal
      have HAl := Lib.hid hal
      have hal2 : ∀ t ∈ ts.take (j + 1), allowB t = true := by
        rw [HTk.out]; intro t ht
        rcases List.mem_append.1 ht with h | h
        · exact HA.out t h
        · rw [List.mem_singleton.1 h]; exact hal
      have HA2 := Lib.hid hal2
      have hjd : j < ds.length := by omega
      obtain ⟨z, hz⟩ : ∃ z : ByteArray, (⟨(kenc p).toArray⟩ : ByteArray) = z := ⟨_, rfl⟩
      have hzl : z.data.toList = kenc p := by rw [← hz]
      have hzs : z.size ≤ 8601600 := by
        have e : z.size = z.data.toList.length := by simp
        rw [e, hzl]; exact hks
      obtain ⟨f, hf⟩ : ∃ f : ByteArray, (⟨(z.data.toList.map flipC).toArray⟩ : ByteArray) = f := ⟨_, rfl⟩
      have hfl : f.data.toList = (kenc p).map flipC := by rw [← hf, ← hzl]
      have hfs : f.size ≤ 8601600 := by
        have e : f.size = f.data.toList.length := by simp
        rw [e, hfl, List.length_map]; exact hks
      have HZ := Lib.hid hz
      have HF := Lib.hid hf
      have HFinF : Hid (dd = false → (y ++ z).data.toList = kencs (ts.take (j + 1)) (ds.take (j + 1))) := by
        intro hd; rw [HSn.out, cat_list, hzl, hd]; rfl
      have HFinT : Hid (dd = true → (y ++ f).data.toList = kencs (ts.take (j + 1)) (ds.take (j + 1))) := by
        intro hd; rw [HSn.out, cat_list, hfl, hd]; rfl
      clear hal hal2 hz hf hzl hfl hks
      go_wp2_with fail
      refine (missing_ok p _ _ HV.out).mono ?_
      rintro e w1 ⟨rfl, h1⟩
      have HX1 := Lib.hid h1
      have q0 := h1.keep q0
      have q1 := h1.keep q1
      have q2 := h1.keep q2
      have q3 := h1.keep q3
      have q4 := h1.keep q4
      have HE1 := Lib.hid (HE.out.trans h1)
      have HV1 := Lib.hid (VRep.ext h1 _ _ HV.out)
      have hsz1 := h1.size
      clear h1
      obtain ⟨mi, hmi⟩ : ∃ m, (decide (p.kind = 0) && zeroB p) = m := ⟨_, rfl⟩
      rw [hmi]
      have HMi := Lib.hid hmi
      clear hmi
      cases mi
      · have HVa := Lib.hid (allow_miss2 p HAl.out HMi.out)
        go_wp2_with fail
        refine (RValid_ok p _ _ HV1.out).mono ?_
        rintro e w2 ⟨rfl, h2⟩
        rw [HVa.out]
        have hdc := (HE1.out.trans h2).keep HDC.out
        have HE2 := Lib.hid (HE1.out.trans h2)
        have HV2 := Lib.hid (VRep.ext h2 _ _ HV1.out)
        have q0 := h2.keep q0
        have q1 := h2.keep q1
        have q2 := h2.keep q2
        have q3 := h2.keep q3
        have q4 := h2.keep q4
        have hsz2 := h2.size
        clear h2
        cases dd
        · go_wp2_with fail
          refine (oneA_ok p _ _ HAl.out HV2.out).mono ?_
          rintro e w3 ⟨rfl, h3⟩
          rw [HZ.out]
          have HE3 := Lib.hid (HE2.out.trans h3)
          clear h3
          go_wp2_with fail
          exact ⟨⟨j + 1, _, by omega, by go_num, rfl, HA2, HFinF.out (by trivial), HE3⟩, by simp [intOf]; omega⟩
        · go_wp2_with fail
          refine (oneA_ok p _ _ HAl.out HV2.out).mono ?_
          rintro e w3 ⟨rfl, h3⟩
          rw [HZ.out]
          have HE3 := Lib.hid (HE2.out.trans h3)
          clear h3
          go_wp2_with fail
          refine (Flip_ok z _ (by omega)).mono ?_
          rintro e w4 ⟨rfl, h4⟩
          rw [HF.out]
          have HE4 := Lib.hid (HE3.out.trans h4)
          clear h4
          go_wp2_with fail
          exact ⟨⟨j + 1, _, by omega, by go_num, rfl, HA2, HFinT.out (by trivial), HE4⟩, by simp [intOf]; omega⟩
      · have hdc := HE1.out.keep HDC.out
        cases dd
        · go_wp2_with fail
          refine (oneA_ok p _ _ HAl.out HV1.out).mono ?_
          rintro e w3 ⟨rfl, h3⟩
          rw [HZ.out]
          have HE3 := Lib.hid (HE1.out.trans h3)
          clear h3
          go_wp2_with fail
          exact ⟨⟨j + 1, _, by omega, by go_num, rfl, HA2, HFinF.out (by trivial), HE3⟩, by simp [intOf]; omega⟩
        · go_wp2_with fail
          refine (oneA_ok p _ _ HAl.out HV1.out).mono ?_
          rintro e w3 ⟨rfl, h3⟩
          rw [HZ.out]
          have HE3 := Lib.hid (HE1.out.trans h3)
          clear h3
          go_wp2_with fail
          refine (Flip_ok z _ (by omega)).mono ?_
          rintro e w4 ⟨rfl, h4⟩
          rw [HF.out]
          have HE4 := Lib.hid (HE3.out.trans h4)
          clear h4
          go_wp2_with fail
          exact ⟨⟨j + 1, _, by omega, by go_num, rfl, HA2, HFinT.out (by trivial), HE4⟩, by simp [intOf]; omega⟩
    · have hj2 : j = ts.length := by omega
      subst hj2
      have hall : ts.all allowB = true := by
        rw [List.all_eq_true]; have := HA.out; rw [List.take_length] at this; exact this
      have e := HR.out
      rw [hall, if_pos rfl] at e
      have hy : (⟨(kencs ts ds).toArray⟩ : ByteArray) = y := by
        apply bytes_ext; rw [HY.out, List.take_length, List.take_of_length_le (by have := HLen.out; omega)]
      rw [hy] at e
      have HR2 := Lib.hid e
      clear hall e hy
      go_wp2_with fail
      go_ret2
      exact ⟨by rw [← HR2.out]; rfl, HE.out⟩
set_option maxRecDepth 20000 in
set_option maxHeartbeats 2000000 in
theorem encode_walk (ts : List Tr) (ds : List Bool) (la da : Option Addr) (lc dc : Nat) (w : World) (hL : LRep w la 0 ts) (hl1 : ts.length ≤ lc) (hl2 : lc ≤ maxLen) (hD : BRep w da ds) (hd1 : ds.length ≤ dc) (hd2 : dc ≤ maxLen) (hT : Tabs w) :
    Calls Tryd.prog 3 #[.slice la ts.length lc, .slice da ds.length dc] w fun e w' => e = .returned (.bool true) ∧ Ext w w' := by
  have HT := Lib.hid hT
  have HD := Lib.hid hD
  have HL := Lib.hid hL
  have HM := Lib.hid hl2
  have HN := Lib.hid hd2
  clear hT hD hL
  unfold maxLen at hl2 hd2
  by_cases h40 : ts.length ≤ 40
  case neg =>
    have d4 : decide (40 < (ts.length : Int)) = true := by simp; omega
    go_enter Tryd.func3, Tryd.ntmps3
    go_wp2_with fail
    refine (awake_ok _ HT.out).mono ?_
    rintro e w2 ⟨rfl, h2⟩
    go_wp2_with fail
    go_ret
    exact ⟨rfl, h2⟩
  have d4 : decide (40 < (ts.length : Int)) = false := by simp; omega
  obtain ⟨r, hr⟩ : ∃ r, kencE ts ds = r := ⟨_, rfl⟩
  have HR := Lib.hid hr
  clear hr
  obtain ⟨rs, rc⟩ := r
  go_enter Tryd.func3, Tryd.ntmps3
  go_wp2_with fail
  refine (Encode_ok ts ds la da lc dc _ HL.out hl1 HM.out HD.out hd1 HN.out h40 HT.out).mono ?_
  rw [HR.out]
  rintro e w1 ⟨rfl, h1⟩
  have HE1 := Lib.hid h1
  clear h1
  go_wp2_with fail
  refine (REncode_ok ts ds la da lc dc _ (LRep.ext HE1.out _ _ _ HL.out) hl1 HM.out (HD.out.ext HE1.out) hd1 HN.out h40).mono ?_
  rw [HR.out]
  rintro e w2 ⟨rfl, h2⟩
  have HE2 := Lib.hid (HE1.out.trans h2)
  clear h2
  go_wp2_with fail
  refine (awake_ok _ (HT.out.ext HE2.out)).mono ?_
  rintro e w5 ⟨rfl, h5⟩
  go_wp2_with fail
  go_ret
  exact ⟨rfl, HE2.out.trans h5⟩
end Go.Proofs.YtipphlhaaienpaaDoor
set_option linter.unusedSimpArgs false
set_option linter.unusedVariables false
namespace Go.Proofs.YtipphlhaaienpaaDoor.keyencEncode
open Go.ChangeShapes Go.WideShapes Go.ChangeAt Go.RowKit

/-- What the walk gives, for every argument and every world. -/
theorem contract (H : Type) (enc : TypeId × Value → H) (W : World) (base : Nat) (args : Array Value) (ds gs : List (DataW H)) (before : List MemPlace)
    (hval : ∀ (j : Nat) t v, Tryd.f3.params[j]? = some t → args[j]? = some v → Value.okWide Tryd.prog W .any base t v)
    (hW : DataW.Whole enc Tryd.prog Tryd.f3.params.toList Rows.keyencEncodeSpec.vars false W args.toList ds gs before) (_hL : laidMetH Tryd.prog Rows.keyencEncodeRow.laid W) (hWt : (DataW.weightsEach Tryd.prog (Tryd.f3.params.toList ++ (OpenSpec.ofChange Rows.keyencEncodeSpec).bare.plain.varTypes Tryd.prog) (ds ++ gs)).all (· ≤ reachBytes) = true) :
    Calls Tryd.prog 3 args W fun e W' => ∃ v, e = .returned v ∧ Rows.keyencEncodeSpec.post enc Tryd.prog Tryd.f3 false true false false W args v W' := by
  have hW' := hW
  obtain ⟨p, q, hA0, hV, rfl, hfz, hnd⟩ := hW
  have hA : DataW.TrodAll enc Tryd.prog W 0 (fun _ => true) true Tryd.f3.params.toList args.toList ds p := hA0
  rw [Tryd.params3] at hA hval hWt
  obtain ⟨v0, vs0, d0, ds0, p0, q0, hargs, rfl, rfl, h0, r0⟩ := trodAll_cons hA
  obtain ⟨v1, vs1, d1, ds1, p1, q1, rfl, rfl, rfl, h1, r1⟩ := trodAll_cons r0
  obtain ⟨rfl, rfl, rfl⟩ := trodAll_nil r1
  obtain rfl : args = #[v0, v1] := by cases args; simp_all
  obtain ⟨rfl, rfl⟩ := trodVars_none hV
  clear hA0 hargs
  suffices walk : Calls Tryd.prog 3 #[v0, v1] W fun e W' => e = .returned (.bool true) ∧ Ext W W' by
    refine walk.mono fun e W' ⟨he, hg⟩ => ?_
    subst he
    exact ⟨_, rfl, law_post (by kernel_rfl) (by kernel_rfl) rfl rfl Tryd.underlying4 hW' rfl hg⟩
  have hT : Tabs W := tabs_of_laid _hL
  obtain ⟨a0, c0, ts0, rfl, hc01, hc02, hL0⟩ := lrep_arg (hval 0 22 v0 rfl rfl) h0 (fun n hn => by
    have := List.all_eq_true.1 hWt n (by simp [DataW.weightsEach, hn])
    exact of_decide_eq_true this)
  obtain ⟨a1, ds1, c1, rfl, hc11, hc12, hB1⟩ := brep_arg (hval 1 23 v1 rfl rfl) h1
  exact encode_walk ts0 ds1 a0 a1 c0 c1 W hL0 hc01.1 hc02 hB1 hc11 hc12 hT

theorem laid_met (os : Os) : laidMet Tryd.prog Rows.keyencEncodeRow.laid ((laidWorld os).forCall (fun _ _ => 0) ⟨#[], #[.slice none 0 0, .slice none 0 0], []⟩).memory :=
  laidMet_of_run' 8 (by kernel_rfl) (by kernel_rfl)
theorem reads (os : Os) {H : Type} (enc : TypeId × Value → H) : ∃ places, DataW.whole enc Tryd.prog ((laidWorld os).forCall (fun _ _ => 0) ⟨#[], #[.slice none 0 0, .slice none 0 0], []⟩).memory Tryd.f3.params.toList Rows.keyencEncodeSpec.vars false #[.slice none 0 0, .slice none 0 0].toList 8 = some ([.nil, .nil], [], places) :=
  ⟨[], by kernel_rfl⟩

set_option maxRecDepth 100000 in
theorem lifted (os : Os) (started : os.Started) (H : Type) (enc : TypeId × Value → H) (F : Stop.Interp) :
    ReturnsInHanded {} Tryd.checked os 3 .any ((OpenSpec.ofChange Rows.keyencEncodeSpec).preRow enc Tryd.prog Tryd.f3 Rows.keyencEncodeRow.domain false Rows.keyencEncodeRow.laid) (((OpenSpec.ofChange Rows.keyencEncodeSpec).at F).post enc Tryd.prog Tryd.f3 false true false false) := by
  obtain ⟨places, hx⟩ := reads os enc
  refine returnsInHanded_of_row (C := Tryd.checked) (s := OpenSpec.ofChange Rows.keyencEncodeSpec) own started (by kernel_rfl) Tryd.func3
    (witness_row_at (enc := enc) (C := Tryd.checked) false (laidWorld os) #[.slice none 0 0, .slice none 0 0] rfl (by kernel_rfl) (by kernel_rfl) (by kernel_rfl)
      (OpenSpec.preRow_of_cond 8 hx (by kernel_rfl) (fun k hk => by cases hk) (by kernel_rfl) (laid_met os))) ?_
  intro W base args ds gs before hval hW _ _ hWt hL _ _
  exact contract H enc W base args ds gs before hval hW hL hWt

theorem said : Rows.KeyencEncodeSaid :=
  OpenClaim.holds_of_cond 3 Tryd.f3 rfl rfl rfl rfl rfl rfl rfl ⟨rfl, rfl, rfl, rfl, rfl⟩ rfl rfl rfl rfl rfl (by kernel_rfl) Tryd.func3 (by kernel_rfl)
    (of_decide_eq_true (by kernel_rfl)) (by unfold Func.isWrapper; first | (rw [if_pos (by decide +kernel)]; kernel_rfl) | (rw [if_neg (by decide +kernel)]; exact ⟨rfl, rfl⟩))
    (fun os started H enc _ F => by rw [OpenClaim.pre_eq_preRow]; exact lifted os started H enc F)

theorem plain (f : FuncId) (fn : Func) (hf : Tryd.pinned.checked.prog.funcNamed "docstore/docstorelaw03.KeyencEncode" = some f) (hfn : Tryd.pinned.checked.prog.funcs[f]? = some fn) :
    false = Tryd.pinned.checked.prog.looks [] ∧ ∀ (j : Nat) t, fn.params[j]? = some t → Tryd.pinned.checked.prog.wantsStandIn t = false := by
  obtain rfl : f = 3 := Option.some.inj ((show Tryd.prog.funcNamed "docstore/docstorelaw03.KeyencEncode" = some 3 by kernel_rfl).symm.trans hf) |>.symm
  obtain rfl : fn = Tryd.f3 := (Option.some.inj (Tryd.func3.symm.trans hfn)).symm
  refine ⟨by kernel_rfl, fun j t ht => ?_⟩
  have hall : (Tryd.f3.params.all fun t => !Tryd.prog.wantsStandIn t) = true := by kernel_rfl
  have h1 := Array.all_eq_true'.1 hall t (Array.mem_of_getElem? ht)
  have h2 : Tryd.prog.wantsStandIn t = false := by simpa using h1
  exact h2

/-- The card. -/
theorem card : Rows.KeyencEncodeCardSaid :=
  Claim7.holds_tied_plain_at .later [] _ _ _ _ said (fun _ h => by cases h) (by kernel_rfl) (fun _ h => by cases h) keyencEncode_row_tie rfl ⟨rfl, rfl⟩ (by kernel_rfl) rfl plain (by kernel_rfl)
end Go.Proofs.YtipphlhaaienpaaDoor.keyencEncode
