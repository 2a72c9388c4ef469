/- Encodings of values, plain. -/
import Derived.Test.YtipphlhaaienpaaDoorNumP
import Derived.Test.YtipphlhaaienpaaDoorValid
set_option linter.unusedSimpArgs false
set_option linter.unusedVariables false
namespace Go.Proofs.YtipphlhaaienpaaDoor
open Go.RowKit
mutual
def enc : Tr → List UInt8
  | .mk k i s l ns ds => [UInt8.ofNat k.toNat] ++
    (if k = 3 ∨ k = 10 then numL (zz i) else if k = 9 then [UInt8.ofNat i.toNat] else if k = 4 ∨ k = 7 then numL (zz s.size) ++ s.data.toList else if k = 8 then s.data.toList
     else if k = 6 then numL (zz l.length) ++ encL l else if k = 5 then numL (zz ds.length) ++ encF ns ds else [])
def encL : List Tr → List UInt8 | [] => [] | t :: r => enc t ++ encL r
def encF : List ByteArray → List Tr → List UInt8
  | n :: nr, t :: r => (numL (zz n.size) ++ n.data.toList ++ enc t) ++ encF nr r
  | _, _ => []
end
theorem encL_snoc (l : List Tr) (t : Tr) : encL (l ++ [t]) = encL l ++ enc t := by
  induction l with
  | nil => simp [encL]
  | cons x r ih => simp only [List.cons_append, encL, ih, List.append_assoc]
theorem encF_snoc (ns : List ByteArray) (ds : List Tr) (n : ByteArray) (t : Tr) (h : ns.length = ds.length) : encF (ns ++ [n]) (ds ++ [t]) = encF ns ds ++ (numL (zz n.size) ++ n.data.toList ++ enc t) := by
  induction ns generalizing ds with
  | nil => cases ds with
    | nil => simp [encF]
    | cons x r => simp at h
  | cons m nr ih =>
    cases ds with
    | nil => simp at h
    | cons x r => simp only [List.cons_append, encF, ih r (by simpa using h), List.append_assoc]
theorem encL_take_le (l : List Tr) (j : Nat) : (encL (l.take j)).length ≤ (encL l).length := by
  induction l generalizing j with
  | nil => simp [encL]
  | cons x r ih => cases j with
    | zero => simp [encL]
    | succ j => simp only [List.take_succ_cons, encL, List.length_append]; have := ih j; omega
theorem encF_take_le (ns : List ByteArray) (ds : List Tr) (j : Nat) : (encF (ns.take j) (ds.take j)).length ≤ (encF ns ds).length := by
  induction ns generalizing ds j with
  | nil => simp [encF]
  | cons m nr ih => cases j with
    | zero => simp [encF]
    | succ j => cases ds with
      | nil => simp [encF]
      | cons x r => simp only [List.take_succ_cons, encF, List.length_append]; have := ih r j; omega
theorem zz_nat (n : Nat) : zz (n : Int) = 2 * n := by unfold zz; rw [if_pos (by omega)]; omega
theorem I64_nat (n : Nat) (h : n ≤ maxLen) : I64 (n : Int) := by unfold I64; unfold maxLen at h; omega
theorem enc_pos (t : Tr) : 1 ≤ (enc t).length := by cases t; simp [enc]
/-- the parts of snd -/
theorem snd_list {k i : Int} {s : ByteArray} {l : List Tr} {ns : List ByteArray} {ds : List Tr} (h : snd (.mk k i s l ns ds) = true) : headOk k i s l.length ds.length = true ∧ leafOk k i s = true ∧ sndL l = true ∧ sndF [] ns ds = true := by
  simp only [snd, Bool.and_eq_true] at h
  exact ⟨h.1.1.1, h.1.1.2, h.1.2, h.2⟩
theorem sndL_mem {l : List Tr} (h : sndL l = true) : ∀ t ∈ l, snd t = true := by
  induction l with
  | nil => intro t ht; cases ht
  | cons x r ih =>
    simp only [sndL, Bool.and_eq_true] at h
    intro t ht
    rcases List.mem_cons.1 ht with rfl | ht
    · exact h.1
    · exact ih h.2 t ht
theorem sndF_mem {ns : List ByteArray} {ds : List Tr} : ∀ {seen : List ByteArray}, sndF seen ns ds = true → ∀ t ∈ ds, snd t = true := by
  induction ds generalizing ns with
  | nil => intro seen h t ht; cases ht
  | cons x r ih =>
    intro seen h t ht
    cases ns with
    | nil => simp [sndF] at h
    | cons n nr =>
      simp only [sndF, Bool.and_eq_true] at h
      rcases List.mem_cons.1 ht with rfl | ht
      · exact h.1.2
      · exact ih h.2 t ht
theorem sndF_names {ns : List ByteArray} {ds : List Tr} : ∀ {seen : List ByteArray}, sndF seen ns ds = true → ns.length = ds.length → ∀ n ∈ ns, nameB n = true := by
  induction ds generalizing ns with
  | nil => intro seen h hl n hn; cases ns with
    | nil => cases hn
    | cons a b => simp at hl
  | cons x r ih =>
    intro seen h hl n hn
    cases ns with
    | nil => cases hn
    | cons m nr =>
      simp only [sndF, Bool.and_eq_true] at h
      rcases List.mem_cons.1 hn with rfl | hn
      · exact h.1.1.1
      · exact ih h.2 (by simpa using hl) n hn
theorem nameB_le {n : ByteArray} (h : nameB n = true) : n.size ≤ 32 := by
  by_cases hc : 32 < n.size
  · rw [nameB_big n hc] at h; cases h
  · omega
end Go.Proofs.YtipphlhaaienpaaDoor
