/- Values as trees, and how a tree lies in memory. -/
import Derived.Test.YtipphlhaaienpaaDoorKit
set_option linter.unusedSimpArgs false
set_option linter.unusedVariables false
namespace Go.Proofs.YtipphlhaaienpaaDoor
open Go.RowKit
/-- A value: kind, integer, text, list, and the names and values of its fields. -/
inductive Tr where
  | mk (k i : Int) (s : ByteArray) (l : List Tr) (ns : List ByteArray) (ds : List Tr)
namespace Tr
def kind : Tr → Int | .mk k _ _ _ _ _ => k
def int : Tr → Int | .mk _ i _ _ _ _ => i
def text : Tr → ByteArray | .mk _ _ s _ _ _ => s
def list : Tr → List Tr | .mk _ _ _ l _ _ => l
def names : Tr → List ByteArray | .mk _ _ _ _ ns _ => ns
def docs : Tr → List Tr | .mk _ _ _ _ _ ds => ds
mutual
def sz : Tr → Nat | .mk _ _ _ l _ ds => 1 + szL l + szL ds
def szL : List Tr → Nat | [] => 0 | t :: r => sz t + szL r
end
theorem sz_pos (t : Tr) : 0 < t.sz := by cases t; simp [sz]; omega
theorem szL_mem {t : Tr} {l : List Tr} (h : t ∈ l) : t.sz ≤ szL l := by
  induction l with
  | nil => cases h
  | cons x r ih =>
    simp only [szL]
    cases List.mem_cons.1 h with
    | inl e => subst e; omega
    | inr e => have := ih e; omega
theorem sz_list {t : Tr} {k i : Int} {s : ByteArray} {l : List Tr} {ns : List ByteArray} {ds : List Tr} (h : t ∈ l) : t.sz < (Tr.mk k i s l ns ds).sz := by
  have := szL_mem h; simp only [sz]; omega
theorem sz_docs {t : Tr} {k i : Int} {s : ByteArray} {l : List Tr} {ns : List ByteArray} {ds : List Tr} (h : t ∈ ds) : t.sz < (Tr.mk k i s l ns ds).sz := by
  have := szL_mem h; simp only [sz]; omega
end Tr
/-- an int -/
def I64 (n : Int) : Prop := -9223372036854775808 ≤ n ∧ n < 9223372036854775808
mutual
/-- The value v is the tree t, in world w. -/
def VRep (w : World) : Tr → Value → Prop
  | .mk k i s l ns ds, v => ∃ (la : Option Addr) (lc : Nat) (da : Option Addr) (dc : Nat), v = .agg #[.int .i64 k, .int .i64 i, .string s, .slice la l.length lc, .slice da ds.length dc] ∧ (s.size ≤ maxLen ∧ I64 k ∧ I64 i) ∧
      (l.length ≤ lc ∧ l.length * 80 ≤ 140737488351232) ∧ lc ≤ maxLen ∧ (ds.length ≤ dc ∧ ds.length * 96 ≤ 140737488351232) ∧ dc ≤ maxLen ∧ ns.length = ds.length ∧ LRep w la 0 l ∧ DRep w da 0 ns ds
/-- From offset o on lie the values of l. -/
def LRep (w : World) (a : Option Addr) : Nat → List Tr → Prop
  | _, [] => True
  | o, t :: r => (∃ b off c0 c1 c2 c3 c4, a = some ⟨b, off, none⟩ ∧ w.cell? ⟨b, off + o, none⟩ = some c0 ∧ w.cell? ⟨b, off + o + 1, none⟩ = some c1 ∧ w.cell? ⟨b, off + o + 2, none⟩ = some c2 ∧ w.cell? ⟨b, off + o + 3, none⟩ = some c3 ∧ w.cell? ⟨b, off + o + 4, none⟩ = some c4 ∧ VRep w t (.agg #[c0, c1, c2, c3, c4])) ∧ LRep w a (o + 5) r
/-- From offset o on lie the fields. -/
def DRep (w : World) (a : Option Addr) : Nat → List ByteArray → List Tr → Prop
  | _, _, [] => True
  | _, [], _ :: _ => False
  | o, n :: nr, t :: r => (∃ b off c0 c1 c2 c3 c4, a = some ⟨b, off, none⟩ ∧ n.size ≤ maxLen ∧ w.cell? ⟨b, off + o, none⟩ = some (.string n) ∧ w.cell? ⟨b, off + o + 1, none⟩ = some c0 ∧ w.cell? ⟨b, off + o + 2, none⟩ = some c1 ∧ w.cell? ⟨b, off + o + 3, none⟩ = some c2 ∧ w.cell? ⟨b, off + o + 4, none⟩ = some c3 ∧ w.cell? ⟨b, off + o + 5, none⟩ = some c4 ∧ VRep w t (.agg #[c0, c1, c2, c3, c4])) ∧ DRep w a (o + 6) nr r
end
theorem Ext.keep {w w' : World} (h : Ext w w') {p : Addr} {v : Value} (hc : w.cell? p = some v) : w'.cell? p = some v :=
  (Below.cell h (World.block_lt_of_cell? w p hc)).trans hc
mutual
theorem VRep.ext {w w' : World} (h : Ext w w') : ∀ (t : Tr) (v : Value), VRep w t v → VRep w' t v
  | .mk k i s l ns ds, v, hv => by
    unfold VRep at hv ⊢
    obtain ⟨la, lc, da, dc, h1, h2, h3, h4, h5, h6, h7, h8, h9⟩ := hv
    exact ⟨la, lc, da, dc, h1, h2, h3, h4, h5, h6, h7, LRep.ext h la 0 l h8, DRep.ext h da 0 ns ds h9⟩
theorem LRep.ext {w w' : World} (h : Ext w w') (a : Option Addr) : ∀ (o : Nat) (l : List Tr), LRep w a o l → LRep w' a o l
  | _, [], _ => by unfold LRep; trivial
  | o, t :: r, hl => by
    unfold LRep at hl ⊢
    obtain ⟨⟨b, off, c0, c1, c2, c3, c4, h0, h1, h2, h3, h4, h5, h6⟩, hr⟩ := hl
    exact ⟨⟨b, off, c0, c1, c2, c3, c4, h0, h.keep h1, h.keep h2, h.keep h3, h.keep h4, h.keep h5, VRep.ext h t _ h6⟩, LRep.ext h a (o + 5) r hr⟩
theorem DRep.ext {w w' : World} (h : Ext w w') (a : Option Addr) : ∀ (o : Nat) (ns : List ByteArray) (l : List Tr), DRep w a o ns l → DRep w' a o ns l
  | _, _, [], _ => by unfold DRep; trivial
  | _, [], _ :: _, hl => by unfold DRep at hl; exact hl.elim
  | o, n :: nr, t :: r, hl => by
    unfold DRep at hl ⊢
    obtain ⟨⟨b, off, c0, c1, c2, c3, c4, h0, hn, h1, h2, h3, h4, h5, h6, h7⟩, hr⟩ := hl
    exact ⟨⟨b, off, c0, c1, c2, c3, c4, h0, hn, h.keep h1, h.keep h2, h.keep h3, h.keep h4, h.keep h5, h.keep h6, VRep.ext h t _ h7⟩, DRep.ext h a (o + 6) nr r hr⟩
end
/-- The element j of a list. -/
theorem LRep.at_ {w : World} {a : Option Addr} : ∀ (l : List Tr) (o j : Nat) (t : Tr), LRep w a o l → l[j]? = some t →
    ∃ b off c0 c1 c2 c3 c4, a = some ⟨b, off, none⟩ ∧ w.cell? ⟨b, off + (o + j * 5), none⟩ = some c0 ∧ w.cell? ⟨b, off + (o + j * 5) + 1, none⟩ = some c1 ∧ w.cell? ⟨b, off + (o + j * 5) + 2, none⟩ = some c2 ∧ w.cell? ⟨b, off + (o + j * 5) + 3, none⟩ = some c3 ∧ w.cell? ⟨b, off + (o + j * 5) + 4, none⟩ = some c4 ∧ VRep w t (.agg #[c0, c1, c2, c3, c4])
  | [], _, j, t, _, hj => by simp at hj
  | x :: r, o, 0, t, hl, hj => by
    unfold LRep at hl
    obtain rfl : x = t := by simpa using hj
    simpa using hl.1
  | x :: r, o, j + 1, t, hl, hj => by
    unfold LRep at hl
    have := LRep.at_ r (o + 5) j t hl.2 (by simpa using hj)
    rw [show o + (j + 1) * 5 = o + 5 + j * 5 by omega]
    exact this
/-- The field j. -/
theorem DRep.at_ {w : World} {a : Option Addr} : ∀ (ns : List ByteArray) (l : List Tr) (o j : Nat) (n : ByteArray) (t : Tr), DRep w a o ns l → ns[j]? = some n → l[j]? = some t →
    ∃ b off c0 c1 c2 c3 c4, a = some ⟨b, off, none⟩ ∧ n.size ≤ maxLen ∧ w.cell? ⟨b, off + (o + j * 6), none⟩ = some (.string n) ∧ w.cell? ⟨b, off + (o + j * 6) + 1, none⟩ = some c0 ∧ w.cell? ⟨b, off + (o + j * 6) + 2, none⟩ = some c1 ∧ w.cell? ⟨b, off + (o + j * 6) + 3, none⟩ = some c2 ∧ w.cell? ⟨b, off + (o + j * 6) + 4, none⟩ = some c3 ∧ w.cell? ⟨b, off + (o + j * 6) + 5, none⟩ = some c4 ∧ VRep w t (.agg #[c0, c1, c2, c3, c4])
  | ns, [], _, j, _, t, _, _, hj => by simp at hj
  | [], x :: r, _, j, _, t, hl, hn, _ => by simp at hn
  | m :: nr, x :: r, o, 0, n, t, hl, hn, hj => by
    unfold DRep at hl
    obtain rfl : x = t := by simpa using hj
    obtain rfl : m = n := by simpa using hn
    simpa using hl.1
  | m :: nr, x :: r, o, j + 1, n, t, hl, hn, hj => by
    unfold DRep at hl
    have := DRep.at_ nr r (o + 6) j n t hl.2 (by simpa using hn) (by simpa using hj)
    rw [show o + (j + 1) * 6 = o + 6 + j * 6 by omega]
    exact this
/-- The cells of a value. -/
theorem VRep.shape {w : World} {t : Tr} {v : Value} (h : VRep w t v) : ∃ (k i : Int) (s : ByteArray) (la : Option Addr) (ln lc : Nat) (da : Option Addr) (dn dc : Nat), v = .agg #[.int .i64 k, .int .i64 i, .string s, .slice la ln lc, .slice da dn dc] := by
  cases t
  unfold VRep at h
  obtain ⟨la, lc, da, dc, rfl, _⟩ := h
  exact ⟨_, _, _, _, _, _, _, _, _, rfl⟩
theorem VRep.shape5 {w : World} {t : Tr} {c0 c1 c2 c3 c4 : Value} (h : VRep w t (.agg #[c0, c1, c2, c3, c4])) : ∃ (k i : Int) (s : ByteArray) (la : Option Addr) (ln lc : Nat) (da : Option Addr) (dn dc : Nat), c0 = .int .i64 k ∧ c1 = .int .i64 i ∧ c2 = .string s ∧ c3 = .slice la ln lc ∧ c4 = .slice da dn dc := by
  obtain ⟨k, i, s, la, ln, lc, da, dn, dc, e⟩ := h.shape
  injection e with e
  simp only [Array.mk.injEq, List.cons.injEq, and_true] at e
  exact ⟨k, i, s, la, ln, lc, da, dn, dc, e.1, e.2.1, e.2.2.1, e.2.2.2.1, e.2.2.2.2⟩
end Go.Proofs.YtipphlhaaienpaaDoor
