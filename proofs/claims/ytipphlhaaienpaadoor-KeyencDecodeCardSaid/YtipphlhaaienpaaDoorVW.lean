/- Values as trees in memory, without a bound on the lengths of lists; with one they are the trees of Tr. -/
import Derived.Test.YtipphlhaaienpaaDoorTr
set_option linter.unusedSimpArgs false
set_option linter.unusedVariables false
namespace Go.Proofs.YtipphlhaaienpaaDoor
open Go.RowKit
mutual
/-- The value v is the tree t, in world w. -/
def VRepW (w : World) : Tr → Value → Prop
  | .mk k i s l ns ds, v => ∃ (la : Option Addr) (lc : Nat) (da : Option Addr) (dc : Nat), v = .agg #[.int .i64 k, .int .i64 i, .string s, .slice la l.length lc, .slice da ds.length dc] ∧ (s.size ≤ maxLen ∧ I64 k ∧ I64 i) ∧
      l.length ≤ lc ∧ lc ≤ maxLen ∧ ds.length ≤ dc ∧ dc ≤ maxLen ∧ ns.length = ds.length ∧ LRepW w la 0 l ∧ DRepW w da 0 ns ds
/-- From offset o on lie the values of l. -/
def LRepW (w : World) (a : Option Addr) : Nat → List Tr → Prop
  | _, [] => True
  | o, t :: r => (∃ b off c0 c1 c2 c3 c4, a = some ⟨b, off, none⟩ ∧ w.cell? ⟨b, off + o, none⟩ = some c0 ∧ w.cell? ⟨b, off + o + 1, none⟩ = some c1 ∧ w.cell? ⟨b, off + o + 2, none⟩ = some c2 ∧ w.cell? ⟨b, off + o + 3, none⟩ = some c3 ∧ w.cell? ⟨b, off + o + 4, none⟩ = some c4 ∧ VRepW w t (.agg #[c0, c1, c2, c3, c4])) ∧ LRepW w a (o + 5) r
/-- From offset o on lie the fields. -/
def DRepW (w : World) (a : Option Addr) : Nat → List ByteArray → List Tr → Prop
  | _, _, [] => True
  | _, [], _ :: _ => False
  | o, n :: nr, t :: r => (∃ b off c0 c1 c2 c3 c4, a = some ⟨b, off, none⟩ ∧ n.size ≤ maxLen ∧ w.cell? ⟨b, off + o, none⟩ = some (.string n) ∧ w.cell? ⟨b, off + o + 1, none⟩ = some c0 ∧ w.cell? ⟨b, off + o + 2, none⟩ = some c1 ∧ w.cell? ⟨b, off + o + 3, none⟩ = some c2 ∧ w.cell? ⟨b, off + o + 4, none⟩ = some c3 ∧ w.cell? ⟨b, off + o + 5, none⟩ = some c4 ∧ VRepW w t (.agg #[c0, c1, c2, c3, c4])) ∧ DRepW w a (o + 6) nr r
end
mutual
theorem VRepW.ext {w w' : World} (h : Ext w w') : ∀ (t : Tr) (v : Value), VRepW w t v → VRepW w' t v
  | .mk k i s l ns ds, v, hv => by
    unfold VRepW at hv ⊢
    obtain ⟨la, lc, da, dc, h1, h2, h3, h4, h5, h6, h7, h8, h9⟩ := hv
    exact ⟨la, lc, da, dc, h1, h2, h3, h4, h5, h6, h7, LRepW.ext h la 0 l h8, DRepW.ext h da 0 ns ds h9⟩
theorem LRepW.ext {w w' : World} (h : Ext w w') (a : Option Addr) : ∀ (o : Nat) (l : List Tr), LRepW w a o l → LRepW w' a o l
  | _, [], _ => by unfold LRepW; trivial
  | o, t :: r, hl => by
    unfold LRepW at hl ⊢
    obtain ⟨⟨b, off, c0, c1, c2, c3, c4, h0, h1, h2, h3, h4, h5, h6⟩, hr⟩ := hl
    exact ⟨⟨b, off, c0, c1, c2, c3, c4, h0, h.keep h1, h.keep h2, h.keep h3, h.keep h4, h.keep h5, VRepW.ext h t _ h6⟩, LRepW.ext h a (o + 5) r hr⟩
theorem DRepW.ext {w w' : World} (h : Ext w w') (a : Option Addr) : ∀ (o : Nat) (ns : List ByteArray) (l : List Tr), DRepW w a o ns l → DRepW w' a o ns l
  | _, _, [], _ => by unfold DRepW; trivial
  | _, [], _ :: _, hl => by unfold DRepW at hl; exact hl.elim
  | o, n :: nr, t :: r, hl => by
    unfold DRepW at hl ⊢
    obtain ⟨⟨b, off, c0, c1, c2, c3, c4, h0, hn, h1, h2, h3, h4, h5, h6, h7⟩, hr⟩ := hl
    exact ⟨⟨b, off, c0, c1, c2, c3, c4, h0, hn, h.keep h1, h.keep h2, h.keep h3, h.keep h4, h.keep h5, h.keep h6, VRepW.ext h t _ h7⟩, DRepW.ext h a (o + 6) nr r hr⟩
end
/-- The element j of a list. -/
theorem LRepW.at_ {w : World} {a : Option Addr} : ∀ (l : List Tr) (o j : Nat) (t : Tr), LRepW w a o l → l[j]? = some t →
    ∃ b off c0 c1 c2 c3 c4, a = some ⟨b, off, none⟩ ∧ w.cell? ⟨b, off + (o + j * 5), none⟩ = some c0 ∧ w.cell? ⟨b, off + (o + j * 5) + 1, none⟩ = some c1 ∧ w.cell? ⟨b, off + (o + j * 5) + 2, none⟩ = some c2 ∧ w.cell? ⟨b, off + (o + j * 5) + 3, none⟩ = some c3 ∧ w.cell? ⟨b, off + (o + j * 5) + 4, none⟩ = some c4 ∧ VRepW w t (.agg #[c0, c1, c2, c3, c4])
  | [], _, j, t, _, hj => by simp at hj
  | x :: r, o, 0, t, hl, hj => by
    unfold LRepW at hl
    obtain rfl : x = t := by simpa using hj
    simpa using hl.1
  | x :: r, o, j + 1, t, hl, hj => by
    unfold LRepW at hl
    have := LRepW.at_ r (o + 5) j t hl.2 (by simpa using hj)
    rw [show o + (j + 1) * 5 = o + 5 + j * 5 by omega]
    exact this
/-- The field j. -/
theorem DRepW.at_ {w : World} {a : Option Addr} : ∀ (ns : List ByteArray) (l : List Tr) (o j : Nat) (n : ByteArray) (t : Tr), DRepW w a o ns l → ns[j]? = some n → l[j]? = some t →
    ∃ b off c0 c1 c2 c3 c4, a = some ⟨b, off, none⟩ ∧ n.size ≤ maxLen ∧ w.cell? ⟨b, off + (o + j * 6), none⟩ = some (.string n) ∧ w.cell? ⟨b, off + (o + j * 6) + 1, none⟩ = some c0 ∧ w.cell? ⟨b, off + (o + j * 6) + 2, none⟩ = some c1 ∧ w.cell? ⟨b, off + (o + j * 6) + 3, none⟩ = some c2 ∧ w.cell? ⟨b, off + (o + j * 6) + 4, none⟩ = some c3 ∧ w.cell? ⟨b, off + (o + j * 6) + 5, none⟩ = some c4 ∧ VRepW w t (.agg #[c0, c1, c2, c3, c4])
  | ns, [], _, j, _, t, _, _, hj => by simp at hj
  | [], x :: r, _, j, _, t, hl, hn, _ => by simp at hn
  | m :: nr, x :: r, o, 0, n, t, hl, hn, hj => by
    unfold DRepW at hl
    obtain rfl : x = t := by simpa using hj
    obtain rfl : m = n := by simpa using hn
    simpa using hl.1
  | m :: nr, x :: r, o, j + 1, n, t, hl, hn, hj => by
    unfold DRepW at hl
    have := DRepW.at_ nr r (o + 6) j n t hl.2 (by simpa using hn) (by simpa using hj)
    rw [show o + (j + 1) * 6 = o + 6 + j * 6 by omega]
    exact this
/-- The cells of a value. -/
theorem VRepW.shape {w : World} {t : Tr} {v : Value} (h : VRepW w t v) : ∃ (k i : Int) (s : ByteArray) (la : Option Addr) (ln lc : Nat) (da : Option Addr) (dn dc : Nat), v = .agg #[.int .i64 k, .int .i64 i, .string s, .slice la ln lc, .slice da dn dc] := by
  cases t
  unfold VRepW at h
  obtain ⟨la, lc, da, dc, rfl, _⟩ := h
  exact ⟨_, _, _, _, _, _, _, _, _, rfl⟩
theorem VRepW.shape5 {w : World} {t : Tr} {c0 c1 c2 c3 c4 : Value} (h : VRepW w t (.agg #[c0, c1, c2, c3, c4])) : ∃ (k i : Int) (s : ByteArray) (la : Option Addr) (ln lc : Nat) (da : Option Addr) (dn dc : Nat), c0 = .int .i64 k ∧ c1 = .int .i64 i ∧ c2 = .string s ∧ c3 = .slice la ln lc ∧ c4 = .slice da dn dc := by
  obtain ⟨k, i, s, la, ln, lc, da, dn, dc, e⟩ := h.shape
  injection e with e
  simp only [Array.mk.injEq, List.cons.injEq, and_true] at e
  exact ⟨k, i, s, la, ln, lc, da, dn, dc, e.1, e.2.1, e.2.2.1, e.2.2.2.1, e.2.2.2.2⟩
mutual
/-- no list or document of more than 3000 parts -/
def Tr.Sm : Tr → Prop | .mk _ _ _ l _ ds => l.length ≤ 3000 ∧ ds.length ≤ 3000 ∧ Tr.SmL l ∧ Tr.SmL ds
def Tr.SmL : List Tr → Prop | [] => True | t :: r => Tr.Sm t ∧ Tr.SmL r
end
theorem Tr.SmL_of : ∀ (l : List Tr), (∀ t ∈ l, t.Sm) → Tr.SmL l
  | [], _ => by unfold Tr.SmL; trivial
  | t :: r, h => by unfold Tr.SmL; exact ⟨h t (by simp), Tr.SmL_of r (fun x hx => h x (by simp [hx]))⟩
mutual
theorem VRepW.strong {w : World} : ∀ (t : Tr) (v : Value), VRepW w t v → t.Sm → VRep w t v
  | .mk k i s l ns ds, v, hv, hs => by
    unfold VRepW at hv
    unfold Tr.Sm at hs
    unfold VRep
    obtain ⟨la, lc, da, dc, h1, h2, h3, h4, h5, h6, h7, h8, h9⟩ := hv
    exact ⟨la, lc, da, dc, h1, h2, ⟨h3, by omega⟩, h4, ⟨h5, by omega⟩, h6, h7, LRepW.strong la 0 l h8 hs.2.2.1, DRepW.strong da 0 ns ds h9 hs.2.2.2⟩
theorem LRepW.strong {w : World} (a : Option Addr) : ∀ (o : Nat) (l : List Tr), LRepW w a o l → Tr.SmL l → LRep w a o l
  | _, [], _, _ => by unfold LRep; trivial
  | o, t :: r, hl, hs => by
    unfold LRepW at hl
    unfold Tr.SmL at hs
    unfold LRep
    obtain ⟨⟨b, off, c0, c1, c2, c3, c4, h0, h1, h2, h3, h4, h5, h6⟩, hr⟩ := hl
    exact ⟨⟨b, off, c0, c1, c2, c3, c4, h0, h1, h2, h3, h4, h5, VRepW.strong t _ h6 hs.1⟩, LRepW.strong a (o + 5) r hr hs.2⟩
theorem DRepW.strong {w : World} (a : Option Addr) : ∀ (o : Nat) (ns : List ByteArray) (l : List Tr), DRepW w a o ns l → Tr.SmL l → DRep w a o ns l
  | _, _, [], _, _ => by unfold DRep; trivial
  | _, [], _ :: _, hl, _ => by unfold DRepW at hl; exact hl.elim
  | o, n :: nr, t :: r, hl, hs => by
    unfold DRepW at hl
    unfold Tr.SmL at hs
    unfold DRep
    obtain ⟨⟨b, off, c0, c1, c2, c3, c4, h0, hn, h1, h2, h3, h4, h5, h6, h7⟩, hr⟩ := hl
    exact ⟨⟨b, off, c0, c1, c2, c3, c4, h0, hn, h1, h2, h3, h4, h5, h6, VRepW.strong t _ h7 hs.1⟩, DRepW.strong a (o + 6) nr r hr hs.2⟩
end
/-- A list of elements that each lie in memory as some tree is a list of trees. -/
theorem lrepW_of {w : World} {b off : Nat} : ∀ (n o : Nat), (∀ j, j < n → ∃ c0 c1 c2 c3 c4 t, w.cell? ⟨b, off + (o + j * 5), none⟩ = some c0 ∧ w.cell? ⟨b, off + (o + j * 5) + 1, none⟩ = some c1 ∧ w.cell? ⟨b, off + (o + j * 5) + 2, none⟩ = some c2 ∧ w.cell? ⟨b, off + (o + j * 5) + 3, none⟩ = some c3 ∧ w.cell? ⟨b, off + (o + j * 5) + 4, none⟩ = some c4 ∧ VRepW w t (.agg #[c0, c1, c2, c3, c4])) →
    ∃ l : List Tr, l.length = n ∧ LRepW w (some ⟨b, off, none⟩) o l
  | 0, o, _ => ⟨[], rfl, by unfold LRepW; trivial⟩
  | n + 1, o, h => by
    obtain ⟨c0, c1, c2, c3, c4, t, e0, e1, e2, e3, e4, hv⟩ := h 0 (by omega)
    obtain ⟨l, hl, hr⟩ := lrepW_of (w := w) (b := b) (off := off) n (o + 5) (fun j hj => by
      have := h (j + 1) (by omega)
      rw [show o + (j + 1) * 5 = o + 5 + j * 5 by omega] at this
      exact this)
    simp only [Nat.zero_mul, Nat.add_zero] at e0 e1 e2 e3 e4
    refine ⟨t :: l, by simp [hl], ?_⟩
    unfold LRepW
    exact ⟨⟨b, off, c0, c1, c2, c3, c4, rfl, e0, e1, e2, e3, e4, hv⟩, hr⟩
theorem drepW_of {w : World} {b off : Nat} : ∀ (n o : Nat), (∀ j, j < n → ∃ nm c0 c1 c2 c3 c4 t, nm.size ≤ maxLen ∧ w.cell? ⟨b, off + (o + j * 6), none⟩ = some (.string nm) ∧ w.cell? ⟨b, off + (o + j * 6) + 1, none⟩ = some c0 ∧ w.cell? ⟨b, off + (o + j * 6) + 2, none⟩ = some c1 ∧ w.cell? ⟨b, off + (o + j * 6) + 3, none⟩ = some c2 ∧ w.cell? ⟨b, off + (o + j * 6) + 4, none⟩ = some c3 ∧ w.cell? ⟨b, off + (o + j * 6) + 5, none⟩ = some c4 ∧ VRepW w t (.agg #[c0, c1, c2, c3, c4])) →
    ∃ (ns : List ByteArray) (l : List Tr), ns.length = n ∧ l.length = n ∧ DRepW w (some ⟨b, off, none⟩) o ns l
  | 0, o, _ => ⟨[], [], rfl, rfl, by unfold DRepW; trivial⟩
  | n + 1, o, h => by
    obtain ⟨nm, c0, c1, c2, c3, c4, t, hn, en, e0, e1, e2, e3, e4, hv⟩ := h 0 (by omega)
    obtain ⟨ns, l, hns, hl, hr⟩ := drepW_of (w := w) (b := b) (off := off) n (o + 6) (fun j hj => by
      have := h (j + 1) (by omega)
      rw [show o + (j + 1) * 6 = o + 6 + j * 6 by omega] at this
      exact this)
    simp only [Nat.zero_mul, Nat.add_zero] at en e0 e1 e2 e3 e4
    refine ⟨nm :: ns, t :: l, by simp [hns], by simp [hl], ?_⟩
    unfold DRepW
    exact ⟨⟨b, off, c0, c1, c2, c3, c4, rfl, hn, en, e0, e1, e2, e3, e4, hv⟩, hr⟩
end Go.Proofs.YtipphlhaaienpaaDoor
