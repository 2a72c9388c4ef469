/- A value that a statement hands over lies in memory as a tree, its lists within the reach. -/
import Derived.Test.YtipphlhaaienpaaDoorTr
import Derived.Test.YtipphlhaaienpaaDoorD0
set_option linter.unusedSimpArgs false
set_option linter.unusedVariables false
namespace Go.Proofs.YtipphlhaaienpaaDoor
open Go.RowKit
mutual
/-- The value v is the tree t, in world w. -/
def VRepW (w : World) : Tr → Value → Prop
  | .mk k i s l ns ds, v => ∃ (la : Option Addr) (lc : Nat) (da : Option Addr) (dc : Nat), v = .agg #[.int .i64 k, .int .i64 i, .string s, .slice la l.length lc, .slice da ds.length dc] ∧ (s.size ≤ maxLen ∧ I64 k ∧ I64 i) ∧
      l.length ≤ lc ∧ lc ≤ maxLen ∧ ds.length ≤ dc ∧ dc ≤ maxLen ∧ ns.length = ds.length ∧ LRepW w la 0 l ∧ DRepW w da 0 ns ds
/-- From offset o on lie the values of l. -/
def LRepW (w : World) (a : Option Addr) : Nat → List Tr → Prop
  | _, [] => True
  | o, t :: r => (∃ b off c0 c1 c2 c3 c4, a = some ⟨b, off, none⟩ ∧ w.cell? ⟨b, off + o, none⟩ = some c0 ∧ w.cell? ⟨b, off + o + 1, none⟩ = some c1 ∧ w.cell? ⟨b, off + o + 2, none⟩ = some c2 ∧ w.cell? ⟨b, off + o + 3, none⟩ = some c3 ∧ w.cell? ⟨b, off + o + 4, none⟩ = some c4 ∧ VRepW w t (.agg #[c0, c1, c2, c3, c4])) ∧ LRepW w a (o + 5) r
/-- From offset o on lie the fields. -/
def DRepW (w : World) (a : Option Addr) : Nat → List ByteArray → List Tr → Prop
  | _, _, [] => True
  | _, [], _ :: _ => False
  | o, n :: nr, t :: r => (∃ b off c0 c1 c2 c3 c4, a = some ⟨b, off, none⟩ ∧ n.size ≤ maxLen ∧ w.cell? ⟨b, off + o, none⟩ = some (.string n) ∧ w.cell? ⟨b, off + o + 1, none⟩ = some c0 ∧ w.cell? ⟨b, off + o + 2, none⟩ = some c1 ∧ w.cell? ⟨b, off + o + 3, none⟩ = some c2 ∧ w.cell? ⟨b, off + o + 4, none⟩ = some c3 ∧ w.cell? ⟨b, off + o + 5, none⟩ = some c4 ∧ VRepW w t (.agg #[c0, c1, c2, c3, c4])) ∧ DRepW w a (o + 6) nr r
end
mutual
theorem VRepW.ext {w w' : World} (h : Ext w w') : ∀ (t : Tr) (v : Value), VRepW w t v → VRepW w' t v
  | .mk k i s l ns ds, v, hv => by
    unfold VRepW at hv ⊢
    obtain ⟨la, lc, da, dc, h1, h2, h3, h4, h5, h6, h7, h8, h9⟩ := hv
    exact ⟨la, lc, da, dc, h1, h2, h3, h4, h5, h6, h7, LRepW.ext h la 0 l h8, DRepW.ext h da 0 ns ds h9⟩
theorem LRepW.ext {w w' : World} (h : Ext w w') (a : Option Addr) : ∀ (o : Nat) (l : List Tr), LRepW w a o l → LRepW w' a o l
  | _, [], _ => by unfold LRepW; trivial
  | o, t :: r, hl => by
    unfold LRepW at hl ⊢
    obtain ⟨⟨b, off, c0, c1, c2, c3, c4, h0, h1, h2, h3, h4, h5, h6⟩, hr⟩ := hl
    exact ⟨⟨b, off, c0, c1, c2, c3, c4, h0, h.keep h1, h.keep h2, h.keep h3, h.keep h4, h.keep h5, VRepW.ext h t _ h6⟩, LRepW.ext h a (o + 5) r hr⟩
theorem DRepW.ext {w w' : World} (h : Ext w w') (a : Option Addr) : ∀ (o : Nat) (ns : List ByteArray) (l : List Tr), DRepW w a o ns l → DRepW w' a o ns l
  | _, _, [], _ => by unfold DRepW; trivial
  | _, [], _ :: _, hl => by unfold DRepW at hl; exact hl.elim
  | o, n :: nr, t :: r, hl => by
    unfold DRepW at hl ⊢
    obtain ⟨⟨b, off, c0, c1, c2, c3, c4, h0, hn, h1, h2, h3, h4, h5, h6, h7⟩, hr⟩ := hl
    exact ⟨⟨b, off, c0, c1, c2, c3, c4, h0, hn, h.keep h1, h.keep h2, h.keep h3, h.keep h4, h.keep h5, h.keep h6, VRepW.ext h t _ h7⟩, DRepW.ext h a (o + 6) nr r hr⟩
end
/-- The element j of a list. -/
theorem LRepW.at_ {w : World} {a : Option Addr} : ∀ (l : List Tr) (o j : Nat) (t : Tr), LRepW w a o l → l[j]? = some t →
    ∃ b off c0 c1 c2 c3 c4, a = some ⟨b, off, none⟩ ∧ w.cell? ⟨b, off + (o + j * 5), none⟩ = some c0 ∧ w.cell? ⟨b, off + (o + j * 5) + 1, none⟩ = some c1 ∧ w.cell? ⟨b, off + (o + j * 5) + 2, none⟩ = some c2 ∧ w.cell? ⟨b, off + (o + j * 5) + 3, none⟩ = some c3 ∧ w.cell? ⟨b, off + (o + j * 5) + 4, none⟩ = some c4 ∧ VRepW w t (.agg #[c0, c1, c2, c3, c4])
  | [], _, j, t, _, hj => by simp at hj
  | x :: r, o, 0, t, hl, hj => by
    unfold LRepW at hl
    obtain rfl : x = t := by simpa using hj
    simpa using hl.1
  | x :: r, o, j + 1, t, hl, hj => by
    unfold LRepW at hl
    have := LRepW.at_ r (o + 5) j t hl.2 (by simpa using hj)
    rw [show o + (j + 1) * 5 = o + 5 + j * 5 by omega]
    exact this
/-- The field j. -/
theorem DRepW.at_ {w : World} {a : Option Addr} : ∀ (ns : List ByteArray) (l : List Tr) (o j : Nat) (n : ByteArray) (t : Tr), DRepW w a o ns l → ns[j]? = some n → l[j]? = some t →
    ∃ b off c0 c1 c2 c3 c4, a = some ⟨b, off, none⟩ ∧ n.size ≤ maxLen ∧ w.cell? ⟨b, off + (o + j * 6), none⟩ = some (.string n) ∧ w.cell? ⟨b, off + (o + j * 6) + 1, none⟩ = some c0 ∧ w.cell? ⟨b, off + (o + j * 6) + 2, none⟩ = some c1 ∧ w.cell? ⟨b, off + (o + j * 6) + 3, none⟩ = some c2 ∧ w.cell? ⟨b, off + (o + j * 6) + 4, none⟩ = some c3 ∧ w.cell? ⟨b, off + (o + j * 6) + 5, none⟩ = some c4 ∧ VRepW w t (.agg #[c0, c1, c2, c3, c4])
  | ns, [], _, j, _, t, _, _, hj => by simp at hj
  | [], x :: r, _, j, _, t, hl, hn, _ => by simp at hn
  | m :: nr, x :: r, o, 0, n, t, hl, hn, hj => by
    unfold DRepW at hl
    obtain rfl : x = t := by simpa using hj
    obtain rfl : m = n := by simpa using hn
    simpa using hl.1
  | m :: nr, x :: r, o, j + 1, n, t, hl, hn, hj => by
    unfold DRepW at hl
    have := DRepW.at_ nr r (o + 6) j n t hl.2 (by simpa using hn) (by simpa using hj)
    rw [show o + (j + 1) * 6 = o + 6 + j * 6 by omega]
    exact this
/-- The cells of a value. -/
theorem VRepW.shape {w : World} {t : Tr} {v : Value} (h : VRepW w t v) : ∃ (k i : Int) (s : ByteArray) (la : Option Addr) (ln lc : Nat) (da : Option Addr) (dn dc : Nat), v = .agg #[.int .i64 k, .int .i64 i, .string s, .slice la ln lc, .slice da dn dc] := by
  cases t
  unfold VRepW at h
  obtain ⟨la, lc, da, dc, rfl, _⟩ := h
  exact ⟨_, _, _, _, _, _, _, _, _, rfl⟩
theorem VRepW.shape5 {w : World} {t : Tr} {c0 c1 c2 c3 c4 : Value} (h : VRepW w t (.agg #[c0, c1, c2, c3, c4])) : ∃ (k i : Int) (s : ByteArray) (la : Option Addr) (ln lc : Nat) (da : Option Addr) (dn dc : Nat), c0 = .int .i64 k ∧ c1 = .int .i64 i ∧ c2 = .string s ∧ c3 = .slice la ln lc ∧ c4 = .slice da dn dc := by
  obtain ⟨k, i, s, la, ln, lc, da, dn, dc, e⟩ := h.shape
  injection e with e
  simp only [Array.mk.injEq, List.cons.injEq, and_true] at e
  exact ⟨k, i, s, la, ln, lc, da, dn, dc, e.1, e.2.1, e.2.2.1, e.2.2.2.1, e.2.2.2.2⟩
mutual
/-- no list or document of more than 3000 parts -/
def Tr.Sm : Tr → Prop | .mk _ _ _ l _ ds => l.length ≤ 3000 ∧ ds.length ≤ 3000 ∧ Tr.SmL l ∧ Tr.SmL ds
def Tr.SmL : List Tr → Prop | [] => True | t :: r => Tr.Sm t ∧ Tr.SmL r
end
theorem Tr.SmL_of : ∀ (l : List Tr), (∀ t ∈ l, t.Sm) → Tr.SmL l
  | [], _ => by unfold Tr.SmL; trivial
  | t :: r, h => by unfold Tr.SmL; exact ⟨h t (by simp), Tr.SmL_of r (fun x hx => h x (by simp [hx]))⟩
mutual
theorem VRepW.strong {w : World} : ∀ (t : Tr) (v : Value), VRepW w t v → t.Sm → VRep w t v
  | .mk k i s l ns ds, v, hv, hs => by
    unfold VRepW at hv
    unfold Tr.Sm at hs
    unfold VRep
    obtain ⟨la, lc, da, dc, h1, h2, h3, h4, h5, h6, h7, h8, h9⟩ := hv
    exact ⟨la, lc, da, dc, h1, h2, ⟨h3, by omega⟩, h4, ⟨h5, by omega⟩, h6, h7, LRepW.strong la 0 l h8 hs.2.2.1, DRepW.strong da 0 ns ds h9 hs.2.2.2⟩
theorem LRepW.strong {w : World} (a : Option Addr) : ∀ (o : Nat) (l : List Tr), LRepW w a o l → Tr.SmL l → LRep w a o l
  | _, [], _, _ => by unfold LRep; trivial
  | o, t :: r, hl, hs => by
    unfold LRepW at hl
    unfold Tr.SmL at hs
    unfold LRep
    obtain ⟨⟨b, off, c0, c1, c2, c3, c4, h0, h1, h2, h3, h4, h5, h6⟩, hr⟩ := hl
    exact ⟨⟨b, off, c0, c1, c2, c3, c4, h0, h1, h2, h3, h4, h5, VRepW.strong t _ h6 hs.1⟩, LRepW.strong a (o + 5) r hr hs.2⟩
theorem DRepW.strong {w : World} (a : Option Addr) : ∀ (o : Nat) (ns : List ByteArray) (l : List Tr), DRepW w a o ns l → Tr.SmL l → DRep w a o ns l
  | _, _, [], _, _ => by unfold DRep; trivial
  | _, [], _ :: _, hl, _ => by unfold DRepW at hl; exact hl.elim
  | o, n :: nr, t :: r, hl, hs => by
    unfold DRepW at hl
    unfold Tr.SmL at hs
    unfold DRep
    obtain ⟨⟨b, off, c0, c1, c2, c3, c4, h0, hn, h1, h2, h3, h4, h5, h6, h7⟩, hr⟩ := hl
    exact ⟨⟨b, off, c0, c1, c2, c3, c4, h0, hn, h1, h2, h3, h4, h5, h6, VRepW.strong t _ h7 hs.1⟩, DRepW.strong a (o + 6) nr r hr hs.2⟩
end
/-- A list of elements that each lie in memory as some tree is a list of trees. -/
theorem lrepW_of {w : World} {b off : Nat} : ∀ (n o : Nat), (∀ j, j < n → ∃ c0 c1 c2 c3 c4 t, w.cell? ⟨b, off + (o + j * 5), none⟩ = some c0 ∧ w.cell? ⟨b, off + (o + j * 5) + 1, none⟩ = some c1 ∧ w.cell? ⟨b, off + (o + j * 5) + 2, none⟩ = some c2 ∧ w.cell? ⟨b, off + (o + j * 5) + 3, none⟩ = some c3 ∧ w.cell? ⟨b, off + (o + j * 5) + 4, none⟩ = some c4 ∧ VRepW w t (.agg #[c0, c1, c2, c3, c4])) →
    ∃ l : List Tr, l.length = n ∧ LRepW w (some ⟨b, off, none⟩) o l
  | 0, o, _ => ⟨[], rfl, by unfold LRepW; trivial⟩
  | n + 1, o, h => by
    obtain ⟨c0, c1, c2, c3, c4, t, e0, e1, e2, e3, e4, hv⟩ := h 0 (by omega)
    obtain ⟨l, hl, hr⟩ := lrepW_of (w := w) (b := b) (off := off) n (o + 5) (fun j hj => by
      have := h (j + 1) (by omega)
      rw [show o + (j + 1) * 5 = o + 5 + j * 5 by omega] at this
      exact this)
    simp only [Nat.zero_mul, Nat.add_zero] at e0 e1 e2 e3 e4
    refine ⟨t :: l, by simp [hl], ?_⟩
    unfold LRepW
    exact ⟨⟨b, off, c0, c1, c2, c3, c4, rfl, e0, e1, e2, e3, e4, hv⟩, hr⟩
theorem drepW_of {w : World} {b off : Nat} : ∀ (n o : Nat), (∀ j, j < n → ∃ nm c0 c1 c2 c3 c4 t, nm.size ≤ maxLen ∧ w.cell? ⟨b, off + (o + j * 6), none⟩ = some (.string nm) ∧ w.cell? ⟨b, off + (o + j * 6) + 1, none⟩ = some c0 ∧ w.cell? ⟨b, off + (o + j * 6) + 2, none⟩ = some c1 ∧ w.cell? ⟨b, off + (o + j * 6) + 3, none⟩ = some c2 ∧ w.cell? ⟨b, off + (o + j * 6) + 4, none⟩ = some c3 ∧ w.cell? ⟨b, off + (o + j * 6) + 5, none⟩ = some c4 ∧ VRepW w t (.agg #[c0, c1, c2, c3, c4])) →
    ∃ (ns : List ByteArray) (l : List Tr), ns.length = n ∧ l.length = n ∧ DRepW w (some ⟨b, off, none⟩) o ns l
  | 0, o, _ => ⟨[], [], rfl, rfl, by unfold DRepW; trivial⟩
  | n + 1, o, h => by
    obtain ⟨nm, c0, c1, c2, c3, c4, t, hn, en, e0, e1, e2, e3, e4, hv⟩ := h 0 (by omega)
    obtain ⟨ns, l, hns, hl, hr⟩ := drepW_of (w := w) (b := b) (off := off) n (o + 6) (fun j hj => by
      have := h (j + 1) (by omega)
      rw [show o + (j + 1) * 6 = o + 6 + j * 6 by omega] at this
      exact this)
    simp only [Nat.zero_mul, Nat.add_zero] at en e0 e1 e2 e3 e4
    refine ⟨nm :: ns, t :: l, by simp [hns], by simp [hl], ?_⟩
    unfold DRepW
    exact ⟨⟨b, off, c0, c1, c2, c3, c4, rfl, hn, en, e0, e1, e2, e3, e4, hv⟩, hr⟩
end Go.Proofs.YtipphlhaaienpaaDoor
set_option linter.unusedSimpArgs false
set_option linter.unusedVariables false
namespace Go.Proofs.YtipphlhaaienpaaDoor
open Go.ChangeShapes Go.WideShapes Go.ChangeAt Go.RowKit
section
variable {H : Type} {enc : TypeId × Value → H} {w : World}
theorem len5 {α : Type} {l : List α} (h : l.length = 5) : ∃ a b c d e, l = [a, b, c, d, e] := by
  match l, h with
  | [a, b, c, d, e], _ => exact ⟨a, b, c, d, e, rfl⟩
theorem len6 {α : Type} {l : List α} (h : l.length = 6) : ∃ a b c d e f, l = [a, b, c, d, e, f] := by
  match l, h with
  | [a, b, c, d, e, f], _ => exact ⟨a, b, c, d, e, f, rfl⟩
theorem cellsVal : Tryd.prog.cellsOf 41 = 5 := by kernel_rfl
theorem cellsFld : Tryd.prog.cellsOf 58 = 6 := by kernel_rfl
theorem cellsInt : Tryd.prog.cellsOf 3 = 1 := by kernel_rfl
theorem cellsStr : Tryd.prog.cellsOf 9 = 1 := by kernel_rfl
theorem cellsLVal : Tryd.prog.cellsOf 22 = 1 := by kernel_rfl
theorem cellsLFld : Tryd.prog.cellsOf 39 = 1 := by kernel_rfl
theorem spot_none {a : Addr} {v : Value} (h : w.cell? a = some v) : a = ⟨a.block, a.off, none⟩ := by
  unfold World.cell? at h
  split at h
  · split at h
    · cases h
    · rename_i hs
      obtain ⟨b, o, s⟩ := a
      cases s
      · rfl
      · simp at hs
  · cases h
theorem add_plain2 (b o q : Nat) : (⟨b, o, none⟩ : Addr).add q = ⟨b, o + q, none⟩ := by unfold Addr.add; split <;> simp_all
theorem i64_of_wf {n : Int} (h : (Lit.int .i64 n).wf = true) : I64 n := by
  simp only [Lit.wf, Bool.and_eq_true, decide_eq_true_eq] at h
  have h1 : IntKind.min .i64 = -9223372036854775808 := by kernel_rfl
  have h2 : IntKind.max .i64 = 9223372036854775807 := by kernel_rfl
  unfold I64; omega
theorem bind_some {α β : Type} {o : Option α} {f : α → Option β} {l : List β} {i : Nat} (hi : i < l.length) (h : o.bind f = l[i]?) : ∃ a y, o = some a ∧ f a = some y := by
  rw [List.getElem?_eq_getElem hi, Option.bind_eq_some_iff] at h
  obtain ⟨a, h1, h2⟩ := h
  exact ⟨a, _, h1, h2⟩
theorem get_some {α : Type} {o : Option α} {l : List α} {i : Nat} (hi : i < l.length) (h : o = l[i]?) : ∃ y, o = some y := ⟨_, h.trans (List.getElem?_eq_getElem hi)⟩
theorem vrepW_of_trod : ∀ (fuel : Nat) (cs : List Value) (x : DataW H × List MemPlace), DataW.trod enc Tryd.prog w 0 (fun _ => true) true fuel 41 cs = some x →
    ∃ t c0 c1 c2 c3 c4, cs = [c0, c1, c2, c3, c4] ∧ VRepW w t (.agg #[c0, c1, c2, c3, c4]) := by
  intro fuel
  induction fuel using Nat.strongRecOn with
  | _ fuel ih =>
    intro cs x h
    obtain ⟨xs, n, rfl, rfl, hl, hlen, hf⟩ := DataW.trod_struct Tryd.underlying41 h
    rw [cellsVal] at hl
    obtain ⟨c0, c1, c2, c3, c4, rfl⟩ := len5 hl
    have hlen5 : xs.length = 5 := hlen
    obtain ⟨y0, h0⟩ := get_some (show 0 < xs.length by omega) (hf 0 _ rfl)
    obtain ⟨y1, h1⟩ := get_some (show 1 < xs.length by omega) (hf 1 _ rfl)
    obtain ⟨y2, h2⟩ := get_some (show 2 < xs.length by omega) (hf 2 _ rfl)
    obtain ⟨y3, h3⟩ := get_some (show 3 < xs.length by omega) (hf 3 _ rfl)
    obtain ⟨y4, h4⟩ := get_some (show 4 < xs.length by omega) (hf 4 _ rfl)
    simp only [List.getElem_toArray, List.getElem_cons_zero, List.getElem_cons_succ, cellsInt, cellsStr, cellsLVal, cellsLFld, List.drop_succ_cons, List.drop_zero, List.take_succ_cons, List.take_zero] at h0 h1 h2 h3 h4
    obtain ⟨k, e0, -, k0⟩ := DataW.trod_int Tryd.underlying3 h0
    obtain ⟨i, e1, -, k1⟩ := DataW.trod_int Tryd.underlying3 h1
    obtain ⟨s, e2, -, k2⟩ := DataW.trod_string Tryd.underlying9 h2
    simp only [List.cons.injEq, and_true] at e0 e1 e2
    subst e0 e1 e2
    clear hf h0 h1 h2 h hl hlen
    have L : ∃ (la : Option Addr) (lc : Nat) (l : List Tr), c3 = .slice la l.length lc ∧ l.length ≤ lc ∧ lc ≤ maxLen ∧ LRepW w la 0 l := by
      rcases DataW.trod_slice Tryd.underlying22 h3 with ⟨e, _⟩ | ⟨a, len, cap, elems, rest, m, rfl, e, -, -, hlc, hcm, hel, hat, -, -⟩
      · simp only [List.cons.injEq, and_true] at e
        exact ⟨none, 0, [], e, by simp, by simp, by unfold LRepW; trivial⟩
      · simp only [List.cons.injEq, and_true] at e
        cases len with
        | zero => exact ⟨some a, cap, [], e, by simp, hcm, by unfold LRepW; trivial⟩
        | succ len =>
          simp only [cellsVal] at hat
          have each : ∀ j, j < len + 1 → ∃ c0 c1 c2 c3 c4 t, (∀ q u, [c0, c1, c2, c3, c4][q]? = some u → w.cell? ((a.add (j * 5)).add q) = some u) ∧ VRepW w t (.agg #[c0, c1, c2, c3, c4]) := by
            intro j hj
            obtain ⟨cs', y, hc, hy⟩ := bind_some (by omega) (hat j hj)
            obtain ⟨t, c0, c1, c2, c3, c4, rfl, hv⟩ := ih m (by omega) cs' y hy
            refine ⟨c0, c1, c2, c3, c4, t, fun q u hq => ?_, hv⟩
            rw [(World.cells?_some hc).2.2 q (by have := (List.getElem?_eq_some_iff.1 hq).1; simpa using this), hq]
          have ha : a = ⟨a.block, a.off, none⟩ := by
            obtain ⟨c0, _, _, _, _, _, hc, _⟩ := each 0 (by omega)
            have := hc 0 c0 rfl
            simp only [Nat.zero_mul, Addr.add, if_true] at this
            exact spot_none this
          obtain ⟨b, off, sp⟩ := a
          simp only [Addr.mk.injEq, true_and] at ha
          subst ha
          obtain ⟨l, hl, hr⟩ := lrepW_of (w := w) (b := b) (off := off) (len + 1) 0 (fun j hj => by
            obtain ⟨c0, c1, c2, c3, c4, t, hc, hv⟩ := each j hj
            have key : ∀ q, ((⟨b, off, none⟩ : Addr).add (j * 5)).add q = ⟨b, off + (0 + j * 5) + q, none⟩ := by
              intro q
              rw [add_plain2, add_plain2, Nat.zero_add]
            refine ⟨c0, c1, c2, c3, c4, t, ?_, ?_, ?_, ?_, ?_, hv⟩
            · have := hc 0 c0 rfl; rwa [key] at this
            · have := hc 1 c1 rfl; rwa [key] at this
            · have := hc 2 c2 rfl; rwa [key] at this
            · have := hc 3 c3 rfl; rwa [key] at this
            · have := hc 4 c4 rfl; rwa [key] at this)
          exact ⟨_, cap, l, by rw [hl]; exact e, by omega, hcm, hr⟩
    have D : ∃ (da : Option Addr) (dc : Nat) (ns : List ByteArray) (ds : List Tr), c4 = .slice da ds.length dc ∧ ns.length = ds.length ∧ ds.length ≤ dc ∧ dc ≤ maxLen ∧ DRepW w da 0 ns ds := by
      rcases DataW.trod_slice Tryd.underlying39 h4 with ⟨e, _⟩ | ⟨a, len, cap, elems, rest, m, rfl, e, -, -, hlc, hcm, hel, hat, -, -⟩
      · simp only [List.cons.injEq, and_true] at e
        exact ⟨none, 0, [], [], e, by simp, by simp, by simp, by unfold DRepW; trivial⟩
      · simp only [List.cons.injEq, and_true] at e
        cases len with
        | zero => exact ⟨some a, cap, [], [], e, by simp, by simp, hcm, by unfold DRepW; trivial⟩
        | succ len =>
          simp only [cellsFld] at hat
          have each : ∀ j, j < len + 1 → ∃ nm c0 c1 c2 c3 c4 t, nm.size ≤ maxLen ∧ (∀ q u, [.string nm, c0, c1, c2, c3, c4][q]? = some u → w.cell? ((a.add (j * 6)).add q) = some u) ∧ VRepW w t (.agg #[c0, c1, c2, c3, c4]) := by
            intro j hj
            obtain ⟨cs', y, hc, hy⟩ := bind_some (by omega) (hat j hj)
            obtain ⟨xs', n', rfl, rfl, hl', hlen', hf'⟩ := DataW.trod_struct Tryd.underlying58 hy
            rw [cellsFld] at hl'
            obtain ⟨cn, c0, c1, c2, c3, c4, rfl⟩ := len6 hl'
            have hlen2 : xs'.length = 2 := hlen'
            obtain ⟨z0, g0⟩ := get_some (show 0 < xs'.length by omega) (hf' 0 _ rfl)
            obtain ⟨z1, g1⟩ := get_some (show 1 < xs'.length by omega) (hf' 1 _ rfl)
            simp only [List.getElem_toArray, List.getElem_cons_zero, List.getElem_cons_succ, cellsStr, cellsVal, List.drop_succ_cons, List.drop_zero, List.take_succ_cons, List.take_zero, List.take_nil] at g0 g1
            obtain ⟨nm, en, -, kn⟩ := DataW.trod_string Tryd.underlying9 g0
            simp only [List.cons.injEq, and_true] at en
            subst en
            obtain ⟨t, d0, d1, d2, d3, d4, e, hv⟩ := ih n' (by omega) _ z1 g1
            simp only [List.cons.injEq, and_true] at e
            obtain ⟨rfl, rfl, rfl, rfl, rfl⟩ := e
            refine ⟨nm, c0, c1, c2, c3, c4, t, kn, fun q u hq => ?_, hv⟩
            rw [(World.cells?_some hc).2.2 q (by have := (List.getElem?_eq_some_iff.1 hq).1; simpa using this), hq]
          have ha : a = ⟨a.block, a.off, none⟩ := by
            obtain ⟨nm, _, _, _, _, _, _, _, hc, _⟩ := each 0 (by omega)
            have := hc 0 (.string nm) rfl
            simp only [Nat.zero_mul, Addr.add, if_true] at this
            exact spot_none this
          obtain ⟨b, off, sp⟩ := a
          simp only [Addr.mk.injEq, true_and] at ha
          subst ha
          obtain ⟨ns, l, hns, hl, hr⟩ := drepW_of (w := w) (b := b) (off := off) (len + 1) 0 (fun j hj => by
            obtain ⟨nm, c0, c1, c2, c3, c4, t, hnm, hc, hv⟩ := each j hj
            have key : ∀ q, ((⟨b, off, none⟩ : Addr).add (j * 6)).add q = ⟨b, off + (0 + j * 6) + q, none⟩ := by
              intro q
              rw [add_plain2, add_plain2, Nat.zero_add]
            refine ⟨nm, c0, c1, c2, c3, c4, t, hnm, ?_, ?_, ?_, ?_, ?_, ?_, hv⟩
            · have := hc 0 _ rfl; rwa [key] at this
            · have := hc 1 c0 rfl; rwa [key] at this
            · have := hc 2 c1 rfl; rwa [key] at this
            · have := hc 3 c2 rfl; rwa [key] at this
            · have := hc 4 c3 rfl; rwa [key] at this
            · have := hc 5 c4 rfl; rwa [key] at this)
          exact ⟨_, cap, ns, l, by rw [hl]; exact e, by omega, by omega, hcm, hr⟩
    obtain ⟨la, lc, l, rfl, l1, l2, l3⟩ := L
    obtain ⟨da, dc, ns, ds, rfl, d0, d1, d2, d3⟩ := D
    refine ⟨.mk k i s l ns ds, _, _, _, _, _, rfl, ?_⟩
    unfold VRepW
    exact ⟨la, lc, da, dc, rfl, ⟨k2, i64_of_wf k0, i64_of_wf k1⟩, l1, l2, d1, d2, d0, l3, d3⟩
/-- A value that is handed over. -/
theorem vrepW_arg {v : Value} {d : DataW H} {ps : List MemPlace} {base : Nat} (hval : Value.okWide Tryd.prog w .any base 41 v) (h : DataW.Trod enc Tryd.prog w 0 (fun _ => true) true 41 v d ps) : ∃ t, VRepW w t v := by
  obtain ⟨fuel, hf⟩ := h
  obtain ⟨cs, rfl, hcs⟩ := okWide_struct Tryd.underlying41 hval
  obtain ⟨t, c0, c1, c2, c3, c4, e, hv⟩ := vrepW_of_trod fuel _ _ hf
  refine ⟨t, ?_⟩
  have : cs = #[c0, c1, c2, c3, c4] := by
    cases cs; simpa [Value.cells] using e
  rw [this]; exact hv
end
end Go.Proofs.YtipphlhaaienpaaDoor
set_option linter.unusedSimpArgs false
set_option linter.unusedVariables false
namespace Go.Proofs.YtipphlhaaienpaaDoor
open Go.ChangeShapes Go.WideShapes Go.ChangeAt Go.RowKit
/-- A list of elements that each lie in memory as some tree is a list of trees. -/
theorem lrep_of {w : World} {b off : Nat} : ∀ (n o : Nat), (∀ j, j < n → ∃ c0 c1 c2 c3 c4 t, w.cell? ⟨b, off + (o + j * 5), none⟩ = some c0 ∧ w.cell? ⟨b, off + (o + j * 5) + 1, none⟩ = some c1 ∧ w.cell? ⟨b, off + (o + j * 5) + 2, none⟩ = some c2 ∧ w.cell? ⟨b, off + (o + j * 5) + 3, none⟩ = some c3 ∧ w.cell? ⟨b, off + (o + j * 5) + 4, none⟩ = some c4 ∧ VRep w t (.agg #[c0, c1, c2, c3, c4])) →
    ∃ l : List Tr, l.length = n ∧ LRep w (some ⟨b, off, none⟩) o l
  | 0, o, _ => ⟨[], rfl, by unfold LRep; trivial⟩
  | n + 1, o, h => by
    obtain ⟨c0, c1, c2, c3, c4, t, e0, e1, e2, e3, e4, hv⟩ := h 0 (by omega)
    obtain ⟨l, hl, hr⟩ := lrep_of (w := w) (b := b) (off := off) n (o + 5) (fun j hj => by
      have := h (j + 1) (by omega)
      rw [show o + (j + 1) * 5 = o + 5 + j * 5 by omega] at this
      exact this)
    simp only [Nat.zero_mul, Nat.add_zero] at e0 e1 e2 e3 e4
    refine ⟨t :: l, by simp [hl], ?_⟩
    unfold LRep
    exact ⟨⟨b, off, c0, c1, c2, c3, c4, rfl, e0, e1, e2, e3, e4, hv⟩, hr⟩
theorem drep_of {w : World} {b off : Nat} : ∀ (n o : Nat), (∀ j, j < n → ∃ nm c0 c1 c2 c3 c4 t, nm.size ≤ maxLen ∧ w.cell? ⟨b, off + (o + j * 6), none⟩ = some (.string nm) ∧ w.cell? ⟨b, off + (o + j * 6) + 1, none⟩ = some c0 ∧ w.cell? ⟨b, off + (o + j * 6) + 2, none⟩ = some c1 ∧ w.cell? ⟨b, off + (o + j * 6) + 3, none⟩ = some c2 ∧ w.cell? ⟨b, off + (o + j * 6) + 4, none⟩ = some c3 ∧ w.cell? ⟨b, off + (o + j * 6) + 5, none⟩ = some c4 ∧ VRep w t (.agg #[c0, c1, c2, c3, c4])) →
    ∃ (ns : List ByteArray) (l : List Tr), ns.length = n ∧ l.length = n ∧ DRep w (some ⟨b, off, none⟩) o ns l
  | 0, o, _ => ⟨[], [], rfl, rfl, by unfold DRep; trivial⟩
  | n + 1, o, h => by
    obtain ⟨nm, c0, c1, c2, c3, c4, t, hn, en, e0, e1, e2, e3, e4, hv⟩ := h 0 (by omega)
    obtain ⟨ns, l, hns, hl, hr⟩ := drep_of (w := w) (b := b) (off := off) n (o + 6) (fun j hj => by
      have := h (j + 1) (by omega)
      rw [show o + (j + 1) * 6 = o + 6 + j * 6 by omega] at this
      exact this)
    simp only [Nat.zero_mul, Nat.add_zero] at en e0 e1 e2 e3 e4
    refine ⟨nm :: ns, t :: l, by simp [hns], by simp [hl], ?_⟩
    unfold DRep
    exact ⟨⟨b, off, c0, c1, c2, c3, c4, rfl, hn, en, e0, e1, e2, e3, e4, hv⟩, hr⟩
section
variable {H : Type} {enc : TypeId × Value → H} {w : World}
/-- within the reach -/
def Reach (l : List Nat) : Prop := ∀ n ∈ l, n ≤ 140737488351232
theorem w_val (l : List (DataW H)) : DataW.weights Tryd.prog 41 (.agg l) = DataW.weightsEach Tryd.prog [3, 3, 9, 22, 39] l := by
  rw [DataW.weights, Tryd.underlying41]; rfl
theorem w_fld (l : List (DataW H)) : DataW.weights Tryd.prog 58 (.agg l) = DataW.weightsEach Tryd.prog [9, 41] l := by
  rw [DataW.weights, Tryd.underlying58]; rfl
theorem bytesVal : Tryd.prog.bytesOf 41 = 80 := by kernel_rfl
theorem bytesFld : Tryd.prog.bytesOf 58 = 96 := by kernel_rfl
theorem w_lval (l r : List (DataW H)) : DataW.weights Tryd.prog 22 (.slice l r) = (l.length + r.length) * 80 :: (DataW.weightsAll Tryd.prog 41 l ++ DataW.weightsAll Tryd.prog 41 r) := by
  rw [DataW.weights, Tryd.underlying22]; simp only [bytesVal]
theorem w_lfld (l r : List (DataW H)) : DataW.weights Tryd.prog 39 (.slice l r) = (l.length + r.length) * 96 :: (DataW.weightsAll Tryd.prog 58 l ++ DataW.weightsAll Tryd.prog 58 r) := by
  rw [DataW.weights, Tryd.underlying39]; simp only [bytesFld]
theorem w_all {e : TypeId} {n : Nat} : ∀ {l : List (DataW H)} {d : DataW H}, d ∈ l → n ∈ DataW.weights Tryd.prog e d → n ∈ DataW.weightsAll Tryd.prog e l
  | x :: r, d, hd, hn => by
    rw [DataW.weightsAll, List.mem_append]
    rcases List.mem_cons.1 hd with rfl | hd
    · exact .inl hn
    · exact .inr (w_all hd hn)
theorem bind_some2 {α β : Type} {o : Option α} {f : α → Option β} {l : List β} {i : Nat} (hi : i < l.length) (h : o.bind f = l[i]?) : ∃ a y, o = some a ∧ f a = some y ∧ y ∈ l := by
  rw [List.getElem?_eq_getElem hi, Option.bind_eq_some_iff] at h
  obtain ⟨a, h1, h2⟩ := h
  exact ⟨a, _, h1, h2, List.getElem_mem hi⟩
theorem lrep_of_trod (fuel : Nat) (ih : ∀ m, m < fuel → ∀ (cs : List Value) (x : DataW H × List MemPlace), DataW.trod enc Tryd.prog w 0 (fun _ => true) true m 41 cs = some x → Reach (DataW.weights Tryd.prog 41 x.1) → ∃ t c0 c1 c2 c3 c4, cs = [c0, c1, c2, c3, c4] ∧ VRep w t (.agg #[c0, c1, c2, c3, c4]))
    (c3 : Value) (x3 : DataW H × List MemPlace) (h3 : DataW.trod enc Tryd.prog w 0 (fun _ => true) true fuel 22 [c3] = some x3) (hw : Reach (DataW.weights Tryd.prog 22 x3.1)) :
    ∃ (la : Option Addr) (lc : Nat) (l : List Tr), c3 = .slice la l.length lc ∧ (l.length ≤ lc ∧ l.length * 80 ≤ 140737488351232) ∧ lc ≤ maxLen ∧ LRep w la 0 l := by
  rcases DataW.trod_slice Tryd.underlying22 h3 with ⟨e, _⟩ | ⟨a, len, cap, elems, rest, m, rfl, e, ex, -, hlc, hcm, hel, hat, -, -⟩
  · simp only [List.cons.injEq, and_true] at e
    exact ⟨none, 0, [], e, by simp, by simp, by unfold LRep; trivial⟩
  · simp only [List.cons.injEq, and_true] at e
    subst ex
    rw [w_lval] at hw
    have hb : elems.length * 80 ≤ 140737488351232 := by
      have := hw _ (.head _); simp at this; omega
    have hel2 : ∀ y ∈ elems, Reach (DataW.weights Tryd.prog 41 y.1) := fun y hy n hn => hw n (.tail _ (List.mem_append.2 (.inl (w_all (List.mem_map.2 ⟨y, hy, rfl⟩) hn))))
    cases len with
    | zero => exact ⟨some a, cap, [], e, by simp, hcm, by unfold LRep; trivial⟩
    | succ len =>
      simp only [cellsVal] at hat
      have each : ∀ j, j < len + 1 → ∃ c0 c1 c2 c3 c4 t, (∀ q u, [c0, c1, c2, c3, c4][q]? = some u → w.cell? ((a.add (j * 5)).add q) = some u) ∧ VRep w t (.agg #[c0, c1, c2, c3, c4]) := by
        intro j hj
        obtain ⟨cs', y, hc, hy, hmem⟩ := bind_some2 (by omega) (hat j hj)
        obtain ⟨t, c0, c1, c2, c3, c4, rfl, hv⟩ := ih m (by omega) cs' y hy (hel2 y hmem)
        refine ⟨c0, c1, c2, c3, c4, t, fun q u hq => ?_, hv⟩
        rw [(World.cells?_some hc).2.2 q (by have := (List.getElem?_eq_some_iff.1 hq).1; simpa using this), hq]
      have ha : a = ⟨a.block, a.off, none⟩ := by
        obtain ⟨c0, _, _, _, _, _, hc, _⟩ := each 0 (by omega)
        have := hc 0 c0 rfl
        simp only [Nat.zero_mul, Addr.add, if_true] at this
        exact spot_none this
      obtain ⟨b, off, sp⟩ := a
      simp only [Addr.mk.injEq, true_and] at ha
      subst ha
      obtain ⟨l, hl, hr⟩ := lrep_of (w := w) (b := b) (off := off) (len + 1) 0 (fun j hj => by
        obtain ⟨c0, c1, c2, c3, c4, t, hc, hv⟩ := each j hj
        have key : ∀ q, ((⟨b, off, none⟩ : Addr).add (j * 5)).add q = ⟨b, off + (0 + j * 5) + q, none⟩ := by
          intro q
          rw [add_plain2, add_plain2, Nat.zero_add]
        refine ⟨c0, c1, c2, c3, c4, t, ?_, ?_, ?_, ?_, ?_, hv⟩
        · have := hc 0 c0 rfl; rwa [key] at this
        · have := hc 1 c1 rfl; rwa [key] at this
        · have := hc 2 c2 rfl; rwa [key] at this
        · have := hc 3 c3 rfl; rwa [key] at this
        · have := hc 4 c4 rfl; rwa [key] at this)
      exact ⟨_, cap, l, by rw [hl]; exact e, ⟨by omega, by omega⟩, hcm, hr⟩
theorem drep_of_trod (fuel : Nat) (ih : ∀ m, m < fuel → ∀ (cs : List Value) (x : DataW H × List MemPlace), DataW.trod enc Tryd.prog w 0 (fun _ => true) true m 41 cs = some x → Reach (DataW.weights Tryd.prog 41 x.1) → ∃ t c0 c1 c2 c3 c4, cs = [c0, c1, c2, c3, c4] ∧ VRep w t (.agg #[c0, c1, c2, c3, c4]))
    (c4 : Value) (x4 : DataW H × List MemPlace) (h4 : DataW.trod enc Tryd.prog w 0 (fun _ => true) true fuel 39 [c4] = some x4) (hw : Reach (DataW.weights Tryd.prog 39 x4.1)) :
    ∃ (da : Option Addr) (dc : Nat) (ns : List ByteArray) (ds : List Tr), c4 = .slice da ds.length dc ∧ ns.length = ds.length ∧ (ds.length ≤ dc ∧ ds.length * 96 ≤ 140737488351232) ∧ dc ≤ maxLen ∧ DRep w da 0 ns ds := by
  rcases DataW.trod_slice Tryd.underlying39 h4 with ⟨e, _⟩ | ⟨a, len, cap, elems, rest, m, rfl, e, ex, -, hlc, hcm, hel, hat, -, -⟩
  · simp only [List.cons.injEq, and_true] at e
    exact ⟨none, 0, [], [], e, by simp, by simp, by simp, by unfold DRep; trivial⟩
  · simp only [List.cons.injEq, and_true] at e
    subst ex
    rw [w_lfld] at hw
    have hb : elems.length * 96 ≤ 140737488351232 := by
      have := hw _ (.head _); simp at this; omega
    have hel2 : ∀ y ∈ elems, Reach (DataW.weights Tryd.prog 58 y.1) := fun y hy n hn => hw n (.tail _ (List.mem_append.2 (.inl (w_all (List.mem_map.2 ⟨y, hy, rfl⟩) hn))))
    cases len with
    | zero => exact ⟨some a, cap, [], [], e, by simp, by simp, hcm, by unfold DRep; trivial⟩
    | succ len =>
      simp only [cellsFld] at hat
      have each : ∀ j, j < len + 1 → ∃ nm c0 c1 c2 c3 c4 t, nm.size ≤ maxLen ∧ (∀ q u, [.string nm, c0, c1, c2, c3, c4][q]? = some u → w.cell? ((a.add (j * 6)).add q) = some u) ∧ VRep w t (.agg #[c0, c1, c2, c3, c4]) := by
        intro j hj
        obtain ⟨cs', y, hc, hy, hmem⟩ := bind_some2 (by omega) (hat j hj)
        have hwy := hel2 y hmem
        obtain ⟨xs', n', rfl, rfl, hl', hlen', hf'⟩ := DataW.trod_struct Tryd.underlying58 hy
        rw [cellsFld] at hl'
        obtain ⟨cn, c0, c1, c2, c3, c4, rfl⟩ := len6 hl'
        have hlen2 : xs'.length = 2 := hlen'
        obtain ⟨z0, z1, rfl⟩ : ∃ a b, xs' = [a, b] := by
          match xs', hlen2 with
          | [a, b], _ => exact ⟨a, b, rfl⟩
        have g0 := hf' 0 _ rfl
        have g1 := hf' 1 _ rfl
        simp only [List.getElem?_cons_zero, List.getElem?_cons_succ] at g0 g1
        have hwz : Reach (DataW.weights Tryd.prog 41 z1.1) := fun n hn => hwy n (by
          show n ∈ DataW.weights Tryd.prog 58 (.agg ([z0, z1].map (·.1)))
          rw [w_fld]
          simp only [List.map_cons, List.map_nil, DataW.weightsEach, List.mem_append]
          exact .inr (.inl hn))
        simp only [List.getElem_toArray, List.getElem_cons_zero, List.getElem_cons_succ, cellsStr, cellsVal, List.drop_succ_cons, List.drop_zero, List.take_succ_cons, List.take_zero, List.take_nil] at g0 g1
        obtain ⟨nm, en, -, kn⟩ := DataW.trod_string Tryd.underlying9 g0
        simp only [List.cons.injEq, and_true] at en
        subst en
        obtain ⟨t, d0, d1, d2, d3, d4, e, hv⟩ := ih n' (by omega) _ z1 g1 hwz
        simp only [List.cons.injEq, and_true] at e
        obtain ⟨rfl, rfl, rfl, rfl, rfl⟩ := e
        refine ⟨nm, c0, c1, c2, c3, c4, t, kn, fun q u hq => ?_, hv⟩
        rw [(World.cells?_some hc).2.2 q (by have := (List.getElem?_eq_some_iff.1 hq).1; simpa using this), hq]
      have ha : a = ⟨a.block, a.off, none⟩ := by
        obtain ⟨nm, _, _, _, _, _, _, _, hc, _⟩ := each 0 (by omega)
        have := hc 0 (.string nm) rfl
        simp only [Nat.zero_mul, Addr.add, if_true] at this
        exact spot_none this
      obtain ⟨b, off, sp⟩ := a
      simp only [Addr.mk.injEq, true_and] at ha
      subst ha
      obtain ⟨ns, l, hns, hl, hr⟩ := drep_of (w := w) (b := b) (off := off) (len + 1) 0 (fun j hj => by
        obtain ⟨nm, c0, c1, c2, c3, c4, t, hnm, hc, hv⟩ := each j hj
        have key : ∀ q, ((⟨b, off, none⟩ : Addr).add (j * 6)).add q = ⟨b, off + (0 + j * 6) + q, none⟩ := by
          intro q
          rw [add_plain2, add_plain2, Nat.zero_add]
        refine ⟨nm, c0, c1, c2, c3, c4, t, hnm, ?_, ?_, ?_, ?_, ?_, ?_, hv⟩
        · have := hc 0 _ rfl; rwa [key] at this
        · have := hc 1 c0 rfl; rwa [key] at this
        · have := hc 2 c1 rfl; rwa [key] at this
        · have := hc 3 c2 rfl; rwa [key] at this
        · have := hc 4 c3 rfl; rwa [key] at this
        · have := hc 5 c4 rfl; rwa [key] at this)
      exact ⟨_, cap, ns, l, by rw [hl]; exact e, by omega, ⟨by omega, by omega⟩, hcm, hr⟩
theorem vrep_of_trod : ∀ (fuel : Nat) (cs : List Value) (x : DataW H × List MemPlace), DataW.trod enc Tryd.prog w 0 (fun _ => true) true fuel 41 cs = some x → Reach (DataW.weights Tryd.prog 41 x.1) →
    ∃ t c0 c1 c2 c3 c4, cs = [c0, c1, c2, c3, c4] ∧ VRep w t (.agg #[c0, c1, c2, c3, c4]) := by
  intro fuel
  induction fuel using Nat.strongRecOn with
  | _ fuel ih =>
    intro cs x h hw
    obtain ⟨xs, n, rfl, rfl, hl, hlen, hf⟩ := DataW.trod_struct Tryd.underlying41 h
    rw [cellsVal] at hl
    obtain ⟨c0, c1, c2, c3, c4, rfl⟩ := len5 hl
    have hlen5 : xs.length = 5 := hlen
    obtain ⟨y0, y1, y2, y3, y4, rfl⟩ := len5 hlen5
    have h0 := hf 0 _ rfl
    have h1 := hf 1 _ rfl
    have h2 := hf 2 _ rfl
    have h3 := hf 3 _ rfl
    have h4 := hf 4 _ rfl
    simp only [List.getElem?_cons_zero, List.getElem?_cons_succ, List.getElem_toArray, List.getElem_cons_zero, List.getElem_cons_succ, cellsInt, cellsStr, cellsLVal, cellsLFld, List.drop_succ_cons, List.drop_zero, List.take_succ_cons, List.take_zero] at h0 h1 h2 h3 h4
    have hw' : Reach (DataW.weightsEach Tryd.prog [3, 3, 9, 22, 39] ([y0, y1, y2, y3, y4].map (·.1))) := by rw [← w_val]; exact hw
    simp only [List.map_cons, List.map_nil, DataW.weightsEach] at hw'
    have hw3 : Reach (DataW.weights Tryd.prog 22 y3.1) := fun n hn => hw' n (by simp [hn])
    have hw4 : Reach (DataW.weights Tryd.prog 39 y4.1) := fun n hn => hw' n (by simp [hn])
    obtain ⟨k, e0, -, k0⟩ := DataW.trod_int Tryd.underlying3 h0
    obtain ⟨i, e1, -, k1⟩ := DataW.trod_int Tryd.underlying3 h1
    obtain ⟨s, e2, -, k2⟩ := DataW.trod_string Tryd.underlying9 h2
    simp only [List.cons.injEq, and_true] at e0 e1 e2
    subst e0 e1 e2
    clear hf h0 h1 h2 h hl hlen hw hw'
    obtain ⟨la, lc, l, rfl, l1, l2, l3⟩ := lrep_of_trod n (fun m hm => ih m (by omega)) c3 y3 h3 hw3
    obtain ⟨da, dc, ns, ds, rfl, d0, d1, d2, d3⟩ := drep_of_trod n (fun m hm => ih m (by omega)) c4 y4 h4 hw4
    refine ⟨.mk k i s l ns ds, _, _, _, _, _, rfl, ?_⟩
    unfold VRep
    exact ⟨la, lc, da, dc, rfl, ⟨k2, i64_of_wf k0, i64_of_wf k1⟩, l1, l2, d1, d2, d0, l3, d3⟩
/-- A value that is handed over. -/
theorem vrep_arg {v : Value} {d : DataW H} {ps : List MemPlace} {base : Nat} (hval : Value.okWide Tryd.prog w .any base 41 v) (h : DataW.Trod enc Tryd.prog w 0 (fun _ => true) true 41 v d ps) (hw : Reach (DataW.weights Tryd.prog 41 d)) : ∃ t, VRep w t v := by
  obtain ⟨fuel, hf⟩ := h
  obtain ⟨cs, rfl, hcs⟩ := okWide_struct Tryd.underlying41 hval
  obtain ⟨t, c0, c1, c2, c3, c4, e, hv⟩ := vrep_of_trod fuel _ _ hf hw
  refine ⟨t, ?_⟩
  have : cs = #[c0, c1, c2, c3, c4] := by
    cases cs; simpa [Value.cells] using e
  rw [this]; exact hv
/-- A list of values that is handed over. -/
theorem lrep_arg {v : Value} {d : DataW H} {ps : List MemPlace} {base : Nat} (hval : Value.okWide Tryd.prog w .any base 22 v) (h : DataW.Trod enc Tryd.prog w 0 (fun _ => true) true 22 v d ps) (hw : Reach (DataW.weights Tryd.prog 22 d)) : ∃ (a : Option Addr) (c : Nat) (ts : List Tr), v = .slice a ts.length c ∧ (ts.length ≤ c ∧ ts.length * 80 ≤ 140737488351232) ∧ c ≤ maxLen ∧ LRep w a 0 ts := by
  obtain ⟨fuel, hf⟩ := h
  obtain ⟨a0, len0, cap0, rfl⟩ := okWide_slice Tryd.underlying22 hval
  exact lrep_of_trod fuel (fun m _ => vrep_of_trod m) _ _ hf hw
end
end Go.Proofs.YtipphlhaaienpaaDoor
