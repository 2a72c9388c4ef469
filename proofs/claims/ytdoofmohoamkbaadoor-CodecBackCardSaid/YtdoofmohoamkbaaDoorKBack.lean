/- CodecBack: for every input the law returns true: what is encoded is decoded again, also between other bytes (the card, tied to the program's text). -/
import Derived.Test.YtdoofmohoamkbaaDoorTr
import Derived.Test.YtdoofmohoamkbaaDoorMix
import Derived.Test.YtdoofmohoamkbaaDoorStr
import Derived.Test.YtdoofmohoamkbaaDoorNodes2
import Derived.Test.YtdoofmohoamkbaaDoorD0
import Derived.Test.YtdoofmohoamkbaaDoorTrN
import Derived.Test.YtdoofmohoamkbaaDoorEnc
import Derived.Test.YtdoofmohoamkbaaDoorNodes
import Derived.Test.YtdoofmohoamkbaaDoorL1
import Derived.Test.YtdoofmohoamkbaaDoorRdLe
import Derived.Test.YtdoofmohoamkbaaDoorRdVal3
import Derived.Test.YtdoofmohoamkbaaDoorDec
import Derived.Test.YtdoofmohoamkbaaDoorAw
import Derived.Test.YtdoofmohoamkbaaDoorR1e
import Derived.Test.YtdoofmohoamkbaaDoorTab
set_option linter.unusedSimpArgs false
set_option linter.unusedVariables false
namespace Go.Proofs.YtdoofmohoamkbaaDoor
open Go.RowKit
mutual
/-- The value v is the tree t, in world w. -/
def VRepW (w : World) : Tr → Value → Prop
  | .mk k i s l ns ds, v => ∃ (la : Option Addr) (lc : Nat) (da : Option Addr) (dc : Nat), v = .agg #[.int .i64 k, .int .i64 i, .string s, .slice la l.length lc, .slice da ds.length dc] ∧ (s.size ≤ maxLen ∧ I64 k ∧ I64 i) ∧
      l.length ≤ lc ∧ lc ≤ maxLen ∧ ds.length ≤ dc ∧ dc ≤ maxLen ∧ ns.length = ds.length ∧ LRepW w la 0 l ∧ DRepW w da 0 ns ds
/-- From offset o on lie the values of l. -/
def LRepW (w : World) (a : Option Addr) : Nat → List Tr → Prop
  | _, [] => True
  | o, t :: r => (∃ b off c0 c1 c2 c3 c4, a = some ⟨b, off, none⟩ ∧ w.cell? ⟨b, off + o, none⟩ = some c0 ∧ w.cell? ⟨b, off + o + 1, none⟩ = some c1 ∧ w.cell? ⟨b, off + o + 2, none⟩ = some c2 ∧ w.cell? ⟨b, off + o + 3, none⟩ = some c3 ∧ w.cell? ⟨b, off + o + 4, none⟩ = some c4 ∧ VRepW w t (.agg #[c0, c1, c2, c3, c4])) ∧ LRepW w a (o + 5) r
/-- From offset o on lie the fields. -/
def DRepW (w : World) (a : Option Addr) : Nat → List ByteArray → List Tr → Prop
  | _, _, [] => True
  | _, [], _ :: _ => False
  | o, n :: nr, t :: r => (∃ b off c0 c1 c2 c3 c4, a = some ⟨b, off, none⟩ ∧ n.size ≤ maxLen ∧ w.cell? ⟨b, off + o, none⟩ = some (.string n) ∧ w.cell? ⟨b, off + o + 1, none⟩ = some c0 ∧ w.cell? ⟨b, off + o + 2, none⟩ = some c1 ∧ w.cell? ⟨b, off + o + 3, none⟩ = some c2 ∧ w.cell? ⟨b, off + o + 4, none⟩ = some c3 ∧ w.cell? ⟨b, off + o + 5, none⟩ = some c4 ∧ VRepW w t (.agg #[c0, c1, c2, c3, c4])) ∧ DRepW w a (o + 6) nr r
end
mutual
theorem VRepW.ext {w w' : World} (h : Ext w w') : ∀ (t : Tr) (v : Value), VRepW w t v → VRepW w' t v
  | .mk k i s l ns ds, v, hv => by
    unfold VRepW at hv ⊢
    obtain ⟨la, lc, da, dc, h1, h2, h3, h4, h5, h6, h7, h8, h9⟩ := hv
    exact ⟨la, lc, da, dc, h1, h2, h3, h4, h5, h6, h7, LRepW.ext h la 0 l h8, DRepW.ext h da 0 ns ds h9⟩
theorem LRepW.ext {w w' : World} (h : Ext w w') (a : Option Addr) : ∀ (o : Nat) (l : List Tr), LRepW w a o l → LRepW w' a o l
  | _, [], _ => by unfold LRepW; trivial
  | o, t :: r, hl => by
    unfold LRepW at hl ⊢
    obtain ⟨⟨b, off, c0, c1, c2, c3, c4, h0, h1, h2, h3, h4, h5, h6⟩, hr⟩ := hl
    exact ⟨⟨b, off, c0, c1, c2, c3, c4, h0, h.keep h1, h.keep h2, h.keep h3, h.keep h4, h.keep h5, VRepW.ext h t _ h6⟩, LRepW.ext h a (o + 5) r hr⟩
theorem DRepW.ext {w w' : World} (h : Ext w w') (a : Option Addr) : ∀ (o : Nat) (ns : List ByteArray) (l : List Tr), DRepW w a o ns l → DRepW w' a o ns l
  | _, _, [], _ => by unfold DRepW; trivial
  | _, [], _ :: _, hl => by unfold DRepW at hl; exact hl.elim
  | o, n :: nr, t :: r, hl => by
    unfold DRepW at hl ⊢
    obtain ⟨⟨b, off, c0, c1, c2, c3, c4, h0, hn, h1, h2, h3, h4, h5, h6, h7⟩, hr⟩ := hl
    exact ⟨⟨b, off, c0, c1, c2, c3, c4, h0, hn, h.keep h1, h.keep h2, h.keep h3, h.keep h4, h.keep h5, h.keep h6, VRepW.ext h t _ h7⟩, DRepW.ext h a (o + 6) nr r hr⟩
end
/-- The element j of a list. -/
theorem LRepW.at_ {w : World} {a : Option Addr} : ∀ (l : List Tr) (o j : Nat) (t : Tr), LRepW w a o l → l[j]? = some t →
    ∃ b off c0 c1 c2 c3 c4, a = some ⟨b, off, none⟩ ∧ w.cell? ⟨b, off + (o + j * 5), none⟩ = some c0 ∧ w.cell? ⟨b, off + (o + j * 5) + 1, none⟩ = some c1 ∧ w.cell? ⟨b, off + (o + j * 5) + 2, none⟩ = some c2 ∧ w.cell? ⟨b, off + (o + j * 5) + 3, none⟩ = some c3 ∧ w.cell? ⟨b, off + (o + j * 5) + 4, none⟩ = some c4 ∧ VRepW w t (.agg #[c0, c1, c2, c3, c4])
  | [], _, j, t, _, hj => by simp at hj
  | x :: r, o, 0, t, hl, hj => by
    unfold LRepW at hl
    obtain rfl : x = t := by simpa using hj
    simpa using hl.1
  | x :: r, o, j + 1, t, hl, hj => by
    unfold LRepW at hl
    have := LRepW.at_ r (o + 5) j t hl.2 (by simpa using hj)
    rw [show o + (j + 1) * 5 = o + 5 + j * 5 by omega]
    exact this
/-- The field j. -/
theorem DRepW.at_ {w : World} {a : Option Addr} : ∀ (ns : List ByteArray) (l : List Tr) (o j : Nat) (n : ByteArray) (t : Tr), DRepW w a o ns l → ns[j]? = some n → l[j]? = some t →
    ∃ b off c0 c1 c2 c3 c4, a = some ⟨b, off, none⟩ ∧ n.size ≤ maxLen ∧ w.cell? ⟨b, off + (o + j * 6), none⟩ = some (.string n) ∧ w.cell? ⟨b, off + (o + j * 6) + 1, none⟩ = some c0 ∧ w.cell? ⟨b, off + (o + j * 6) + 2, none⟩ = some c1 ∧ w.cell? ⟨b, off + (o + j * 6) + 3, none⟩ = some c2 ∧ w.cell? ⟨b, off + (o + j * 6) + 4, none⟩ = some c3 ∧ w.cell? ⟨b, off + (o + j * 6) + 5, none⟩ = some c4 ∧ VRepW w t (.agg #[c0, c1, c2, c3, c4])
  | ns, [], _, j, _, t, _, _, hj => by simp at hj
  | [], x :: r, _, j, _, t, hl, hn, _ => by simp at hn
  | m :: nr, x :: r, o, 0, n, t, hl, hn, hj => by
    unfold DRepW at hl
    obtain rfl : x = t := by simpa using hj
    obtain rfl : m = n := by simpa using hn
    simpa using hl.1
  | m :: nr, x :: r, o, j + 1, n, t, hl, hn, hj => by
    unfold DRepW at hl
    have := DRepW.at_ nr r (o + 6) j n t hl.2 (by simpa using hn) (by simpa using hj)
    rw [show o + (j + 1) * 6 = o + 6 + j * 6 by omega]
    exact this
/-- The cells of a value. -/
theorem VRepW.shape {w : World} {t : Tr} {v : Value} (h : VRepW w t v) : ∃ (k i : Int) (s : ByteArray) (la : Option Addr) (ln lc : Nat) (da : Option Addr) (dn dc : Nat), v = .agg #[.int .i64 k, .int .i64 i, .string s, .slice la ln lc, .slice da dn dc] := by
  cases t
  unfold VRepW at h
  obtain ⟨la, lc, da, dc, rfl, _⟩ := h
  exact ⟨_, _, _, _, _, _, _, _, _, rfl⟩
theorem VRepW.shape5 {w : World} {t : Tr} {c0 c1 c2 c3 c4 : Value} (h : VRepW w t (.agg #[c0, c1, c2, c3, c4])) : ∃ (k i : Int) (s : ByteArray) (la : Option Addr) (ln lc : Nat) (da : Option Addr) (dn dc : Nat), c0 = .int .i64 k ∧ c1 = .int .i64 i ∧ c2 = .string s ∧ c3 = .slice la ln lc ∧ c4 = .slice da dn dc := by
  obtain ⟨k, i, s, la, ln, lc, da, dn, dc, e⟩ := h.shape
  injection e with e
  simp only [Array.mk.injEq, List.cons.injEq, and_true] at e
  exact ⟨k, i, s, la, ln, lc, da, dn, dc, e.1, e.2.1, e.2.2.1, e.2.2.2.1, e.2.2.2.2⟩
mutual
/-- no list or document of more than 3000 parts -/
def Tr.Sm : Tr → Prop | .mk _ _ _ l _ ds => l.length ≤ 3000 ∧ ds.length ≤ 3000 ∧ Tr.SmL l ∧ Tr.SmL ds
def Tr.SmL : List Tr → Prop | [] => True | t :: r => Tr.Sm t ∧ Tr.SmL r
end
theorem Tr.SmL_of : ∀ (l : List Tr), (∀ t ∈ l, t.Sm) → Tr.SmL l
  | [], _ => by unfold Tr.SmL; trivial
  | t :: r, h => by unfold Tr.SmL; exact ⟨h t (by simp), Tr.SmL_of r (fun x hx => h x (by simp [hx]))⟩
mutual
theorem VRepW.strong {w : World} : ∀ (t : Tr) (v : Value), VRepW w t v → t.Sm → VRep w t v
  | .mk k i s l ns ds, v, hv, hs => by
    unfold VRepW at hv
    unfold Tr.Sm at hs
    unfold VRep
    obtain ⟨la, lc, da, dc, h1, h2, h3, h4, h5, h6, h7, h8, h9⟩ := hv
    exact ⟨la, lc, da, dc, h1, h2, ⟨h3, by omega⟩, h4, ⟨h5, by omega⟩, h6, h7, LRepW.strong la 0 l h8 hs.2.2.1, DRepW.strong da 0 ns ds h9 hs.2.2.2⟩
theorem LRepW.strong {w : World} (a : Option Addr) : ∀ (o : Nat) (l : List Tr), LRepW w a o l → Tr.SmL l → LRep w a o l
  | _, [], _, _ => by unfold LRep; trivial
  | o, t :: r, hl, hs => by
    unfold LRepW at hl
    unfold Tr.SmL at hs
    unfold LRep
    obtain ⟨⟨b, off, c0, c1, c2, c3, c4, h0, h1, h2, h3, h4, h5, h6⟩, hr⟩ := hl
    exact ⟨⟨b, off, c0, c1, c2, c3, c4, h0, h1, h2, h3, h4, h5, VRepW.strong t _ h6 hs.1⟩, LRepW.strong a (o + 5) r hr hs.2⟩
theorem DRepW.strong {w : World} (a : Option Addr) : ∀ (o : Nat) (ns : List ByteArray) (l : List Tr), DRepW w a o ns l → Tr.SmL l → DRep w a o ns l
  | _, _, [], _, _ => by unfold DRep; trivial
  | _, [], _ :: _, hl, _ => by unfold DRepW at hl; exact hl.elim
  | o, n :: nr, t :: r, hl, hs => by
    unfold DRepW at hl
    unfold Tr.SmL at hs
    unfold DRep
    obtain ⟨⟨b, off, c0, c1, c2, c3, c4, h0, hn, h1, h2, h3, h4, h5, h6, h7⟩, hr⟩ := hl
    exact ⟨⟨b, off, c0, c1, c2, c3, c4, h0, hn, h1, h2, h3, h4, h5, h6, VRepW.strong t _ h7 hs.1⟩, DRepW.strong a (o + 6) nr r hr hs.2⟩
end
/-- A list of elements that each lie in memory as some tree is a list of trees. -/
theorem lrepW_of {w : World} {b off : Nat} : ∀ (n o : Nat), (∀ j, j < n → ∃ c0 c1 c2 c3 c4 t, w.cell? ⟨b, off + (o + j * 5), none⟩ = some c0 ∧ w.cell? ⟨b, off + (o + j * 5) + 1, none⟩ = some c1 ∧ w.cell? ⟨b, off + (o + j * 5) + 2, none⟩ = some c2 ∧ w.cell? ⟨b, off + (o + j * 5) + 3, none⟩ = some c3 ∧ w.cell? ⟨b, off + (o + j * 5) + 4, none⟩ = some c4 ∧ VRepW w t (.agg #[c0, c1, c2, c3, c4])) →
    ∃ l : List Tr, l.length = n ∧ LRepW w (some ⟨b, off, none⟩) o l
  | 0, o, _ => ⟨[], rfl, by unfold LRepW; trivial⟩
  | n + 1, o, h => by
    obtain ⟨c0, c1, c2, c3, c4, t, e0, e1, e2, e3, e4, hv⟩ := h 0 (by omega)
    obtain ⟨l, hl, hr⟩ := lrepW_of (w := w) (b := b) (off := off) n (o + 5) (fun j hj => by
      have := h (j + 1) (by omega)
      rw [show o + (j + 1) * 5 = o + 5 + j * 5 by omega] at this
      exact this)
    simp only [Nat.zero_mul, Nat.add_zero] at e0 e1 e2 e3 e4
    refine ⟨t :: l, by simp [hl], ?_⟩
    unfold LRepW
    exact ⟨⟨b, off, c0, c1, c2, c3, c4, rfl, e0, e1, e2, e3, e4, hv⟩, hr⟩
theorem drepW_of {w : World} {b off : Nat} : ∀ (n o : Nat), (∀ j, j < n → ∃ nm c0 c1 c2 c3 c4 t, nm.size ≤ maxLen ∧ w.cell? ⟨b, off + (o + j * 6), none⟩ = some (.string nm) ∧ w.cell? ⟨b, off + (o + j * 6) + 1, none⟩ = some c0 ∧ w.cell? ⟨b, off + (o + j * 6) + 2, none⟩ = some c1 ∧ w.cell? ⟨b, off + (o + j * 6) + 3, none⟩ = some c2 ∧ w.cell? ⟨b, off + (o + j * 6) + 4, none⟩ = some c3 ∧ w.cell? ⟨b, off + (o + j * 6) + 5, none⟩ = some c4 ∧ VRepW w t (.agg #[c0, c1, c2, c3, c4])) →
    ∃ (ns : List ByteArray) (l : List Tr), ns.length = n ∧ l.length = n ∧ DRepW w (some ⟨b, off, none⟩) o ns l
  | 0, o, _ => ⟨[], [], rfl, rfl, by unfold DRepW; trivial⟩
  | n + 1, o, h => by
    obtain ⟨nm, c0, c1, c2, c3, c4, t, hn, en, e0, e1, e2, e3, e4, hv⟩ := h 0 (by omega)
    obtain ⟨ns, l, hns, hl, hr⟩ := drepW_of (w := w) (b := b) (off := off) n (o + 6) (fun j hj => by
      have := h (j + 1) (by omega)
      rw [show o + (j + 1) * 6 = o + 6 + j * 6 by omega] at this
      exact this)
    simp only [Nat.zero_mul, Nat.add_zero] at en e0 e1 e2 e3 e4
    refine ⟨nm :: ns, t :: l, by simp [hns], by simp [hl], ?_⟩
    unfold DRepW
    exact ⟨⟨b, off, c0, c1, c2, c3, c4, rfl, hn, en, e0, e1, e2, e3, e4, hv⟩, hr⟩
end Go.Proofs.YtdoofmohoamkbaaDoor
set_option linter.unusedSimpArgs false
set_option linter.unusedVariables false
namespace Go.Proofs.YtdoofmohoamkbaaDoor
open Go.RowKit
def FewCOk (t : Tr) : Prop := ∀ (v : Value) (w : World) (lv left : Int), VRepW w t v → 1 ≤ lv → lv ≤ 41 → 0 ≤ left → left ≤ 3000 →
  Calls Tryd.prog 35 #[v, .int .i64 lv, .int .i64 left] w fun e w' => (∃ n : Int, e = .returned (.int .i64 n) ∧ -1 ≤ n ∧ n ≤ left - 1 ∧ (0 ≤ n → t.Sm)) ∧ Ext w w'
set_option maxRecDepth 20000 in
set_option maxHeartbeats 4000000 in
theorem fewc_step (t : Tr) (ih : ∀ p, p.sz < t.sz → FewCOk p) : FewCOk t := by
  intro v w lv left hV h1 h2 h3 h4
  obtain ⟨k, i, s, l, ns, ds⟩ := t
  have ih2 : ∀ t, t ∈ l ∨ t ∈ ds → FewCOk t := fun t ht => ih t (by rcases ht with h | h; exact Tr.sz_list h; exact Tr.sz_docs h)
  unfold VRepW at hV
  obtain ⟨la, lc, da, dc, rfl, ⟨hs, _, _⟩, hl1, hl2, hd1, hd2, hnd, hL, hD⟩ := hV
  have HL := Lib.hid hL
  have HD := Lib.hid hD
  have HI := Lib.hid ih2
  clear hL hD ih ih2
  unfold maxLen at hl2 hd2 hs
  have w1 := wrap_i64_val (left - 1) (by omega) (by omega)
  have w2 := wrap_i64_val (lv + 1) (by omega) (by omega)
  by_cases hb : 40 < lv ∨ 5000 < s.size
  · go_enter Tryd.func35, Tryd.ntmps35
    by_cases hb1 : 40 < lv
    · go_wp2_with fail
      go_ret
      exact ⟨⟨-1, rfl, by omega, by omega, fun h => by omega⟩, by repeat (first | with_reducible assumption | with_reducible exact Ext.refl _ | with_reducible refine Ext.drew ?_ | with_reducible refine Ext.alloc ?_ _ | ((with_reducible refine Ext.setCell ?_ ?_ _); rotate_left; (· first | exact Nat.le_refl _ | (simp; done) | omega | (simp; omega))))⟩
    · have hb2 : (5000 : Int) < (s.size : Int) := by omega
      go_wp2_with fail
      go_ret
      exact ⟨⟨-1, rfl, by omega, by omega, fun h => by omega⟩, by repeat (first | with_reducible assumption | with_reducible exact Ext.refl _ | with_reducible refine Ext.drew ?_ | with_reducible refine Ext.alloc ?_ _ | ((with_reducible refine Ext.setCell ?_ ?_ _); rotate_left; (· first | exact Nat.le_refl _ | (simp; done) | omega | (simp; omega))))⟩
  have hb1 : ¬ 40 < lv := by omega
  have hb2 : ¬ (5000 : Int) < (s.size : Int) := by omega
  clear hb
  go_enter Tryd.func35, Tryd.ntmps35
  go_wp2_with fail
  go_loopw [2, 7] (fun x c wr => ∃ (j : Nat) (y : Int), j ≤ l.length ∧ c = .int .i64 j ∧ x = .int .i64 y ∧ -1 ≤ y ∧ y + j ≤ left - 1 ∧ Hid (0 ≤ y → ∀ u ∈ l.take j, u.Sm) ∧ Hid (Ext (w.alloc (.cells #[.int .i64 k, .int .i64 i, .string s, .slice la l.length lc, .slice da ds.length dc] 32)) wr)) (fun _ c _ => l.length - (intOf c).toNat)
  case atStart => exact ⟨0, left - 1, by omega, rfl, rfl, by omega, by omega, fun _ u hu => by simp at hu, Ext.refl _⟩
  case round =>
    obtain ⟨j, y, hj, rfl, rfl, hy1, hy2, HS, HE⟩ := hrel
    have ka := blk_cell (blk_ext (blk_at0 w (.cells #[.int .i64 k, .int .i64 i, .string s, .slice la l.length lc, .slice da ds.length dc] 32)) HE.out)
    have hz0 : w.heap.size < wr.heap.size := by have := HE.out.size; simp at this; omega
    have HEw := Lib.hid (((Ext.refl w).alloc _).trans HE.out)
    by_cases hlt : j < l.length ∧ 0 ≤ y
    · obtain ⟨hlt, hy0⟩ := hlt
      obtain ⟨b, off, c0, c1, c2, c3, c4, rfl, e0, e1, e2, e3, e4, hv⟩ := LRepW.at_ l 0 j l[j] HL.out (List.getElem?_eq_getElem hlt)
      obtain ⟨k1, i1, s1, la1, ln1, lc1, da1, dn1, dc1, rfl, rfl, rfl, rfl, rfl⟩ := hv.shape5
      have hEr := HEw.out
      have q0 := hEr.keep e0
      have q1 := hEr.keep e1
      have q2 := hEr.keep e2
      have q3 := hEr.keep e3
      have q4 := hEr.keep e4
      rw [Nat.zero_add] at q0 q1 q2 q3 q4
      have hb1 : b < wr.heap.size := World.block_lt_of_cell? _ _ q0
      have HV := Lib.hid (VRepW.ext hEr _ _ hv)
      obtain ⟨p, hp⟩ : ∃ p, l[j] = p := ⟨_, rfl⟩
      have hmem : p ∈ l := by rw [← hp]; exact List.getElem_mem hlt
      rw [hp] at HV
      have HP := Lib.hid hp
      clear e0 e1 e2 e3 e4 hv hEr hp
      go_wp2_with fail
      refine (HI.out p (.inl hmem) _ _ _ _ HV.out (by omega) (by omega) (by omega) (by omega)).mono ?_
      rintro e w3 ⟨⟨n, rfl, n1, n2, n3⟩, h3⟩
      have HE4 := Lib.hid (HE.out.trans h3)
      have HS3 : Hid (0 ≤ n → ∀ u ∈ l.take (j + 1), u.Sm) := fun hn u hu => by
        rw [List.take_succ_eq_append_getElem hlt, List.mem_append] at hu
        rcases hu with hu | hu
        · exact HS.out hy0 u hu
        · obtain rfl : u = l[j] := by simpa using hu
          rw [HP.out]; exact n3 hn
      clear ka q0 q1 q2 q3 q4 h3 n3 HS HE HEw
      go_wp2_with fail
      exact ⟨⟨j + 1, n, by omega, by go_num, rfl, n1, by omega, HS3, HE4⟩, by simp [intOf]; omega⟩
    · have hex : j = l.length ∨ (j < l.length ∧ y < 0) := by omega
      have hfin : 0 ≤ y → y ≤ left - 1 ∧ l.length ≤ 3000 ∧ (∀ u ∈ l, u.Sm) := fun h0 => by
        have hjl : j = l.length := by omega
        refine ⟨by omega, by omega, fun u hu => HS.out h0 u ?_⟩
        rw [hjl, List.take_length]; exact hu
      have HF := Lib.hid hfin
      clear hfin hlt HS
      rcases hex with hex | hex
      · subst hex
        obtain ⟨wo, rfl⟩ : ∃ wo : World, wo = wr := ⟨_, rfl⟩
        go_wp2_with fail
        clear ka HEw hz0
        go_loopw [2, 8] (fun x c wr => ∃ (j : Nat) (y : Int), j ≤ ds.length ∧ c = .int .i64 j ∧ x = .int .i64 y ∧ -1 ≤ y ∧ y + j ≤ left - 1 ∧ Hid (0 ≤ y → l.length ≤ 3000 ∧ (∀ u ∈ l, u.Sm) ∧ (∀ u ∈ ds.take j, u.Sm)) ∧ Hid (Ext (w.alloc (.cells #[.int .i64 k, .int .i64 i, .string s, .slice la l.length lc, .slice da ds.length dc] 32)) wr)) (fun _ c _ => ds.length - (intOf c).toNat)
        case atStart => exact ⟨0, y, by omega, rfl, rfl, by omega, by omega, fun h0 => ⟨(HF.out h0).2.1, (HF.out h0).2.2, fun u hu => by simp at hu⟩, HE⟩
        case round =>
          clear HE HF hy1 hy2
          obtain ⟨j, y, hj, rfl, rfl, hy1, hy2, HS, HE⟩ := hrel
          have ka := blk_cell (blk_ext (blk_at0 w (.cells #[.int .i64 k, .int .i64 i, .string s, .slice la l.length lc, .slice da ds.length dc] 32)) HE.out)
          have hz0 : w.heap.size < wr.heap.size := by have := HE.out.size; simp at this; omega
          have HEw := Lib.hid (((Ext.refl w).alloc _).trans HE.out)
          by_cases hlt : j < ds.length ∧ 0 ≤ y
          · obtain ⟨hlt, hy0⟩ := hlt
            obtain ⟨b, off, c0, c1, c2, c3, c4, rfl, hnm, en, e0, e1, e2, e3, e4, hv⟩ := DRepW.at_ ns ds 0 j (ns[j]'(by omega)) ds[j] HD.out (List.getElem?_eq_getElem (by omega)) (List.getElem?_eq_getElem hlt)
            obtain ⟨k1, i1, s1, la1, ln1, lc1, da1, dn1, dc1, rfl, rfl, rfl, rfl, rfl⟩ := hv.shape5
            have hEr := HEw.out
            have qn := hEr.keep en
            have q0 := hEr.keep e0
            have q1 := hEr.keep e1
            have q2 := hEr.keep e2
            have q3 := hEr.keep e3
            have q4 := hEr.keep e4
            rw [Nat.zero_add] at qn q0 q1 q2 q3 q4
            have hb1 : b < wr.heap.size := World.block_lt_of_cell? _ _ q0
            have HV := Lib.hid (VRepW.ext hEr _ _ hv)
            obtain ⟨p, hp⟩ : ∃ p, ds[j] = p := ⟨_, rfl⟩
            have hmem : p ∈ ds := by rw [← hp]; exact List.getElem_mem hlt
            rw [hp] at HV
            obtain ⟨nm, hn⟩ : ∃ n, ns[j]'(by omega) = n := ⟨_, rfl⟩
            rw [hn] at qn hnm
            have HP := Lib.hid hp
            clear e0 e1 e2 e3 e4 hv hEr hp en hn
            by_cases hbn : 200 < nm.size
            · have hbn2 : (200 : Int) < (nm.size : Int) := by omega
              go_wp2_with fail
              go_ret
              exact ⟨⟨-1, rfl, by omega, by omega, fun h => by omega⟩, HEw.out⟩
            have hbn2 : ¬ (200 : Int) < (nm.size : Int) := by omega
            go_wp2_with fail
            refine (HI.out p (.inr hmem) _ _ _ _ HV.out (by omega) (by omega) (by omega) (by omega)).mono ?_
            rintro e w3 ⟨⟨n, rfl, n1, n2, n3⟩, h3⟩
            have HE4 := Lib.hid (HE.out.trans h3)
            have HS3 : Hid (0 ≤ n → l.length ≤ 3000 ∧ (∀ u ∈ l, u.Sm) ∧ (∀ u ∈ ds.take (j + 1), u.Sm)) := fun hn => by
              obtain ⟨f1, f2, f3⟩ := HS.out hy0
              refine ⟨f1, f2, fun u hu => ?_⟩
              rw [List.take_succ_eq_append_getElem hlt, List.mem_append] at hu
              rcases hu with hu | hu
              · exact f3 u hu
              · obtain rfl : u = ds[j] := by simpa using hu
                rw [HP.out]; exact n3 hn
            clear ka qn q0 q1 q2 q3 q4 h3 n3 HS HE HEw
            go_wp2_with fail
            exact ⟨⟨j + 1, n, by omega, by go_num, rfl, n1, by omega, HS3, HE4⟩, by simp [intOf]; omega⟩
          · have hex : j = ds.length ∨ (j < ds.length ∧ y < 0) := by omega
            rcases hex with hex | hex
            · clear hlt
              go_wp2_with fail
              go_ret
              refine ⟨⟨y, rfl, hy1, by omega, fun h0 => ?_⟩, HEw.out⟩
              obtain ⟨f1, f2, f3⟩ := HS.out h0
              have hjl : j = ds.length := by omega
              unfold Tr.Sm
              refine ⟨f1, by omega, Tr.SmL_of _ f2, Tr.SmL_of _ (fun u hu => f3 u ?_)⟩
              rw [hjl, List.take_length]; exact hu
            · clear hlt
              go_wp2_with fail
              go_ret
              refine ⟨⟨y, rfl, hy1, by omega, fun h0 => ?_⟩, HEw.out⟩
              obtain ⟨f1, f2, f3⟩ := HS.out h0
              have hjl : j = ds.length := by omega
              unfold Tr.Sm
              refine ⟨f1, by omega, Tr.SmL_of _ f2, Tr.SmL_of _ (fun u hu => f3 u ?_)⟩
              rw [hjl, List.take_length]; exact hu
      · obtain ⟨wo, rfl⟩ : ∃ wo : World, wo = wr := ⟨_, rfl⟩
        go_wp2_with fail
        clear ka HEw hz0
        go_loopw [2, 8] (fun x c wr => ∃ (j : Nat) (y : Int), j ≤ ds.length ∧ c = .int .i64 j ∧ x = .int .i64 y ∧ -1 ≤ y ∧ y + j ≤ left - 1 ∧ Hid (0 ≤ y → l.length ≤ 3000 ∧ (∀ u ∈ l, u.Sm) ∧ (∀ u ∈ ds.take j, u.Sm)) ∧ Hid (Ext (w.alloc (.cells #[.int .i64 k, .int .i64 i, .string s, .slice la l.length lc, .slice da ds.length dc] 32)) wr)) (fun _ c _ => ds.length - (intOf c).toNat)
        case atStart => exact ⟨0, y, by omega, rfl, rfl, by omega, by omega, fun h0 => ⟨(HF.out h0).2.1, (HF.out h0).2.2, fun u hu => by simp at hu⟩, HE⟩
        case round =>
          clear HE HF hy1 hy2
          obtain ⟨j, y, hj, rfl, rfl, hy1, hy2, HS, HE⟩ := hrel
          have ka := blk_cell (blk_ext (blk_at0 w (.cells #[.int .i64 k, .int .i64 i, .string s, .slice la l.length lc, .slice da ds.length dc] 32)) HE.out)
          have hz0 : w.heap.size < wr.heap.size := by have := HE.out.size; simp at this; omega
          have HEw := Lib.hid (((Ext.refl w).alloc _).trans HE.out)
          by_cases hlt : j < ds.length ∧ 0 ≤ y
          · obtain ⟨hlt, hy0⟩ := hlt
            obtain ⟨b, off, c0, c1, c2, c3, c4, rfl, hnm, en, e0, e1, e2, e3, e4, hv⟩ := DRepW.at_ ns ds 0 j (ns[j]'(by omega)) ds[j] HD.out (List.getElem?_eq_getElem (by omega)) (List.getElem?_eq_getElem hlt)
            obtain ⟨k1, i1, s1, la1, ln1, lc1, da1, dn1, dc1, rfl, rfl, rfl, rfl, rfl⟩ := hv.shape5
            have hEr := HEw.out
            have qn := hEr.keep en
            have q0 := hEr.keep e0
            have q1 := hEr.keep e1
            have q2 := hEr.keep e2
            have q3 := hEr.keep e3
            have q4 := hEr.keep e4
            rw [Nat.zero_add] at qn q0 q1 q2 q3 q4
            have hb1 : b < wr.heap.size := World.block_lt_of_cell? _ _ q0
            have HV := Lib.hid (VRepW.ext hEr _ _ hv)
            obtain ⟨p, hp⟩ : ∃ p, ds[j] = p := ⟨_, rfl⟩
            have hmem : p ∈ ds := by rw [← hp]; exact List.getElem_mem hlt
            rw [hp] at HV
            obtain ⟨nm, hn⟩ : ∃ n, ns[j]'(by omega) = n := ⟨_, rfl⟩
            rw [hn] at qn hnm
            have HP := Lib.hid hp
            clear e0 e1 e2 e3 e4 hv hEr hp en hn
            by_cases hbn : 200 < nm.size
            · have hbn2 : (200 : Int) < (nm.size : Int) := by omega
              go_wp2_with fail
              go_ret
              exact ⟨⟨-1, rfl, by omega, by omega, fun h => by omega⟩, HEw.out⟩
            have hbn2 : ¬ (200 : Int) < (nm.size : Int) := by omega
            go_wp2_with fail
            refine (HI.out p (.inr hmem) _ _ _ _ HV.out (by omega) (by omega) (by omega) (by omega)).mono ?_
            rintro e w3 ⟨⟨n, rfl, n1, n2, n3⟩, h3⟩
            have HE4 := Lib.hid (HE.out.trans h3)
            have HS3 : Hid (0 ≤ n → l.length ≤ 3000 ∧ (∀ u ∈ l, u.Sm) ∧ (∀ u ∈ ds.take (j + 1), u.Sm)) := fun hn => by
              obtain ⟨f1, f2, f3⟩ := HS.out hy0
              refine ⟨f1, f2, fun u hu => ?_⟩
              rw [List.take_succ_eq_append_getElem hlt, List.mem_append] at hu
              rcases hu with hu | hu
              · exact f3 u hu
              · obtain rfl : u = ds[j] := by simpa using hu
                rw [HP.out]; exact n3 hn
            clear ka qn q0 q1 q2 q3 q4 h3 n3 HS HE HEw
            go_wp2_with fail
            exact ⟨⟨j + 1, n, by omega, by go_num, rfl, n1, by omega, HS3, HE4⟩, by simp [intOf]; omega⟩
          · have hex : j = ds.length ∨ (j < ds.length ∧ y < 0) := by omega
            rcases hex with hex | hex
            · clear hlt
              go_wp2_with fail
              go_ret
              refine ⟨⟨y, rfl, hy1, by omega, fun h0 => ?_⟩, HEw.out⟩
              obtain ⟨f1, f2, f3⟩ := HS.out h0
              have hjl : j = ds.length := by omega
              unfold Tr.Sm
              refine ⟨f1, by omega, Tr.SmL_of _ f2, Tr.SmL_of _ (fun u hu => f3 u ?_)⟩
              rw [hjl, List.take_length]; exact hu
            · clear hlt
              go_wp2_with fail
              go_ret
              refine ⟨⟨y, rfl, hy1, by omega, fun h0 => ?_⟩, HEw.out⟩
              obtain ⟨f1, f2, f3⟩ := HS.out h0
              have hjl : j = ds.length := by omega
              unfold Tr.Sm
              refine ⟨f1, by omega, Tr.SmL_of _ f2, Tr.SmL_of _ (fun u hu => f3 u ?_)⟩
              rw [hjl, List.take_length]; exact hu
theorem fewc_ok (t : Tr) : FewCOk t := by
  have : ∀ n (t : Tr), t.sz = n → FewCOk t := by
    intro n
    induction n using Nat.strongRecOn with
    | _ n ih => intro t ht; exact fewc_step t (fun p hp => ih p.sz (by rw [← ht]; exact hp) p rfl)
  exact this _ t rfl
set_option maxHeartbeats 1000000 in
theorem Few_ok (t : Tr) (v : Value) (w : World) (hV : VRepW w t v) : Calls Tryd.prog 23 #[v, .int .i64 3000] w fun e w' => (∃ b : Bool, e = .returned (.bool b) ∧ (b = true → t.Sm)) ∧ Ext w w' := by
  obtain ⟨k, i, s, la, ln, lc, da, dn, dc, rfl⟩ := hV.shape
  have HV := Lib.hid hV
  clear hV
  go_enter Tryd.func23, Tryd.ntmps23
  go_wp2_with fail
  refine (fewc_ok t _ _ _ _ (VRepW.ext ((Ext.refl w).alloc _) _ _ HV.out) (by omega) (by omega) (by omega) (by omega)).mono ?_
  rintro e w1 ⟨⟨n, rfl, n1, n2, n3⟩, h1⟩
  go_wp2_with fail
  go_ret
  exact ⟨⟨_, rfl, fun h => n3 (by simpa using h)⟩, h1.of_alloc⟩
end Go.Proofs.YtdoofmohoamkbaaDoor
set_option linter.unusedSimpArgs false
set_option linter.unusedVariables false
namespace Go.Proofs.YtdoofmohoamkbaaDoor
open Go.ChangeShapes Go.WideShapes Go.ChangeAt Go.RowKit
section
variable {H : Type} {enc : TypeId × Value → H} {w : World}
theorem len5 {α : Type} {l : List α} (h : l.length = 5) : ∃ a b c d e, l = [a, b, c, d, e] := by
  match l, h with
  | [a, b, c, d, e], _ => exact ⟨a, b, c, d, e, rfl⟩
theorem len6 {α : Type} {l : List α} (h : l.length = 6) : ∃ a b c d e f, l = [a, b, c, d, e, f] := by
  match l, h with
  | [a, b, c, d, e, f], _ => exact ⟨a, b, c, d, e, f, rfl⟩
theorem cellsVal : Tryd.prog.cellsOf 32 = 5 := by kernel_rfl
theorem cellsFld : Tryd.prog.cellsOf 60 = 6 := by kernel_rfl
theorem cellsInt : Tryd.prog.cellsOf 3 = 1 := by kernel_rfl
theorem cellsStr : Tryd.prog.cellsOf 9 = 1 := by kernel_rfl
theorem cellsLVal : Tryd.prog.cellsOf 29 = 1 := by kernel_rfl
theorem cellsLFld : Tryd.prog.cellsOf 30 = 1 := by kernel_rfl
theorem spot_none {a : Addr} {v : Value} (h : w.cell? a = some v) : a = ⟨a.block, a.off, none⟩ := by
  unfold World.cell? at h
  split at h
  · split at h
    · cases h
    · rename_i hs
      obtain ⟨b, o, s⟩ := a
      cases s
      · rfl
      · simp at hs
  · cases h
theorem add_plain2 (b o q : Nat) : (⟨b, o, none⟩ : Addr).add q = ⟨b, o + q, none⟩ := by unfold Addr.add; split <;> simp_all
theorem i64_of_wf {n : Int} (h : (Lit.int .i64 n).wf = true) : I64 n := by
  simp only [Lit.wf, Bool.and_eq_true, decide_eq_true_eq] at h
  have h1 : IntKind.min .i64 = -9223372036854775808 := by kernel_rfl
  have h2 : IntKind.max .i64 = 9223372036854775807 := by kernel_rfl
  unfold I64; omega
theorem bind_some {α β : Type} {o : Option α} {f : α → Option β} {l : List β} {i : Nat} (hi : i < l.length) (h : o.bind f = l[i]?) : ∃ a y, o = some a ∧ f a = some y := by
  rw [List.getElem?_eq_getElem hi, Option.bind_eq_some_iff] at h
  obtain ⟨a, h1, h2⟩ := h
  exact ⟨a, _, h1, h2⟩
theorem get_some {α : Type} {o : Option α} {l : List α} {i : Nat} (hi : i < l.length) (h : o = l[i]?) : ∃ y, o = some y := ⟨_, h.trans (List.getElem?_eq_getElem hi)⟩
theorem vrepW_of_trod : ∀ (fuel : Nat) (cs : List Value) (x : DataW H × List MemPlace), DataW.trod enc Tryd.prog w 0 (fun _ => true) true fuel 32 cs = some x →
    ∃ t c0 c1 c2 c3 c4, cs = [c0, c1, c2, c3, c4] ∧ VRepW w t (.agg #[c0, c1, c2, c3, c4]) := by
  intro fuel
  induction fuel using Nat.strongRecOn with
  | _ fuel ih =>
    intro cs x h
    obtain ⟨xs, n, rfl, rfl, hl, hlen, hf⟩ := DataW.trod_struct Tryd.underlying32 h
    rw [cellsVal] at hl
    obtain ⟨c0, c1, c2, c3, c4, rfl⟩ := len5 hl
    have hlen5 : xs.length = 5 := hlen
    obtain ⟨y0, h0⟩ := get_some (show 0 < xs.length by omega) (hf 0 _ rfl)
    obtain ⟨y1, h1⟩ := get_some (show 1 < xs.length by omega) (hf 1 _ rfl)
    obtain ⟨y2, h2⟩ := get_some (show 2 < xs.length by omega) (hf 2 _ rfl)
    obtain ⟨y3, h3⟩ := get_some (show 3 < xs.length by omega) (hf 3 _ rfl)
    obtain ⟨y4, h4⟩ := get_some (show 4 < xs.length by omega) (hf 4 _ rfl)
    simp only [List.getElem_toArray, List.getElem_cons_zero, List.getElem_cons_succ, cellsInt, cellsStr, cellsLVal, cellsLFld, List.drop_succ_cons, List.drop_zero, List.take_succ_cons, List.take_zero] at h0 h1 h2 h3 h4
    obtain ⟨k, e0, -, k0⟩ := DataW.trod_int Tryd.underlying3 h0
    obtain ⟨i, e1, -, k1⟩ := DataW.trod_int Tryd.underlying3 h1
    obtain ⟨s, e2, -, k2⟩ := DataW.trod_string Tryd.underlying9 h2
    simp only [List.cons.injEq, and_true] at e0 e1 e2
    subst e0 e1 e2
    clear hf h0 h1 h2 h hl hlen
    have L : ∃ (la : Option Addr) (lc : Nat) (l : List Tr), c3 = .slice la l.length lc ∧ l.length ≤ lc ∧ lc ≤ maxLen ∧ LRepW w la 0 l := by
      rcases DataW.trod_slice Tryd.underlying29 h3 with ⟨e, _⟩ | ⟨a, len, cap, elems, rest, m, rfl, e, -, -, hlc, hcm, hel, hat, -, -⟩
      · simp only [List.cons.injEq, and_true] at e
        exact ⟨none, 0, [], e, by simp, by simp, by unfold LRepW; trivial⟩
      · simp only [List.cons.injEq, and_true] at e
        cases len with
        | zero => exact ⟨some a, cap, [], e, by simp, hcm, by unfold LRepW; trivial⟩
        | succ len =>
          simp only [cellsVal] at hat
          have each : ∀ j, j < len + 1 → ∃ c0 c1 c2 c3 c4 t, (∀ q u, [c0, c1, c2, c3, c4][q]? = some u → w.cell? ((a.add (j * 5)).add q) = some u) ∧ VRepW w t (.agg #[c0, c1, c2, c3, c4]) := by
            intro j hj
            obtain ⟨cs', y, hc, hy⟩ := bind_some (by omega) (hat j hj)
            obtain ⟨t, c0, c1, c2, c3, c4, rfl, hv⟩ := ih m (by omega) cs' y hy
            refine ⟨c0, c1, c2, c3, c4, t, fun q u hq => ?_, hv⟩
            rw [(World.cells?_some hc).2.2 q (by have := (List.getElem?_eq_some_iff.1 hq).1; simpa using this), hq]
          have ha : a = ⟨a.block, a.off, none⟩ := by
            obtain ⟨c0, _, _, _, _, _, hc, _⟩ := each 0 (by omega)
            have := hc 0 c0 rfl
            simp only [Nat.zero_mul, Addr.add, if_true] at this
            exact spot_none this
          obtain ⟨b, off, sp⟩ := a
          simp only [Addr.mk.injEq, true_and] at ha
          subst ha
          obtain ⟨l, hl, hr⟩ := lrepW_of (w := w) (b := b) (off := off) (len + 1) 0 (fun j hj => by
            obtain ⟨c0, c1, c2, c3, c4, t, hc, hv⟩ := each j hj
            have key : ∀ q, ((⟨b, off, none⟩ : Addr).add (j * 5)).add q = ⟨b, off + (0 + j * 5) + q, none⟩ := by
              intro q
              rw [add_plain2, add_plain2, Nat.zero_add]
            refine ⟨c0, c1, c2, c3, c4, t, ?_, ?_, ?_, ?_, ?_, hv⟩
            · have := hc 0 c0 rfl; rwa [key] at this
            · have := hc 1 c1 rfl; rwa [key] at this
            · have := hc 2 c2 rfl; rwa [key] at this
            · have := hc 3 c3 rfl; rwa [key] at this
            · have := hc 4 c4 rfl; rwa [key] at this)
          exact ⟨_, cap, l, by rw [hl]; exact e, by omega, hcm, hr⟩
    have D : ∃ (da : Option Addr) (dc : Nat) (ns : List ByteArray) (ds : List Tr), c4 = .slice da ds.length dc ∧ ns.length = ds.length ∧ ds.length ≤ dc ∧ dc ≤ maxLen ∧ DRepW w da 0 ns ds := by
      rcases DataW.trod_slice Tryd.underlying30 h4 with ⟨e, _⟩ | ⟨a, len, cap, elems, rest, m, rfl, e, -, -, hlc, hcm, hel, hat, -, -⟩
      · simp only [List.cons.injEq, and_true] at e
        exact ⟨none, 0, [], [], e, by simp, by simp, by simp, by unfold DRepW; trivial⟩
      · simp only [List.cons.injEq, and_true] at e
        cases len with
        | zero => exact ⟨some a, cap, [], [], e, by simp, by simp, hcm, by unfold DRepW; trivial⟩
        | succ len =>
          simp only [cellsFld] at hat
          have each : ∀ j, j < len + 1 → ∃ nm c0 c1 c2 c3 c4 t, nm.size ≤ maxLen ∧ (∀ q u, [.string nm, c0, c1, c2, c3, c4][q]? = some u → w.cell? ((a.add (j * 6)).add q) = some u) ∧ VRepW w t (.agg #[c0, c1, c2, c3, c4]) := by
            intro j hj
            obtain ⟨cs', y, hc, hy⟩ := bind_some (by omega) (hat j hj)
            obtain ⟨xs', n', rfl, rfl, hl', hlen', hf'⟩ := DataW.trod_struct Tryd.underlying60 hy
            rw [cellsFld] at hl'
            obtain ⟨cn, c0, c1, c2, c3, c4, rfl⟩ := len6 hl'
            have hlen2 : xs'.length = 2 := hlen'
            obtain ⟨z0, g0⟩ := get_some (show 0 < xs'.length by omega) (hf' 0 _ rfl)
            obtain ⟨z1, g1⟩ := get_some (show 1 < xs'.length by omega) (hf' 1 _ rfl)
            simp only [List.getElem_toArray, List.getElem_cons_zero, List.getElem_cons_succ, cellsStr, cellsVal, List.drop_succ_cons, List.drop_zero, List.take_succ_cons, List.take_zero, List.take_nil] at g0 g1
            obtain ⟨nm, en, -, kn⟩ := DataW.trod_string Tryd.underlying9 g0
            simp only [List.cons.injEq, and_true] at en
            subst en
            obtain ⟨t, d0, d1, d2, d3, d4, e, hv⟩ := ih n' (by omega) _ z1 g1
            simp only [List.cons.injEq, and_true] at e
            obtain ⟨rfl, rfl, rfl, rfl, rfl⟩ := e
            refine ⟨nm, c0, c1, c2, c3, c4, t, kn, fun q u hq => ?_, hv⟩
            rw [(World.cells?_some hc).2.2 q (by have := (List.getElem?_eq_some_iff.1 hq).1; simpa using this), hq]
          have ha : a = ⟨a.block, a.off, none⟩ := by
            obtain ⟨nm, _, _, _, _, _, _, _, hc, _⟩ := each 0 (by omega)
            have := hc 0 (.string nm) rfl
            simp only [Nat.zero_mul, Addr.add, if_true] at this
            exact spot_none this
          obtain ⟨b, off, sp⟩ := a
          simp only [Addr.mk.injEq, true_and] at ha
          subst ha
          obtain ⟨ns, l, hns, hl, hr⟩ := drepW_of (w := w) (b := b) (off := off) (len + 1) 0 (fun j hj => by
            obtain ⟨nm, c0, c1, c2, c3, c4, t, hnm, hc, hv⟩ := each j hj
            have key : ∀ q, ((⟨b, off, none⟩ : Addr).add (j * 6)).add q = ⟨b, off + (0 + j * 6) + q, none⟩ := by
              intro q
              rw [add_plain2, add_plain2, Nat.zero_add]
            refine ⟨nm, c0, c1, c2, c3, c4, t, hnm, ?_, ?_, ?_, ?_, ?_, ?_, hv⟩
            · have := hc 0 _ rfl; rwa [key] at this
            · have := hc 1 c0 rfl; rwa [key] at this
            · have := hc 2 c1 rfl; rwa [key] at this
            · have := hc 3 c2 rfl; rwa [key] at this
            · have := hc 4 c3 rfl; rwa [key] at this
            · have := hc 5 c4 rfl; rwa [key] at this)
          exact ⟨_, cap, ns, l, by rw [hl]; exact e, by omega, by omega, hcm, hr⟩
    obtain ⟨la, lc, l, rfl, l1, l2, l3⟩ := L
    obtain ⟨da, dc, ns, ds, rfl, d0, d1, d2, d3⟩ := D
    refine ⟨.mk k i s l ns ds, _, _, _, _, _, rfl, ?_⟩
    unfold VRepW
    exact ⟨la, lc, da, dc, rfl, ⟨k2, i64_of_wf k0, i64_of_wf k1⟩, l1, l2, d1, d2, d0, l3, d3⟩
/-- A value that is handed over. -/
theorem vrepW_arg {v : Value} {d : DataW H} {ps : List MemPlace} {base : Nat} (hval : Value.okWide Tryd.prog w .any base 32 v) (h : DataW.Trod enc Tryd.prog w 0 (fun _ => true) true 32 v d ps) : ∃ t, VRepW w t v := by
  obtain ⟨fuel, hf⟩ := h
  obtain ⟨cs, rfl, hcs⟩ := okWide_struct Tryd.underlying32 hval
  obtain ⟨t, c0, c1, c2, c3, c4, e, hv⟩ := vrepW_of_trod fuel _ _ hf
  refine ⟨t, ?_⟩
  have : cs = #[c0, c1, c2, c3, c4] := by
    cases cs; simpa [Value.cells] using e
  rw [this]; exact hv
end
end Go.Proofs.YtdoofmohoamkbaaDoor
set_option linter.unusedSimpArgs false
set_option linter.unusedVariables false
namespace Go.Proofs.YtdoofmohoamkbaaDoor
open Go.RowKit
def SameOk (t : Tr) : Prop := ∀ (v v' : Value) (w : World), VRep w t v → VRep w t v' → Calls Tryd.prog 18 #[v, v'] w fun e w' => e = .returned (.bool true) ∧ Ext w w'
set_option maxRecDepth 20000 in
set_option maxHeartbeats 4000000 in
theorem same_step (t : Tr) (ih : ∀ p, p.sz < t.sz → SameOk p) : SameOk t := by
  intro v v' w hV hV'
  obtain ⟨k, i, s, l, ns, ds⟩ := t
  have ih2 : ∀ t, t ∈ l ∨ t ∈ ds → SameOk t := fun t ht => ih t (by rcases ht with h | h; exact Tr.sz_list h; exact Tr.sz_docs h)
  unfold VRep at hV hV'
  obtain ⟨la, lc, da, dc, rfl, _, ⟨hl1, _⟩, hl2, ⟨hd1, _⟩, hd2, hnd, hL, hD⟩ := hV
  obtain ⟨la', lc', da', dc', rfl, _, ⟨hl1', _⟩, hl2', ⟨hd1', _⟩, hd2', _, hL', hD'⟩ := hV'
  have HL := Lib.hid hL
  have HD := Lib.hid hD
  have HL' := Lib.hid hL'
  have HD' := Lib.hid hD'
  have HI := Lib.hid ih2
  clear hL hD hL' hD' ih ih2
  unfold maxLen at hl2 hd2 hl2' hd2'
  go_enter Tryd.func18, Tryd.ntmps18
  go_wp2_with fail
  go_loopw [5] (fun c wr => ∃ j : Nat, j ≤ l.length ∧ c = .int .i64 j ∧ Hid (Ext ((w.alloc (.cells #[.int .i64 k, .int .i64 i, .string s, .slice la l.length lc, .slice da ds.length dc] 32)).alloc (.cells #[.int .i64 k, .int .i64 i, .string s, .slice la' l.length lc', .slice da' ds.length dc'] 32)) wr)) (fun c _ => l.length - (intOf c).toNat)
  case atStart => exact ⟨0, by omega, rfl, Ext.refl _⟩
  case round =>
    obtain ⟨j, hj, rfl, HE⟩ := hrel
    have ka := blk_cell (blk_ext (blk_alloc (blk_at0 w (.cells #[.int .i64 k, .int .i64 i, .string s, .slice la l.length lc, .slice da ds.length dc] 32)) _) HE.out)
    have kb := blk_cell (blk_ext (blk_at1 w _ (.cells #[.int .i64 k, .int .i64 i, .string s, .slice la' l.length lc', .slice da' ds.length dc'] 32)) HE.out)
    have hz : w.heap.size + 1 < wr.heap.size := by have := HE.out.size; simp at this; omega
    have hz0 : w.heap.size < wr.heap.size := by omega
    have HEw := Lib.hid (((Ext.refl w).alloc _).alloc _ |>.trans HE.out)
    by_cases hlt : j < l.length
    · obtain ⟨b, off, c0, c1, c2, c3, c4, rfl, e0, e1, e2, e3, e4, hv⟩ := LRep.at_ l 0 j l[j] HL.out (List.getElem?_eq_getElem hlt)
      obtain ⟨b', off', x0, x1, x2, x3, x4, rfl, y0, y1, y2, y3, y4, hv'⟩ := LRep.at_ l 0 j l[j] HL'.out (List.getElem?_eq_getElem hlt)
      obtain ⟨k1, i1, s1, la1, ln1, lc1, da1, dn1, dc1, rfl, rfl, rfl, rfl, rfl⟩ := hv.shape5
      obtain ⟨k2, i2, s2, la2, ln2, lc2, da2, dn2, dc2, rfl, rfl, rfl, rfl, rfl⟩ := hv'.shape5
      have hEr := HEw.out
      have q0 := hEr.keep e0
      have q1 := hEr.keep e1
      have q2 := hEr.keep e2
      have q3 := hEr.keep e3
      have q4 := hEr.keep e4
      have r0 := hEr.keep y0
      have r1 := hEr.keep y1
      have r2 := hEr.keep y2
      have r3 := hEr.keep y3
      have r4 := hEr.keep y4
      rw [Nat.zero_add] at q0 q1 q2 q3 q4 r0 r1 r2 r3 r4
      have hb1 : b < wr.heap.size := World.block_lt_of_cell? _ _ q0
      have hb2 : b' < wr.heap.size := World.block_lt_of_cell? _ _ r0
      have HV := Lib.hid (VRep.ext hEr _ _ hv)
      have HV' := Lib.hid (VRep.ext hEr _ _ hv')
      obtain ⟨p, hp⟩ : ∃ p, l[j] = p := ⟨_, rfl⟩
      have hmem : p ∈ l := by rw [← hp]; exact List.getElem_mem hlt
      rw [hp] at HV HV'
      clear e0 e1 e2 e3 e4 hv hEr y0 y1 y2 y3 y4 hv' hp
      go_wp2_with fail
      refine wp_region_mix (Ext wr) [(true, 0), (true, 1), (true, 2), (true, 3), (true, 4), (true, 5), (true, 6), (true, 7), (true, 8), (true, 9), (false, 10), (true, 11)] (by kernel_rfl) (by kernel_rfl) (by kernel_rfl) (by kernel_rfl) ?hS ?_
      case hS => exact (Ext.refl _).drew
      repeat (first | (refine wpMix_q (v := ?_) rfl rfl ?_ ?_; rotate_left; (· intro wq hSq; have cq := hSq.cells; go_simp; try (with_reducible rfl)); simp only [Act.put, List.setIfInBounds_toArray, List.set_cons_zero, List.set_cons_succ, List.getElem_toArray, List.getElem_cons_zero, List.getElem_cons_succ]) | (refine wpMix_u rfl rfl ?_; simp only [Act.put, List.setIfInBounds_toArray, List.set_cons_zero, List.set_cons_succ, List.getElem_toArray, List.getElem_cons_zero, List.getElem_cons_succ]))
      refine wpMix_l rfl rfl (fun K hK => ?_)
      go_simp
      refine (HI.out p (.inl hmem) _ _ _ (VRep.ext (Ext.refl wr).drew _ _ HV.out) (VRep.ext (Ext.refl wr).drew _ _ HV'.out)).mono ?_
      rintro e w3 ⟨rfl, h3⟩
      have HE3 := Lib.hid ((Ext.refl wr).drew.trans h3)
      refine hK _ _ HE3.out ?_
      clear hK K h3
      repeat (first | (refine wpMix_q (v := ?_) rfl rfl ?_ ?_; rotate_left; (· intro wq hSq; have cq := hSq.cells; go_simp; try (with_reducible rfl)); simp only [Act.put, List.setIfInBounds_toArray, List.set_cons_zero, List.set_cons_succ, List.getElem_toArray, List.getElem_cons_zero, List.getElem_cons_succ]) | (refine wpMix_u rfl rfl ?_; simp only [Act.put, List.setIfInBounds_toArray, List.set_cons_zero, List.set_cons_succ, List.getElem_toArray, List.getElem_cons_zero, List.getElem_cons_succ]))
      refine wpMix_nil ?_
      have HE4 := Lib.hid (HE.out.trans HE3.out)
      clear ka kb q0 q1 q2 q3 q4 r0 r1 r2 r3 r4 HE3
      go_wp2_with fail
      exact ⟨⟨j + 1, by omega, by go_num, HE4⟩, by simp [intOf]; omega⟩
    · have hj2 : j = l.length := by omega
      subst hj2
      obtain ⟨wo, rfl⟩ : ∃ wo : World, wo = wr := ⟨_, rfl⟩
      go_wp2_with fail
      clear ka kb HEw hz hz0
      go_loopw [6] (fun c wr => ∃ j : Nat, j ≤ ds.length ∧ c = .int .i64 j ∧ Hid (Ext ((w.alloc (.cells #[.int .i64 k, .int .i64 i, .string s, .slice la l.length lc, .slice da ds.length dc] 32)).alloc (.cells #[.int .i64 k, .int .i64 i, .string s, .slice la' l.length lc', .slice da' ds.length dc'] 32)) wr)) (fun c _ => ds.length - (intOf c).toNat)
      case atStart => exact ⟨0, by omega, rfl, HE⟩
      case round =>
        clear HE
        obtain ⟨j, hj, rfl, HE⟩ := hrel
        have ka := blk_cell (blk_ext (blk_alloc (blk_at0 w (.cells #[.int .i64 k, .int .i64 i, .string s, .slice la l.length lc, .slice da ds.length dc] 32)) _) HE.out)
        have kb := blk_cell (blk_ext (blk_at1 w _ (.cells #[.int .i64 k, .int .i64 i, .string s, .slice la' l.length lc', .slice da' ds.length dc'] 32)) HE.out)
        have hz : w.heap.size + 1 < wr.heap.size := by have := HE.out.size; simp at this; omega
        have hz0 : w.heap.size < wr.heap.size := by omega
        have HEw := Lib.hid (((Ext.refl w).alloc _).alloc _ |>.trans HE.out)
        by_cases hlt : j < ds.length
        · obtain ⟨b, off, c0, c1, c2, c3, c4, rfl, hnm, en, e0, e1, e2, e3, e4, hv⟩ := DRep.at_ ns ds 0 j (ns[j]'(by omega)) ds[j] HD.out (List.getElem?_eq_getElem (by omega)) (List.getElem?_eq_getElem hlt)
          obtain ⟨b', off', x0, x1, x2, x3, x4, rfl, _, yn, y0, y1, y2, y3, y4, hv'⟩ := DRep.at_ ns ds 0 j (ns[j]'(by omega)) ds[j] HD'.out (List.getElem?_eq_getElem (by omega)) (List.getElem?_eq_getElem hlt)
          obtain ⟨k1, i1, s1, la1, ln1, lc1, da1, dn1, dc1, rfl, rfl, rfl, rfl, rfl⟩ := hv.shape5
          obtain ⟨k2, i2, s2, la2, ln2, lc2, da2, dn2, dc2, rfl, rfl, rfl, rfl, rfl⟩ := hv'.shape5
          have hEr := HEw.out
          have qn := hEr.keep en
          have q0 := hEr.keep e0
          have q1 := hEr.keep e1
          have q2 := hEr.keep e2
          have q3 := hEr.keep e3
          have q4 := hEr.keep e4
          have rn := hEr.keep yn
          have r0 := hEr.keep y0
          have r1 := hEr.keep y1
          have r2 := hEr.keep y2
          have r3 := hEr.keep y3
          have r4 := hEr.keep y4
          rw [Nat.zero_add] at qn q0 q1 q2 q3 q4 rn r0 r1 r2 r3 r4
          have hb1 : b < wr.heap.size := World.block_lt_of_cell? _ _ q0
          have hb2 : b' < wr.heap.size := World.block_lt_of_cell? _ _ r0
          have HV := Lib.hid (VRep.ext hEr _ _ hv)
          have HV' := Lib.hid (VRep.ext hEr _ _ hv')
          obtain ⟨p, hp⟩ : ∃ p, ds[j] = p := ⟨_, rfl⟩
          obtain ⟨nm, hn⟩ : ∃ n, ns[j]'(by omega) = n := ⟨_, rfl⟩
          have hmem : p ∈ ds := by rw [← hp]; exact List.getElem_mem hlt
          rw [hp] at HV HV'
          rw [hn] at qn rn
          clear en e0 e1 e2 e3 e4 hv hEr yn y0 y1 y2 y3 y4 hv' hp hn
          go_wp2_with fail
          refine wp_region_mix (Ext wr) [(true, 0), (true, 1), (true, 2), (true, 3), (true, 4), (true, 5), (true, 6), (true, 7), (true, 8), (true, 9), (true, 10), (true, 11), (true, 12), (true, 13), (true, 14), (true, 15), (true, 16), (true, 17), (true, 18), (true, 19), (true, 20), (true, 21), (true, 22), (true, 23), (true, 24), (true, 25), (false, 26), (true, 27), (true, 28)] (by kernel_rfl) (by kernel_rfl) (by kernel_rfl) (by kernel_rfl) ?hS ?_
          case hS => exact (Ext.refl _).drew
          repeat (first | (refine wpMix_q (v := ?_) rfl rfl ?_ ?_; rotate_left; (· intro wq hSq; have cq := hSq.cells; go_simp; try (with_reducible rfl)); simp only [Act.put, List.setIfInBounds_toArray, List.set_cons_zero, List.set_cons_succ, List.getElem_toArray, List.getElem_cons_zero, List.getElem_cons_succ]) | (refine wpMix_u rfl rfl ?_; simp only [Act.put, List.setIfInBounds_toArray, List.set_cons_zero, List.set_cons_succ, List.getElem_toArray, List.getElem_cons_zero, List.getElem_cons_succ]))
          refine wpMix_l rfl rfl (fun K hK => ?_)
          go_simp
          refine (HI.out p (.inr hmem) _ _ _ (VRep.ext (Ext.refl wr).drew _ _ HV.out) (VRep.ext (Ext.refl wr).drew _ _ HV'.out)).mono ?_
          rintro e w3 ⟨rfl, h3⟩
          have HE3 := Lib.hid ((Ext.refl wr).drew.trans h3)
          refine hK _ _ HE3.out ?_
          clear hK K h3
          repeat (first | (refine wpMix_q (v := ?_) rfl rfl ?_ ?_; rotate_left; (· intro wq hSq; have cq := hSq.cells; go_simp; try (with_reducible rfl)); simp only [Act.put, List.setIfInBounds_toArray, List.set_cons_zero, List.set_cons_succ, List.getElem_toArray, List.getElem_cons_zero, List.getElem_cons_succ]) | (refine wpMix_u rfl rfl ?_; simp only [Act.put, List.setIfInBounds_toArray, List.set_cons_zero, List.set_cons_succ, List.getElem_toArray, List.getElem_cons_zero, List.getElem_cons_succ]))
          refine wpMix_nil ?_
          have HE4 := Lib.hid (HE.out.trans HE3.out)
          clear ka kb qn q0 q1 q2 q3 q4 rn r0 r1 r2 r3 r4 HE3
          go_wp2_with fail
          exact ⟨⟨j + 1, by omega, by go_num, HE4⟩, by simp [intOf]; omega⟩
        · have hj2 : j = ds.length := by omega
          subst hj2
          go_wp2_with fail
          go_ret
          exact ⟨rfl, HEw.out⟩
theorem same_ok (t : Tr) : SameOk t := by
  have : ∀ n (t : Tr), t.sz = n → SameOk t := by
    intro n
    induction n using Nat.strongRecOn with
    | _ n ih => intro t ht; exact same_step t (fun p hp => ih p.sz (by rw [← ht]; exact hp) p rfl)
  exact this _ t rfl
end Go.Proofs.YtdoofmohoamkbaaDoor
set_option linter.unusedSimpArgs false
set_option linter.unusedVariables false
namespace Go.Proofs.YtdoofmohoamkbaaDoor
open Go.RowKit
def LenOk (t : Tr) : Prop := ∀ (v : Value) (w : World), snd t = true → VRep w t v → (enc t).length ≤ 90000000000 → Calls Tryd.prog 37 #[v] w fun e w' => e = .returned (.int .i64 ((enc t).length : Nat)) ∧ Ext w w'
set_option maxRecDepth 20000 in
set_option maxHeartbeats 1000000 in
theorem len_k1 (i : Int) (s : ByteArray) (lt : List Tr) (ns : List ByteArray) (ds : List Tr) (la da : Option Addr) (lc dc : Nat) (w : World) :
    Calls Tryd.prog 37 #[.agg #[.int .i64 1, .int .i64 i, .string s, .slice la lt.length lc, .slice da ds.length dc]] w fun e w' => e = .returned (.int .i64 (([(1 : UInt8)]).length : Nat)) ∧ Ext w w' := by
  obtain ⟨r, hr⟩ : ∃ x, ([(1 : UInt8)]).length = x := ⟨_, rfl⟩
  rw [hr]
  simp at hr
  subst hr
  go_enter Tryd.func37, Tryd.ntmps37
  go_wp2_with fail
  go_ret
  exact ⟨rfl, by repeat (first | with_reducible assumption | with_reducible exact Ext.refl _ | with_reducible refine Ext.drew ?_ | with_reducible refine Ext.alloc ?_ _ | ((with_reducible refine Ext.setCell ?_ ?_ _); rotate_left; (· first | exact Nat.le_refl _ | (simp; done) | omega | (simp; omega))))⟩
set_option maxRecDepth 20000 in
set_option maxHeartbeats 1000000 in
theorem len_k2 (i : Int) (s : ByteArray) (lt : List Tr) (ns : List ByteArray) (ds : List Tr) (la da : Option Addr) (lc dc : Nat) (w : World) :
    Calls Tryd.prog 37 #[.agg #[.int .i64 2, .int .i64 i, .string s, .slice la lt.length lc, .slice da ds.length dc]] w fun e w' => e = .returned (.int .i64 (([(2 : UInt8)]).length : Nat)) ∧ Ext w w' := by
  obtain ⟨r, hr⟩ : ∃ x, ([(2 : UInt8)]).length = x := ⟨_, rfl⟩
  rw [hr]
  simp at hr
  subst hr
  go_enter Tryd.func37, Tryd.ntmps37
  go_wp2_with fail
  go_ret
  exact ⟨rfl, by repeat (first | with_reducible assumption | with_reducible exact Ext.refl _ | with_reducible refine Ext.drew ?_ | with_reducible refine Ext.alloc ?_ _ | ((with_reducible refine Ext.setCell ?_ ?_ _); rotate_left; (· first | exact Nat.le_refl _ | (simp; done) | omega | (simp; omega))))⟩
set_option maxRecDepth 20000 in
set_option maxHeartbeats 1000000 in
theorem len_k11 (i : Int) (s : ByteArray) (lt : List Tr) (ns : List ByteArray) (ds : List Tr) (la da : Option Addr) (lc dc : Nat) (w : World) :
    Calls Tryd.prog 37 #[.agg #[.int .i64 11, .int .i64 i, .string s, .slice la lt.length lc, .slice da ds.length dc]] w fun e w' => e = .returned (.int .i64 (([(11 : UInt8)]).length : Nat)) ∧ Ext w w' := by
  obtain ⟨r, hr⟩ : ∃ x, ([(11 : UInt8)]).length = x := ⟨_, rfl⟩
  rw [hr]
  simp at hr
  subst hr
  go_enter Tryd.func37, Tryd.ntmps37
  go_wp2_with fail
  go_ret
  exact ⟨rfl, by repeat (first | with_reducible assumption | with_reducible exact Ext.refl _ | with_reducible refine Ext.drew ?_ | with_reducible refine Ext.alloc ?_ _ | ((with_reducible refine Ext.setCell ?_ ?_ _); rotate_left; (· first | exact Nat.le_refl _ | (simp; done) | omega | (simp; omega))))⟩
set_option maxRecDepth 20000 in
set_option maxHeartbeats 1000000 in
theorem len_k9 (i : Int) (s : ByteArray) (lt : List Tr) (ns : List ByteArray) (ds : List Tr) (la da : Option Addr) (lc dc : Nat) (w : World) :
    Calls Tryd.prog 37 #[.agg #[.int .i64 9, .int .i64 i, .string s, .slice la lt.length lc, .slice da ds.length dc]] w fun e w' => e = .returned (.int .i64 (([(9 : UInt8)] ++ [UInt8.ofNat i.toNat]).length : Nat)) ∧ Ext w w' := by
  obtain ⟨r, hr⟩ : ∃ x, ([(9 : UInt8)] ++ [UInt8.ofNat i.toNat]).length = x := ⟨_, rfl⟩
  rw [hr]
  simp at hr
  subst hr
  go_enter Tryd.func37, Tryd.ntmps37
  go_wp2_with fail
  go_ret
  exact ⟨rfl, by repeat (first | with_reducible assumption | with_reducible exact Ext.refl _ | with_reducible refine Ext.drew ?_ | with_reducible refine Ext.alloc ?_ _ | ((with_reducible refine Ext.setCell ?_ ?_ _); rotate_left; (· first | exact Nat.le_refl _ | (simp; done) | omega | (simp; omega))))⟩
set_option maxRecDepth 20000 in
set_option maxHeartbeats 1000000 in
theorem len_k3 (i : Int) (s : ByteArray) (lt : List Tr) (ns : List ByteArray) (ds : List Tr) (la da : Option Addr) (lc dc : Nat) (w : World) (hI : I64 i) :
    Calls Tryd.prog 37 #[.agg #[.int .i64 3, .int .i64 i, .string s, .slice la lt.length lc, .slice da ds.length dc]] w fun e w' => e = .returned (.int .i64 (([(3 : UInt8)] ++ numL (zz i)).length : Nat)) ∧ Ext w w' := by
  obtain ⟨r, hr⟩ : ∃ x, ([(3 : UInt8)] ++ numL (zz i)).length = x := ⟨_, rfl⟩
  rw [hr]
  have HI := Lib.hid hI
  have hx10 := numL_10 _ (zz_lt _ hI)
  clear hI
  obtain ⟨x, hx⟩ : ∃ x, (numL (zz i)).length = x := ⟨_, rfl⟩
  rw [hx] at hx10
  have HX := Lib.hid hx
  clear hx
  have hr2 : r = 1 + x := by rw [← hr, ← HX.out, List.length_append]; rfl
  subst hr2
  clear hr
  go_enter Tryd.func37, Tryd.ntmps37
  go_wp2_with fail
  refine (numLength_ok _ _ HI.out).mono ?_
  rintro e w1 ⟨rfl, rfl⟩
  rw [HX.out]
  go_wp2_with fail
  go_ret
  exact ⟨by first | rfl | (congr 2; omega), by repeat (first | with_reducible assumption | with_reducible exact Ext.refl _ | with_reducible refine Ext.drew ?_ | with_reducible refine Ext.alloc ?_ _ | ((with_reducible refine Ext.setCell ?_ ?_ _); rotate_left; (· first | exact Nat.le_refl _ | (simp; done) | omega | (simp; omega))))⟩
set_option maxRecDepth 20000 in
set_option maxHeartbeats 1000000 in
theorem len_k10 (i : Int) (s : ByteArray) (lt : List Tr) (ns : List ByteArray) (ds : List Tr) (la da : Option Addr) (lc dc : Nat) (w : World) (hI : I64 i) :
    Calls Tryd.prog 37 #[.agg #[.int .i64 10, .int .i64 i, .string s, .slice la lt.length lc, .slice da ds.length dc]] w fun e w' => e = .returned (.int .i64 (([(10 : UInt8)] ++ numL (zz i)).length : Nat)) ∧ Ext w w' := by
  obtain ⟨r, hr⟩ : ∃ x, ([(10 : UInt8)] ++ numL (zz i)).length = x := ⟨_, rfl⟩
  rw [hr]
  have HI := Lib.hid hI
  have hx10 := numL_10 _ (zz_lt _ hI)
  clear hI
  obtain ⟨x, hx⟩ : ∃ x, (numL (zz i)).length = x := ⟨_, rfl⟩
  rw [hx] at hx10
  have HX := Lib.hid hx
  clear hx
  have hr2 : r = 1 + x := by rw [← hr, ← HX.out, List.length_append]; rfl
  subst hr2
  clear hr
  go_enter Tryd.func37, Tryd.ntmps37
  go_wp2_with fail
  refine (numLength_ok _ _ HI.out).mono ?_
  rintro e w1 ⟨rfl, rfl⟩
  rw [HX.out]
  go_wp2_with fail
  go_ret
  exact ⟨by first | rfl | (congr 2; omega), by repeat (first | with_reducible assumption | with_reducible exact Ext.refl _ | with_reducible refine Ext.drew ?_ | with_reducible refine Ext.alloc ?_ _ | ((with_reducible refine Ext.setCell ?_ ?_ _); rotate_left; (· first | exact Nat.le_refl _ | (simp; done) | omega | (simp; omega))))⟩
set_option maxRecDepth 20000 in
set_option maxHeartbeats 1000000 in
theorem len_k4 (i : Int) (s : ByteArray) (lt : List Tr) (ns : List ByteArray) (ds : List Tr) (la da : Option Addr) (lc dc : Nat) (w : World) (hs : s.size ≤ 4096) (hI : I64 (s.size : Int)) :
    Calls Tryd.prog 37 #[.agg #[.int .i64 4, .int .i64 i, .string s, .slice la lt.length lc, .slice da ds.length dc]] w fun e w' => e = .returned (.int .i64 (([(4 : UInt8)] ++ (numL (zz s.size) ++ s.data.toList)).length : Nat)) ∧ Ext w w' := by
  obtain ⟨r, hr⟩ : ∃ x, ([(4 : UInt8)] ++ (numL (zz s.size) ++ s.data.toList)).length = x := ⟨_, rfl⟩
  rw [hr]
  have HI := Lib.hid hI
  have hx10 := numL_10 _ (zz_lt _ hI)
  clear hI
  obtain ⟨x, hx⟩ : ∃ x, (numL (zz (s.size : Int))).length = x := ⟨_, rfl⟩
  rw [hx] at hx10
  have HX := Lib.hid hx
  clear hx
  have hr2 : r = 1 + (x + s.size) := by rw [← hr, ← HX.out, List.length_append, List.length_append]; simp
  subst hr2
  clear hr
  go_enter Tryd.func37, Tryd.ntmps37
  go_wp2_with fail
  have hw1 := wrap_i64_val ((x : Int) + (s.size : Int)) (by omega) (by omega)
  have hw2 := wrap_i64_val (1 + ((x : Int) + (s.size : Int))) (by omega) (by omega)
  refine wp_region_mix (Ext (w.alloc (.cells #[.int .i64 4, .int .i64 i, .string s, .slice la lt.length lc, .slice da ds.length dc] 32))) [(true, 0), (true, 1), (true, 2), (true, 3), (true, 5), (true, 6), (true, 7), (false, 4), (true, 8), (true, 9), (true, 10)] (by kernel_rfl) (by kernel_rfl) (by kernel_rfl) (by kernel_rfl) ?hS ?_
  case hS => exact (Ext.refl _).drew
  repeat (first | (refine wpMix_q (v := ?_) rfl rfl ?_ ?_; rotate_left; (· intro wq hSq; have cq := hSq.cells; go_simp; try (with_reducible rfl)); simp only [Act.put, List.setIfInBounds_toArray, List.set_cons_zero, List.set_cons_succ, List.getElem_toArray, List.getElem_cons_zero, List.getElem_cons_succ]) | (refine wpMix_u rfl rfl ?_; simp only [Act.put, List.setIfInBounds_toArray, List.set_cons_zero, List.set_cons_succ, List.getElem_toArray, List.getElem_cons_zero, List.getElem_cons_succ]))
  refine wpMix_l rfl rfl (fun K hK => ?_)
  go_simp
  refine (numLength_ok _ _ HI.out).mono ?_
  rintro e w1 ⟨rfl, rfl⟩
  rw [HX.out]
  refine hK _ _ (Ext.refl _).drew ?_
  clear hK K
  repeat (first | (refine wpMix_q (v := ?_) rfl rfl ?_ ?_; rotate_left; (· intro wq hSq; have cq := hSq.cells; go_simp; try (with_reducible rfl)); simp only [Act.put, List.setIfInBounds_toArray, List.set_cons_zero, List.set_cons_succ, List.getElem_toArray, List.getElem_cons_zero, List.getElem_cons_succ]) | (refine wpMix_u rfl rfl ?_; simp only [Act.put, List.setIfInBounds_toArray, List.set_cons_zero, List.set_cons_succ, List.getElem_toArray, List.getElem_cons_zero, List.getElem_cons_succ]))
  refine wpMix_nil ?_
  go_wp2_with fail
  go_ret
  exact ⟨by first | rfl | (congr 2; omega), by repeat (first | with_reducible assumption | with_reducible exact Ext.refl _ | with_reducible refine Ext.drew ?_ | with_reducible refine Ext.alloc ?_ _ | ((with_reducible refine Ext.setCell ?_ ?_ _); rotate_left; (· first | exact Nat.le_refl _ | (simp; done) | omega | (simp; omega))))⟩
set_option maxRecDepth 20000 in
set_option maxHeartbeats 1000000 in
theorem len_k7 (i : Int) (s : ByteArray) (lt : List Tr) (ns : List ByteArray) (ds : List Tr) (la da : Option Addr) (lc dc : Nat) (w : World) (hs : s.size ≤ 4096) (hI : I64 (s.size : Int)) :
    Calls Tryd.prog 37 #[.agg #[.int .i64 7, .int .i64 i, .string s, .slice la lt.length lc, .slice da ds.length dc]] w fun e w' => e = .returned (.int .i64 (([(7 : UInt8)] ++ (numL (zz s.size) ++ s.data.toList)).length : Nat)) ∧ Ext w w' := by
  obtain ⟨r, hr⟩ : ∃ x, ([(7 : UInt8)] ++ (numL (zz s.size) ++ s.data.toList)).length = x := ⟨_, rfl⟩
  rw [hr]
  have HI := Lib.hid hI
  have hx10 := numL_10 _ (zz_lt _ hI)
  clear hI
  obtain ⟨x, hx⟩ : ∃ x, (numL (zz (s.size : Int))).length = x := ⟨_, rfl⟩
  rw [hx] at hx10
  have HX := Lib.hid hx
  clear hx
  have hr2 : r = 1 + (x + s.size) := by rw [← hr, ← HX.out, List.length_append, List.length_append]; simp
  subst hr2
  clear hr
  go_enter Tryd.func37, Tryd.ntmps37
  go_wp2_with fail
  have hw1 := wrap_i64_val ((x : Int) + (s.size : Int)) (by omega) (by omega)
  have hw2 := wrap_i64_val (1 + ((x : Int) + (s.size : Int))) (by omega) (by omega)
  refine wp_region_mix (Ext (w.alloc (.cells #[.int .i64 7, .int .i64 i, .string s, .slice la lt.length lc, .slice da ds.length dc] 32))) [(true, 0), (true, 1), (true, 2), (true, 3), (true, 5), (true, 6), (true, 7), (false, 4), (true, 8), (true, 9), (true, 10)] (by kernel_rfl) (by kernel_rfl) (by kernel_rfl) (by kernel_rfl) ?hS ?_
  case hS => exact (Ext.refl _).drew
  repeat (first | (refine wpMix_q (v := ?_) rfl rfl ?_ ?_; rotate_left; (· intro wq hSq; have cq := hSq.cells; go_simp; try (with_reducible rfl)); simp only [Act.put, List.setIfInBounds_toArray, List.set_cons_zero, List.set_cons_succ, List.getElem_toArray, List.getElem_cons_zero, List.getElem_cons_succ]) | (refine wpMix_u rfl rfl ?_; simp only [Act.put, List.setIfInBounds_toArray, List.set_cons_zero, List.set_cons_succ, List.getElem_toArray, List.getElem_cons_zero, List.getElem_cons_succ]))
  refine wpMix_l rfl rfl (fun K hK => ?_)
  go_simp
  refine (numLength_ok _ _ HI.out).mono ?_
  rintro e w1 ⟨rfl, rfl⟩
  rw [HX.out]
  refine hK _ _ (Ext.refl _).drew ?_
  clear hK K
  repeat (first | (refine wpMix_q (v := ?_) rfl rfl ?_ ?_; rotate_left; (· intro wq hSq; have cq := hSq.cells; go_simp; try (with_reducible rfl)); simp only [Act.put, List.setIfInBounds_toArray, List.set_cons_zero, List.set_cons_succ, List.getElem_toArray, List.getElem_cons_zero, List.getElem_cons_succ]) | (refine wpMix_u rfl rfl ?_; simp only [Act.put, List.setIfInBounds_toArray, List.set_cons_zero, List.set_cons_succ, List.getElem_toArray, List.getElem_cons_zero, List.getElem_cons_succ]))
  refine wpMix_nil ?_
  go_wp2_with fail
  go_ret
  exact ⟨by first | rfl | (congr 2; omega), by repeat (first | with_reducible assumption | with_reducible exact Ext.refl _ | with_reducible refine Ext.drew ?_ | with_reducible refine Ext.alloc ?_ _ | ((with_reducible refine Ext.setCell ?_ ?_ _); rotate_left; (· first | exact Nat.le_refl _ | (simp; done) | omega | (simp; omega))))⟩
set_option maxRecDepth 20000 in
set_option maxHeartbeats 1000000 in
theorem len_k8 (i : Int) (s : ByteArray) (lt : List Tr) (ns : List ByteArray) (ds : List Tr) (la da : Option Addr) (lc dc : Nat) (w : World) (hs : s.size ≤ 4096) :
    Calls Tryd.prog 37 #[.agg #[.int .i64 8, .int .i64 i, .string s, .slice la lt.length lc, .slice da ds.length dc]] w fun e w' => e = .returned (.int .i64 (([(8 : UInt8)] ++ s.data.toList).length : Nat)) ∧ Ext w w' := by
  obtain ⟨r, hr⟩ : ∃ x, ([(8 : UInt8)] ++ s.data.toList).length = x := ⟨_, rfl⟩
  rw [hr]
  have hr2 : r = 1 + s.size := by rw [← hr, List.length_append]; simp
  subst hr2
  clear hr
  go_enter Tryd.func37, Tryd.ntmps37
  go_wp2_with fail
  go_ret
  exact ⟨by first | rfl | (congr 2; omega), by repeat (first | with_reducible assumption | with_reducible exact Ext.refl _ | with_reducible refine Ext.drew ?_ | with_reducible refine Ext.alloc ?_ _ | ((with_reducible refine Ext.setCell ?_ ?_ _); rotate_left; (· first | exact Nat.le_refl _ | (simp; done) | omega | (simp; omega))))⟩
set_option maxRecDepth 20000 in
set_option maxHeartbeats 1000000 in
theorem len_k6 (i : Int) (s : ByteArray) (lt : List Tr) (ns : List ByteArray) (ds : List Tr) (la da : Option Addr) (lc dc : Nat) (w : World) (hc1 : lt.length ≤ lc) (hc2 : lc ≤ maxLen) (hL : LRep w la 0 lt) (hsl : ∀ t ∈ lt, snd t = true) (ih : ∀ t ∈ lt, LenOk t) (hlen : ([(6 : UInt8)] ++ (numL (zz lt.length) ++ encL lt)).length ≤ 90000000000) (hI : I64 (lt.length : Int)) :
    Calls Tryd.prog 37 #[.agg #[.int .i64 6, .int .i64 i, .string s, .slice la lt.length lc, .slice da ds.length dc]] w fun e w' => e = .returned (.int .i64 (([(6 : UInt8)] ++ (numL (zz lt.length) ++ encL lt)).length : Nat)) ∧ Ext w w' := by
  obtain ⟨r, hr⟩ : ∃ x, ([(6 : UInt8)] ++ (numL (zz lt.length) ++ encL lt)).length = x := ⟨_, rfl⟩
  rw [hr]
  have HI := Lib.hid hI
  have hx10 := numL_10 _ (zz_lt _ hI)
  clear hI
  obtain ⟨x, hx⟩ : ∃ x, (numL (zz (lt.length : Int))).length = x := ⟨_, rfl⟩
  rw [hx] at hx10
  have HX := Lib.hid hx
  clear hx
  have hr2 : r = 1 + x + (encL lt).length := by rw [← hr, ← HX.out, List.length_append, List.length_append]; simp; omega
  have HR := Lib.hid hr2
  have hrb : r ≤ 90000000000 := by rw [← hr]; exact hlen
  clear hr hr2 hlen
  have HL := Lib.hid hL
  have HIH := Lib.hid ih
  have HSL := Lib.hid hsl
  clear hL ih hsl
  unfold maxLen at hc2
  go_enter Tryd.func37, Tryd.ntmps37
  go_wp2_with fail
  refine (numLength_ok _ _ HI.out).mono ?_
  rintro e w1 ⟨rfl, rfl⟩
  rw [HX.out]
  go_wp2_with fail
  go_loopw [3, 53] (fun b c wr => ∃ j y : Nat, j ≤ lt.length ∧ c = .int .i64 j ∧ b = .int .i64 y ∧ Hid (y = 1 + x + (encL (lt.take j)).length) ∧ Hid (Ext w wr)) (fun _ c _ => lt.length - (intOf c).toNat)
  case atStart => exact ⟨0, 1 + x, by omega, rfl, by go_num, by show _ = _; simp [encL], (Ext.refl w).alloc _⟩
  case round =>
    obtain ⟨j, y, hj, rfl, rfl, HY, HE⟩ := hrel
    by_cases hlt : j < lt.length
    · obtain ⟨bb, off, c0, c1, c2, c3', c4, rfl, e0, e1, e2, e3, e4, hv⟩ := LRep.at_ lt 0 j lt[j] HL.out (List.getElem?_eq_getElem hlt)
      obtain ⟨k', i', s', la', ln', lc', da', dn', dc', rfl, rfl, rfl, rfl, rfl⟩ := hv.shape5
      have hEr := HE.out
      have q0 := hEr.keep e0
      have q1 := hEr.keep e1
      have q2 := hEr.keep e2
      have q3 := hEr.keep e3
      have q4 := hEr.keep e4
      rw [Nat.zero_add] at q0 q1 q2 q3 q4
      have HV := Lib.hid (VRep.ext hEr _ _ hv)
      clear e0 e1 e2 e3 e4 hv hEr
      have hsn := encL_snoc (lt.take j) lt[j]
      rw [← List.take_succ_eq_append_getElem hlt] at hsn
      have hle := encL_take_le lt (j + 1)
      obtain ⟨p, hp⟩ : ∃ p, lt[j] = p := ⟨_, rfl⟩
      have hmem : p ∈ lt := by rw [← hp]; exact List.getElem_mem hlt
      rw [hp] at HV hsn
      obtain ⟨z, hz⟩ : ∃ z, (enc p).length = z := ⟨_, rfl⟩
      have hyz : y + z ≤ 90000000000 := by
        have := HY.out; have := HR.out; rw [hsn] at hle; simp only [List.length_append] at hle; omega
      have HY2 : Hid (y + z = 1 + x + (encL (lt.take (j + 1))).length) := by
        show _ = _
        have := HY.out; rw [hsn, List.length_append]; omega
      have HZ := Lib.hid hz
      clear hp hsn hle hz
      go_wp2_with fail
      refine (HIH.out p hmem _ _ (HSL.out p hmem) (VRep.ext ((Ext.refl wr).alloc _) _ _ HV.out) (by rw [HZ.out]; omega)).mono ?_
      rintro e w4 ⟨rfl, h4⟩
      rw [HZ.out]
      have HE4 := Lib.hid (HE.out.trans h4.of_alloc)
      clear h4
      go_wp2_with fail
      exact ⟨⟨j + 1, y + z, by omega, by go_num, by go_num, HY2, HE4⟩, by simp [intOf]; omega⟩
    · have hj2 : j = lt.length := by omega
      subst hj2
      have hyr : y = r := by rw [HY.out, HR.out, List.take_length]
      subst hyr
      go_wp2_with fail
      go_ret
      exact ⟨rfl, HE.out⟩
set_option maxRecDepth 20000 in
set_option maxHeartbeats 1000000 in
theorem len_k5 (i : Int) (s : ByteArray) (lt : List Tr) (ns : List ByteArray) (ds : List Tr) (la da : Option Addr) (lc dc : Nat) (w : World) (hln : ns.length = ds.length) (hc1 : ds.length ≤ dc) (hc2 : dc ≤ maxLen) (hL : DRep w da 0 ns ds) (hnm : ∀ n ∈ ns, n.size ≤ 32) (hsl : ∀ t ∈ ds, snd t = true) (ih : ∀ t ∈ ds, LenOk t) (hlen : ([(5 : UInt8)] ++ (numL (zz ds.length) ++ encF ns ds)).length ≤ 90000000000) (hI : I64 (ds.length : Int)) :
    Calls Tryd.prog 37 #[.agg #[.int .i64 5, .int .i64 i, .string s, .slice la lt.length lc, .slice da ds.length dc]] w fun e w' => e = .returned (.int .i64 (([(5 : UInt8)] ++ (numL (zz ds.length) ++ encF ns ds)).length : Nat)) ∧ Ext w w' := by
  obtain ⟨r, hr⟩ : ∃ x, ([(5 : UInt8)] ++ (numL (zz ds.length) ++ encF ns ds)).length = x := ⟨_, rfl⟩
  rw [hr]
  have HI := Lib.hid hI
  have hx10 := numL_10 _ (zz_lt _ hI)
  clear hI
  obtain ⟨x, hx⟩ : ∃ x, (numL (zz (ds.length : Int))).length = x := ⟨_, rfl⟩
  rw [hx] at hx10
  have HX := Lib.hid hx
  clear hx
  have hr2 : r = 1 + x + (encF ns ds).length := by rw [← hr, ← HX.out, List.length_append, List.length_append]; simp; omega
  have HR := Lib.hid hr2
  have hrb : r ≤ 90000000000 := by rw [← hr]; exact hlen
  clear hr hr2 hlen
  have HL := Lib.hid hL
  have HIH := Lib.hid ih
  have HSL := Lib.hid hsl
  have HNM := Lib.hid hnm
  clear hL ih hsl hnm
  unfold maxLen at hc2
  go_enter Tryd.func37, Tryd.ntmps37
  go_wp2_with fail
  refine (numLength_ok _ _ HI.out).mono ?_
  rintro e w1 ⟨rfl, rfl⟩
  rw [HX.out]
  go_wp2_with fail
  go_loopw [3, 73] (fun b c wr => ∃ j y : Nat, j ≤ ds.length ∧ c = .int .i64 j ∧ b = .int .i64 y ∧ Hid (y = 1 + x + (encF (ns.take j) (ds.take j)).length) ∧ Hid (Ext w wr)) (fun _ c _ => ds.length - (intOf c).toNat)
  case atStart => exact ⟨0, 1 + x, by omega, rfl, by go_num, by show _ = _; simp [encF], (Ext.refl w).alloc _⟩
  case round =>
    obtain ⟨j, y, hj, rfl, rfl, HY, HE⟩ := hrel
    by_cases hlt : j < ds.length
    · obtain ⟨bb, off, c0, c1, c2, c3', c4, rfl, hnm, en, e0, e1, e2, e3, e4, hv⟩ := DRep.at_ ns ds 0 j (ns[j]'(by omega)) ds[j] HL.out (List.getElem?_eq_getElem (by omega)) (List.getElem?_eq_getElem hlt)
      obtain ⟨k', i', s', la', ln', lc', da', dn', dc', rfl, rfl, rfl, rfl, rfl⟩ := hv.shape5
      have hEr := HE.out
      have qn := hEr.keep en
      have q0 := hEr.keep e0
      have q1 := hEr.keep e1
      have q2 := hEr.keep e2
      have q3 := hEr.keep e3
      have q4 := hEr.keep e4
      rw [Nat.zero_add] at qn q0 q1 q2 q3 q4
      have HV := Lib.hid (VRep.ext hEr _ _ hv)
      clear en e0 e1 e2 e3 e4 hv hEr
      have hsn := encF_snoc (ns.take j) (ds.take j) (ns[j]'(by omega)) ds[j] (by simp; omega)
      rw [← List.take_succ_eq_append_getElem hlt, ← List.take_succ_eq_append_getElem (by omega)] at hsn
      have hle := encF_take_le ns ds (j + 1)
      obtain ⟨p, hp⟩ : ∃ p, ds[j] = p := ⟨_, rfl⟩
      obtain ⟨nm, hn⟩ : ∃ n, ns[j]'(by omega) = n := ⟨_, rfl⟩
      have hmem : p ∈ ds := by rw [← hp]; exact List.getElem_mem hlt
      have hmn : nm ∈ ns := by rw [← hn]; exact List.getElem_mem (by omega)
      have h32 : nm.size ≤ 32 := HNM.out nm hmn
      rw [hp] at HV hsn
      rw [hn] at qn hsn hnm
      obtain ⟨z, hz⟩ : ∃ z, (enc p).length = z := ⟨_, rfl⟩
      obtain ⟨u, hu⟩ : ∃ z, (numL (zz nm.size)).length = z := ⟨_, rfl⟩
      have HIn := Lib.hid (I64_nat nm.size (by unfold maxLen; omega))
      have hu10 := numL_10 _ (zz_lt _ HIn.out)
      rw [hu] at hu10
      have hsn2 : (encF (ns.take (j + 1)) (ds.take (j + 1))).length = (encF (ns.take j) (ds.take j)).length + (u + nm.size + z) := by
        rw [hsn, List.length_append, List.length_append, List.length_append, hu, hz]; simp
      have hyz : y + (u + nm.size + z) ≤ 90000000000 := by
        have := HY.out; have := HR.out; omega
      have HY2 : Hid (y + (u + nm.size + z) = 1 + x + (encF (ns.take (j + 1)) (ds.take (j + 1))).length) := by
        show _ = _
        have := HY.out; omega
      have HZ := Lib.hid hz
      have HU := Lib.hid hu
      clear hp hn hsn hle hz hu hsn2
      have hw1 := wrap_i64_val ((u : Int) + (nm.size : Int)) (by omega) (by omega)
      have hw2 := wrap_i64_val ((u : Int) + (nm.size : Int) + (z : Int)) (by omega) (by omega)
      have hw3 := wrap_i64_val ((y : Int) + ((u : Int) + (nm.size : Int) + (z : Int))) (by omega) (by omega)
      go_wp2_with fail
      refine wp_region_mix (Ext (wr.alloc (.cells #[.string nm, .int .i64 k', .int .i64 i', .string s', .slice la' ln' lc', .slice da' dn' dc'] 60))) [(true, 0), (true, 1), (true, 2), (true, 3), (true, 5), (true, 6), (true, 7), (true, 9), (true, 10), (false, 4), (true, 8), (false, 11), (true, 12), (true, 13), (true, 14)] (by kernel_rfl) (by kernel_rfl) (by kernel_rfl) (by kernel_rfl) ?hS ?_
      case hS => exact (Ext.refl _).drew
      repeat (first | (refine wpMix_q (v := ?_) rfl rfl ?_ ?_; rotate_left; (· intro wq hSq; have cq := hSq.cells; go_simp; try (with_reducible rfl)); simp only [Act.put, List.setIfInBounds_toArray, List.set_cons_zero, List.set_cons_succ, List.getElem_toArray, List.getElem_cons_zero, List.getElem_cons_succ]) | (refine wpMix_u rfl rfl ?_; simp only [Act.put, List.setIfInBounds_toArray, List.set_cons_zero, List.set_cons_succ, List.getElem_toArray, List.getElem_cons_zero, List.getElem_cons_succ]))
      refine wpMix_l rfl rfl (fun K hK => ?_)
      go_simp
      refine (numLength_ok _ _ HIn.out).mono ?_
      rintro e w3 ⟨rfl, rfl⟩
      rw [HU.out]
      refine hK _ _ (Ext.refl _).drew ?_
      clear hK K
      repeat (first | (refine wpMix_q (v := ?_) rfl rfl ?_ ?_; rotate_left; (· intro wq hSq; have cq := hSq.cells; go_simp; try (with_reducible rfl)); simp only [Act.put, List.setIfInBounds_toArray, List.set_cons_zero, List.set_cons_succ, List.getElem_toArray, List.getElem_cons_zero, List.getElem_cons_succ]) | (refine wpMix_u rfl rfl ?_; simp only [Act.put, List.setIfInBounds_toArray, List.set_cons_zero, List.set_cons_succ, List.getElem_toArray, List.getElem_cons_zero, List.getElem_cons_succ]))
      refine wpMix_l rfl rfl (fun K hK => ?_)
      go_simp
      refine (HIH.out p hmem _ _ (HSL.out p hmem) (VRep.ext (((Ext.refl wr).alloc _).drew) _ _ HV.out) (by rw [HZ.out]; omega)).mono ?_
      rintro e w4 ⟨rfl, h4⟩
      rw [HZ.out]
      have HE5 := Lib.hid ((Ext.refl (wr.alloc (.cells #[.string nm, .int .i64 k', .int .i64 i', .string s', .slice la' ln' lc', .slice da' dn' dc'] 60))).drew.trans h4)
      refine hK _ _ HE5.out ?_
      clear hK K h4
      repeat (first | (refine wpMix_q (v := ?_) rfl rfl ?_ ?_; rotate_left; (· intro wq hSq; have cq := hSq.cells; go_simp; try (with_reducible rfl)); simp only [Act.put, List.setIfInBounds_toArray, List.set_cons_zero, List.set_cons_succ, List.getElem_toArray, List.getElem_cons_zero, List.getElem_cons_succ]) | (refine wpMix_u rfl rfl ?_; simp only [Act.put, List.setIfInBounds_toArray, List.set_cons_zero, List.set_cons_succ, List.getElem_toArray, List.getElem_cons_zero, List.getElem_cons_succ]))
      refine wpMix_nil ?_
      have HE4 := Lib.hid (HE.out.trans HE5.out.of_alloc)
      clear HE5
      go_wp2_with fail
      exact ⟨⟨j + 1, y + (u + nm.size + z), by omega, by go_num, by go_num, HY2, HE4⟩, by simp [intOf]; omega⟩
    · have hj2 : j = ds.length := by omega
      subst hj2
      have hyr : y = r := by rw [HY.out, HR.out, List.take_length, List.take_of_length_le (by omega)]
      subst hyr
      go_wp2_with fail
      go_ret
      exact ⟨rfl, HE.out⟩
theorem len_step (t : Tr) (ih : ∀ p, p.sz < t.sz → LenOk p) : LenOk t := by
  intro v w hsd hV hlen
  obtain ⟨k, i, s, lt, ns, ds⟩ := t
  unfold VRep at hV
  obtain ⟨la, lc, da, dc, rfl, ⟨hs, hk, hi⟩, hl1, hl2, hd1, hd2, hnd, hL, hD⟩ := hV
  obtain ⟨h1, h2, h3, h4⟩ := snd_list hsd
  have ih2 : ∀ t, t ∈ lt ∨ t ∈ ds → LenOk t := fun t ht => ih t (by rcases ht with h | h; exact Tr.sz_list h; exact Tr.sz_docs h)
  clear ih
  by_cases k1 : k = 1
  · subst k1; exact len_k1 i s lt ns ds la da lc dc w
  by_cases k2 : k = 2
  · subst k2; exact len_k2 i s lt ns ds la da lc dc w
  by_cases k3 : k = 3
  · subst k3; exact len_k3 i s lt ns ds la da lc dc w hi
  by_cases k4 : k = 4
  · subst k4; exact len_k4 i s lt ns ds la da lc dc w (by simp [leafOk] at h2; exact h2.1) (I64_nat _ hs)
  by_cases k5 : k = 5
  · subst k5
    have e : enc (.mk 5 i s lt ns ds) = [5] ++ (numL (zz ds.length) ++ encF ns ds) := by simp [enc]
    rw [e] at hlen ⊢
    exact len_k5 i s lt ns ds la da lc dc w hnd hd1.1 hd2 hD (fun n hn => nameB_le (sndF_names h4 hnd n hn)) (fun t ht => sndF_mem h4 t ht) (fun t ht => ih2 t (.inr ht)) hlen (I64_nat _ (by omega))
  by_cases k6 : k = 6
  · subst k6
    have e : enc (.mk 6 i s lt ns ds) = [6] ++ (numL (zz lt.length) ++ encL lt) := by simp [enc]
    rw [e] at hlen ⊢
    exact len_k6 i s lt ns ds la da lc dc w hl1.1 hl2 hL (fun t ht => sndL_mem h3 t ht) (fun t ht => ih2 t (.inl ht)) hlen (I64_nat _ (by omega))
  by_cases k7 : k = 7
  · subst k7; exact len_k7 i s lt ns ds la da lc dc w (by simpa [leafOk] using h2) (I64_nat _ hs)
  by_cases k8 : k = 8
  · subst k8; exact len_k8 i s lt ns ds la da lc dc w (by simp [leafOk] at h2; omega)
  by_cases k9 : k = 9
  · subst k9; exact len_k9 i s lt ns ds la da lc dc w
  by_cases k10 : k = 10
  · subst k10; exact len_k10 i s lt ns ds la da lc dc w hi
  by_cases k11 : k = 11
  · subst k11; exact len_k11 i s lt ns ds la da lc dc w
  exfalso
  simp [leafOk, k1, k2, k3, k4, k5, k6, k7, k8, k9, k10, k11] at h2
theorem len_ok (t : Tr) : LenOk t := by
  have : ∀ n (t : Tr), t.sz = n → LenOk t := by
    intro n
    induction n using Nat.strongRecOn with
    | _ n ih => intro t ht; exact len_step t (fun p hp => ih p.sz (by rw [← ht]; exact hp) p rfl)
  exact this _ t rfl
theorem encR_len (t : Tr) (h : validB t = true) : ((encR t).1.size : Int) = ((enc t).length : Nat) ∧ (encR t).2 = 0 := by unfold encR; rw [h]; exact ⟨rfl, rfl⟩
set_option maxRecDepth 20000 in
set_option maxHeartbeats 1000000 in
theorem Length_ok (t : Tr) (v : Value) (w : World) (hV : VRep w t v) (hT : Tabs w) : Calls Tryd.prog 25 #[v] w fun e w' => e = .returned (.tuple #[.int .i64 ((encR t).1.size : Nat), .int .i64 (encR t).2]) ∧ Ext w w' := by
  obtain ⟨k, i, s, la, ln, lc, da, dn, dc, rfl⟩ := hV.shape
  have HV := Lib.hid hV
  have HT := Lib.hid hT
  clear hV hT
  go_enter Tryd.func25, Tryd.ntmps25
  go_wp2_with fail
  refine (Valid_ok t _ _ (VRep.ext ((Ext.refl w).alloc _) _ _ HV.out) (HT.out.ext ((Ext.refl w).alloc _))).mono ?_
  rintro e w1 ⟨rfl, h1⟩
  have k1 := h1.ownc
  have l1 := h1.lt
  cases hb : validB t
  · have HF : Hid (encR t = (⟨#[]⟩, 8)) := by show _ = _; unfold encR; rw [hb]; rfl
    clear hb
    go_wp2_with fail
    go_ret2
    exact ⟨by rw [HF.out]; rfl, h1.of_alloc⟩
  · have HF := Lib.hid (encR_len t hb)
    have HS := Lib.hid (enc_small HV.out hb)
    clear hb
    go_wp2_with fail
    refine (len_ok t _ _ HS.out.2 (VRep.ext h1.of_alloc _ _ HV.out) (by have := HS.out.1; omega)).mono ?_
    rintro e w2 ⟨rfl, h2⟩
    go_wp2_with fail
    go_ret2
    exact ⟨by rw [HF.out.1, HF.out.2]; rfl, h1.of_alloc.trans h2⟩
end Go.Proofs.YtdoofmohoamkbaaDoor
set_option linter.unusedSimpArgs false
set_option linter.unusedVariables false
namespace Go.Proofs.YtdoofmohoamkbaaDoor
theorem rdN_canon : ∀ (l : List UInt8) (k acc u k' : Nat), k ≤ 9 → rdN k acc l = .ok (u, k') → ∃ v, u = acc + v * 128 ^ k ∧ k < k' ∧ l.take (k' - k) = numL v ∧ (0 < k → 0 < v) := by
  intro l
  induction l with
  | nil => intro k acc u k' _ h; simp [rdN] at h
  | cons b r ih =>
    intro k acc u k' hk h
    simp only [rdN] at h
    split at h
    · cases h
    rename_i hb
    have hb2 := b.toNat_lt
    split at h
    · rename_i h128
      injection h with h; injection h with h1 h2
      refine ⟨b.toNat, by rw [← h1, Nat.mod_eq_of_lt h128], by omega, ?_, fun h0 => ?_⟩
      · rw [← h2, show k + 1 - k = 1 by omega, numL_lo h128]
        simp
      · rcases Nat.eq_zero_or_pos b.toNat with e | e
        · exact absurd (.inr ⟨h0, e⟩) hb
        · exact e
    · rename_i h128
      have hk9 : k < 9 := by
        rcases Nat.lt_or_ge k 9 with h' | h'
        · exact h'
        · exact absurd (.inl ⟨by omega, by omega⟩) hb
      obtain ⟨v, e1, e2, e3, e4⟩ := ih (k + 1) _ u k' (by omega) h
      have hv := e4 (by omega)
      refine ⟨b.toNat % 128 + 128 * v, ?_, by omega, ?_, fun _ => by omega⟩
      · rw [e1, Nat.pow_succ, Nat.add_mul, Nat.mul_comm (128 ^ k) 128, ← Nat.mul_assoc, Nat.mul_comm v 128, Nat.add_assoc]
      · rw [numL_hi (by omega), show (b.toNat % 128 + 128 * v) % 128 + 128 = b.toNat by omega, show (b.toNat % 128 + 128 * v) / 128 = v by omega, show k' - k = (k' - (k + 1)) + 1 by omega, List.take_succ_cons, e3]
        simp
theorem numR_canon {s : ByteArray} {p : Nat} {n : Int} {q : Nat} (h : numR s p = .ok (n, q)) : p < q ∧ (rest s p).take (q - p) = numL (zz n) := by
  unfold numR at h
  cases hr : rdN 0 0 (rest s p) with
  | error e => rw [hr] at h; cases h
  | ok uk =>
    obtain ⟨u, k⟩ := uk
    rw [hr] at h
    injection h with h; injection h with h1 h2
    obtain ⟨v, e1, e2, e3, _⟩ := rdN_canon _ _ _ _ _ (by omega) hr
    have ev : u = v := by simpa using e1
    subst ev
    refine ⟨by omega, ?_⟩
    rw [← h1, zz_unzz, ← h2, show p + k - p = k - 0 by omega]
    exact e3
/-- the bytes from p to q are l -/
def Seg (s : ByteArray) (p q : Nat) (l : List UInt8) : Prop := p ≤ q ∧ q ≤ s.size ∧ (rest s p).take (q - p) = l
theorem Seg.nil {s : ByteArray} {p : Nat} (h : p ≤ s.size) : Seg s p p [] := ⟨Nat.le_refl _, h, by simp⟩
theorem Seg.app {s : ByteArray} {p q r : Nat} {a b : List UInt8} (h : Seg s p q a) (k : Seg s q r b) : Seg s p r (a ++ b) := by
  obtain ⟨h1, h2, h3⟩ := h
  obtain ⟨k1, k2, k3⟩ := k
  refine ⟨by omega, k2, ?_⟩
  rw [show r - p = (q - p) + (r - q) by omega, List.take_add, h3, rest_drop, show p + (q - p) = q by omega, k3]
theorem Seg.num {s : ByteArray} {p : Nat} {n : Int} {q : Nat} (hp : p ≤ s.size) (h : numR s p = .ok (n, q)) : Seg s p q (numL (zz n)) :=
  ⟨by have := (numR_le hp h); omega, (numR_le hp h).2, (numR_canon h).2⟩
theorem countR_num {s : ByteArray} {p : Nat} {n : Int} {q : Nat} (h : countR s p = .ok (n, q)) : numR s p = .ok (n, q) ∧ 0 ≤ n := by
  unfold countR countF at h
  cases hn : numR s p with
  | error e => rw [hn] at h; cases h
  | ok nq =>
    obtain ⟨m, r⟩ := nq
    rw [hn] at h
    simp only at h
    split at h
    · rename_i h0
      injection h with h; injection h with h1 h2
      subst h1 h2
      exact ⟨rfl, h0⟩
    · cases h
theorem Seg.take {s : ByteArray} {p n : Nat} {t : ByteArray} {q : Nat} (hp : p ≤ s.size) (h : takeS s p n = .ok (t, q)) : Seg s p q t.data.toList ∧ t.size = n := by
  have h1 := takeS_le hp h
  unfold takeS at h
  split at h
  · injection h with h; injection h with h2 h3
    refine ⟨⟨h1.1, h1.2.1, ?_⟩, h1.2.2.1⟩
    rw [← h2, ByteArray.data_extract, h1.2.2.2, show p + n - p = n by omega]
    unfold rest
    simp
  · cases h
theorem Seg.text {s : ByteArray} {p : Nat} {t : ByteArray} {q : Nat} (hp : p ≤ s.size) (h : textS s p = .ok (t, q)) : Seg s p q (numL (zz t.size) ++ t.data.toList) ∧ t.size ≤ 4096 := by
  unfold textS textF at h
  cases hn : countR s p with
  | error e => rw [hn] at h; cases h
  | ok nq =>
    obtain ⟨m, r⟩ := nq
    rw [hn] at h
    simp only at h
    obtain ⟨h1, h0⟩ := countR_num hn
    have h2 := numR_le hp h1
    split at h
    · obtain ⟨h3, h4⟩ := Seg.take h2.2 h
      have e : (t.size : Int) = m := by omega
      rw [e]
      exact ⟨(Seg.num hp h1).app h3, by omega⟩
    · cases h
theorem Seg.byte {s : ByteArray} {p : Nat} (h : p < s.size) : Seg s p (p + 1) [UInt8.ofNat (byteN s p)] := by
  refine ⟨by omega, by omega, ?_⟩
  rw [show p + 1 - p = 1 by omega, rest_cons s p h]
  unfold byteN
  rw [List.getD_eq_getElem?_getD, byte_at s p h]
  simp
/-- what a reader reads -/
def Reads (s : ByteArray) (d : Nat) (f : Nat → Nat → Except Int (Tr × Nat × Nat)) : Prop := ∀ p bg t q bg', p ≤ s.size → bg ≤ 1024 → f p bg = .ok (t, q, bg') → Seg s p q (enc t) ∧ snd t = true ∧ bg' = bg + t.cnt ∧ t.dep ≤ d
theorem rdL_enc {s : ByteArray} {d : Nat} {f : Nat → Nat → Except Int (Tr × Nat × Nat)} (hg : Goes s f) (hf : Reads s d f) : ∀ (n p bg : Nat) (acc l : List Tr) (q bg' : Nat), p ≤ s.size → bg ≤ 1024 → rdL f n p bg acc = .ok (l, q, bg') →
    ∃ nw, l = acc ++ nw ∧ nw.length = n ∧ Seg s p q (encL nw) ∧ sndL nw = true ∧ bg' = bg + Tr.cntL nw ∧ Tr.depL nw ≤ d
  | 0, p, bg, acc, l, q, bg', hp, hb, h => by
    simp only [rdL] at h; injection h with h; injection h with h1 h2; injection h2 with h2 h3
    subst h1 h2 h3
    exact ⟨[], by simp, rfl, by simpa [encL] using Seg.nil hp, rfl, by simp [Tr.cntL], by simp [Tr.depL]⟩
  | n + 1, p, bg, acc, l, q, bg', hp, hb, h => by
    simp only [rdL] at h
    cases he : f p bg with
    | error e => rw [he] at h; cases h
    | ok x =>
      obtain ⟨t, q1, b1⟩ := x
      rw [he] at h
      have h1 := hg _ _ _ _ _ hp hb he
      obtain ⟨s1, s2, s3, s4⟩ := hf _ _ _ _ _ hp hb he
      obtain ⟨nw, e1, e2, e3, e4, e5, e6⟩ := rdL_enc hg hf n q1 b1 _ _ _ _ h1.1 h1.2.2 h
      refine ⟨t :: nw, by rw [e1]; simp, by simp [e2], ?_, by simp [sndL, s2, e4], by simp only [Tr.cntL]; omega, by simp only [Tr.depL]; omega⟩
      simpa only [encL] using s1.app e3
theorem rdF_enc {s : ByteArray} {d : Nat} {f : Nat → Nat → Except Int (Tr × Nat × Nat)} (hg : Goes s f) (hf : Reads s d f) : ∀ (n p bg : Nat) (ns : List ByteArray) (ds : List Tr) (l : List ByteArray × List Tr) (q bg' : Nat), p ≤ s.size → bg ≤ 1024 → rdF s f n p bg ns ds = .ok (l, q, bg') →
    ∃ nn nd, l = (ns ++ nn, ds ++ nd) ∧ nn.length = n ∧ nd.length = n ∧ Seg s p q (encF nn nd) ∧ sndF ns.reverse nn nd = true ∧ bg' = bg + Tr.cntL nd ∧ Tr.depL nd ≤ d
  | 0, p, bg, ns, ds, l, q, bg', hp, hb, h => by
    simp only [rdF] at h; injection h with h; injection h with h1 h2; injection h2 with h2 h3
    subst h1 h2 h3
    exact ⟨[], [], by simp, rfl, rfl, by simpa [encF] using Seg.nil hp, by simp [sndF], by simp [Tr.cntL], by simp [Tr.depL]⟩
  | n + 1, p, bg, ns, ds, l, q, bg', hp, hb, h => by
    simp only [rdF] at h
    cases hn : numR s p with
    | error e => rw [hn] at h; cases h
    | ok mq =>
      obtain ⟨m, q0⟩ := mq
      rw [hn] at h
      simp only at h
      have h0 := numR_le hp hn
      split at h
      · rename_i hm
        cases ht : takeS s q0 m.toNat with
        | error e => rw [ht] at h; cases h
        | ok tq =>
          obtain ⟨nm, q2⟩ := tq
          rw [ht] at h
          simp only at h
          obtain ⟨g1, g2⟩ := Seg.take h0.2 ht
          have g3 := takeS_le h0.2 ht
          split at h
          · rename_i hnm
            simp only [Bool.and_eq_true, Bool.not_eq_true'] at hnm
            cases he : f q2 bg with
            | error e => rw [he] at h; cases h
            | ok x =>
              obtain ⟨t, q1, b1⟩ := x
              rw [he] at h
              have h1 := hg _ _ _ _ _ g3.2.1 hb he
              obtain ⟨s1, s2, s3, s4⟩ := hf _ _ _ _ _ g3.2.1 hb he
              obtain ⟨nn, nd, e1, e2, e3, e4, e5, e6, e7⟩ := rdF_enc hg hf n q1 b1 _ _ _ _ _ h1.1 h1.2.2 h
              refine ⟨nm :: nn, t :: nd, by rw [e1]; simp, by simp [e2], by simp [e3], ?_, ?_, by simp only [Tr.cntL]; omega, by simp only [Tr.depL]; omega⟩
              · have e : (nm.size : Int) = m := by omega
                simp only [encF]
                rw [e]
                exact (((Seg.num hp hn).app g1).app s1).app e4
              · simp only [sndF, hnm.1, s2, Bool.true_and, Bool.and_true]
                have : hasN ns.reverse nm = false := hnm.2
                rw [this]
                simpa using e5
          · cases h
      · cases h
theorem leaf_ok (s : ByteArray) (k : Nat) (i : Int) (x : ByteArray) (hh : headOk k i x 0 0 = true) (hl : leafOk k i x = true) (h6 : ¬ k = 6) (h5 : ¬ k = 5) (d : Nat) : snd (leafT k i x) = true ∧ (leafT k i x).cnt = 1 ∧ (leafT k i x).dep ≤ d + 1 := by
  unfold leafT
  refine ⟨by simp [snd, hh, hl, sndL, sndF], ?_, ?_⟩
  · simp only [Tr.cnt]; rw [if_neg (by omega), if_neg (by omega)]
  · simp only [Tr.dep]; rw [if_neg (by omega), if_neg (by omega)]; omega
theorem rdT_enc (s : ByteArray) : ∀ d, Reads s d (rdT s d)
  | 0 => by intro p bg t q bg' _ _ h; simp [rdT] at h
  | d + 1 => by
    intro p bg t q bg' hp hb h
    have ih := rdT_enc s d
    have ig := rdT_goes s d
    rw [rdT_eq] at h
    by_cases c0 : 1024 ≤ bg
    · rw [if_pos c0] at h; cases h
    rw [if_neg c0] at h
    by_cases c1 : s.size ≤ p
    · rw [if_pos c1] at h; cases h
    rw [if_neg c1] at h
    have hB := Seg.byte (s := s) (p := p) (by omega)
    by_cases c2 : byteN s p = 1 ∨ byteN s p = 2 ∨ byteN s p = 11
    · rw [if_pos c2] at h
      injection h with h; injection h with h1 h2; injection h2 with h2 h3
      subst h1 h2 h3
      rcases c2 with c | c | c
      · rw [c] at hB ⊢; obtain ⟨a1, a2, a3⟩ := leaf_ok s 1 0 ⟨#[]⟩ (by decide) (by decide) (by omega) (by omega) d; exact ⟨by simpa [leafT, enc] using hB, a1, by rw [a2], a3⟩
      · rw [c] at hB ⊢; obtain ⟨a1, a2, a3⟩ := leaf_ok s 2 0 ⟨#[]⟩ (by decide) (by decide) (by omega) (by omega) d; exact ⟨by simpa [leafT, enc] using hB, a1, by rw [a2], a3⟩
      · rw [c] at hB ⊢; obtain ⟨a1, a2, a3⟩ := leaf_ok s 11 0 ⟨#[]⟩ (by decide) (by decide) (by omega) (by omega) d; exact ⟨by simpa [leafT, enc] using hB, a1, by rw [a2], a3⟩
    rw [if_neg c2] at h
    by_cases c3 : byteN s p = 3
    · rw [if_pos c3] at h
      rw [c3] at hB
      cases hn : numR s (p + 1) with
      | error e => rw [hn] at h; cases h
      | ok x =>
        obtain ⟨n, q0⟩ := x
        rw [hn] at h; simp only [leafI] at h
        injection h with h; injection h with h1 h2; injection h2 with h2 h3
        subst h1 h2 h3
        obtain ⟨a1, a2, a3⟩ := leaf_ok s 3 n ⟨#[]⟩ (by simp [headOk, bytes_e]) (by simp [leafOk]) (by omega) (by omega) d
        exact ⟨by simpa [leafT, enc] using hB.app (Seg.num (by omega) hn), a1, by rw [a2], a3⟩
    rw [if_neg c3] at h
    by_cases c4 : byteN s p = 10
    · rw [if_pos c4] at h
      rw [c4] at hB
      cases hn : countR s (p + 1) with
      | error e => rw [hn] at h; cases h
      | ok x =>
        obtain ⟨n, q0⟩ := x
        rw [hn] at h; simp only [leafI] at h
        injection h with h; injection h with h1 h2; injection h2 with h2 h3
        subst h1 h2 h3
        obtain ⟨g1, g2⟩ := countR_num hn
        obtain ⟨a1, a2, a3⟩ := leaf_ok s 10 n ⟨#[]⟩ (by simp [headOk, bytes_e]) (by simp [leafOk, g2]) (by omega) (by omega) d
        exact ⟨by simpa [leafT, enc] using hB.app (Seg.num (by omega) g1), a1, by rw [a2], a3⟩
    rw [if_neg c4] at h
    by_cases c5 : byteN s p = 9
    · rw [if_pos c5] at h
      rw [c5] at hB
      by_cases b1 : s.size ≤ p + 1
      · rw [if_pos b1] at h; cases h
      rw [if_neg b1] at h
      by_cases b2 : 1 < byteN s (p + 1)
      · rw [if_pos b2] at h; cases h
      rw [if_neg b2] at h
      injection h with h; injection h with h1 h2; injection h2 with h2 h3
      subst h1 h2 h3
      obtain ⟨a1, a2, a3⟩ := leaf_ok s 9 (byteN s (p + 1)) ⟨#[]⟩ (by simp [headOk, bytes_e]) (by simp [leafOk]; omega) (by omega) (by omega) d
      exact ⟨by simpa [leafT, enc] using hB.app (Seg.byte (s := s) (p := p + 1) (by omega)), a1, by rw [a2], a3⟩
    rw [if_neg c5] at h
    by_cases c6 : byteN s p = 4
    · rw [if_pos c6] at h
      rw [c6] at hB
      cases hn : textS s (p + 1) with
      | error e => rw [hn] at h; cases h
      | ok x =>
        obtain ⟨n, q0⟩ := x
        rw [hn] at h; simp only [leafU] at h
        obtain ⟨g1, g2⟩ := Seg.text (by omega) hn
        split at h
        · rename_i hu
          injection h with h; injection h with h1 h2; injection h2 with h2 h3
          subst h1 h2 h3
          obtain ⟨a1, a2, a3⟩ := leaf_ok s 4 0 n (by simp [headOk]) (by simp [leafOk, g2, hu]) (by omega) (by omega) d
          exact ⟨by simpa [leafT, enc] using hB.app g1, a1, by rw [a2], a3⟩
        · cases h
    rw [if_neg c6] at h
    by_cases c7 : byteN s p = 7
    · rw [if_pos c7] at h
      rw [c7] at hB
      cases hn : textS s (p + 1) with
      | error e => rw [hn] at h; cases h
      | ok x =>
        obtain ⟨n, q0⟩ := x
        rw [hn] at h; simp only [leafS] at h
        obtain ⟨g1, g2⟩ := Seg.text (by omega) hn
        injection h with h; injection h with h1 h2; injection h2 with h2 h3
        subst h1 h2 h3
        obtain ⟨a1, a2, a3⟩ := leaf_ok s 7 0 n (by simp [headOk]) (by simp [leafOk, g2]) (by omega) (by omega) d
        exact ⟨by simpa [leafT, enc] using hB.app g1, a1, by rw [a2], a3⟩
    rw [if_neg c7] at h
    by_cases c8 : byteN s p = 8
    · rw [if_pos c8] at h
      rw [c8] at hB
      cases hn : takeS s (p + 1) 12 with
      | error e => rw [hn] at h; cases h
      | ok x =>
        obtain ⟨n, q0⟩ := x
        rw [hn] at h; simp only [leafS] at h
        obtain ⟨g1, g2⟩ := Seg.take (by omega) hn
        injection h with h; injection h with h1 h2; injection h2 with h2 h3
        subst h1 h2 h3
        obtain ⟨a1, a2, a3⟩ := leaf_ok s 8 0 n (by simp [headOk]) (by simp [leafOk, g2]) (by omega) (by omega) d
        exact ⟨by simpa [leafT, enc] using hB.app g1, a1, by rw [a2], a3⟩
    rw [if_neg c8] at h
    by_cases c9 : byteN s p = 6
    · rw [if_pos c9] at h
      rw [c9] at hB
      cases hn : countR s (p + 1) with
      | error e => rw [hn] at h; cases h
      | ok x =>
        obtain ⟨n, q0⟩ := x
        rw [hn, listR_ok] at h
        obtain ⟨g1, g2⟩ := countR_num hn
        have g3 := numR_le (by omega) g1
        cases hl : rdL (rdT s d) n.toNat q0 (bg + 1) [] with
        | error e => rw [hl] at h; cases h
        | ok y =>
          obtain ⟨l, q2, b2⟩ := y
          rw [hl] at h; simp only [listE] at h
          obtain ⟨nw, e1, e2, e3, e4, e5, e6⟩ := rdL_enc ig ih _ _ _ _ _ _ _ g3.2 (by omega) hl
          injection h with h; injection h with h1 h2; injection h2 with h2 h3
          subst h1 h2 h3
          rw [List.nil_append] at e1
          subst e1
          have e : (l.length : Int) = n := by omega
          refine ⟨?_, by simp [snd, headOk, leafOk, bytes_e, e4, sndF], by simp only [Tr.cnt]; rw [if_pos trivial]; omega, by simp only [Tr.dep]; rw [if_pos trivial]; omega⟩
          have := (hB.app (Seg.num (by omega) g1)).app e3
          simpa [enc, e] using this
    rw [if_neg c9] at h
    by_cases c10 : byteN s p = 5
    · rw [if_pos c10] at h
      rw [c10] at hB
      cases hn : countR s (p + 1) with
      | error e => rw [hn] at h; cases h
      | ok x =>
        obtain ⟨n, q0⟩ := x
        rw [hn] at h; simp only [fldR] at h
        obtain ⟨g1, g2⟩ := countR_num hn
        have g3 := numR_le (by omega) g1
        cases hl : rdF s (rdT s d) n.toNat q0 (bg + 1) [] [] with
        | error e => rw [hl] at h; cases h
        | ok y =>
          obtain ⟨⟨ns, ds⟩, q2, b2⟩ := y
          rw [hl] at h; simp only [docE] at h
          obtain ⟨nn, nd, e1, e2, e3, e4, e5, e6, e7⟩ := rdF_enc ig ih _ _ _ _ _ _ _ _ g3.2 (by omega) hl
          injection h with h; injection h with h1 h2; injection h2 with h2 h3
          subst h1 h2 h3
          simp only [List.nil_append, Prod.mk.injEq] at e1
          obtain ⟨rfl, rfl⟩ := e1
          have e : (ds.length : Int) = n := by omega
          refine ⟨?_, by simpa [snd, headOk, leafOk, bytes_e, sndL] using e5, by simp only [Tr.cnt]; rw [if_neg (by decide), if_pos trivial]; omega, by simp only [Tr.dep]; rw [if_neg (by decide), if_pos trivial]; omega⟩
          have := (hB.app (Seg.num (by omega) g1)).app e4
          simpa [enc, e] using this
    rw [if_neg c10] at h
    cases h
end Go.Proofs.YtdoofmohoamkbaaDoor
set_option linter.unusedSimpArgs false
set_option linter.unusedVariables false
namespace Go.Proofs.YtdoofmohoamkbaaDoor
mutual
/-- names and fields go together, integers are integers -/
def Tr.Ok : Tr → Prop | .mk _ i _ l ns ds => ns.length = ds.length ∧ I64 i ∧ Tr.OkL l ∧ Tr.OkL ds
def Tr.OkL : List Tr → Prop | [] => True | t :: r => Tr.Ok t ∧ Tr.OkL r
end
mutual
theorem VRep.trok {w : World} : ∀ (t : Tr) (v : Value), VRep w t v → t.Ok
  | .mk k i s l ns ds, v, hv => by
    unfold VRep at hv
    unfold Tr.Ok
    obtain ⟨la, lc, da, dc, h1, h2, h3, h4, h5, h6, h7, h8, h9⟩ := hv
    exact ⟨h7, h2.2.2, LRep.trok la 0 l h8, DRep.trok da 0 ns ds h9⟩
theorem LRep.trok {w : World} (a : Option Addr) : ∀ (o : Nat) (l : List Tr), LRep w a o l → Tr.OkL l
  | _, [], _ => by unfold Tr.OkL; trivial
  | o, t :: r, hl => by
    unfold LRep at hl
    unfold Tr.OkL
    obtain ⟨⟨b, off, c0, c1, c2, c3, c4, h0, h1, h2, h3, h4, h5, h6⟩, hr⟩ := hl
    exact ⟨VRep.trok t _ h6, LRep.trok a (o + 5) r hr⟩
theorem DRep.trok {w : World} (a : Option Addr) : ∀ (o : Nat) (ns : List ByteArray) (l : List Tr), DRep w a o ns l → Tr.OkL l
  | _, _, [], _ => by unfold Tr.OkL; trivial
  | _, [], _ :: _, hl => by unfold DRep at hl; exact hl.elim
  | o, n :: nr, t :: r, hl => by
    unfold DRep at hl
    unfold Tr.OkL
    obtain ⟨⟨b, off, c0, c1, c2, c3, c4, h0, hn, h1, h2, h3, h4, h5, h6, h7⟩, hr⟩ := hl
    exact ⟨VRep.trok t _ h7, DRep.trok a (o + 6) nr r hr⟩
end
theorem Tr.OkL_mem {l : List Tr} (h : Tr.OkL l) : ∀ t ∈ l, t.Ok := by
  induction l with
  | nil => intro t ht; cases ht
  | cons x r ih =>
    unfold Tr.OkL at h
    intro t ht
    rcases List.mem_cons.1 ht with rfl | ht
    · exact h.1
    · exact ih h.2 t ht
/-- from p on lies l -/
def Full (s : ByteArray) (p : Nat) (l : List UInt8) : Prop := ∃ r, rest s p = l ++ r
/-- from p on lies a beginning of l -/
def Shrt (s : ByteArray) (p : Nat) (l : List UInt8) : Prop := ∃ r, r ≠ [] ∧ l = rest s p ++ r
theorem Full.app {s : ByteArray} {p : Nat} {a b : List UInt8} (h : Full s p (a ++ b)) : Full s p a ∧ Full s (p + a.length) b := by
  obtain ⟨r, h⟩ := h
  refine ⟨⟨b ++ r, by rw [h]; simp⟩, r, ?_⟩
  rw [← rest_drop, h]; simp
theorem Full.ne {s : ByteArray} {p : Nat} {a : UInt8} {l : List UInt8} (h : Full s p (a :: l)) : p < s.size := by
  obtain ⟨r, h⟩ := h
  have := congrArg List.length h
  rw [rest_len] at this
  simp at this; omega
theorem Shrt.app {s : ByteArray} {p : Nat} {a b : List UInt8} (h : Shrt s p (a ++ b)) : Shrt s p a ∨ (Full s p a ∧ Shrt s (p + a.length) b) := by
  obtain ⟨r, hr, h⟩ := h
  rcases List.append_eq_append_iff.1 h with ⟨x, h1, h2⟩ | ⟨x, h1, h2⟩
  · refine .inr ⟨⟨x, h1⟩, r, hr, ?_⟩
    rw [← rest_drop, h1]; simpa using h2
  · cases x with
    | nil =>
      refine .inr ⟨⟨[], by simpa using h1.symm⟩, r, hr, ?_⟩
      have e : rest s p = a := by simpa using h1.symm
      rw [← rest_drop, e]; simpa using h2.symm
    | cons y x => exact .inl ⟨y :: x, by simp, h1⟩
theorem Shrt.one {s : ByteArray} {p : Nat} {b : UInt8} (h : Shrt s p [b]) : s.size ≤ p := by
  obtain ⟨r, hr, h⟩ := h
  have := congrArg List.length h
  rw [List.length_append, rest_len] at this
  have : 0 < r.length := List.length_pos_iff.2 hr
  simp at *; omega
theorem Full.one {s : ByteArray} {p : Nat} {b : UInt8} (h : Full s p [b]) : p < s.size ∧ byteN s p = b.toNat := by
  have hp := h.ne
  obtain ⟨r, h⟩ := h
  refine ⟨hp, ?_⟩
  rw [rest_cons s p hp] at h
  injection h with h1 h2
  unfold byteN
  rw [List.getD_eq_getElem?_getD, byte_at s p hp, ← h1]
  simp
theorem rdN_short : ∀ (u k acc : Nat) (l r : List UInt8), r ≠ [] → numL u = l ++ r → k ≤ 9 → (0 < k → 0 < u) → u * 128 ^ k < 18446744073709551616 → rdN k acc l = .error 5 := by
  intro u
  induction u using Nat.strongRecOn with
  | _ u ih =>
    intro k acc l r hr h hk h0 hu
    cases l with
    | nil => rfl
    | cons b l =>
      by_cases hlt : u < 128
      · rw [numL_lo hlt] at h
        simp only [List.cons_append, List.cons.injEq] at h
        have := h.2.symm
        simp only [List.append_eq_nil_iff] at this
        exact absurd this.2 hr
      · rw [numL_hi hlt] at h
        simp only [List.cons_append, List.cons.injEq] at h
        obtain ⟨h1, h2⟩ := h
        have hb : b.toNat = u % 128 + 128 := by rw [← h1, UInt8.toNat_ofNat']; omega
        have hk9 : k < 9 := by
          rcases Nat.lt_or_ge k 9 with h | h
          · exact h
          · have e : k = 9 := by omega
            subst e
            have h2 : 128 * 128 ^ 9 ≤ u * 128 ^ 9 := Nat.mul_le_mul_right _ (by omega)
            exact absurd (Nat.lt_of_le_of_lt h2 hu) (by decide)
        simp only [rdN, hb]
        rw [if_neg (by omega), if_neg (by omega)]
        refine ih (u / 128) (by omega) (k + 1) _ l r hr h2 (by omega) (by omega) ?_
        have e : u / 128 * 128 ^ (k + 1) ≤ u * 128 ^ k := by
          rw [Nat.pow_succ, Nat.mul_comm (128 ^ k) 128, ← Nat.mul_assoc]
          exact Nat.mul_le_mul_right _ (by omega)
        omega
theorem num_full {s : ByteArray} {p : Nat} {n : Int} (hn : I64 n) (h : Full s p (numL (zz n))) : numR s p = .ok (n, p + (numL (zz n)).length) := by
  obtain ⟨r, h⟩ := h
  unfold numR
  rw [h, rdN_numL (zz n) 0 0 _ (by omega) (by omega) (by have h1 := zz_lt n hn; unfold U64 at h1; simpa using h1)]
  simp [unzz_zz]
theorem num_shrt {s : ByteArray} {p : Nat} {n : Int} (hn : I64 n) (h : Shrt s p (numL (zz n))) : numR s p = .error 5 := by
  obtain ⟨r, hr, h⟩ := h
  unfold numR
  rw [rdN_short (zz n) 0 0 _ r hr h (by omega) (by omega) (by have h1 := zz_lt n hn; unfold U64 at h1; simpa using h1)]
theorem count_full {s : ByteArray} {p : Nat} {n : Int} (hn : I64 n) (h0 : 0 ≤ n) (h : Full s p (numL (zz n))) : countR s p = .ok (n, p + (numL (zz n)).length) := by
  unfold countR; rw [num_full hn h]; simp [countF, h0]
theorem count_shrt {s : ByteArray} {p : Nat} {n : Int} (hn : I64 n) (h : Shrt s p (numL (zz n))) : countR s p = .error 5 := by
  unfold countR; rw [num_shrt hn h]; rfl
theorem take_full {s : ByteArray} {p : Nat} {t : ByteArray} (h : Full s p t.data.toList) : takeS s p t.size = .ok (t, p + t.size) := by
  obtain ⟨r, h⟩ := h
  have hl := congrArg List.length h
  rw [rest_len, List.length_append] at hl
  have hz : t.data.toList.length = t.size := by simp
  unfold takeS
  rw [if_pos (by omega)]
  congr 2
  refine bytes_ext ?_
  rw [ByteArray.data_extract]
  unfold rest at h
  have e : (s.data.toList.drop p).take t.size = t.data.toList := by rw [h, ← hz]; simp
  rw [← e]
  simp [List.take_drop]
theorem take_shrt {s : ByteArray} {p : Nat} {t : ByteArray} (h : Shrt s p t.data.toList) : takeS s p t.size = .error 5 := by
  obtain ⟨r, hr, h⟩ := h
  have hl := congrArg List.length h
  rw [List.length_append, rest_len] at hl
  have : 0 < r.length := List.length_pos_iff.2 hr
  have hz : t.data.toList.length = t.size := by simp
  unfold takeS
  rw [if_neg (by omega)]
theorem text_full {s : ByteArray} {p : Nat} {t : ByteArray} (ht : t.size ≤ 4096) (h : Full s p (numL (zz t.size) ++ t.data.toList)) : textS s p = .ok (t, p + (numL (zz t.size) ++ t.data.toList).length) := by
  obtain ⟨h1, h2⟩ := h.app
  unfold textS
  rw [count_full (by unfold I64; omega) (by omega) h1]
  simp only [textF]
  rw [if_pos (by omega), Int.toNat_natCast, take_full h2]
  simp; omega
theorem text_shrt {s : ByteArray} {p : Nat} {t : ByteArray} (ht : t.size ≤ 4096) (h : Shrt s p (numL (zz t.size) ++ t.data.toList)) : textS s p = .error 5 := by
  unfold textS
  rcases h.app with h | ⟨h1, h2⟩
  · rw [count_shrt (by unfold I64; omega) h]; rfl
  · rw [count_full (by unfold I64; omega) (by omega) h1]
    simp only [textF]
    rw [if_pos (by omega), Int.toNat_natCast, take_shrt h2]
/-- a reader reads t's encoding as t, and finds its beginning too short -/
def Bk (s : ByteArray) (f : Nat → Nat → Except Int (Tr × Nat × Nat)) (t : Tr) : Prop := ∀ p bg, bg + t.cnt ≤ 1024 →
  (Full s p (enc t) → f p bg = .ok (t, p + (enc t).length, bg + t.cnt)) ∧ (Shrt s p (enc t) → f p bg = .error 5)
theorem rdL_back {s : ByteArray} {f : Nat → Nat → Except Int (Tr × Nat × Nat)} : ∀ (l : List Tr), (∀ t ∈ l, Bk s f t) → ∀ (p bg : Nat) (acc : List Tr), bg + Tr.cntL l ≤ 1024 →
    (Full s p (encL l) → rdL f l.length p bg acc = .ok (acc ++ l, p + (encL l).length, bg + Tr.cntL l)) ∧ (Shrt s p (encL l) → rdL f l.length p bg acc = .error 5)
  | [], _, p, bg, acc, _ => by
    refine ⟨fun _ => by simp [rdL, encL, Tr.cntL], fun h => ?_⟩
    obtain ⟨r, hr, h⟩ := h
    simp only [encL] at h
    have := h.symm
    simp only [List.append_eq_nil_iff] at this
    exact absurd this.2 hr
  | t :: l, hf, p, bg, acc, hc => by
    simp only [Tr.cntL] at hc
    have h1 := hf t (by simp) p bg (by omega)
    have ih := rdL_back l (fun x hx => hf x (by simp [hx])) (p + (enc t).length) (bg + t.cnt) (acc ++ [t]) (by omega)
    simp only [encL, List.length_cons, rdL]
    refine ⟨fun h => ?_, fun h => ?_⟩
    · obtain ⟨a, b⟩ := h.app
      rw [h1.1 a]
      simp only
      rw [ih.1 b]
      simp [Tr.cntL]; omega
    · rcases h.app with a | ⟨a, b⟩
      · rw [h1.2 a]
      · rw [h1.1 a]
        simp only
        rw [ih.2 b]
theorem nameB_pos {n : ByteArray} (h : nameB n = true) : 1 ≤ n.size := by
  unfold nameB nameL at h
  split at h
  · cases h
  · rename_i c r hc
    have : (c :: r).length = n.size := by rw [← hc]; simp
    simp at this; omega
theorem rdF_back {s : ByteArray} {f : Nat → Nat → Except Int (Tr × Nat × Nat)} : ∀ (ns : List ByteArray) (ds : List Tr), ns.length = ds.length → (∀ t ∈ ds, Bk s f t) → ∀ (p bg : Nat) (an : List ByteArray) (ad : List Tr), sndF an.reverse ns ds = true → bg + Tr.cntL ds ≤ 1024 →
    (Full s p (encF ns ds) → rdF s f ds.length p bg an ad = .ok ((an ++ ns, ad ++ ds), p + (encF ns ds).length, bg + Tr.cntL ds)) ∧ (Shrt s p (encF ns ds) → rdF s f ds.length p bg an ad = .error 5)
  | [], [], _, _, p, bg, an, ad, _, _ => by
    refine ⟨fun _ => by simp [rdF, encF, Tr.cntL], fun h => ?_⟩
    obtain ⟨r, hr, h⟩ := h
    simp only [encF] at h
    have := h.symm
    simp only [List.append_eq_nil_iff] at this
    exact absurd this.2 hr
  | [], _ :: _, h, _, _, _, _, _, _, _ => by simp at h
  | _ :: _, [], h, _, _, _, _, _, _, _ => by simp at h
  | n :: ns, t :: ds, hl, hf, p, bg, an, ad, hs, hc => by
    simp only [Tr.cntL] at hc
    simp only [sndF, Bool.and_eq_true, Bool.not_eq_true'] at hs
    obtain ⟨⟨⟨s1, s2⟩, s3⟩, s4⟩ := hs
    have n1 := nameB_pos s1
    have n2 := nameB_le s1
    have hI : I64 (n.size : Int) := by unfold I64; omega
    have hh : (nameB n && !hasL an n) = true := by
      rw [s1]; unfold hasL; rw [s2]; rfl
    have h1 := hf t (by simp) (p + (numL (zz n.size)).length + n.size) bg (by omega)
    have ih := rdF_back ns ds (by simpa using hl) (fun x hx => hf x (by simp [hx])) (p + (numL (zz n.size)).length + n.size + (enc t).length) (bg + t.cnt) (an ++ [n]) (ad ++ [t]) (by simpa using s4) (by omega)
    have hz : n.data.toList.length = n.size := by simp
    simp only [encF, List.length_cons, rdF, List.append_assoc]
    refine ⟨fun h => ?_, fun h => ?_⟩
    · obtain ⟨a, h⟩ := h.app
      obtain ⟨b, h⟩ := h.app
      obtain ⟨c, d⟩ := h.app
      rw [num_full hI a]
      simp only
      rw [if_pos (by omega), Int.toNat_natCast, take_full b]
      simp only
      rw [hh, if_pos rfl]
      rw [hz] at c d
      rw [h1.1 c]
      simp only
      rw [ih.1 d]
      simp [Tr.cntL]; omega
    · rcases h.app with a | ⟨a, h⟩
      · rw [num_shrt hI a]
      rw [num_full hI a]
      simp only
      rw [if_pos (by omega), Int.toNat_natCast]
      rcases h.app with b | ⟨b, h⟩
      · rw [take_shrt b]
      rw [take_full b]
      simp only
      rw [hh, if_pos rfl]
      rw [hz] at h
      rcases h.app with c | ⟨c, d⟩
      · rw [h1.2 c]
      rw [h1.1 c]
      simp only
      rw [ih.2 d]
theorem empty_of_size {s : ByteArray} (h : s.size = 0) : s = ⟨#[]⟩ := by
  refine bytes_ext ?_
  have : s.data.toList.length = 0 := by simpa using h
  rw [List.eq_nil_of_length_eq_zero this]
theorem depL_mem {l : List Tr} {t : Tr} (h : t ∈ l) : t.dep ≤ Tr.depL l := by
  induction l with
  | nil => cases h
  | cons x r ih =>
    simp only [Tr.depL]
    rcases List.mem_cons.1 h with rfl | h
    · omega
    · have := ih h; omega
theorem cntL_len (l : List Tr) : l.length ≤ Tr.cntL l := by
  induction l with
  | nil => simp
  | cons x r ih => have := x.cnt_pos; simp only [Tr.cntL, List.length_cons]; omega
/-- the first byte of an encoding -/
theorem enc_head {k i : Int} {x : ByteArray} {l : List Tr} {ns : List ByteArray} {ds : List Tr} : ∃ b, enc (.mk k i x l ns ds) = [UInt8.ofNat k.toNat] ++ b := ⟨_, by unfold enc; rfl⟩
theorem rdT_back (s : ByteArray) : ∀ (d : Nat) (t : Tr), t.Ok → snd t = true → t.dep ≤ d → Bk s (rdT s d) t
  | 0, t, _, _, hd => by have := t.dep_pos; omega
  | d + 1, .mk k i x l ns ds, hO, hS, hd => by
    intro p bg hc
    unfold Tr.Ok at hO
    obtain ⟨o1, o2, o3, o4⟩ := hO
    obtain ⟨s1, s2, s3, s4⟩ := snd_list hS
    have hcp := Tr.cnt_pos (.mk k i x l ns ds)
    have ihL : (k = 6 → ∀ t ∈ l, Bk s (rdT s d) t) := fun hk t ht => rdT_back s d t (Tr.OkL_mem o3 t ht) (sndL_mem s3 t ht) (by
      have := depL_mem ht
      simp only [Tr.dep] at hd
      rw [if_pos hk] at hd
      omega)
    have ihD : (k = 5 → ∀ t ∈ ds, Bk s (rdT s d) t) := fun hk t ht => rdT_back s d t (Tr.OkL_mem o4 t ht) (sndF_mem s4 t ht) (by
      have := depL_mem ht
      simp only [Tr.dep] at hd
      rw [if_neg (by omega), if_pos hk] at hd
      omega)
    have c0 : ¬ 1024 ≤ bg := by omega
    simp only [headOk, Bool.and_eq_true, Bool.or_eq_true, beq_iff_eq, decide_eq_true_eq] at s1
    obtain ⟨⟨⟨a1, a2⟩, a3⟩, a4⟩ := s1
    have fi : ¬ (k = 3 ∨ k = 9 ∨ k = 10) → i = 0 := by omega
    have fx : ¬ (k = 4 ∨ k = 7 ∨ k = 8) → x = ⟨#[]⟩ := fun h => empty_of_size (by omega)
    have fl : ¬ k = 6 → l = [] := fun h => List.eq_nil_of_length_eq_zero (by omega)
    have fd : ¬ k = 5 → ds = [] := fun h => List.eq_nil_of_length_eq_zero (by omega)
    have fn : ¬ k = 5 → ns = [] := fun h => List.eq_nil_of_length_eq_zero (by omega)
    clear a1 a2 a3 a4
    have hk : k = 1 ∨ k = 2 ∨ k = 11 ∨ k = 3 ∨ k = 9 ∨ k = 10 ∨ k = 4 ∨ k = 7 ∨ k = 8 ∨ k = 6 ∨ k = 5 := by
      unfold leafOk at s2
      repeat' split at s2
      all_goals first | omega | (simp at s2; omega)
    have head : ∀ b : List UInt8, enc (.mk k i x l ns ds) = [UInt8.ofNat k.toNat] ++ b →
        (Full s (p + 1) b → p < s.size → byteN s p = k.toNat → rdT s (d + 1) p bg = .ok (.mk k i x l ns ds, p + (enc (.mk k i x l ns ds)).length, bg + (Tr.mk k i x l ns ds).cnt)) →
        (Shrt s (p + 1) b → p < s.size → byteN s p = k.toNat → rdT s (d + 1) p bg = .error 5) →
        (Full s p (enc (.mk k i x l ns ds)) → rdT s (d + 1) p bg = .ok (.mk k i x l ns ds, p + (enc (.mk k i x l ns ds)).length, bg + (Tr.mk k i x l ns ds).cnt)) ∧ (Shrt s p (enc (.mk k i x l ns ds)) → rdT s (d + 1) p bg = .error 5) := by
      intro b hb H1 H2
      have e8 : (UInt8.ofNat k.toNat).toNat = k.toNat := by rw [UInt8.toNat_ofNat']; omega
      refine ⟨fun h => ?_, fun h => ?_⟩
      · rw [hb] at h
        obtain ⟨a, h⟩ := h.app
        obtain ⟨a1, a2⟩ := a.one
        exact H1 (by simpa using h) a1 (a2.trans e8)
      · rw [hb] at h
        rcases h.app with a | ⟨a, h⟩
        · rw [rdT_eq, if_neg c0, if_pos a.one]
        · obtain ⟨a1, a2⟩ := a.one
          exact H2 (by simpa using h) a1 (a2.trans e8)
    have open_ : p < s.size → rdT s (d + 1) p bg = if byteN s p = 1 ∨ byteN s p = 2 ∨ byteN s p = 11 then .ok (leafT (byteN s p) 0 ⟨#[]⟩, p + 1, bg + 1)
        else if byteN s p = 3 then leafI 3 bg (numR s (p + 1))
        else if byteN s p = 10 then leafI 10 bg (countR s (p + 1))
        else if byteN s p = 9 then (if s.size ≤ p + 1 then .error 5 else if 1 < byteN s (p + 1) then .error 4 else .ok (leafT 9 (byteN s (p + 1)) ⟨#[]⟩, p + 1 + 1, bg + 1))
        else if byteN s p = 4 then leafU bg (textS s (p + 1))
        else if byteN s p = 7 then leafS 7 bg (textS s (p + 1))
        else if byteN s p = 8 then leafS 8 bg (takeS s (p + 1) 12)
        else if byteN s p = 6 then listR s d bg (countR s (p + 1))
        else if byteN s p = 5 then docE (fldR s d (bg + 1) (countR s (p + 1))) else .error 4 := fun hp => by rw [rdT_eq, if_neg c0, if_neg (by omega)]
    clear hd hcp
    rcases hk with rfl | rfl | rfl | rfl | rfl | rfl | rfl | rfl | rfl | rfl | rfl
    · obtain rfl := fi (by omega); obtain rfl := fx (by omega); obtain rfl := fl (by omega); obtain rfl := fd (by omega); obtain rfl := fn (by omega)
      refine head [] (by simp [enc]) (fun _ hp hb => ?_) (fun h _ _ => ?_)
      · rw [open_ hp]; simp [hb, leafT, enc, Tr.cnt]
      · obtain ⟨r, hr, h⟩ := h
        have := h.symm
        simp only [List.append_eq_nil_iff] at this
        exact absurd this.2 hr
    · obtain rfl := fi (by omega); obtain rfl := fx (by omega); obtain rfl := fl (by omega); obtain rfl := fd (by omega); obtain rfl := fn (by omega)
      refine head [] (by simp [enc]) (fun _ hp hb => ?_) (fun h _ _ => ?_)
      · rw [open_ hp]; simp [hb, leafT, enc, Tr.cnt]
      · obtain ⟨r, hr, h⟩ := h
        have := h.symm
        simp only [List.append_eq_nil_iff] at this
        exact absurd this.2 hr
    · obtain rfl := fi (by omega); obtain rfl := fx (by omega); obtain rfl := fl (by omega); obtain rfl := fd (by omega); obtain rfl := fn (by omega)
      refine head [] (by simp [enc]) (fun _ hp hb => ?_) (fun h _ _ => ?_)
      · rw [open_ hp]; simp [hb, leafT, enc, Tr.cnt]
      · obtain ⟨r, hr, h⟩ := h
        have := h.symm
        simp only [List.append_eq_nil_iff] at this
        exact absurd this.2 hr
    · obtain rfl := fx (by omega); obtain rfl := fl (by omega); obtain rfl := fd (by omega); obtain rfl := fn (by omega)
      refine head (numL (zz i)) (by simp [enc]) (fun h hp hb => ?_) (fun h hp hb => ?_)
      · rw [open_ hp]; simp [hb, leafT, enc, Tr.cnt, leafI, num_full o2 h]; omega
      · rw [open_ hp]; simp [hb, leafI, num_shrt o2 h]
    · obtain rfl := fx (by omega); obtain rfl := fl (by omega); obtain rfl := fd (by omega); obtain rfl := fn (by omega)
      have hi : i = 0 ∨ i = 1 := by simpa [leafOk] using s2
      have e9 : (UInt8.ofNat i.toNat).toNat = i.toNat := by rw [UInt8.toNat_ofNat']; omega
      refine head [UInt8.ofNat i.toNat] (by simp [enc]) (fun h hp hb => ?_) (fun h hp hb => ?_)
      · obtain ⟨b1, b2⟩ := h.one
        rw [e9] at b2
        rw [open_ hp, hb]
        have n1 : ¬ s.size ≤ p + 1 := by omega
        have n2 : ¬ 1 < i.toNat := by omega
        have n3 : ((i.toNat : Nat) : Int) = i := by omega
        simp [leafT, enc, Tr.cnt, b2, n1, n2, n3]
      · have b1 := h.one
        rw [open_ hp]; simp [hb, b1]
    · obtain rfl := fx (by omega); obtain rfl := fl (by omega); obtain rfl := fd (by omega); obtain rfl := fn (by omega)
      have hi : 0 ≤ i := by simpa [leafOk] using s2
      refine head (numL (zz i)) (by simp [enc]) (fun h hp hb => ?_) (fun h hp hb => ?_)
      · rw [open_ hp]; simp [hb, leafT, enc, Tr.cnt, leafI, count_full o2 hi h]; omega
      · rw [open_ hp]; simp [hb, leafI, count_shrt o2 h]
    · obtain rfl := fi (by omega); obtain rfl := fl (by omega); obtain rfl := fd (by omega); obtain rfl := fn (by omega)
      have hi : x.size ≤ 4096 ∧ utf8B x = true := by simpa [leafOk] using s2
      refine head (numL (zz x.size) ++ x.data.toList) (by simp [enc]) (fun h hp hb => ?_) (fun h hp hb => ?_)
      · rw [open_ hp, hb, text_full hi.1 h]; simp [leafT, enc, Tr.cnt, leafU, hi.2]; omega
      · rw [open_ hp, hb, text_shrt hi.1 h]; simp [leafU]
    · obtain rfl := fi (by omega); obtain rfl := fl (by omega); obtain rfl := fd (by omega); obtain rfl := fn (by omega)
      have hi : x.size ≤ 4096 := by simpa [leafOk] using s2
      refine head (numL (zz x.size) ++ x.data.toList) (by simp [enc]) (fun h hp hb => ?_) (fun h hp hb => ?_)
      · rw [open_ hp, hb, text_full hi h]; simp [leafT, enc, Tr.cnt, leafS]; omega
      · rw [open_ hp, hb, text_shrt hi h]; simp [leafS]
    · obtain rfl := fi (by omega); obtain rfl := fl (by omega); obtain rfl := fd (by omega); obtain rfl := fn (by omega)
      have hi : x.size = 12 := by simpa [leafOk] using s2
      refine head x.data.toList (by simp [enc]) (fun h hp hb => ?_) (fun h hp hb => ?_)
      · rw [open_ hp, hb, ← hi, take_full h]; simp [leafT, enc, Tr.cnt, leafS]; omega
      · rw [open_ hp, hb, ← hi, take_shrt h]; simp [leafS]
    · obtain rfl := fi (by omega); obtain rfl := fx (by omega); obtain rfl := fd (by omega); obtain rfl := fn (by omega)
      simp only [Tr.cnt] at hc
      rw [if_pos trivial] at hc
      have hll : l.length ≤ 1024 := by have := cntL_len l; omega
      have hI : I64 (l.length : Int) := by unfold I64; omega
      refine head (numL (zz l.length) ++ encL l) (by simp [enc]) (fun h hp hb => ?_) (fun h hp hb => ?_)
      · obtain ⟨a, b⟩ := h.app
        rw [open_ hp, hb, count_full hI (by omega) a]
        have := (rdL_back (s := s) (f := rdT s d) l (ihL rfl) (p + 1 + (numL (zz l.length)).length) (bg + 1) [] (by omega)).1 b
        simp [listR, this, enc, Tr.cnt]; omega
      · rw [open_ hp, hb]
        rcases h.app with a | ⟨a, b⟩
        · rw [count_shrt hI a]; simp [listR]
        · rw [count_full hI (by omega) a]
          have := (rdL_back (s := s) (f := rdT s d) l (ihL rfl) (p + 1 + (numL (zz l.length)).length) (bg + 1) [] (by omega)).2 b
          simp [listR, this]
    · obtain rfl := fi (by omega); obtain rfl := fx (by omega); obtain rfl := fl (by omega)
      simp only [Tr.cnt] at hc
      rw [if_neg (by decide), if_pos trivial] at hc
      have hll : ds.length ≤ 1024 := by have := cntL_len ds; omega
      have hI : I64 (ds.length : Int) := by unfold I64; omega
      refine head (numL (zz ds.length) ++ encF ns ds) (by simp [enc]) (fun h hp hb => ?_) (fun h hp hb => ?_)
      · obtain ⟨a, b⟩ := h.app
        rw [open_ hp, hb, count_full hI (by omega) a]
        have := (rdF_back (s := s) (f := rdT s d) ns ds o1 (ihD rfl) (p + 1 + (numL (zz ds.length)).length) (bg + 1) [] [] s4 (by omega)).1 b
        simp [fldR, this, docE, enc, Tr.cnt]; omega
      · rw [open_ hp, hb]
        rcases h.app with a | ⟨a, b⟩
        · rw [count_shrt hI a]; simp [fldR, docE]
        · rw [count_full hI (by omega) a]
          have := (rdF_back (s := s) (f := rdT s d) ns ds o1 (ihD rfl) (p + 1 + (numL (zz ds.length)).length) (bg + 1) [] [] s4 (by omega)).2 b
          simp [fldR, this, docE]
end Go.Proofs.YtdoofmohoamkbaaDoor
set_option linter.unusedSimpArgs false
set_option linter.unusedVariables false
namespace Go.Proofs.YtdoofmohoamkbaaDoor
theorem enc_pos9 (t : Tr) : 0 < (enc t).length := by
  obtain ⟨k, i, s, l, ns, ds⟩ := t
  unfold enc
  simp
theorem encR_valid {t : Tr} (h : validB t = true) : encR t = (⟨(enc t).toArray⟩, 0) := by unfold encR; rw [if_pos h]
theorem encR_not {t : Tr} (h : validB t = false) : encR t = (⟨#[]⟩, 8) := by unfold encR; rw [if_neg (by simp [h])]
theorem validB_parts {t : Tr} (h : validB t = true) : t.cnt ≤ 1024 ∧ t.dep ≤ 16 ∧ snd t = true := by
  unfold validB at h
  simp only [Bool.and_eq_true, decide_eq_true_eq] at h
  exact ⟨h.1.1, h.1.2, h.2⟩
theorem readR_back (t : Tr) (hO : t.Ok) (hv : validB t = true) (s : ByteArray) (p : Nat) (hp : p ≤ s.size) (h : Full s p (enc t)) :
    readR s p = (t, ((p + (enc t).length : Nat) : Int), 0) := by
  obtain ⟨h1, h2, h3⟩ := validB_parts hv
  have := (rdT_back s 16 t hO h3 h2 p 0 (by omega)).1 h
  unfold readR
  rw [if_neg (by omega)]
  have e : (p : Int).toNat = p := by omega
  rw [e, this]
  rfl
theorem readR_short (t : Tr) (hO : t.Ok) (hv : validB t = true) (s : ByteArray) (h : Shrt s 0 (enc t)) :
    readR s 0 = (zeroT, 0, 5) := by
  obtain ⟨h1, h2, h3⟩ := validB_parts hv
  have := (rdT_back s 16 t hO h3 h2 0 0 (by omega)).2 h
  unfold readR
  rw [if_neg (by omega)]
  have e : (0 : Int).toNat = 0 := rfl
  rw [e, this]
  rfl
theorem decR_back (t : Tr) (hO : t.Ok) (hv : validB t = true) : decR ⟨(enc t).toArray⟩ = (t, 0) := by
  have h := readR_back t hO hv ⟨(enc t).toArray⟩ 0 (by omega) ⟨[], by simp [rest]⟩
  have e : ((0 : Nat) : Int) = 0 := rfl
  rw [e] at h
  unfold decR
  rw [h]
  have z : (⟨(enc t).toArray⟩ : ByteArray).size = (enc t).length := by simp [ByteArray.size]
  rw [z]
  simp
theorem short_at (t : Tr) (n : Nat) (hn : n < (enc t).length) : Shrt ((⟨(enc t).toArray⟩ : ByteArray).extract 0 n) 0 (enc t) := by
  refine ⟨(enc t).drop n, ?_, ?_⟩
  · intro h
    have := congrArg List.length h
    simp at this
    omega
  · simp [rest, ByteArray.data_extract]
theorem short_both (t : Tr) (hO : t.Ok) (hv : validB t = true) (n : Nat) (hn : n < (enc t).length) :
    readR ((⟨(enc t).toArray⟩ : ByteArray).extract 0 n) 0 = (zeroT, 0, 5) ∧ decR ((⟨(enc t).toArray⟩ : ByteArray).extract 0 n) = (zeroT, 5) := by
  have h := readR_short t hO hv _ (short_at t n hn)
  refine ⟨h, ?_⟩
  unfold decR
  rw [h]
  rfl
theorem readR_mid (t : Tr) (hO : t.Ok) (hv : validB t = true) (a b : ByteArray) :
    readR (a ++ ⟨(enc t).toArray⟩ ++ b) a.size = (t, ((a.size + (enc t).length : Nat) : Int), 0) := by
  refine readR_back t hO hv _ a.size (by simp; omega) ⟨b.data.toList, ?_⟩
  unfold rest
  rw [ByteArray.append_assoc, ByteArray.data_append, ByteArray.data_append]
  simp
end Go.Proofs.YtdoofmohoamkbaaDoor
set_option linter.unusedSimpArgs false
set_option linter.unusedVariables false
namespace Go.Proofs.YtdoofmohoamkbaaDoor
open Go.RowKit
set_option maxRecDepth 20000 in
set_option maxHeartbeats 2000000 in
theorem back_walk (t : Tr) (v : Value) (a b : ByteArray) (w : World) (ha : a.size ≤ 140737488355328) (hb : b.size ≤ 140737488355328) (hV : VRepW w t v) (hT : Tabs w) : Calls Tryd.prog 10 #[v, .string a, .string b] w fun e w' => e = .returned (.bool true) ∧ Ext w w' := by
  have HT := Lib.hid hT
  obtain ⟨k, i, s, la, ln, lc, da, dn, dc, rfl⟩ := hV.shape
  have HV := Lib.hid hV
  clear hT hV
  go_enter Tryd.func10, Tryd.ntmps10
  go_wp2_with fail
  refine (Few_ok t _ _ (VRepW.ext ((Ext.refl w).alloc _) _ _ HV.out)).mono ?_
  rintro e w1 ⟨⟨bb, rfl, hbb⟩, h1⟩
  have k1 := h1.ownc
  have l1 := h1.lt
  have HE1 := Lib.hid h1.of_alloc
  have HA1 := Lib.hid h1
  clear h1
  cases bb with
  | false =>
    clear hbb
    go_wp2_with fail
    refine (awake_ok _ (HT.out.ext HE1.out)).mono ?_
    rintro e w2 ⟨rfl, h2⟩
    go_wp2_with fail
    go_ret
    exact ⟨rfl, HE1.out.trans h2⟩
  | true =>
    have hV1 := VRepW.strong _ _ (VRepW.ext HE1.out _ _ HV.out) (hbb rfl)
    have hok := VRep.trok _ _ hV1
    have HO := Lib.hid hok
    have HV1 := Lib.hid hV1
    clear hbb HV hV1 hok
    go_wp2_with fail
    refine (Encode_ok t _ _ HV1.out (HT.out.ext HE1.out)).mono ?_
    cases hvb : validB t with
    | false =>
      rw [encR_not hvb]
      rintro e w2 ⟨rfl, h2⟩
      have HA2 := Lib.hid (HA1.out.trans h2)
      have HE2 := Lib.hid (HE1.out.trans h2)
      have HV2 := Lib.hid (VRep.ext h2 _ _ HV1.out)
      clear h2 k1 l1 HA1 HV1
      have k2 := HA2.out.ownc
      have l2 := HA2.out.lt
      go_wp2_with fail
      refine (RValid_ok t _ _ HV2.out).mono ?_
      rw [hvb]
      rintro e w3 ⟨rfl, h3⟩
      have HE3 := Lib.hid (HE2.out.trans h3)
      clear h3 k2 l2
      go_wp2_with fail
      refine (awake_ok _ (HT.out.ext HE3.out)).mono ?_
      rintro e w4 ⟨rfl, h4⟩
      go_wp2_with fail
      go_ret
      exact ⟨rfl, HE3.out.trans h4⟩
    | true =>
      have HEn := Lib.hid (encR_valid hvb)
      have hmx : (enc t).length ≤ 5000000 := by
        have h1 := enc_le _ _ t rfl _ HV1.out (validB_parts hvb).2.2
        have h2 := (validB_parts hvb).1
        omega
      obtain ⟨q, hq⟩ : ∃ q : ByteArray, (⟨(enc t).toArray⟩ : ByteArray) = q := ⟨_, rfl⟩
      have hqs : (enc t).length = q.size := by rw [← hq]; rfl
      have hDc := decR_back t HO.out hvb
      have hRd := readR_mid t HO.out hvb a b
      rw [hq] at hDc hRd HEn
      rw [hqs] at hRd hmx
      rw [HEn.out]
      have HDc := Lib.hid hDc
      have HRd := Lib.hid hRd
      have HVb := Lib.hid hvb
      rintro e w2 ⟨rfl, h2⟩
      have HA2 := Lib.hid (HA1.out.trans h2)
      have HE2 := Lib.hid (HE1.out.trans h2)
      have HV2 := Lib.hid (VRep.ext h2 _ _ HV1.out)
      clear h2 k1 l1 HA1 HV1 hDc hRd hq hqs hvb HO HE1
      have k2 := HA2.out.ownc
      have l2 := HA2.out.lt
      go_wp2_with fail
      refine (RValid_ok t _ _ HV2.out).mono ?_
      rw [HVb.out]
      rintro e w3 ⟨rfl, h3⟩
      have HA3 := Lib.hid (HA2.out.trans h3)
      have HE3 := Lib.hid (HE2.out.trans h3)
      have HV3 := Lib.hid (VRep.ext h3 _ _ HV2.out)
      clear h3 k2 l2 HA2 HE2 HV2
      have k3 := HA3.out.ownc
      have l3 := HA3.out.lt
      go_wp2_with fail
      refine (Decode_ok _ _ (by omega) (HT.out.ext HE3.out)).mono ?_
      rw [HDc.out]
      rintro e w4 ⟨v4, rfl, hv4, h4⟩
      obtain ⟨k', i', s', la', ln', lc', da', dn', dc', rfl⟩ := hv4.shape
      have HA4 := Lib.hid (HA3.out.trans h4)
      have HE4 := Lib.hid (HE3.out.trans h4)
      have HV4 := Lib.hid (VRep.ext h4 _ _ HV3.out)
      have HU4 := Lib.hid hv4
      clear h4 k3 l3 HA3 HE3 HV3 hv4 HDc
      have k4 := HA4.out.ownc
      have l4 := HA4.out.lt
      go_wp2_with fail
      refine (Read_ok _ _ _ (by simp; omega) (HT.out.ext (HE4.out.alloc _))).mono ?_
      rw [HRd.out]
      rintro e w5 ⟨v5, rfl, hv5, h5⟩
      obtain ⟨k9, i9, s9, la9, ln9, lc9, da9, dn9, dc9, rfl⟩ := (VNew.rep hv5).shape
      have kd5 := h5.ownc
      have ld5 := h5.lt
      have h5' := h5.of_alloc
      have HA5 := Lib.hid (HA4.out.trans h5')
      have HD5 := Lib.hid h5
      have HE5 := Lib.hid (HE4.out.trans h5')
      have HV5 := Lib.hid (VRep.ext h5' _ _ HV4.out)
      have HU5 := Lib.hid (VRep.ext h5' _ _ HU4.out)
      have HX5 := Lib.hid (VNew.rep hv5)
      clear h5 h5' k4 l4 HA4 HE4 HV4 HU4 hv5 HRd
      have k5 := HA5.out.ownc
      have l5 := HA5.out.lt
      go_wp2_with fail
      refine (Length_ok t _ _ (VRep.ext ((Ext.refl w5).alloc _) _ _ HV5.out) (HT.out.ext (HE5.out.alloc _))).mono ?_
      rw [HEn.out]
      rintro e w6 ⟨rfl, h6⟩
      have kx6 := h6.ownc
      have lx6 := h6.lt
      have h6' := h6.of_alloc
      have HD6 := Lib.hid (HD5.out.trans h6')
      have HA6 := Lib.hid (HA5.out.trans h6')
      have HE6 := Lib.hid (HE5.out.trans h6')
      have HV6 := Lib.hid (VRep.ext h6' _ _ HV5.out)
      have HU6 := Lib.hid (VRep.ext h6' _ _ HU5.out)
      have HX6 := Lib.hid (VRep.ext h6' _ _ HX5.out)
      have HC6 := Lib.hid h6
      clear h6 h6' k5 l5 kd5 ld5 HA5 HD5 HE5 HV5 HU5 HX5 HEn
      have k6 := HA6.out.ownc
      have l6 := HA6.out.lt
      have kd6 := HD6.out.ownc
      have ld6 := HD6.out.lt
      go_wp2_with fail
      refine (same_ok t _ _ _ HV6.out HU6.out).mono ?_
      rintro e w7 ⟨rfl, h7⟩
      have HC7 := Lib.hid (HC6.out.trans h7)
      have HA7 := Lib.hid (HA6.out.trans h7)
      have HE7 := Lib.hid (HE6.out.trans h7)
      have HV7 := Lib.hid (VRep.ext h7 _ _ HV6.out)
      have HX7 := Lib.hid (VRep.ext h7 _ _ HX6.out)
      clear h7 k6 l6 kd6 ld6 kx6 lx6 HC6 HA6 HE6 HV6 HU6 HX6 HD6
      have k7 := HA7.out.ownc
      have l7 := HA7.out.lt
      have kx7 := HC7.out.ownc
      have lx7 := HC7.out.lt
      go_wp2_with fail
      refine (same_ok t _ _ _ HV7.out HX7.out).mono ?_
      rintro e w8 ⟨rfl, h8⟩
      have HE8 := Lib.hid (HE7.out.trans h8)
      clear h8 k7 l7 kx7 lx7
      go_wp2_with fail
      refine (awake_ok _ (HT.out.ext HE8.out)).mono ?_
      rintro e w9 ⟨rfl, h9⟩
      go_wp2_with fail
      go_ret
      exact ⟨rfl, HE8.out.trans h9⟩
end Go.Proofs.YtdoofmohoamkbaaDoor
set_option linter.unusedSimpArgs false
set_option linter.unusedVariables false
namespace Go.Proofs.YtdoofmohoamkbaaDoor.codecBack
open Go.ChangeShapes Go.WideShapes Go.ChangeAt Go.RowKit

/-- What the walk gives, for every argument and every world. -/
theorem contract (H : Type) (enc : TypeId × Value → H) (W : World) (base : Nat) (args : Array Value) (ds gs : List (DataW H)) (before : List MemPlace)
    (hval : ∀ (j : Nat) t v, Tryd.f10.params[j]? = some t → args[j]? = some v → Value.okWide Tryd.prog W .any base t v)
    (hW : DataW.Whole enc Tryd.prog Tryd.f10.params.toList Rows.codecBackSpec.vars false W args.toList ds gs before) (_hL : laidMetH Tryd.prog Rows.codecBackRow.laid W) (hWt : (DataW.weightsEach Tryd.prog (Tryd.f10.params.toList ++ (OpenSpec.ofChange Rows.codecBackSpec).bare.plain.varTypes Tryd.prog) (ds ++ gs)).all (· ≤ reachBytes) = true) :
    Calls Tryd.prog 10 args W fun e W' => ∃ v, e = .returned v ∧ Rows.codecBackSpec.post enc Tryd.prog Tryd.f10 false true false false W args v W' := by
  have hW' := hW
  obtain ⟨p, q, hA0, hV, rfl, hfz, hnd⟩ := hW
  have hA : DataW.TrodAll enc Tryd.prog W 0 (fun _ => true) true Tryd.f10.params.toList args.toList ds p := hA0
  rw [Tryd.params10] at hA hval hWt
  obtain ⟨v0, vs0, d0, ds0, p0, q0, hargs, rfl, rfl, h0, r0⟩ := trodAll_cons hA
  obtain ⟨v1, vs1, d1, ds1, p1, q1, rfl, rfl, rfl, h1, r1⟩ := trodAll_cons r0
  obtain ⟨v2, vs2, d2, ds2, p2, q2, rfl, rfl, rfl, h2, r2⟩ := trodAll_cons r1
  obtain ⟨rfl, rfl, rfl⟩ := trodAll_nil r2
  obtain rfl : args = #[v0, v1, v2] := by cases args; simp_all
  obtain ⟨rfl, rfl⟩ := trodVars_none hV
  clear hA0 hargs
  suffices walk : Calls Tryd.prog 10 #[v0, v1, v2] W fun e W' => e = .returned (.bool true) ∧ Ext W W' by
    refine walk.mono fun e W' ⟨he, hg⟩ => ?_
    subst he
    exact ⟨_, rfl, law_post (by kernel_rfl) (by kernel_rfl) rfl rfl Tryd.underlying4 hW' rfl hg⟩
  have hT : Tabs W := tabs_of_laid _hL
  obtain ⟨t, hv⟩ := vrepW_arg (hval 0 32 v0 rfl rfl) h0
  obtain ⟨a, rfl⟩ := okWide_string Tryd.underlying9 (hval 1 9 v1 rfl rfl)
  obtain ⟨fuel1, hf1⟩ := h1
  obtain ⟨s1, es1, d1', hs1⟩ := DataW.trod_string Tryd.underlying9 hf1
  simp only [Value.cells, List.cons.injEq, Value.string.injEq, and_true] at es1
  subst es1
  simp only [Prod.mk.injEq] at d1'
  obtain ⟨rfl, rfl⟩ := d1'
  obtain ⟨b, rfl⟩ := okWide_string Tryd.underlying9 (hval 2 9 v2 rfl rfl)
  obtain ⟨fuel2, hf2⟩ := h2
  obtain ⟨s2, es2, d2', hs2⟩ := DataW.trod_string Tryd.underlying9 hf2
  simp only [Value.cells, List.cons.injEq, Value.string.injEq, and_true] at es2
  subst es2
  simp only [Prod.mk.injEq] at d2'
  obtain ⟨rfl, rfl⟩ := d2'
  simp [DataW.weightsEach, DataW.weights, reachBytes] at hWt
  have wa := of_decide_eq_true hWt.2.1
  have wb := of_decide_eq_true hWt.2.2
  have ea1 : a.data.size = a.size := rfl
  have eb1 : b.data.size = b.size := rfl
  exact back_walk t v0 a b W (by omega) (by omega) hv hT

theorem laid_met (os : Os) : laidMet Tryd.prog Rows.codecBackRow.laid ((laidWorld os).forCall (fun _ _ => 0) ⟨#[], #[.agg #[.int .i64 0, .int .i64 0, .string ⟨#[]⟩, .slice none 0 0, .slice none 0 0], .string ⟨#[]⟩, .string ⟨#[]⟩], []⟩).memory :=
  laidMet_of_run' 8 (by kernel_rfl) (by kernel_rfl)
theorem reads (os : Os) {H : Type} (enc : TypeId × Value → H) : ∃ places, DataW.whole enc Tryd.prog ((laidWorld os).forCall (fun _ _ => 0) ⟨#[], #[.agg #[.int .i64 0, .int .i64 0, .string ⟨#[]⟩, .slice none 0 0, .slice none 0 0], .string ⟨#[]⟩, .string ⟨#[]⟩], []⟩).memory Tryd.f10.params.toList Rows.codecBackSpec.vars false #[.agg #[.int .i64 0, .int .i64 0, .string ⟨#[]⟩, .slice none 0 0, .slice none 0 0], .string ⟨#[]⟩, .string ⟨#[]⟩].toList 8 = some ([.agg [.lit (.int .i64 0), .lit (.int .i64 0), .lit (.string []), .nil, .nil], .lit (.string []), .lit (.string [])], [], places) :=
  ⟨[], by kernel_rfl⟩

set_option maxRecDepth 100000 in
theorem lifted (os : Os) (started : os.Started) (H : Type) (enc : TypeId × Value → H) (F : Stop.Interp) :
    ReturnsInHanded {} Tryd.checked os 10 .any ((OpenSpec.ofChange Rows.codecBackSpec).preRow enc Tryd.prog Tryd.f10 Rows.codecBackRow.domain false Rows.codecBackRow.laid) (((OpenSpec.ofChange Rows.codecBackSpec).at F).post enc Tryd.prog Tryd.f10 false true false false) := by
  obtain ⟨places, hx⟩ := reads os enc
  refine returnsInHanded_of_row (C := Tryd.checked) (s := OpenSpec.ofChange Rows.codecBackSpec) own started (by kernel_rfl) Tryd.func10
    (witness_row_at (enc := enc) (C := Tryd.checked) false (laidWorld os) #[.agg #[.int .i64 0, .int .i64 0, .string ⟨#[]⟩, .slice none 0 0, .slice none 0 0], .string ⟨#[]⟩, .string ⟨#[]⟩] rfl (by kernel_rfl) (by kernel_rfl) (by kernel_rfl)
      (OpenSpec.preRow_of_cond 8 hx (by kernel_rfl) (fun k hk => by cases hk) (by kernel_rfl) (laid_met os))) ?_
  intro W base args ds gs before hval hW _ _ hWt hL _ _
  exact contract H enc W base args ds gs before hval hW hL hWt

theorem said : Rows.CodecBackSaid :=
  OpenClaim.holds_of_cond 10 Tryd.f10 rfl rfl rfl rfl rfl rfl rfl ⟨rfl, rfl, rfl, rfl, rfl⟩ rfl rfl rfl rfl rfl (by kernel_rfl) Tryd.func10 (by kernel_rfl)
    (of_decide_eq_true (by kernel_rfl)) (by unfold Func.isWrapper; first | (rw [if_pos (by decide +kernel)]; kernel_rfl) | (rw [if_neg (by decide +kernel)]; exact ⟨rfl, rfl⟩))
    (fun os started H enc _ F => by rw [OpenClaim.pre_eq_preRow]; exact lifted os started H enc F)

theorem plain (f : FuncId) (fn : Func) (hf : Tryd.pinned.checked.prog.funcNamed "docstore/docstorelaw02.CodecBack" = some f) (hfn : Tryd.pinned.checked.prog.funcs[f]? = some fn) :
    true = Tryd.pinned.checked.prog.looks [] ∧ ∀ (j : Nat) t, fn.params[j]? = some t → Tryd.pinned.checked.prog.wantsStandIn t = false := by
  obtain rfl : f = 10 := Option.some.inj ((show Tryd.prog.funcNamed "docstore/docstorelaw02.CodecBack" = some 10 by kernel_rfl).symm.trans hf) |>.symm
  obtain rfl : fn = Tryd.f10 := (Option.some.inj (Tryd.func10.symm.trans hfn)).symm
  refine ⟨by kernel_rfl, fun j t ht => ?_⟩
  have hall : (Tryd.f10.params.all fun t => !Tryd.prog.wantsStandIn t) = true := by kernel_rfl
  have h1 := Array.all_eq_true'.1 hall t (Array.mem_of_getElem? ht)
  have h2 : Tryd.prog.wantsStandIn t = false := by simpa using h1
  exact h2

/-- The card. -/
theorem card : Rows.CodecBackCardSaid :=
  Claim7.holds_tied_plain_at .later [] _ _ _ _ said (fun _ h => by cases h) (by kernel_rfl) (fun _ h => by cases h) codecBack_row_tie rfl ⟨rfl, rfl⟩ (by kernel_rfl) rfl plain (by kernel_rfl)
end Go.Proofs.YtdoofmohoamkbaaDoor.codecBack
