/- CodecEncodes: for every input the law returns true: values are encoded as specified (the card, tied to the program's text). -/
import Derived.Test.YtdoofmohoamkbaaDoorTr
import Derived.Test.YtdoofmohoamkbaaDoorMix
import Derived.Test.YtdoofmohoamkbaaDoorStr
import Derived.Test.YtdoofmohoamkbaaDoorNodes2
import Derived.Test.YtdoofmohoamkbaaDoorD0
import Derived.Test.YtdoofmohoamkbaaDoorAw
import Derived.Test.YtdoofmohoamkbaaDoorLen
import Derived.Test.YtdoofmohoamkbaaDoorPlain
import Derived.Test.YtdoofmohoamkbaaDoorTab
set_option linter.unusedSimpArgs false
set_option linter.unusedVariables false
namespace Go.Proofs.YtdoofmohoamkbaaDoor
open Go.RowKit
mutual
/-- The value v is the tree t, in world w. -/
def VRepW (w : World) : Tr → Value → Prop
  | .mk k i s l ns ds, v => ∃ (la : Option Addr) (lc : Nat) (da : Option Addr) (dc : Nat), v = .agg #[.int .i64 k, .int .i64 i, .string s, .slice la l.length lc, .slice da ds.length dc] ∧ (s.size ≤ maxLen ∧ I64 k ∧ I64 i) ∧
      l.length ≤ lc ∧ lc ≤ maxLen ∧ ds.length ≤ dc ∧ dc ≤ maxLen ∧ ns.length = ds.length ∧ LRepW w la 0 l ∧ DRepW w da 0 ns ds
/-- From offset o on lie the values of l. -/
def LRepW (w : World) (a : Option Addr) : Nat → List Tr → Prop
  | _, [] => True
  | o, t :: r => (∃ b off c0 c1 c2 c3 c4, a = some ⟨b, off, none⟩ ∧ w.cell? ⟨b, off + o, none⟩ = some c0 ∧ w.cell? ⟨b, off + o + 1, none⟩ = some c1 ∧ w.cell? ⟨b, off + o + 2, none⟩ = some c2 ∧ w.cell? ⟨b, off + o + 3, none⟩ = some c3 ∧ w.cell? ⟨b, off + o + 4, none⟩ = some c4 ∧ VRepW w t (.agg #[c0, c1, c2, c3, c4])) ∧ LRepW w a (o + 5) r
/-- From offset o on lie the fields. -/
def DRepW (w : World) (a : Option Addr) : Nat → List ByteArray → List Tr → Prop
  | _, _, [] => True
  | _, [], _ :: _ => False
  | o, n :: nr, t :: r => (∃ b off c0 c1 c2 c3 c4, a = some ⟨b, off, none⟩ ∧ n.size ≤ maxLen ∧ w.cell? ⟨b, off + o, none⟩ = some (.string n) ∧ w.cell? ⟨b, off + o + 1, none⟩ = some c0 ∧ w.cell? ⟨b, off + o + 2, none⟩ = some c1 ∧ w.cell? ⟨b, off + o + 3, none⟩ = some c2 ∧ w.cell? ⟨b, off + o + 4, none⟩ = some c3 ∧ w.cell? ⟨b, off + o + 5, none⟩ = some c4 ∧ VRepW w t (.agg #[c0, c1, c2, c3, c4])) ∧ DRepW w a (o + 6) nr r
end
mutual
theorem VRepW.ext {w w' : World} (h : Ext w w') : ∀ (t : Tr) (v : Value), VRepW w t v → VRepW w' t v
  | .mk k i s l ns ds, v, hv => by
    unfold VRepW at hv ⊢
    obtain ⟨la, lc, da, dc, h1, h2, h3, h4, h5, h6, h7, h8, h9⟩ := hv
    exact ⟨la, lc, da, dc, h1, h2, h3, h4, h5, h6, h7, LRepW.ext h la 0 l h8, DRepW.ext h da 0 ns ds h9⟩
theorem LRepW.ext {w w' : World} (h : Ext w w') (a : Option Addr) : ∀ (o : Nat) (l : List Tr), LRepW w a o l → LRepW w' a o l
  | _, [], _ => by unfold LRepW; trivial
  | o, t :: r, hl => by
    unfold LRepW at hl ⊢
    obtain ⟨⟨b, off, c0, c1, c2, c3, c4, h0, h1, h2, h3, h4, h5, h6⟩, hr⟩ := hl
    exact ⟨⟨b, off, c0, c1, c2, c3, c4, h0, h.keep h1, h.keep h2, h.keep h3, h.keep h4, h.keep h5, VRepW.ext h t _ h6⟩, LRepW.ext h a (o + 5) r hr⟩
theorem DRepW.ext {w w' : World} (h : Ext w w') (a : Option Addr) : ∀ (o : Nat) (ns : List ByteArray) (l : List Tr), DRepW w a o ns l → DRepW w' a o ns l
  | _, _, [], _ => by unfold DRepW; trivial
  | _, [], _ :: _, hl => by unfold DRepW at hl; exact hl.elim
  | o, n :: nr, t :: r, hl => by
    unfold DRepW at hl ⊢
    obtain ⟨⟨b, off, c0, c1, c2, c3, c4, h0, hn, h1, h2, h3, h4, h5, h6, h7⟩, hr⟩ := hl
    exact ⟨⟨b, off, c0, c1, c2, c3, c4, h0, hn, h.keep h1, h.keep h2, h.keep h3, h.keep h4, h.keep h5, h.keep h6, VRepW.ext h t _ h7⟩, DRepW.ext h a (o + 6) nr r hr⟩
end
/-- The element j of a list. -/
theorem LRepW.at_ {w : World} {a : Option Addr} : ∀ (l : List Tr) (o j : Nat) (t : Tr), LRepW w a o l → l[j]? = some t →
    ∃ b off c0 c1 c2 c3 c4, a = some ⟨b, off, none⟩ ∧ w.cell? ⟨b, off + (o + j * 5), none⟩ = some c0 ∧ w.cell? ⟨b, off + (o + j * 5) + 1, none⟩ = some c1 ∧ w.cell? ⟨b, off + (o + j * 5) + 2, none⟩ = some c2 ∧ w.cell? ⟨b, off + (o + j * 5) + 3, none⟩ = some c3 ∧ w.cell? ⟨b, off + (o + j * 5) + 4, none⟩ = some c4 ∧ VRepW w t (.agg #[c0, c1, c2, c3, c4])
  | [], _, j, t, _, hj => by simp at hj
  | x :: r, o, 0, t, hl, hj => by
    unfold LRepW at hl
    obtain rfl : x = t := by simpa using hj
    simpa using hl.1
  | x :: r, o, j + 1, t, hl, hj => by
    unfold LRepW at hl
    have := LRepW.at_ r (o + 5) j t hl.2 (by simpa using hj)
    rw [show o + (j + 1) * 5 = o + 5 + j * 5 by omega]
    exact this
/-- The field j. -/
theorem DRepW.at_ {w : World} {a : Option Addr} : ∀ (ns : List ByteArray) (l : List Tr) (o j : Nat) (n : ByteArray) (t : Tr), DRepW w a o ns l → ns[j]? = some n → l[j]? = some t →
    ∃ b off c0 c1 c2 c3 c4, a = some ⟨b, off, none⟩ ∧ n.size ≤ maxLen ∧ w.cell? ⟨b, off + (o + j * 6), none⟩ = some (.string n) ∧ w.cell? ⟨b, off + (o + j * 6) + 1, none⟩ = some c0 ∧ w.cell? ⟨b, off + (o + j * 6) + 2, none⟩ = some c1 ∧ w.cell? ⟨b, off + (o + j * 6) + 3, none⟩ = some c2 ∧ w.cell? ⟨b, off + (o + j * 6) + 4, none⟩ = some c3 ∧ w.cell? ⟨b, off + (o + j * 6) + 5, none⟩ = some c4 ∧ VRepW w t (.agg #[c0, c1, c2, c3, c4])
  | ns, [], _, j, _, t, _, _, hj => by simp at hj
  | [], x :: r, _, j, _, t, hl, hn, _ => by simp at hn
  | m :: nr, x :: r, o, 0, n, t, hl, hn, hj => by
    unfold DRepW at hl
    obtain rfl : x = t := by simpa using hj
    obtain rfl : m = n := by simpa using hn
    simpa using hl.1
  | m :: nr, x :: r, o, j + 1, n, t, hl, hn, hj => by
    unfold DRepW at hl
    have := DRepW.at_ nr r (o + 6) j n t hl.2 (by simpa using hn) (by simpa using hj)
    rw [show o + (j + 1) * 6 = o + 6 + j * 6 by omega]
    exact this
/-- The cells of a value. -/
theorem VRepW.shape {w : World} {t : Tr} {v : Value} (h : VRepW w t v) : ∃ (k i : Int) (s : ByteArray) (la : Option Addr) (ln lc : Nat) (da : Option Addr) (dn dc : Nat), v = .agg #[.int .i64 k, .int .i64 i, .string s, .slice la ln lc, .slice da dn dc] := by
  cases t
  unfold VRepW at h
  obtain ⟨la, lc, da, dc, rfl, _⟩ := h
  exact ⟨_, _, _, _, _, _, _, _, _, rfl⟩
theorem VRepW.shape5 {w : World} {t : Tr} {c0 c1 c2 c3 c4 : Value} (h : VRepW w t (.agg #[c0, c1, c2, c3, c4])) : ∃ (k i : Int) (s : ByteArray) (la : Option Addr) (ln lc : Nat) (da : Option Addr) (dn dc : Nat), c0 = .int .i64 k ∧ c1 = .int .i64 i ∧ c2 = .string s ∧ c3 = .slice la ln lc ∧ c4 = .slice da dn dc := by
  obtain ⟨k, i, s, la, ln, lc, da, dn, dc, e⟩ := h.shape
  injection e with e
  simp only [Array.mk.injEq, List.cons.injEq, and_true] at e
  exact ⟨k, i, s, la, ln, lc, da, dn, dc, e.1, e.2.1, e.2.2.1, e.2.2.2.1, e.2.2.2.2⟩
mutual
/-- no list or document of more than 3000 parts -/
def Tr.Sm : Tr → Prop | .mk _ _ _ l _ ds => l.length ≤ 3000 ∧ ds.length ≤ 3000 ∧ Tr.SmL l ∧ Tr.SmL ds
def Tr.SmL : List Tr → Prop | [] => True | t :: r => Tr.Sm t ∧ Tr.SmL r
end
theorem Tr.SmL_of : ∀ (l : List Tr), (∀ t ∈ l, t.Sm) → Tr.SmL l
  | [], _ => by unfold Tr.SmL; trivial
  | t :: r, h => by unfold Tr.SmL; exact ⟨h t (by simp), Tr.SmL_of r (fun x hx => h x (by simp [hx]))⟩
mutual
theorem VRepW.strong {w : World} : ∀ (t : Tr) (v : Value), VRepW w t v → t.Sm → VRep w t v
  | .mk k i s l ns ds, v, hv, hs => by
    unfold VRepW at hv
    unfold Tr.Sm at hs
    unfold VRep
    obtain ⟨la, lc, da, dc, h1, h2, h3, h4, h5, h6, h7, h8, h9⟩ := hv
    exact ⟨la, lc, da, dc, h1, h2, ⟨h3, by omega⟩, h4, ⟨h5, by omega⟩, h6, h7, LRepW.strong la 0 l h8 hs.2.2.1, DRepW.strong da 0 ns ds h9 hs.2.2.2⟩
theorem LRepW.strong {w : World} (a : Option Addr) : ∀ (o : Nat) (l : List Tr), LRepW w a o l → Tr.SmL l → LRep w a o l
  | _, [], _, _ => by unfold LRep; trivial
  | o, t :: r, hl, hs => by
    unfold LRepW at hl
    unfold Tr.SmL at hs
    unfold LRep
    obtain ⟨⟨b, off, c0, c1, c2, c3, c4, h0, h1, h2, h3, h4, h5, h6⟩, hr⟩ := hl
    exact ⟨⟨b, off, c0, c1, c2, c3, c4, h0, h1, h2, h3, h4, h5, VRepW.strong t _ h6 hs.1⟩, LRepW.strong a (o + 5) r hr hs.2⟩
theorem DRepW.strong {w : World} (a : Option Addr) : ∀ (o : Nat) (ns : List ByteArray) (l : List Tr), DRepW w a o ns l → Tr.SmL l → DRep w a o ns l
  | _, _, [], _, _ => by unfold DRep; trivial
  | _, [], _ :: _, hl, _ => by unfold DRepW at hl; exact hl.elim
  | o, n :: nr, t :: r, hl, hs => by
    unfold DRepW at hl
    unfold Tr.SmL at hs
    unfold DRep
    obtain ⟨⟨b, off, c0, c1, c2, c3, c4, h0, hn, h1, h2, h3, h4, h5, h6, h7⟩, hr⟩ := hl
    exact ⟨⟨b, off, c0, c1, c2, c3, c4, h0, hn, h1, h2, h3, h4, h5, h6, VRepW.strong t _ h7 hs.1⟩, DRepW.strong a (o + 6) nr r hr hs.2⟩
end
/-- A list of elements that each lie in memory as some tree is a list of trees. -/
theorem lrepW_of {w : World} {b off : Nat} : ∀ (n o : Nat), (∀ j, j < n → ∃ c0 c1 c2 c3 c4 t, w.cell? ⟨b, off + (o + j * 5), none⟩ = some c0 ∧ w.cell? ⟨b, off + (o + j * 5) + 1, none⟩ = some c1 ∧ w.cell? ⟨b, off + (o + j * 5) + 2, none⟩ = some c2 ∧ w.cell? ⟨b, off + (o + j * 5) + 3, none⟩ = some c3 ∧ w.cell? ⟨b, off + (o + j * 5) + 4, none⟩ = some c4 ∧ VRepW w t (.agg #[c0, c1, c2, c3, c4])) →
    ∃ l : List Tr, l.length = n ∧ LRepW w (some ⟨b, off, none⟩) o l
  | 0, o, _ => ⟨[], rfl, by unfold LRepW; trivial⟩
  | n + 1, o, h => by
    obtain ⟨c0, c1, c2, c3, c4, t, e0, e1, e2, e3, e4, hv⟩ := h 0 (by omega)
    obtain ⟨l, hl, hr⟩ := lrepW_of (w := w) (b := b) (off := off) n (o + 5) (fun j hj => by
      have := h (j + 1) (by omega)
      rw [show o + (j + 1) * 5 = o + 5 + j * 5 by omega] at this
      exact this)
    simp only [Nat.zero_mul, Nat.add_zero] at e0 e1 e2 e3 e4
    refine ⟨t :: l, by simp [hl], ?_⟩
    unfold LRepW
    exact ⟨⟨b, off, c0, c1, c2, c3, c4, rfl, e0, e1, e2, e3, e4, hv⟩, hr⟩
theorem drepW_of {w : World} {b off : Nat} : ∀ (n o : Nat), (∀ j, j < n → ∃ nm c0 c1 c2 c3 c4 t, nm.size ≤ maxLen ∧ w.cell? ⟨b, off + (o + j * 6), none⟩ = some (.string nm) ∧ w.cell? ⟨b, off + (o + j * 6) + 1, none⟩ = some c0 ∧ w.cell? ⟨b, off + (o + j * 6) + 2, none⟩ = some c1 ∧ w.cell? ⟨b, off + (o + j * 6) + 3, none⟩ = some c2 ∧ w.cell? ⟨b, off + (o + j * 6) + 4, none⟩ = some c3 ∧ w.cell? ⟨b, off + (o + j * 6) + 5, none⟩ = some c4 ∧ VRepW w t (.agg #[c0, c1, c2, c3, c4])) →
    ∃ (ns : List ByteArray) (l : List Tr), ns.length = n ∧ l.length = n ∧ DRepW w (some ⟨b, off, none⟩) o ns l
  | 0, o, _ => ⟨[], [], rfl, rfl, by unfold DRepW; trivial⟩
  | n + 1, o, h => by
    obtain ⟨nm, c0, c1, c2, c3, c4, t, hn, en, e0, e1, e2, e3, e4, hv⟩ := h 0 (by omega)
    obtain ⟨ns, l, hns, hl, hr⟩ := drepW_of (w := w) (b := b) (off := off) n (o + 6) (fun j hj => by
      have := h (j + 1) (by omega)
      rw [show o + (j + 1) * 6 = o + 6 + j * 6 by omega] at this
      exact this)
    simp only [Nat.zero_mul, Nat.add_zero] at en e0 e1 e2 e3 e4
    refine ⟨nm :: ns, t :: l, by simp [hns], by simp [hl], ?_⟩
    unfold DRepW
    exact ⟨⟨b, off, c0, c1, c2, c3, c4, rfl, hn, en, e0, e1, e2, e3, e4, hv⟩, hr⟩
end Go.Proofs.YtdoofmohoamkbaaDoor
set_option linter.unusedSimpArgs false
set_option linter.unusedVariables false
namespace Go.Proofs.YtdoofmohoamkbaaDoor
open Go.RowKit
def FewCOk (t : Tr) : Prop := ∀ (v : Value) (w : World) (lv left : Int), VRepW w t v → 1 ≤ lv → lv ≤ 41 → 0 ≤ left → left ≤ 3000 →
  Calls Tryd.prog 35 #[v, .int .i64 lv, .int .i64 left] w fun e w' => (∃ n : Int, e = .returned (.int .i64 n) ∧ -1 ≤ n ∧ n ≤ left - 1 ∧ (0 ≤ n → t.Sm)) ∧ Ext w w'
set_option maxRecDepth 20000 in
set_option maxHeartbeats 4000000 in
theorem fewc_step (t : Tr) (ih : ∀ p, p.sz < t.sz → FewCOk p) : FewCOk t := by
  intro v w lv left hV h1 h2 h3 h4
  obtain ⟨k, i, s, l, ns, ds⟩ := t
  have ih2 : ∀ t, t ∈ l ∨ t ∈ ds → FewCOk t := fun t ht => ih t (by rcases ht with h | h; exact Tr.sz_list h; exact Tr.sz_docs h)
  unfold VRepW at hV
  obtain ⟨la, lc, da, dc, rfl, ⟨hs, _, _⟩, hl1, hl2, hd1, hd2, hnd, hL, hD⟩ := hV
  have HL := Lib.hid hL
  have HD := Lib.hid hD
  have HI := Lib.hid ih2
  clear hL hD ih ih2
  unfold maxLen at hl2 hd2 hs
  have w1 := wrap_i64_val (left - 1) (by omega) (by omega)
  have w2 := wrap_i64_val (lv + 1) (by omega) (by omega)
  by_cases hb : 40 < lv ∨ 5000 < s.size
  · go_enter Tryd.func35, Tryd.ntmps35
    by_cases hb1 : 40 < lv
    · go_wp2_with fail
      go_ret
      exact ⟨⟨-1, rfl, by omega, by omega, fun h => by omega⟩, by repeat (first | with_reducible assumption | with_reducible exact Ext.refl _ | with_reducible refine Ext.drew ?_ | with_reducible refine Ext.alloc ?_ _ | ((with_reducible refine Ext.setCell ?_ ?_ _); rotate_left; (· first | exact Nat.le_refl _ | (simp; done) | omega | (simp; omega))))⟩
    · have hb2 : (5000 : Int) < (s.size : Int) := by omega
      go_wp2_with fail
      go_ret
      exact ⟨⟨-1, rfl, by omega, by omega, fun h => by omega⟩, by repeat (first | with_reducible assumption | with_reducible exact Ext.refl _ | with_reducible refine Ext.drew ?_ | with_reducible refine Ext.alloc ?_ _ | ((with_reducible refine Ext.setCell ?_ ?_ _); rotate_left; (· first | exact Nat.le_refl _ | (simp; done) | omega | (simp; omega))))⟩
  have hb1 : ¬ 40 < lv := by omega
  have hb2 : ¬ (5000 : Int) < (s.size : Int) := by omega
  clear hb
  go_enter Tryd.func35, Tryd.ntmps35
  go_wp2_with fail
  go_loopw [2, 7] (fun x c wr => ∃ (j : Nat) (y : Int), j ≤ l.length ∧ c = .int .i64 j ∧ x = .int .i64 y ∧ -1 ≤ y ∧ y + j ≤ left - 1 ∧ Hid (0 ≤ y → ∀ u ∈ l.take j, u.Sm) ∧ Hid (Ext (w.alloc (.cells #[.int .i64 k, .int .i64 i, .string s, .slice la l.length lc, .slice da ds.length dc] 32)) wr)) (fun _ c _ => l.length - (intOf c).toNat)
  case atStart => exact ⟨0, left - 1, by omega, rfl, rfl, by omega, by omega, fun _ u hu => by simp at hu, Ext.refl _⟩
  case round =>
    obtain ⟨j, y, hj, rfl, rfl, hy1, hy2, HS, HE⟩ := hrel
    have ka := blk_cell (blk_ext (blk_at0 w (.cells #[.int .i64 k, .int .i64 i, .string s, .slice la l.length lc, .slice da ds.length dc] 32)) HE.out)
    have hz0 : w.heap.size < wr.heap.size := by have := HE.out.size; simp at this; omega
    have HEw := Lib.hid (((Ext.refl w).alloc _).trans HE.out)
    by_cases hlt : j < l.length ∧ 0 ≤ y
    · obtain ⟨hlt, hy0⟩ := hlt
      obtain ⟨b, off, c0, c1, c2, c3, c4, rfl, e0, e1, e2, e3, e4, hv⟩ := LRepW.at_ l 0 j l[j] HL.out (List.getElem?_eq_getElem hlt)
      obtain ⟨k1, i1, s1, la1, ln1, lc1, da1, dn1, dc1, rfl, rfl, rfl, rfl, rfl⟩ := hv.shape5
      have hEr := HEw.out
      have q0 := hEr.keep e0
      have q1 := hEr.keep e1
      have q2 := hEr.keep e2
      have q3 := hEr.keep e3
      have q4 := hEr.keep e4
      rw [Nat.zero_add] at q0 q1 q2 q3 q4
      have hb1 : b < wr.heap.size := World.block_lt_of_cell? _ _ q0
      have HV := Lib.hid (VRepW.ext hEr _ _ hv)
      obtain ⟨p, hp⟩ : ∃ p, l[j] = p := ⟨_, rfl⟩
      have hmem : p ∈ l := by rw [← hp]; exact List.getElem_mem hlt
      rw [hp] at HV
      have HP := Lib.hid hp
      clear e0 e1 e2 e3 e4 hv hEr hp
      go_wp2_with fail
      refine (HI.out p (.inl hmem) _ _ _ _ HV.out (by omega) (by omega) (by omega) (by omega)).mono ?_
      rintro e w3 ⟨⟨n, rfl, n1, n2, n3⟩, h3⟩
      have HE4 := Lib.hid (HE.out.trans h3)
      have HS3 : Hid (0 ≤ n → ∀ u ∈ l.take (j + 1), u.Sm) := fun hn u hu => by
        rw [List.take_succ_eq_append_getElem hlt, List.mem_append] at hu
        rcases hu with hu | hu
        · exact HS.out hy0 u hu
        · obtain rfl : u = l[j] := by simpa using hu
          rw [HP.out]; exact n3 hn
      clear ka q0 q1 q2 q3 q4 h3 n3 HS HE HEw
      go_wp2_with fail
      exact ⟨⟨j + 1, n, by omega, by go_num, rfl, n1, by omega, HS3, HE4⟩, by simp [intOf]; omega⟩
    · have hex : j = l.length ∨ (j < l.length ∧ y < 0) := by omega
      have hfin : 0 ≤ y → y ≤ left - 1 ∧ l.length ≤ 3000 ∧ (∀ u ∈ l, u.Sm) := fun h0 => by
        have hjl : j = l.length := by omega
        refine ⟨by omega, by omega, fun u hu => HS.out h0 u ?_⟩
        rw [hjl, List.take_length]; exact hu
      have HF := Lib.hid hfin
      clear hfin hlt HS
      rcases hex with hex | hex
      · subst hex
        obtain ⟨wo, rfl⟩ : ∃ wo : World, wo = wr := ⟨_, rfl⟩
        go_wp2_with fail
        clear ka HEw hz0
        go_loopw [2, 8] (fun x c wr => ∃ (j : Nat) (y : Int), j ≤ ds.length ∧ c = .int .i64 j ∧ x = .int .i64 y ∧ -1 ≤ y ∧ y + j ≤ left - 1 ∧ Hid (0 ≤ y → l.length ≤ 3000 ∧ (∀ u ∈ l, u.Sm) ∧ (∀ u ∈ ds.take j, u.Sm)) ∧ Hid (Ext (w.alloc (.cells #[.int .i64 k, .int .i64 i, .string s, .slice la l.length lc, .slice da ds.length dc] 32)) wr)) (fun _ c _ => ds.length - (intOf c).toNat)
        case atStart => exact ⟨0, y, by omega, rfl, rfl, by omega, by omega, fun h0 => ⟨(HF.out h0).2.1, (HF.out h0).2.2, fun u hu => by simp at hu⟩, HE⟩
        case round =>
          clear HE HF hy1 hy2
          obtain ⟨j, y, hj, rfl, rfl, hy1, hy2, HS, HE⟩ := hrel
          have ka := blk_cell (blk_ext (blk_at0 w (.cells #[.int .i64 k, .int .i64 i, .string s, .slice la l.length lc, .slice da ds.length dc] 32)) HE.out)
          have hz0 : w.heap.size < wr.heap.size := by have := HE.out.size; simp at this; omega
          have HEw := Lib.hid (((Ext.refl w).alloc _).trans HE.out)
          by_cases hlt : j < ds.length ∧ 0 ≤ y
          · obtain ⟨hlt, hy0⟩ := hlt
            obtain ⟨b, off, c0, c1, c2, c3, c4, rfl, hnm, en, e0, e1, e2, e3, e4, hv⟩ := DRepW.at_ ns ds 0 j (ns[j]'(by omega)) ds[j] HD.out (List.getElem?_eq_getElem (by omega)) (List.getElem?_eq_getElem hlt)
            obtain ⟨k1, i1, s1, la1, ln1, lc1, da1, dn1, dc1, rfl, rfl, rfl, rfl, rfl⟩ := hv.shape5
            have hEr := HEw.out
            have qn := hEr.keep en
            have q0 := hEr.keep e0
            have q1 := hEr.keep e1
            have q2 := hEr.keep e2
            have q3 := hEr.keep e3
            have q4 := hEr.keep e4
            rw [Nat.zero_add] at qn q0 q1 q2 q3 q4
            have hb1 : b < wr.heap.size := World.block_lt_of_cell? _ _ q0
            have HV := Lib.hid (VRepW.ext hEr _ _ hv)
            obtain ⟨p, hp⟩ : ∃ p, ds[j] = p := ⟨_, rfl⟩
            have hmem : p ∈ ds := by rw [← hp]; exact List.getElem_mem hlt
            rw [hp] at HV
            obtain ⟨nm, hn⟩ : ∃ n, ns[j]'(by omega) = n := ⟨_, rfl⟩
            rw [hn] at qn hnm
            have HP := Lib.hid hp
            clear e0 e1 e2 e3 e4 hv hEr hp en hn
            by_cases hbn : 200 < nm.size
            · have hbn2 : (200 : Int) < (nm.size : Int) := by omega
              go_wp2_with fail
              go_ret
              exact ⟨⟨-1, rfl, by omega, by omega, fun h => by omega⟩, HEw.out⟩
            have hbn2 : ¬ (200 : Int) < (nm.size : Int) := by omega
            go_wp2_with fail
            refine (HI.out p (.inr hmem) _ _ _ _ HV.out (by omega) (by omega) (by omega) (by omega)).mono ?_
            rintro e w3 ⟨⟨n, rfl, n1, n2, n3⟩, h3⟩
            have HE4 := Lib.hid (HE.out.trans h3)
            have HS3 : Hid (0 ≤ n → l.length ≤ 3000 ∧ (∀ u ∈ l, u.Sm) ∧ (∀ u ∈ ds.take (j + 1), u.Sm)) := fun hn => by
              obtain ⟨f1, f2, f3⟩ := HS.out hy0
              refine ⟨f1, f2, fun u hu => ?_⟩
              rw [List.take_succ_eq_append_getElem hlt, List.mem_append] at hu
              rcases hu with hu | hu
              · exact f3 u hu
              · obtain rfl : u = ds[j] := by simpa using hu
                rw [HP.out]; exact n3 hn
            clear ka qn q0 q1 q2 q3 q4 h3 n3 HS HE HEw
            go_wp2_with fail
            exact ⟨⟨j + 1, n, by omega, by go_num, rfl, n1, by omega, HS3, HE4⟩, by simp [intOf]; omega⟩
          · have hex : j = ds.length ∨ (j < ds.length ∧ y < 0) := by omega
            rcases hex with hex | hex
            · clear hlt
              go_wp2_with fail
              go_ret
              refine ⟨⟨y, rfl, hy1, by omega, fun h0 => ?_⟩, HEw.out⟩
              obtain ⟨f1, f2, f3⟩ := HS.out h0
              have hjl : j = ds.length := by omega
              unfold Tr.Sm
              refine ⟨f1, by omega, Tr.SmL_of _ f2, Tr.SmL_of _ (fun u hu => f3 u ?_)⟩
              rw [hjl, List.take_length]; exact hu
            · clear hlt
              go_wp2_with fail
              go_ret
              refine ⟨⟨y, rfl, hy1, by omega, fun h0 => ?_⟩, HEw.out⟩
              obtain ⟨f1, f2, f3⟩ := HS.out h0
              have hjl : j = ds.length := by omega
              unfold Tr.Sm
              refine ⟨f1, by omega, Tr.SmL_of _ f2, Tr.SmL_of _ (fun u hu => f3 u ?_)⟩
              rw [hjl, List.take_length]; exact hu
      · obtain ⟨wo, rfl⟩ : ∃ wo : World, wo = wr := ⟨_, rfl⟩
        go_wp2_with fail
        clear ka HEw hz0
        go_loopw [2, 8] (fun x c wr => ∃ (j : Nat) (y : Int), j ≤ ds.length ∧ c = .int .i64 j ∧ x = .int .i64 y ∧ -1 ≤ y ∧ y + j ≤ left - 1 ∧ Hid (0 ≤ y → l.length ≤ 3000 ∧ (∀ u ∈ l, u.Sm) ∧ (∀ u ∈ ds.take j, u.Sm)) ∧ Hid (Ext (w.alloc (.cells #[.int .i64 k, .int .i64 i, .string s, .slice la l.length lc, .slice da ds.length dc] 32)) wr)) (fun _ c _ => ds.length - (intOf c).toNat)
        case atStart => exact ⟨0, y, by omega, rfl, rfl, by omega, by omega, fun h0 => ⟨(HF.out h0).2.1, (HF.out h0).2.2, fun u hu => by simp at hu⟩, HE⟩
        case round =>
          clear HE HF hy1 hy2
          obtain ⟨j, y, hj, rfl, rfl, hy1, hy2, HS, HE⟩ := hrel
          have ka := blk_cell (blk_ext (blk_at0 w (.cells #[.int .i64 k, .int .i64 i, .string s, .slice la l.length lc, .slice da ds.length dc] 32)) HE.out)
          have hz0 : w.heap.size < wr.heap.size := by have := HE.out.size; simp at this; omega
          have HEw := Lib.hid (((Ext.refl w).alloc _).trans HE.out)
          by_cases hlt : j < ds.length ∧ 0 ≤ y
          · obtain ⟨hlt, hy0⟩ := hlt
            obtain ⟨b, off, c0, c1, c2, c3, c4, rfl, hnm, en, e0, e1, e2, e3, e4, hv⟩ := DRepW.at_ ns ds 0 j (ns[j]'(by omega)) ds[j] HD.out (List.getElem?_eq_getElem (by omega)) (List.getElem?_eq_getElem hlt)
            obtain ⟨k1, i1, s1, la1, ln1, lc1, da1, dn1, dc1, rfl, rfl, rfl, rfl, rfl⟩ := hv.shape5
            have hEr := HEw.out
            have qn := hEr.keep en
            have q0 := hEr.keep e0
            have q1 := hEr.keep e1
            have q2 := hEr.keep e2
            have q3 := hEr.keep e3
            have q4 := hEr.keep e4
            rw [Nat.zero_add] at qn q0 q1 q2 q3 q4
            have hb1 : b < wr.heap.size := World.block_lt_of_cell? _ _ q0
            have HV := Lib.hid (VRepW.ext hEr _ _ hv)
            obtain ⟨p, hp⟩ : ∃ p, ds[j] = p := ⟨_, rfl⟩
            have hmem : p ∈ ds := by rw [← hp]; exact List.getElem_mem hlt
            rw [hp] at HV
            obtain ⟨nm, hn⟩ : ∃ n, ns[j]'(by omega) = n := ⟨_, rfl⟩
            rw [hn] at qn hnm
            have HP := Lib.hid hp
            clear e0 e1 e2 e3 e4 hv hEr hp en hn
            by_cases hbn : 200 < nm.size
            · have hbn2 : (200 : Int) < (nm.size : Int) := by omega
              go_wp2_with fail
              go_ret
              exact ⟨⟨-1, rfl, by omega, by omega, fun h => by omega⟩, HEw.out⟩
            have hbn2 : ¬ (200 : Int) < (nm.size : Int) := by omega
            go_wp2_with fail
            refine (HI.out p (.inr hmem) _ _ _ _ HV.out (by omega) (by omega) (by omega) (by omega)).mono ?_
            rintro e w3 ⟨⟨n, rfl, n1, n2, n3⟩, h3⟩
            have HE4 := Lib.hid (HE.out.trans h3)
            have HS3 : Hid (0 ≤ n → l.length ≤ 3000 ∧ (∀ u ∈ l, u.Sm) ∧ (∀ u ∈ ds.take (j + 1), u.Sm)) := fun hn => by
              obtain ⟨f1, f2, f3⟩ := HS.out hy0
              refine ⟨f1, f2, fun u hu => ?_⟩
              rw [List.take_succ_eq_append_getElem hlt, List.mem_append] at hu
              rcases hu with hu | hu
              · exact f3 u hu
              · obtain rfl : u = ds[j] := by simpa using hu
                rw [HP.out]; exact n3 hn
            clear ka qn q0 q1 q2 q3 q4 h3 n3 HS HE HEw
            go_wp2_with fail
            exact ⟨⟨j + 1, n, by omega, by go_num, rfl, n1, by omega, HS3, HE4⟩, by simp [intOf]; omega⟩
          · have hex : j = ds.length ∨ (j < ds.length ∧ y < 0) := by omega
            rcases hex with hex | hex
            · clear hlt
              go_wp2_with fail
              go_ret
              refine ⟨⟨y, rfl, hy1, by omega, fun h0 => ?_⟩, HEw.out⟩
              obtain ⟨f1, f2, f3⟩ := HS.out h0
              have hjl : j = ds.length := by omega
              unfold Tr.Sm
              refine ⟨f1, by omega, Tr.SmL_of _ f2, Tr.SmL_of _ (fun u hu => f3 u ?_)⟩
              rw [hjl, List.take_length]; exact hu
            · clear hlt
              go_wp2_with fail
              go_ret
              refine ⟨⟨y, rfl, hy1, by omega, fun h0 => ?_⟩, HEw.out⟩
              obtain ⟨f1, f2, f3⟩ := HS.out h0
              have hjl : j = ds.length := by omega
              unfold Tr.Sm
              refine ⟨f1, by omega, Tr.SmL_of _ f2, Tr.SmL_of _ (fun u hu => f3 u ?_)⟩
              rw [hjl, List.take_length]; exact hu
theorem fewc_ok (t : Tr) : FewCOk t := by
  have : ∀ n (t : Tr), t.sz = n → FewCOk t := by
    intro n
    induction n using Nat.strongRecOn with
    | _ n ih => intro t ht; exact fewc_step t (fun p hp => ih p.sz (by rw [← ht]; exact hp) p rfl)
  exact this _ t rfl
set_option maxHeartbeats 1000000 in
theorem Few_ok (t : Tr) (v : Value) (w : World) (hV : VRepW w t v) : Calls Tryd.prog 23 #[v, .int .i64 3000] w fun e w' => (∃ b : Bool, e = .returned (.bool b) ∧ (b = true → t.Sm)) ∧ Ext w w' := by
  obtain ⟨k, i, s, la, ln, lc, da, dn, dc, rfl⟩ := hV.shape
  have HV := Lib.hid hV
  clear hV
  go_enter Tryd.func23, Tryd.ntmps23
  go_wp2_with fail
  refine (fewc_ok t _ _ _ _ (VRepW.ext ((Ext.refl w).alloc _) _ _ HV.out) (by omega) (by omega) (by omega) (by omega)).mono ?_
  rintro e w1 ⟨⟨n, rfl, n1, n2, n3⟩, h1⟩
  go_wp2_with fail
  go_ret
  exact ⟨⟨_, rfl, fun h => n3 (by simpa using h)⟩, h1.of_alloc⟩
end Go.Proofs.YtdoofmohoamkbaaDoor
set_option linter.unusedSimpArgs false
set_option linter.unusedVariables false
namespace Go.Proofs.YtdoofmohoamkbaaDoor
open Go.ChangeShapes Go.WideShapes Go.ChangeAt Go.RowKit
section
variable {H : Type} {enc : TypeId × Value → H} {w : World}
theorem len5 {α : Type} {l : List α} (h : l.length = 5) : ∃ a b c d e, l = [a, b, c, d, e] := by
  match l, h with
  | [a, b, c, d, e], _ => exact ⟨a, b, c, d, e, rfl⟩
theorem len6 {α : Type} {l : List α} (h : l.length = 6) : ∃ a b c d e f, l = [a, b, c, d, e, f] := by
  match l, h with
  | [a, b, c, d, e, f], _ => exact ⟨a, b, c, d, e, f, rfl⟩
theorem cellsVal : Tryd.prog.cellsOf 32 = 5 := by kernel_rfl
theorem cellsFld : Tryd.prog.cellsOf 60 = 6 := by kernel_rfl
theorem cellsInt : Tryd.prog.cellsOf 3 = 1 := by kernel_rfl
theorem cellsStr : Tryd.prog.cellsOf 9 = 1 := by kernel_rfl
theorem cellsLVal : Tryd.prog.cellsOf 29 = 1 := by kernel_rfl
theorem cellsLFld : Tryd.prog.cellsOf 30 = 1 := by kernel_rfl
theorem spot_none {a : Addr} {v : Value} (h : w.cell? a = some v) : a = ⟨a.block, a.off, none⟩ := by
  unfold World.cell? at h
  split at h
  · split at h
    · cases h
    · rename_i hs
      obtain ⟨b, o, s⟩ := a
      cases s
      · rfl
      · simp at hs
  · cases h
theorem add_plain2 (b o q : Nat) : (⟨b, o, none⟩ : Addr).add q = ⟨b, o + q, none⟩ := by unfold Addr.add; split <;> simp_all
theorem i64_of_wf {n : Int} (h : (Lit.int .i64 n).wf = true) : I64 n := by
  simp only [Lit.wf, Bool.and_eq_true, decide_eq_true_eq] at h
  have h1 : IntKind.min .i64 = -9223372036854775808 := by kernel_rfl
  have h2 : IntKind.max .i64 = 9223372036854775807 := by kernel_rfl
  unfold I64; omega
theorem bind_some {α β : Type} {o : Option α} {f : α → Option β} {l : List β} {i : Nat} (hi : i < l.length) (h : o.bind f = l[i]?) : ∃ a y, o = some a ∧ f a = some y := by
  rw [List.getElem?_eq_getElem hi, Option.bind_eq_some_iff] at h
  obtain ⟨a, h1, h2⟩ := h
  exact ⟨a, _, h1, h2⟩
theorem get_some {α : Type} {o : Option α} {l : List α} {i : Nat} (hi : i < l.length) (h : o = l[i]?) : ∃ y, o = some y := ⟨_, h.trans (List.getElem?_eq_getElem hi)⟩
theorem vrepW_of_trod : ∀ (fuel : Nat) (cs : List Value) (x : DataW H × List MemPlace), DataW.trod enc Tryd.prog w 0 (fun _ => true) true fuel 32 cs = some x →
    ∃ t c0 c1 c2 c3 c4, cs = [c0, c1, c2, c3, c4] ∧ VRepW w t (.agg #[c0, c1, c2, c3, c4]) := by
  intro fuel
  induction fuel using Nat.strongRecOn with
  | _ fuel ih =>
    intro cs x h
    obtain ⟨xs, n, rfl, rfl, hl, hlen, hf⟩ := DataW.trod_struct Tryd.underlying32 h
    rw [cellsVal] at hl
    obtain ⟨c0, c1, c2, c3, c4, rfl⟩ := len5 hl
    have hlen5 : xs.length = 5 := hlen
    obtain ⟨y0, h0⟩ := get_some (show 0 < xs.length by omega) (hf 0 _ rfl)
    obtain ⟨y1, h1⟩ := get_some (show 1 < xs.length by omega) (hf 1 _ rfl)
    obtain ⟨y2, h2⟩ := get_some (show 2 < xs.length by omega) (hf 2 _ rfl)
    obtain ⟨y3, h3⟩ := get_some (show 3 < xs.length by omega) (hf 3 _ rfl)
    obtain ⟨y4, h4⟩ := get_some (show 4 < xs.length by omega) (hf 4 _ rfl)
    simp only [List.getElem_toArray, List.getElem_cons_zero, List.getElem_cons_succ, cellsInt, cellsStr, cellsLVal, cellsLFld, List.drop_succ_cons, List.drop_zero, List.take_succ_cons, List.take_zero] at h0 h1 h2 h3 h4
    obtain ⟨k, e0, -, k0⟩ := DataW.trod_int Tryd.underlying3 h0
    obtain ⟨i, e1, -, k1⟩ := DataW.trod_int Tryd.underlying3 h1
    obtain ⟨s, e2, -, k2⟩ := DataW.trod_string Tryd.underlying9 h2
    simp only [List.cons.injEq, and_true] at e0 e1 e2
    subst e0 e1 e2
    clear hf h0 h1 h2 h hl hlen
    have L : ∃ (la : Option Addr) (lc : Nat) (l : List Tr), c3 = .slice la l.length lc ∧ l.length ≤ lc ∧ lc ≤ maxLen ∧ LRepW w la 0 l := by
      rcases DataW.trod_slice Tryd.underlying29 h3 with ⟨e, _⟩ | ⟨a, len, cap, elems, rest, m, rfl, e, -, -, hlc, hcm, hel, hat, -, -⟩
      · simp only [List.cons.injEq, and_true] at e
        exact ⟨none, 0, [], e, by simp, by simp, by unfold LRepW; trivial⟩
      · simp only [List.cons.injEq, and_true] at e
        cases len with
        | zero => exact ⟨some a, cap, [], e, by simp, hcm, by unfold LRepW; trivial⟩
        | succ len =>
          simp only [cellsVal] at hat
          have each : ∀ j, j < len + 1 → ∃ c0 c1 c2 c3 c4 t, (∀ q u, [c0, c1, c2, c3, c4][q]? = some u → w.cell? ((a.add (j * 5)).add q) = some u) ∧ VRepW w t (.agg #[c0, c1, c2, c3, c4]) := by
            intro j hj
            obtain ⟨cs', y, hc, hy⟩ := bind_some (by omega) (hat j hj)
            obtain ⟨t, c0, c1, c2, c3, c4, rfl, hv⟩ := ih m (by omega) cs' y hy
            refine ⟨c0, c1, c2, c3, c4, t, fun q u hq => ?_, hv⟩
            rw [(World.cells?_some hc).2.2 q (by have := (List.getElem?_eq_some_iff.1 hq).1; simpa using this), hq]
          have ha : a = ⟨a.block, a.off, none⟩ := by
            obtain ⟨c0, _, _, _, _, _, hc, _⟩ := each 0 (by omega)
            have := hc 0 c0 rfl
            simp only [Nat.zero_mul, Addr.add, if_true] at this
            exact spot_none this
          obtain ⟨b, off, sp⟩ := a
          simp only [Addr.mk.injEq, true_and] at ha
          subst ha
          obtain ⟨l, hl, hr⟩ := lrepW_of (w := w) (b := b) (off := off) (len + 1) 0 (fun j hj => by
            obtain ⟨c0, c1, c2, c3, c4, t, hc, hv⟩ := each j hj
            have key : ∀ q, ((⟨b, off, none⟩ : Addr).add (j * 5)).add q = ⟨b, off + (0 + j * 5) + q, none⟩ := by
              intro q
              rw [add_plain2, add_plain2, Nat.zero_add]
            refine ⟨c0, c1, c2, c3, c4, t, ?_, ?_, ?_, ?_, ?_, hv⟩
            · have := hc 0 c0 rfl; rwa [key] at this
            · have := hc 1 c1 rfl; rwa [key] at this
            · have := hc 2 c2 rfl; rwa [key] at this
            · have := hc 3 c3 rfl; rwa [key] at this
            · have := hc 4 c4 rfl; rwa [key] at this)
          exact ⟨_, cap, l, by rw [hl]; exact e, by omega, hcm, hr⟩
    have D : ∃ (da : Option Addr) (dc : Nat) (ns : List ByteArray) (ds : List Tr), c4 = .slice da ds.length dc ∧ ns.length = ds.length ∧ ds.length ≤ dc ∧ dc ≤ maxLen ∧ DRepW w da 0 ns ds := by
      rcases DataW.trod_slice Tryd.underlying30 h4 with ⟨e, _⟩ | ⟨a, len, cap, elems, rest, m, rfl, e, -, -, hlc, hcm, hel, hat, -, -⟩
      · simp only [List.cons.injEq, and_true] at e
        exact ⟨none, 0, [], [], e, by simp, by simp, by simp, by unfold DRepW; trivial⟩
      · simp only [List.cons.injEq, and_true] at e
        cases len with
        | zero => exact ⟨some a, cap, [], [], e, by simp, by simp, hcm, by unfold DRepW; trivial⟩
        | succ len =>
          simp only [cellsFld] at hat
          have each : ∀ j, j < len + 1 → ∃ nm c0 c1 c2 c3 c4 t, nm.size ≤ maxLen ∧ (∀ q u, [.string nm, c0, c1, c2, c3, c4][q]? = some u → w.cell? ((a.add (j * 6)).add q) = some u) ∧ VRepW w t (.agg #[c0, c1, c2, c3, c4]) := by
            intro j hj
            obtain ⟨cs', y, hc, hy⟩ := bind_some (by omega) (hat j hj)
            obtain ⟨xs', n', rfl, rfl, hl', hlen', hf'⟩ := DataW.trod_struct Tryd.underlying60 hy
            rw [cellsFld] at hl'
            obtain ⟨cn, c0, c1, c2, c3, c4, rfl⟩ := len6 hl'
            have hlen2 : xs'.length = 2 := hlen'
            obtain ⟨z0, g0⟩ := get_some (show 0 < xs'.length by omega) (hf' 0 _ rfl)
            obtain ⟨z1, g1⟩ := get_some (show 1 < xs'.length by omega) (hf' 1 _ rfl)
            simp only [List.getElem_toArray, List.getElem_cons_zero, List.getElem_cons_succ, cellsStr, cellsVal, List.drop_succ_cons, List.drop_zero, List.take_succ_cons, List.take_zero, List.take_nil] at g0 g1
            obtain ⟨nm, en, -, kn⟩ := DataW.trod_string Tryd.underlying9 g0
            simp only [List.cons.injEq, and_true] at en
            subst en
            obtain ⟨t, d0, d1, d2, d3, d4, e, hv⟩ := ih n' (by omega) _ z1 g1
            simp only [List.cons.injEq, and_true] at e
            obtain ⟨rfl, rfl, rfl, rfl, rfl⟩ := e
            refine ⟨nm, c0, c1, c2, c3, c4, t, kn, fun q u hq => ?_, hv⟩
            rw [(World.cells?_some hc).2.2 q (by have := (List.getElem?_eq_some_iff.1 hq).1; simpa using this), hq]
          have ha : a = ⟨a.block, a.off, none⟩ := by
            obtain ⟨nm, _, _, _, _, _, _, _, hc, _⟩ := each 0 (by omega)
            have := hc 0 (.string nm) rfl
            simp only [Nat.zero_mul, Addr.add, if_true] at this
            exact spot_none this
          obtain ⟨b, off, sp⟩ := a
          simp only [Addr.mk.injEq, true_and] at ha
          subst ha
          obtain ⟨ns, l, hns, hl, hr⟩ := drepW_of (w := w) (b := b) (off := off) (len + 1) 0 (fun j hj => by
            obtain ⟨nm, c0, c1, c2, c3, c4, t, hnm, hc, hv⟩ := each j hj
            have key : ∀ q, ((⟨b, off, none⟩ : Addr).add (j * 6)).add q = ⟨b, off + (0 + j * 6) + q, none⟩ := by
              intro q
              rw [add_plain2, add_plain2, Nat.zero_add]
            refine ⟨nm, c0, c1, c2, c3, c4, t, hnm, ?_, ?_, ?_, ?_, ?_, ?_, hv⟩
            · have := hc 0 _ rfl; rwa [key] at this
            · have := hc 1 c0 rfl; rwa [key] at this
            · have := hc 2 c1 rfl; rwa [key] at this
            · have := hc 3 c2 rfl; rwa [key] at this
            · have := hc 4 c3 rfl; rwa [key] at this
            · have := hc 5 c4 rfl; rwa [key] at this)
          exact ⟨_, cap, ns, l, by rw [hl]; exact e, by omega, by omega, hcm, hr⟩
    obtain ⟨la, lc, l, rfl, l1, l2, l3⟩ := L
    obtain ⟨da, dc, ns, ds, rfl, d0, d1, d2, d3⟩ := D
    refine ⟨.mk k i s l ns ds, _, _, _, _, _, rfl, ?_⟩
    unfold VRepW
    exact ⟨la, lc, da, dc, rfl, ⟨k2, i64_of_wf k0, i64_of_wf k1⟩, l1, l2, d1, d2, d0, l3, d3⟩
/-- A value that is handed over. -/
theorem vrepW_arg {v : Value} {d : DataW H} {ps : List MemPlace} {base : Nat} (hval : Value.okWide Tryd.prog w .any base 32 v) (h : DataW.Trod enc Tryd.prog w 0 (fun _ => true) true 32 v d ps) : ∃ t, VRepW w t v := by
  obtain ⟨fuel, hf⟩ := h
  obtain ⟨cs, rfl, hcs⟩ := okWide_struct Tryd.underlying32 hval
  obtain ⟨t, c0, c1, c2, c3, c4, e, hv⟩ := vrepW_of_trod fuel _ _ hf
  refine ⟨t, ?_⟩
  have : cs = #[c0, c1, c2, c3, c4] := by
    cases cs; simpa [Value.cells] using e
  rw [this]; exact hv
end
end Go.Proofs.YtdoofmohoamkbaaDoor
set_option linter.unusedSimpArgs false
set_option linter.unusedVariables false
namespace Go.Proofs.YtdoofmohoamkbaaDoor
open Go.RowKit
set_option maxRecDepth 20000 in
set_option maxHeartbeats 1000000 in
theorem encodes_walk (t : Tr) (v : Value) (w : World) (hV : VRepW w t v) (hT : Tabs w) : Calls Tryd.prog 9 #[v] w fun e w' => e = .returned (.bool true) ∧ Ext w w' := by
  have HT := Lib.hid hT
  obtain ⟨k, i, s, la, ln, lc, da, dn, dc, rfl⟩ := hV.shape
  have HV := Lib.hid hV
  clear hT hV
  obtain ⟨r, hr⟩ : ∃ r, encR t = r := ⟨_, rfl⟩
  obtain ⟨r, c⟩ := r
  have HR := Lib.hid hr
  clear hr
  go_enter Tryd.func9, Tryd.ntmps9
  go_wp2_with fail
  refine (Few_ok t _ _ (VRepW.ext ((Ext.refl w).alloc _) _ _ HV.out)).mono ?_
  rintro e w1 ⟨⟨b, rfl, hb⟩, h1⟩
  have k1 := h1.ownc
  have l1 := h1.lt
  have HE1 := Lib.hid h1.of_alloc
  have HA1 := Lib.hid h1
  clear h1
  cases b with
  | false =>
    clear hb
    go_wp2_with fail
    refine (awake_ok _ (HT.out.ext HE1.out)).mono ?_
    rintro e w2 ⟨rfl, h2⟩
    go_wp2_with fail
    go_ret
    exact ⟨rfl, HE1.out.trans h2⟩
  | true =>
    have HV1 := Lib.hid (VRepW.strong _ _ (VRepW.ext HE1.out _ _ HV.out) (hb rfl))
    clear hb HV
    go_wp2_with fail
    refine (Encode_ok t _ _ HV1.out (HT.out.ext HE1.out)).mono ?_
    rw [HR.out]
    rintro e w2 ⟨rfl, h2⟩
    have HE2 := Lib.hid (HE1.out.trans h2)
    have HA2 := Lib.hid (HA1.out.trans h2)
    have HV2 := Lib.hid (VRep.ext h2 _ _ HV1.out)
    clear h2 k1 l1 HA1 HV1
    have k2 := HA2.out.ownc
    have l2 := HA2.out.lt
    go_wp2_with fail
    refine (REncode_ok t _ _ HV2.out).mono ?_
    rw [HR.out]
    rintro e w3 ⟨rfl, h3⟩
    have HE3 := Lib.hid (HE2.out.trans h3)
    have HA3 := Lib.hid (HA2.out.trans h3)
    have HV3 := Lib.hid (VRep.ext h3 _ _ HV2.out)
    clear h3 k2 l2 HA2 HV2 HE1 HE2
    have k3 := HA3.out.ownc
    have l3 := HA3.out.lt
    go_wp2_with fail
    refine (Length_ok t _ _ HV3.out (HT.out.ext HE3.out)).mono ?_
    rw [HR.out]
    rintro e w4 ⟨rfl, h4⟩
    have HE4 := Lib.hid (HE3.out.trans h4)
    clear h4 k3 l3 HA3 HV3 HE3
    go_wp2_with fail
    refine (awake_ok _ (HT.out.ext HE4.out)).mono ?_
    rintro e w5 ⟨rfl, h5⟩
    go_wp2_with fail
    go_ret
    exact ⟨rfl, HE4.out.trans h5⟩
end Go.Proofs.YtdoofmohoamkbaaDoor
set_option linter.unusedSimpArgs false
set_option linter.unusedVariables false
namespace Go.Proofs.YtdoofmohoamkbaaDoor.codecEncodes
open Go.ChangeShapes Go.WideShapes Go.ChangeAt Go.RowKit

/-- What the walk gives, for every argument and every world. -/
theorem contract (H : Type) (enc : TypeId × Value → H) (W : World) (base : Nat) (args : Array Value) (ds gs : List (DataW H)) (before : List MemPlace)
    (hval : ∀ (j : Nat) t v, Tryd.f9.params[j]? = some t → args[j]? = some v → Value.okWide Tryd.prog W .any base t v)
    (hW : DataW.Whole enc Tryd.prog Tryd.f9.params.toList Rows.codecEncodesSpec.vars false W args.toList ds gs before) (_hL : laidMetH Tryd.prog Rows.codecEncodesRow.laid W) :
    Calls Tryd.prog 9 args W fun e W' => ∃ v, e = .returned v ∧ Rows.codecEncodesSpec.post enc Tryd.prog Tryd.f9 false true false false W args v W' := by
  have hW' := hW
  obtain ⟨p, q, hA0, hV, rfl, hfz, hnd⟩ := hW
  have hA : DataW.TrodAll enc Tryd.prog W 0 (fun _ => true) true Tryd.f9.params.toList args.toList ds p := hA0
  rw [Tryd.params9] at hA hval
  obtain ⟨v0, vs0, d0, ds0, p0, q0, hargs, rfl, rfl, h0, r0⟩ := trodAll_cons hA
  obtain ⟨rfl, rfl, rfl⟩ := trodAll_nil r0
  obtain rfl : args = #[v0] := by cases args; simp_all
  obtain ⟨rfl, rfl⟩ := trodVars_none hV
  clear hA0 hargs
  suffices walk : Calls Tryd.prog 9 #[v0] W fun e W' => e = .returned (.bool true) ∧ Ext W W' by
    refine walk.mono fun e W' ⟨he, hg⟩ => ?_
    subst he
    exact ⟨_, rfl, law_post (by kernel_rfl) (by kernel_rfl) rfl rfl Tryd.underlying4 hW' rfl hg⟩
  have hT : Tabs W := tabs_of_laid _hL
  obtain ⟨t, hv⟩ := vrepW_arg (hval 0 32 v0 rfl rfl) h0
  exact encodes_walk t v0 W hv hT

theorem laid_met (os : Os) : laidMet Tryd.prog Rows.codecEncodesRow.laid ((laidWorld os).forCall (fun _ _ => 0) ⟨#[], #[.agg #[.int .i64 0, .int .i64 0, .string ⟨#[]⟩, .slice none 0 0, .slice none 0 0]], []⟩).memory :=
  laidMet_of_run' 8 (by kernel_rfl) (by kernel_rfl)
theorem reads (os : Os) {H : Type} (enc : TypeId × Value → H) : ∃ places, DataW.whole enc Tryd.prog ((laidWorld os).forCall (fun _ _ => 0) ⟨#[], #[.agg #[.int .i64 0, .int .i64 0, .string ⟨#[]⟩, .slice none 0 0, .slice none 0 0]], []⟩).memory Tryd.f9.params.toList Rows.codecEncodesSpec.vars false #[.agg #[.int .i64 0, .int .i64 0, .string ⟨#[]⟩, .slice none 0 0, .slice none 0 0]].toList 8 = some ([.agg [.lit (.int .i64 0), .lit (.int .i64 0), .lit (.string []), .nil, .nil]], [], places) :=
  ⟨[], by kernel_rfl⟩

set_option maxRecDepth 100000 in
theorem lifted (os : Os) (started : os.Started) (H : Type) (enc : TypeId × Value → H) (F : Stop.Interp) :
    ReturnsInHanded {} Tryd.checked os 9 .any ((OpenSpec.ofChange Rows.codecEncodesSpec).preRow enc Tryd.prog Tryd.f9 Rows.codecEncodesRow.domain false Rows.codecEncodesRow.laid) (((OpenSpec.ofChange Rows.codecEncodesSpec).at F).post enc Tryd.prog Tryd.f9 false true false false) := by
  obtain ⟨places, hx⟩ := reads os enc
  refine returnsInHanded_of_row (C := Tryd.checked) (s := OpenSpec.ofChange Rows.codecEncodesSpec) own started (by kernel_rfl) Tryd.func9
    (witness_row_at (enc := enc) (C := Tryd.checked) false (laidWorld os) #[.agg #[.int .i64 0, .int .i64 0, .string ⟨#[]⟩, .slice none 0 0, .slice none 0 0]] rfl (by kernel_rfl) (by kernel_rfl) (by kernel_rfl)
      (OpenSpec.preRow_of_cond 8 hx (by kernel_rfl) (fun k hk => by cases hk) (by kernel_rfl) (laid_met os))) ?_
  intro W base args ds gs before hval hW _ _ _ hL _ _
  exact contract H enc W base args ds gs before hval hW hL

theorem said : Rows.CodecEncodesSaid :=
  OpenClaim.holds_of_cond 9 Tryd.f9 rfl rfl rfl rfl rfl rfl rfl ⟨rfl, rfl, rfl, rfl, rfl⟩ rfl rfl rfl rfl rfl (by kernel_rfl) Tryd.func9 (by kernel_rfl)
    (of_decide_eq_true (by kernel_rfl)) (by unfold Func.isWrapper; first | (rw [if_pos (by decide +kernel)]; kernel_rfl) | (rw [if_neg (by decide +kernel)]; exact ⟨rfl, rfl⟩))
    (fun os started H enc _ F => by rw [OpenClaim.pre_eq_preRow]; exact lifted os started H enc F)

theorem plain (f : FuncId) (fn : Func) (hf : Tryd.pinned.checked.prog.funcNamed "docstore/docstorelaw02.CodecEncodes" = some f) (hfn : Tryd.pinned.checked.prog.funcs[f]? = some fn) :
    true = Tryd.pinned.checked.prog.looks [] ∧ ∀ (j : Nat) t, fn.params[j]? = some t → Tryd.pinned.checked.prog.wantsStandIn t = false := by
  obtain rfl : f = 9 := Option.some.inj ((show Tryd.prog.funcNamed "docstore/docstorelaw02.CodecEncodes" = some 9 by kernel_rfl).symm.trans hf) |>.symm
  obtain rfl : fn = Tryd.f9 := (Option.some.inj (Tryd.func9.symm.trans hfn)).symm
  refine ⟨by kernel_rfl, fun j t ht => ?_⟩
  have hall : (Tryd.f9.params.all fun t => !Tryd.prog.wantsStandIn t) = true := by kernel_rfl
  have h1 := Array.all_eq_true'.1 hall t (Array.mem_of_getElem? ht)
  have h2 : Tryd.prog.wantsStandIn t = false := by simpa using h1
  exact h2

/-- The card. -/
theorem card : Rows.CodecEncodesCardSaid :=
  Claim7.holds_tied_plain_at .later [] _ _ _ _ said (fun _ h => by cases h) (by kernel_rfl) (fun _ h => by cases h) codecEncodes_row_tie rfl ⟨rfl, rfl⟩ (by kernel_rfl) rfl plain (by kernel_rfl)
end Go.Proofs.YtdoofmohoamkbaaDoor.codecEncodes
