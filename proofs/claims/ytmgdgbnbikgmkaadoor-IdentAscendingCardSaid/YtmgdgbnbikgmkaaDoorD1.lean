/- Arguments opened: an array of three numbers; a value. -/
import Derived.Test.YtmgdgbnbikgmkaaDoorD0
import Derived.Test.YtmgdgbnbikgmkaaDoorW1
namespace Go.Proofs.YtmgdgbnbikgmkaaDoor
open Go.ChangeShapes Go.WideShapes Go.ChangeAt Go.RowKit Go.Joins Go.Deep
section
variable {H : Type} {enc : TypeId × Value → H} {w : World} {base : Nat} {spare : Nat → Bool} {held : Bool}
theorem inR_u32 {n : Int} (h : (Lit.int .u32 n).wf = true) : inR n = true := by
  have := bounds_u32 h
  exact inR_of (by omega) (by omega)
theorem open_arr3 {r : Reach} {b0 : Nat} {v : Value} {d : DataW H} {p : List MemPlace} (hv : Value.okWide Tryd.prog w r b0 51 v) (h : DataW.Trod enc Tryd.prog w base spare held 51 v d p) :
    ∃ a b c : Int, v = .agg #[.int .u32 a, .int .u32 b, .int .u32 c] ∧ inR a = true ∧ inR b = true ∧ inR c = true := by
  have hc3 : Tryd.prog.cellsOf 51 = 3 := by kernel_rfl
  have hc1 : Tryd.prog.cellsOf 50 = 1 := by kernel_rfl
  obtain ⟨cs, rfl, hsz⟩ : ∃ cs, v = .agg cs ∧ cs.size = Tryd.prog.cellsOf 51 := by
    simp only [Value.okWide, Tryd.underlying51] at hv
    obtain ⟨cs, h1, h2, _⟩ := hv
    exact ⟨cs, h1, h2⟩
  obtain ⟨c0, c1, c2, rfl⟩ := array3 (hsz.trans hc3)
  obtain ⟨fuel, hf⟩ := h
  obtain ⟨xs, m, _, _, _, hlen, hg⟩ := DataW.trod_array Tryd.underlying51 hf
  have g0 := hg 0 (by decide)
  have g1 := hg 1 (by decide)
  have g2 := hg 2 (by decide)
  rw [hc1] at g0 g1 g2
  rw [List.getElem?_eq_getElem (by omega)] at g0 g1 g2
  obtain ⟨a, e0, _, wa⟩ := DataW.trod_int Tryd.underlying50 g0
  obtain ⟨b, e1, _, wb⟩ := DataW.trod_int Tryd.underlying50 g1
  obtain ⟨c, e2, _, wc⟩ := DataW.trod_int Tryd.underlying50 g2
  simp [Value.cells] at e0 e1 e2
  subst e0 e1 e2
  exact ⟨a, b, c, rfl, inR_u32 wa, inR_u32 wb, inR_u32 wc⟩
theorem open_val {r : Reach} {b0 : Nat} {v : Value} {d : DataW H} {p : List MemPlace} (hv : Value.okWide Tryd.prog w r b0 25 v) (h : DataW.Trod enc Tryd.prog w base spare held 25 v d p) :
    ∃ (k i : Int) (s : ByteArray) (la da : Option Addr) (ln lc dn dc : Nat), v = .agg #[.int .i64 k, .int .i64 i, .string s, .slice la ln lc, .slice da dn dc] := by
  obtain ⟨v0, v1, v2, v3, v4, y0, y1, y2, y3, y4, n, rfl, _, _, h0, h1, h2, h3, h4⟩ := open_agg5 Tryd.underlying25 (by kernel_rfl) (by kernel_rfl) hv h
  obtain ⟨k, e0, _, _⟩ := DataW.trod_int Tryd.underlying3 h0
  obtain ⟨i, e1, _, _⟩ := DataW.trod_int Tryd.underlying3 h1
  obtain ⟨s, e2, _, _⟩ := DataW.trod_string Tryd.underlying9 h2
  obtain ⟨la, ln, lc, e3⟩ := slice_form Tryd.underlying22 h3
  obtain ⟨da, dn, dc, e4⟩ := slice_form Tryd.underlying23 h4
  simp only [List.cons.injEq, and_true] at e0 e1 e2 e3 e4
  subst e0 e1 e2 e3 e4
  exact ⟨k, i, s, la, da, ln, lc, dn, dc, rfl⟩
end
end Go.Proofs.YtmgdgbnbikgmkaaDoor
