/- A value that a statement hands over lies in memory as a tree. -/
import Derived.Test.YtipphlhaaienpaaDoorVW
import Derived.Test.YtipphlhaaienpaaDoorD0
set_option linter.unusedSimpArgs false
set_option linter.unusedVariables false
namespace Go.Proofs.YtipphlhaaienpaaDoor
open Go.ChangeShapes Go.WideShapes Go.ChangeAt Go.RowKit
section
variable {H : Type} {enc : TypeId × Value → H} {w : World}
theorem len5 {α : Type} {l : List α} (h : l.length = 5) : ∃ a b c d e, l = [a, b, c, d, e] := by
  match l, h with
  | [a, b, c, d, e], _ => exact ⟨a, b, c, d, e, rfl⟩
theorem len6 {α : Type} {l : List α} (h : l.length = 6) : ∃ a b c d e f, l = [a, b, c, d, e, f] := by
  match l, h with
  | [a, b, c, d, e, f], _ => exact ⟨a, b, c, d, e, f, rfl⟩
theorem cellsVal : Tryd.prog.cellsOf 41 = 5 := by kernel_rfl
theorem cellsFld : Tryd.prog.cellsOf 58 = 6 := by kernel_rfl
theorem cellsInt : Tryd.prog.cellsOf 3 = 1 := by kernel_rfl
theorem cellsStr : Tryd.prog.cellsOf 9 = 1 := by kernel_rfl
theorem cellsLVal : Tryd.prog.cellsOf 22 = 1 := by kernel_rfl
theorem cellsLFld : Tryd.prog.cellsOf 39 = 1 := by kernel_rfl
theorem spot_none {a : Addr} {v : Value} (h : w.cell? a = some v) : a = ⟨a.block, a.off, none⟩ := by
  unfold World.cell? at h
  split at h
  · split at h
    · cases h
    · rename_i hs
      obtain ⟨b, o, s⟩ := a
      cases s
      · rfl
      · simp at hs
  · cases h
theorem add_plain2 (b o q : Nat) : (⟨b, o, none⟩ : Addr).add q = ⟨b, o + q, none⟩ := by unfold Addr.add; split <;> simp_all
theorem i64_of_wf {n : Int} (h : (Lit.int .i64 n).wf = true) : I64 n := by
  simp only [Lit.wf, Bool.and_eq_true, decide_eq_true_eq] at h
  have h1 : IntKind.min .i64 = -9223372036854775808 := by kernel_rfl
  have h2 : IntKind.max .i64 = 9223372036854775807 := by kernel_rfl
  unfold I64; omega
theorem bind_some {α β : Type} {o : Option α} {f : α → Option β} {l : List β} {i : Nat} (hi : i < l.length) (h : o.bind f = l[i]?) : ∃ a y, o = some a ∧ f a = some y := by
  rw [List.getElem?_eq_getElem hi, Option.bind_eq_some_iff] at h
  obtain ⟨a, h1, h2⟩ := h
  exact ⟨a, _, h1, h2⟩
theorem get_some {α : Type} {o : Option α} {l : List α} {i : Nat} (hi : i < l.length) (h : o = l[i]?) : ∃ y, o = some y := ⟨_, h.trans (List.getElem?_eq_getElem hi)⟩
theorem vrepW_of_trod : ∀ (fuel : Nat) (cs : List Value) (x : DataW H × List MemPlace), DataW.trod enc Tryd.prog w 0 (fun _ => true) true fuel 41 cs = some x →
    ∃ t c0 c1 c2 c3 c4, cs = [c0, c1, c2, c3, c4] ∧ VRepW w t (.agg #[c0, c1, c2, c3, c4]) := by
  intro fuel
  induction fuel using Nat.strongRecOn with
  | _ fuel ih =>
    intro cs x h
    obtain ⟨xs, n, rfl, rfl, hl, hlen, hf⟩ := DataW.trod_struct Tryd.underlying41 h
    rw [cellsVal] at hl
    obtain ⟨c0, c1, c2, c3, c4, rfl⟩ := len5 hl
    have hlen5 : xs.length = 5 := hlen
    obtain ⟨y0, h0⟩ := get_some (show 0 < xs.length by omega) (hf 0 _ rfl)
    obtain ⟨y1, h1⟩ := get_some (show 1 < xs.length by omega) (hf 1 _ rfl)
    obtain ⟨y2, h2⟩ := get_some (show 2 < xs.length by omega) (hf 2 _ rfl)
    obtain ⟨y3, h3⟩ := get_some (show 3 < xs.length by omega) (hf 3 _ rfl)
    obtain ⟨y4, h4⟩ := get_some (show 4 < xs.length by omega) (hf 4 _ rfl)
    simp only [List.getElem_toArray, List.getElem_cons_zero, List.getElem_cons_succ, cellsInt, cellsStr, cellsLVal, cellsLFld, List.drop_succ_cons, List.drop_zero, List.take_succ_cons, List.take_zero] at h0 h1 h2 h3 h4
    obtain ⟨k, e0, -, k0⟩ := DataW.trod_int Tryd.underlying3 h0
    obtain ⟨i, e1, -, k1⟩ := DataW.trod_int Tryd.underlying3 h1
    obtain ⟨s, e2, -, k2⟩ := DataW.trod_string Tryd.underlying9 h2
    simp only [List.cons.injEq, and_true] at e0 e1 e2
    subst e0 e1 e2
    clear hf h0 h1 h2 h hl hlen
    have L : ∃ (la : Option Addr) (lc : Nat) (l : List Tr), c3 = .slice la l.length lc ∧ l.length ≤ lc ∧ lc ≤ maxLen ∧ LRepW w la 0 l := by
      rcases DataW.trod_slice Tryd.underlying22 h3 with ⟨e, _⟩ | ⟨a, len, cap, elems, rest, m, rfl, e, -, -, hlc, hcm, hel, hat, -, -⟩
      · simp only [List.cons.injEq, and_true] at e
        exact ⟨none, 0, [], e, by simp, by simp, by unfold LRepW; trivial⟩
      · simp only [List.cons.injEq, and_true] at e
        cases len with
        | zero => exact ⟨some a, cap, [], e, by simp, hcm, by unfold LRepW; trivial⟩
        | succ len =>
          simp only [cellsVal] at hat
          have each : ∀ j, j < len + 1 → ∃ c0 c1 c2 c3 c4 t, (∀ q u, [c0, c1, c2, c3, c4][q]? = some u → w.cell? ((a.add (j * 5)).add q) = some u) ∧ VRepW w t (.agg #[c0, c1, c2, c3, c4]) := by
            intro j hj
            obtain ⟨cs', y, hc, hy⟩ := bind_some (by omega) (hat j hj)
            obtain ⟨t, c0, c1, c2, c3, c4, rfl, hv⟩ := ih m (by omega) cs' y hy
            refine ⟨c0, c1, c2, c3, c4, t, fun q u hq => ?_, hv⟩
            rw [(World.cells?_some hc).2.2 q (by have := (List.getElem?_eq_some_iff.1 hq).1; simpa using this), hq]
          have ha : a = ⟨a.block, a.off, none⟩ := by
            obtain ⟨c0, _, _, _, _, _, hc, _⟩ := each 0 (by omega)
            have := hc 0 c0 rfl
            simp only [Nat.zero_mul, Addr.add, if_true] at this
            exact spot_none this
          obtain ⟨b, off, sp⟩ := a
          simp only [Addr.mk.injEq, true_and] at ha
          subst ha
          obtain ⟨l, hl, hr⟩ := lrepW_of (w := w) (b := b) (off := off) (len + 1) 0 (fun j hj => by
            obtain ⟨c0, c1, c2, c3, c4, t, hc, hv⟩ := each j hj
            have key : ∀ q, ((⟨b, off, none⟩ : Addr).add (j * 5)).add q = ⟨b, off + (0 + j * 5) + q, none⟩ := by
              intro q
              rw [add_plain2, add_plain2, Nat.zero_add]
            refine ⟨c0, c1, c2, c3, c4, t, ?_, ?_, ?_, ?_, ?_, hv⟩
            · have := hc 0 c0 rfl; rwa [key] at this
            · have := hc 1 c1 rfl; rwa [key] at this
            · have := hc 2 c2 rfl; rwa [key] at this
            · have := hc 3 c3 rfl; rwa [key] at this
            · have := hc 4 c4 rfl; rwa [key] at this)
          exact ⟨_, cap, l, by rw [hl]; exact e, by omega, hcm, hr⟩
    have D : ∃ (da : Option Addr) (dc : Nat) (ns : List ByteArray) (ds : List Tr), c4 = .slice da ds.length dc ∧ ns.length = ds.length ∧ ds.length ≤ dc ∧ dc ≤ maxLen ∧ DRepW w da 0 ns ds := by
      rcases DataW.trod_slice Tryd.underlying39 h4 with ⟨e, _⟩ | ⟨a, len, cap, elems, rest, m, rfl, e, -, -, hlc, hcm, hel, hat, -, -⟩
      · simp only [List.cons.injEq, and_true] at e
        exact ⟨none, 0, [], [], e, by simp, by simp, by simp, by unfold DRepW; trivial⟩
      · simp only [List.cons.injEq, and_true] at e
        cases len with
        | zero => exact ⟨some a, cap, [], [], e, by simp, by simp, hcm, by unfold DRepW; trivial⟩
        | succ len =>
          simp only [cellsFld] at hat
          have each : ∀ j, j < len + 1 → ∃ nm c0 c1 c2 c3 c4 t, nm.size ≤ maxLen ∧ (∀ q u, [.string nm, c0, c1, c2, c3, c4][q]? = some u → w.cell? ((a.add (j * 6)).add q) = some u) ∧ VRepW w t (.agg #[c0, c1, c2, c3, c4]) := by
            intro j hj
            obtain ⟨cs', y, hc, hy⟩ := bind_some (by omega) (hat j hj)
            obtain ⟨xs', n', rfl, rfl, hl', hlen', hf'⟩ := DataW.trod_struct Tryd.underlying58 hy
            rw [cellsFld] at hl'
            obtain ⟨cn, c0, c1, c2, c3, c4, rfl⟩ := len6 hl'
            have hlen2 : xs'.length = 2 := hlen'
            obtain ⟨z0, g0⟩ := get_some (show 0 < xs'.length by omega) (hf' 0 _ rfl)
            obtain ⟨z1, g1⟩ := get_some (show 1 < xs'.length by omega) (hf' 1 _ rfl)
            simp only [List.getElem_toArray, List.getElem_cons_zero, List.getElem_cons_succ, cellsStr, cellsVal, List.drop_succ_cons, List.drop_zero, List.take_succ_cons, List.take_zero, List.take_nil] at g0 g1
            obtain ⟨nm, en, -, kn⟩ := DataW.trod_string Tryd.underlying9 g0
            simp only [List.cons.injEq, and_true] at en
            subst en
            obtain ⟨t, d0, d1, d2, d3, d4, e, hv⟩ := ih n' (by omega) _ z1 g1
            simp only [List.cons.injEq, and_true] at e
            obtain ⟨rfl, rfl, rfl, rfl, rfl⟩ := e
            refine ⟨nm, c0, c1, c2, c3, c4, t, kn, fun q u hq => ?_, hv⟩
            rw [(World.cells?_some hc).2.2 q (by have := (List.getElem?_eq_some_iff.1 hq).1; simpa using this), hq]
          have ha : a = ⟨a.block, a.off, none⟩ := by
            obtain ⟨nm, _, _, _, _, _, _, _, hc, _⟩ := each 0 (by omega)
            have := hc 0 (.string nm) rfl
            simp only [Nat.zero_mul, Addr.add, if_true] at this
            exact spot_none this
          obtain ⟨b, off, sp⟩ := a
          simp only [Addr.mk.injEq, true_and] at ha
          subst ha
          obtain ⟨ns, l, hns, hl, hr⟩ := drepW_of (w := w) (b := b) (off := off) (len + 1) 0 (fun j hj => by
            obtain ⟨nm, c0, c1, c2, c3, c4, t, hnm, hc, hv⟩ := each j hj
            have key : ∀ q, ((⟨b, off, none⟩ : Addr).add (j * 6)).add q = ⟨b, off + (0 + j * 6) + q, none⟩ := by
              intro q
              rw [add_plain2, add_plain2, Nat.zero_add]
            refine ⟨nm, c0, c1, c2, c3, c4, t, hnm, ?_, ?_, ?_, ?_, ?_, ?_, hv⟩
            · have := hc 0 _ rfl; rwa [key] at this
            · have := hc 1 c0 rfl; rwa [key] at this
            · have := hc 2 c1 rfl; rwa [key] at this
            · have := hc 3 c2 rfl; rwa [key] at this
            · have := hc 4 c3 rfl; rwa [key] at this
            · have := hc 5 c4 rfl; rwa [key] at this)
          exact ⟨_, cap, ns, l, by rw [hl]; exact e, by omega, by omega, hcm, hr⟩
    obtain ⟨la, lc, l, rfl, l1, l2, l3⟩ := L
    obtain ⟨da, dc, ns, ds, rfl, d0, d1, d2, d3⟩ := D
    refine ⟨.mk k i s l ns ds, _, _, _, _, _, rfl, ?_⟩
    unfold VRepW
    exact ⟨la, lc, da, dc, rfl, ⟨k2, i64_of_wf k0, i64_of_wf k1⟩, l1, l2, d1, d2, d0, l3, d3⟩
/-- A value that is handed over. -/
theorem vrepW_arg {v : Value} {d : DataW H} {ps : List MemPlace} {base : Nat} (hval : Value.okWide Tryd.prog w .any base 41 v) (h : DataW.Trod enc Tryd.prog w 0 (fun _ => true) true 41 v d ps) : ∃ t, VRepW w t v := by
  obtain ⟨fuel, hf⟩ := h
  obtain ⟨cs, rfl, hcs⟩ := okWide_struct Tryd.underlying41 hval
  obtain ⟨t, c0, c1, c2, c3, c4, e, hv⟩ := vrepW_of_trod fuel _ _ hf
  refine ⟨t, ?_⟩
  have : cs = #[c0, c1, c2, c3, c4] := by
    cases cs; simpa [Value.cells] using e
  rw [this]; exact hv
end
end Go.Proofs.YtipphlhaaienpaaDoor
