/- Rows of values of the call's own. -/
import Derived.Test.YtipphlhaaienpaaDoorTr
import Derived.Test.YtipphlhaaienpaaDoorKit2
set_option linter.unusedSimpArgs false
set_option linter.unusedVariables false
namespace Go.Proofs.YtipphlhaaienpaaDoor
open Go.RowKit
/-- the cells of values, one after the other -/
def VCells (w : World) : List Value → List Tr → Prop
  | [], [] => True
  | c0 :: c1 :: c2 :: c3 :: c4 :: cr, t :: r => VRep w t (.agg #[c0, c1, c2, c3, c4]) ∧ VCells w cr r
  | _, _ => False
theorem VCells.ext {w w' : World} (h : Ext w w') : ∀ (ts : List Tr) (cs : List Value), VCells w cs ts → VCells w' cs ts
  | [], [], _ => trivial
  | [], _ :: _, hv => by simp [VCells] at hv
  | t :: r, [], hv => by simp [VCells] at hv
  | t :: r, [_], hv => by simp [VCells] at hv
  | t :: r, [_, _], hv => by simp [VCells] at hv
  | t :: r, [_, _, _], hv => by simp [VCells] at hv
  | t :: r, [_, _, _, _], hv => by simp [VCells] at hv
  | t :: r, c0 :: c1 :: c2 :: c3 :: c4 :: cr, hv => ⟨VRep.ext h _ _ hv.1, VCells.ext h r cr hv.2⟩
theorem VCells.snoc {w : World} {t : Tr} {c0 c1 c2 c3 c4 : Value} (ht : VRep w t (.agg #[c0, c1, c2, c3, c4])) : ∀ (ts : List Tr) (cs : List Value), VCells w cs ts → VCells w (cs ++ [c0, c1, c2, c3, c4]) (ts ++ [t])
  | [], [], _ => ⟨ht, trivial⟩
  | [], _ :: _, hv => by simp [VCells] at hv
  | t :: r, [], hv => by simp [VCells] at hv
  | t :: r, [_], hv => by simp [VCells] at hv
  | t :: r, [_, _], hv => by simp [VCells] at hv
  | t :: r, [_, _, _], hv => by simp [VCells] at hv
  | t :: r, [_, _, _, _], hv => by simp [VCells] at hv
  | t :: r, c0 :: c1 :: c2 :: c3 :: c4 :: cr, hv => ⟨hv.1, VCells.snoc ht r cr hv.2⟩
theorem VCells.lrep {w : World} {g : Nat} : ∀ (ts : List Tr) (cs : List Value) (o : Nat), VCells w cs ts → (∀ j u, cs[j]? = some u → w.cell? ⟨g, 0 + (o + j), none⟩ = some u) → LRep w (some ⟨g, 0, none⟩) o ts
  | [], _, _, _, _ => by unfold LRep; trivial
  | t :: r, [], _, hv, _ => by simp [VCells] at hv
  | t :: r, [_], _, hv, _ => by simp [VCells] at hv
  | t :: r, [_, _], _, hv, _ => by simp [VCells] at hv
  | t :: r, [_, _, _], _, hv, _ => by simp [VCells] at hv
  | t :: r, [_, _, _, _], _, hv, _ => by simp [VCells] at hv
  | t :: r, c0 :: c1 :: c2 :: c3 :: c4 :: cr, o, hv, hc => by
    unfold LRep
    refine ⟨⟨g, 0, c0, c1, c2, c3, c4, rfl, hc 0 _ rfl, hc 1 _ rfl, hc 2 _ rfl, hc 3 _ rfl, hc 4 _ rfl, hv.1⟩, VCells.lrep r cr (o + 5) hv.2 (fun j u hj => ?_)⟩
    rw [Nat.add_assoc o 5 j, Nat.add_comm 5 j]
    exact hc (j + 5) u hj
def VRow (W0 w : World) (base : Nat) (v : Value) (ts : List Tr) : Prop := ∃ cs, w.ownsRow base 41 5 v ts.length cs ∧ VCells W0 cs ts
theorem VRow.nil (W0 w : World) (base : Nat) : VRow W0 w base (.slice none 0 0) [] := ⟨[], World.ownsRow_nil w base 41 5, trivial⟩
theorem VRow.ext {W0 w w' : World} {base : Nat} {v : Value} {ts : List Tr} (h : VRow W0 w base v ts) (he : Ext w w') : VRow W0 w' base v ts := by
  obtain ⟨cs, h1, h2⟩ := h
  exact ⟨cs, World.ownsRow.kept h1 (he.only none) (by cases v.ownBlock <;> simp), h2⟩
theorem VRow.lrep {W0 w : World} {base : Nat} {v : Value} {ts : List Tr} (h : VRow W0 w base v ts) (hE : Ext W0 w) : ∃ a c, v = .slice a ts.length c ∧ ts.length ≤ c ∧ c ≤ maxLen ∧ LRep w a 0 ts := by
  obtain ⟨cs, h1, h2⟩ := h
  rcases h1.2 with ⟨rfl, hn⟩ | ⟨g, cap, cur, rfl, hb, hc, hle, hm, _, _⟩
  · have : ts = [] := List.eq_nil_of_length_eq_zero hn
    subst this
    exact ⟨none, 0, rfl, Nat.le_refl _, by unfold maxLen; omega, by unfold LRep; trivial⟩
  · refine ⟨_, _, rfl, hle, hm, VCells.lrep ts cs 0 (VCells.ext hE _ _ h2) (fun j u hj => ?_)⟩
    have := h1.cells (g := g) rfl j u hj
    rw [add_plain] at this
    rw [Nat.zero_add, Nat.zero_add]; exact this
theorem VRow.grown {W0 w w' : World} {base : Nat} {v : Value} {ts : List Tr} {a : World} (h : VRow W0 w base v ts) (hg : w.grownBy w' v.ownBlock) (he : Ext a w) (hb : a.heap.size ≤ base) : Ext a w' := by
  obtain ⟨cs, h1, _⟩ := h
  exact he.grownOwn h1 hb hg
theorem valinfo : (Tryd.prog.info? 41).map (fun i => (i.zero, i.size, i.bytes)) = some (some (.agg #[.int .i64 0, .int .i64 0, .string ⟨#[]⟩, .slice none 0 0, .slice none 0 0]), 5, 80) := by kernel_rfl
/-- append(row, v): one value, which lies in a new block. -/
theorem wpList_append_vrow {ops : Array Oper} {rest : List Oper} {o : Oper} {a : Act} {Q : Exit → Act → World → Prop} (w : World) (hgd : o.guard = none) (s x : Operand) (ho : o.op = .call { callee := .builtin .append, args := #[s, x], argTypes := #[22, 22] })
    (W0 : World) (base : Nat) (v : Value) (ts : List Tr) (hs : a.eval s = v) (hR : VRow W0 w base v ts) (t : Tr) (c0 c1 c2 c3 c4 : Value) (hx : a.eval x = .slice (some ⟨w.heap.size, 0, none⟩) 1 1)
    (hV : VRep W0 t (.agg #[c0, c1, c2, c3, c4])) (hlen : (ts.length + 1) * 80 ≤ 140737488355328) (hbase : base ≤ w.heap.size)
    (h : ∀ v' w', VRow W0 w' base v' (ts ++ [t]) → (w.alloc (.cells #[c0, c1, c2, c3, c4] 41)).grownBy w' v.ownBlock → wpList Tryd.prog ops Q rest (a.put o.dst v') w') :
    wpList Tryd.prog ops Q (o :: rest) a (w.alloc (.cells #[c0, c1, c2, c3, c4] 41)) := by
  obtain ⟨i0, hi, hz0, hz1, hz2⟩ := info_parts valinfo
  obtain ⟨cs, h1, h2⟩ := hR
  obtain ⟨k', i', s', la', ln', lc', da', dn', dc', rfl, rfl, rfl, rfl, rfl⟩ := hV.shape5
  refine wpList_append_own _ hgd s x 22 ho base 41 i0 _ 5 80 Tryd.underlying22 hi hz0 hz1 hz2 rfl (by decide) v ts.length cs hs (h1.alloc _) ⟨w.heap.size, 0, none⟩ 1 1 _ hx rfl (cells_new w _ 41) ?_ ?_ hlen (Nat.le_trans hbase (by simp)) ?_
  · intro u hu
    simp only [List.mem_cons, List.not_mem_nil, or_false] at hu
    rcases hu with rfl | rfl | rfl | rfl | rfl <;> rfl
  · unfold maxLen; omega
  · intro v' w' p1 p2 _
    refine h v' w' ⟨_, ?_, VCells.snoc hV _ _ h2⟩ p2
    rw [List.length_append, List.length_singleton]; exact p1
end Go.Proofs.YtipphlhaaienpaaDoor
