/- Regions that draw their order: one walk, the quiet operations first, each shown to yield the same in every world that meets S; the others one at a time. -/
import Derived.WalkKit
import Derived.OrdersHeld
import Derived.Deep.RegionHeld3
import Derived.KernelRfl
set_option linter.unusedSimpArgs false
set_option linter.unusedVariables false
namespace Go.Proofs.YtipphlhaaienpaaDoor
open Go

section
variable {P : Program} {ops : Array Oper} {Q : Exit → Act → World → Prop} {S : World → Prop}

/-- The walk in a given order; the tag: the operation yields in every world that meets S. -/
def wpMix (P : Program) (ops : Array Oper) (Q : Exit → Act → World → Prop) (S : World → Prop) : List (Bool × Nat) → Act → World → Prop
  | [], a, w => Q .normal a w
  | (true, i) :: r, a, w => ∃ o v, ops[i]? = some o ∧ YieldsIf P ops S o v a ∧ wpMix P ops Q S r (a.put o.dst v) w
  | (false, i) :: r, a, w => wpOp P ops Q i (fun a' w' => S w' ∧ wpMix P ops Q S r a' w') a w

/-- The order is one in which each quiet operation may be taken first, and each other comes up alone. -/
def mixB (ops : Array Oper) : List (Bool × Nat) → Array Bool → Bool
  | [], listed => (Region.ready .any ops listed).isEmpty
  | (true, i) :: r, listed => Region.free .any ops listed i && (Region.ready .any ops listed).contains i && mixB ops r (listed.setIfInBounds i true)
  | (false, i) :: r, listed => (Region.ready .any ops listed == [i]) && mixB ops r (listed.setIfInBounds i true)

theorem wpAnyH_of_mix (hs : Region.noSelect ops = true) (hQ : ∀ c a d v w, Q (.panic c) (Act.put a d v) w → Q (.panic c) a w) :
    ∀ (l : List (Bool × Nat)) (listed : Array Bool) (a : Act) (w : World) (fuel : Nat), l.length ≤ fuel → mixB ops l listed = true → S w → wpMix P ops Q S l a w → wpAnyH P .any ops Q S fuel listed a w
  | [], listed, a, w, fuel, _, hb, _, h => wpAnyH_done (by simpa [mixB] using hb) h fuel
  | (true, i) :: r, listed, a, w, 0, hf, _, _, _ => by simp at hf
  | (false, i) :: r, listed, a, w, 0, hf, _, _, _ => by simp at hf
  | (true, i) :: r, listed, a, w, fuel + 1, hf, hb, hS, h => by
    obtain ⟨o, v, ho, hy, hr⟩ := h
    simp only [mixB, Bool.and_eq_true] at hb
    exact wpAnyH_take ho hs hb.1.1 hb.1.2 (fun c a w => hQ c a _ _ w) hy hS (wpAnyH_of_mix hs hQ r _ _ _ fuel (by simpa using hf) hb.2 hS hr)
  | (false, i) :: r, listed, a, w, fuel + 1, hf, hb, hS, h => by
    simp only [mixB, Bool.and_eq_true, beq_iff_eq] at hb
    refine wpAnyH_all hb.1 (by simp) (fun j hj => ?_)
    obtain rfl : j = i := by simpa using hj
    exact wpOp_mono (fun a' w' ⟨h1, h2⟩ => ⟨h1, wpAnyH_of_mix hs hQ r _ a' w' fuel (by simpa using hf) hb.2 h1 h2⟩) h

/-- A region that draws its order, walked in the order l. -/
theorem wp_region_mix (S : World → Prop) (l : List (Bool × Nat)) {id : Nat} {a : Act} {w : World} (hm : P.follows .mixedOrders = true) (hs : Region.noSelect ops = true) (hl : decide (l.length ≤ ops.size) = true) (hb : mixB ops l (Array.replicate ops.size false) = true)
    (hS : S w.drew) (h : wpMix P ops (NoPanic Q) S l a w.drew) : (Code.region id ops true).wp P Q a w :=
  wp_region_noPanic (wp_region_held hm (wpAnyH_of_mix hs (fun _ _ _ _ _ h => h) l _ a _ ops.size (of_decide_eq_true hl) hb hS h))

theorem wpMix_nil {a : Act} {w : World} (h : Q .normal a w) : wpMix P ops (NoPanic Q) S [] a w := h

/-- A quiet operation. -/
theorem wpMix_q {i : Nat} {r : List (Bool × Nat)} {a : Act} {w : World} {o : Oper} {v : Value} (ho : ops[i]? = some o) (hw : Region.wanted o (yielded ops a.tmps) = true)
    (hy : ∀ w, S w → (execOp a.eval o).run P w = .ok (.value v) w) (h : wpMix P ops Q S r (a.put o.dst v) w) : wpMix P ops Q S ((true, i) :: r) a w :=
  ⟨o, v, ho, .inl ⟨hw, hy⟩, h⟩
/-- A quiet operation whose guard is false. -/
theorem wpMix_u {i : Nat} {r : List (Bool × Nat)} {a : Act} {w : World} {o : Oper} (ho : ops[i]? = some o) (hw : Region.wanted o (yielded ops a.tmps) = false)
    (h : wpMix P ops Q S r (a.put o.dst undef) w) : wpMix P ops Q S ((true, i) :: r) a w :=
  ⟨o, undef, ho, .inr ⟨hw, rfl⟩, h⟩
/-- Any other operation. -/
theorem wpMix_l {i : Nat} {r : List (Bool × Nat)} {a : Act} {w : World} {o : Oper} (ho : ops[i]? = some o) (hw : Region.wanted o (yielded ops a.tmps) = true)
    (h : ∀ K : Act → World → Prop, (∀ a' w', S w' → wpMix P ops Q S r a' w' → K a' w') → o.wp P a w K Q) : wpMix P ops Q S ((false, i) :: r) a w := by
  show wpOp P ops Q i _ a w
  unfold wpOp
  simp only [ho, hw, if_true]
  exact .inl (h _ (fun _ _ h1 h2 => ⟨h1, h2⟩))
theorem wpMix_n {i : Nat} {r : List (Bool × Nat)} {a : Act} {w : World} {o : Oper} (ho : ops[i]? = some o) (hw : Region.wanted o (yielded ops a.tmps) = false)
    (hS : S w) (h : wpMix P ops Q S r (a.put o.dst undef) w) : wpMix P ops Q S ((false, i) :: r) a w := by
  show wpOp P ops Q i _ a w
  unfold wpOp
  simp only [ho, hw, Bool.false_eq_true, if_false]
  exact ⟨hS, h⟩
end
end Go.Proofs.YtipphlhaaienpaaDoor
