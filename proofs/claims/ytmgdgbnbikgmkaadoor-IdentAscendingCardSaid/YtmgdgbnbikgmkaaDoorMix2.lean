/- Regions that draw their order and branch: segments of one order each, between points at which two operations may come up. -/
import Derived.Test.YtmgdgbnbikgmkaaDoorMix
namespace Go.Proofs.YtmgdgbnbikgmkaaDoor
open Go
section
variable {P : Program} {ops : Array Oper} {Q : Exit → Act → World → Prop} {S : World → Prop}
def wpSeg (P : Program) (ops : Array Oper) (Q : Exit → Act → World → Prop) (S : World → Prop) (n : Nat) (at_ : Array Bool) : List (Bool × Nat) → Act → World → Prop
  | [], a, w => wpAnyH P .any ops Q S n at_ a w
  | (true, i) :: r, a, w => ∃ o v, ops[i]? = some o ∧ YieldsIf P ops S o v a ∧ wpSeg P ops Q S n at_ r (a.put o.dst v) w
  | (false, i) :: r, a, w => wpOp P ops Q i (fun a' w' => S w' ∧ wpSeg P ops Q S n at_ r a' w') a w
def segB (ops : Array Oper) (at_ : Array Bool) : List (Bool × Nat) → Array Bool → Bool
  | [], listed => listed == at_
  | (true, i) :: r, listed => Region.free .any ops listed i && (Region.ready .any ops listed).contains i && segB ops at_ r (listed.setIfInBounds i true)
  | (false, i) :: r, listed => (Region.ready .any ops listed == [i]) && segB ops at_ r (listed.setIfInBounds i true)
theorem wpAnyH_of_seg (n : Nat) (at_ : Array Bool) (hs : Region.noSelect ops = true) (hQ : ∀ c a d v w, Q (.panic c) (Act.put a d v) w → Q (.panic c) a w) :
    ∀ (l : List (Bool × Nat)) (listed : Array Bool) (a : Act) (w : World), segB ops at_ l listed = true → S w → wpSeg P ops Q S n at_ l a w → wpAnyH P .any ops Q S (n + l.length) listed a w
  | [], listed, a, w, hb, _, h => by
    have : listed = at_ := by simpa [segB] using hb
    subst this; exact h
  | (true, i) :: r, listed, a, w, hb, hS, h => by
    obtain ⟨o, v, ho, hy, hr⟩ := h
    simp only [segB, Bool.and_eq_true] at hb
    rw [List.length_cons, ← Nat.add_assoc]
    exact wpAnyH_take ho hs hb.1.1 hb.1.2 (fun c a w => hQ c a _ _ w) hy hS (wpAnyH_of_seg n at_ hs hQ r _ _ _ hb.2 hS hr)
  | (false, i) :: r, listed, a, w, hb, hS, h => by
    simp only [segB, Bool.and_eq_true, beq_iff_eq] at hb
    rw [List.length_cons, ← Nat.add_assoc]
    refine wpAnyH_all hb.1 (by simp) (fun j hj => ?_)
    obtain rfl : j = i := by simpa using hj
    exact wpOp_mono (fun a' w' ⟨h1, h2⟩ => ⟨h1, wpAnyH_of_seg n at_ hs hQ r _ a' w' hb.2 h1 h2⟩) h
/-- A region that draws its order: its first segment. -/
theorem wp_region_seg (S : World → Prop) (l : List (Bool × Nat)) (n : Nat) (at_ : Array Bool) {id : Nat} {a : Act} {w : World} (hm : P.follows .mixedOrders = true) (hs : Region.noSelect ops = true) (hl : (n + l.length == ops.size) = true)
    (hb : segB ops at_ l (Array.replicate ops.size false) = true) (hS : S w.drew) (h : wpSeg P ops (NoPanic Q) S n at_ l a w.drew) : (Code.region id ops true).wp P Q a w := by
  have hl' : n + l.length = ops.size := by simpa using hl
  exact wp_region_noPanic (wp_region_held hm (by rw [← hl']; exact wpAnyH_of_seg n at_ hs (fun _ _ _ _ _ h => h) l _ a _ (by rw [hl']; exact hb) hS h))
/-- A later segment. -/
theorem wpAnyH_seg (l : List (Bool × Nat)) (n m : Nat) (at_ listed : Array Bool) {a : Act} {w : World} (hs : Region.noSelect ops = true) (hl : (n + l.length == m) = true)
    (hb : segB ops at_ l listed = true) (hS : S w) (h : wpSeg P ops (NoPanic Q) S n at_ l a w) : wpAnyH P .any ops (NoPanic Q) S m listed a w := by
  obtain rfl : n + l.length = m := by simpa using hl
  exact wpAnyH_of_seg n at_ hs (fun _ _ _ _ _ h => h) l _ a _ hb hS h
theorem wpSeg_nil {n : Nat} {at_ : Array Bool} {a : Act} {w : World} (h : wpAnyH P .any ops Q S n at_ a w) : wpSeg P ops Q S n at_ [] a w := h
/-- The last segment's end. -/
theorem wpSeg_end {at_ : Array Bool} {a : Act} {w : World} (hr : (Region.ready .any ops at_).isEmpty = true) (h : Q .normal a w) : wpSeg P ops (NoPanic Q) S 0 at_ [] a w := ⟨by simpa using hr, h⟩
theorem wpSeg_q {n : Nat} {at_ : Array Bool} {i : Nat} {r : List (Bool × Nat)} {a : Act} {w : World} {o : Oper} {v : Value} (ho : ops[i]? = some o) (hw : Region.wanted o (yielded ops a.tmps) = true)
    (hy : ∀ w, S w → (execOp a.eval o).run P w = .ok (.value v) w) (h : wpSeg P ops Q S n at_ r (a.put o.dst v) w) : wpSeg P ops Q S n at_ ((true, i) :: r) a w :=
  ⟨o, v, ho, .inl ⟨hw, hy⟩, h⟩
theorem wpSeg_u {n : Nat} {at_ : Array Bool} {i : Nat} {r : List (Bool × Nat)} {a : Act} {w : World} {o : Oper} (ho : ops[i]? = some o) (hw : Region.wanted o (yielded ops a.tmps) = false)
    (h : wpSeg P ops Q S n at_ r (a.put o.dst undef) w) : wpSeg P ops Q S n at_ ((true, i) :: r) a w :=
  ⟨o, undef, ho, .inr ⟨hw, rfl⟩, h⟩
theorem wpSeg_l {n : Nat} {at_ : Array Bool} {i : Nat} {r : List (Bool × Nat)} {a : Act} {w : World} {o : Oper} (ho : ops[i]? = some o) (hw : Region.wanted o (yielded ops a.tmps) = true)
    (h : ∀ K : Act → World → Prop, (∀ a' w', S w' → wpSeg P ops Q S n at_ r a' w' → K a' w') → o.wp P a w K Q) : wpSeg P ops Q S n at_ ((false, i) :: r) a w := by
  show wpOp P ops Q i _ a w
  unfold wpOp
  simp only [ho, hw, if_true]
  exact .inl (h _ (fun _ _ h1 h2 => ⟨h1, h2⟩))
/-- Two operations may come up. -/
theorem wpAnyH_two {n : Nat} {listed : Array Bool} {a : Act} {w : World} (i j : Nat) {oi oj : Oper} (hr : (Region.ready .any ops listed == [i, j]) = true) (hi : ops[i]? = some oi) (hj : ops[j]? = some oj)
    (wi : Region.wanted oi (yielded ops a.tmps) = true) (wj : Region.wanted oj (yielded ops a.tmps) = true)
    (h1 : ∀ K : Act → World → Prop, (∀ a' w', S w' → wpAnyH P .any ops Q S n (listed.setIfInBounds i true) a' w' → K a' w') → oi.wp P a w K Q)
    (h2 : ∀ K : Act → World → Prop, (∀ a' w', S w' → wpAnyH P .any ops Q S n (listed.setIfInBounds j true) a' w' → K a' w') → oj.wp P a w K Q) : wpAnyH P .any ops Q S (n + 1) listed a w := by
  refine wpAnyH_all (rs := [i, j]) (by simpa using hr) (by simp) (fun k hk => ?_)
  unfold wpOp
  rcases List.mem_cons.1 hk with rfl | hk
  · simp only [hi, wi, if_true]; exact .inl (h1 _ (fun _ _ h1 h2 => ⟨h1, h2⟩))
  · obtain rfl : k = j := by simpa using hk
    simp only [hj, wj, if_true]; exact .inl (h2 _ (fun _ _ h1 h2 => ⟨h1, h2⟩))
end
end Go.Proofs.YtmgdgbnbikgmkaaDoor
