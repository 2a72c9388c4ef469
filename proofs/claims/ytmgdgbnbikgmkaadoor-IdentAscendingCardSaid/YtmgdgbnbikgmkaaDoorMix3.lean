/- Regions that draw their order and branch: the steps, each handing on that S holds. -/
import Derived.Test.YtmgdgbnbikgmkaaDoorMix2
namespace Go.Proofs.YtmgdgbnbikgmkaaDoor
open Go
section
variable {P : Program} {ops : Array Oper} {Q : Exit → Act → World → Prop} {S : World → Prop}
theorem wpSeg_s {n : Nat} {at_ : Array Bool} {i : Nat} {r : List (Bool × Nat)} {a : Act} {w : World} {o : Oper} (ho : ops[i]? = some o) (hw : Region.wanted o (yielded ops a.tmps) = true)
    (h : ∀ K : Act → World → Prop, (∀ a' w', S w' → (S w' → wpSeg P ops Q S n at_ r a' w') → K a' w') → o.wp P a w K Q) : wpSeg P ops Q S n at_ ((false, i) :: r) a w :=
  wpSeg_l ho hw (fun K hK => h K (fun a' w' h1 h2 => hK a' w' h1 (h2 h1)))
/-- One of several operations may come up: each in turn. -/
def wpAnyL (P : Program) (ops : Array Oper) (Q : Exit → Act → World → Prop) (S : World → Prop) (n : Nat) (listed : Array Bool) (a : Act) (w : World) : List Nat → Prop
  | [] => True
  | i :: r => wpOp P ops Q i (fun a' w' => S w' ∧ wpAnyH P .any ops Q S n (listed.setIfInBounds i true) a' w') a w ∧ wpAnyL P ops Q S n listed a w r
theorem wpAnyL_mem {n : Nat} {listed : Array Bool} {a : Act} {w : World} : ∀ (l : List Nat), wpAnyL P ops Q S n listed a w l → ∀ i ∈ l, wpOp P ops Q i (fun a' w' => S w' ∧ wpAnyH P .any ops Q S n (listed.setIfInBounds i true) a' w') a w
  | [], _, _, h => by cases h
  | _ :: _, h, _, hi => by
    cases hi with
    | head => exact h.1
    | tail _ hm => exact wpAnyL_mem _ h.2 _ hm
theorem wpAnyH_many {n : Nat} {listed : Array Bool} {a : Act} {w : World} (l : List Nat) (hr : (Region.ready .any ops listed == l) = true) (hl : l.isEmpty = false) (h : wpAnyL P ops Q S n listed a w l) : wpAnyH P .any ops Q S (n + 1) listed a w :=
  wpAnyH_all (rs := l) (by simpa using hr) (by cases l <;> simp at hl ⊢) (wpAnyL_mem l h)
theorem wpAnyL_nil {n : Nat} {listed : Array Bool} {a : Act} {w : World} : wpAnyL P ops Q S n listed a w [] := trivial
/-- The next of them, and then the others. -/
theorem wpAnyL_cons {n : Nat} {listed : Array Bool} {a : Act} {w : World} {i : Nat} {r : List Nat} {o : Oper} (hi : ops[i]? = some o) (wi : Region.wanted o (yielded ops a.tmps) = true)
    (h1 : ∀ K : Act → World → Prop, (∀ a' w', S w' → (S w' → wpAnyH P .any ops Q S n (listed.setIfInBounds i true) a' w') → K a' w') → o.wp P a w K Q)
    (h2 : wpAnyL P ops Q S n listed a w r) : wpAnyL P ops Q S n listed a w (i :: r) := by
  refine ⟨?_, h2⟩
  unfold wpOp
  simp only [hi, wi, if_true]
  exact .inl (h1 _ (fun _ _ h1 h2 => ⟨h1, h2 h1⟩))
end
end Go.Proofs.YtmgdgbnbikgmkaaDoor
