/- slices.Clone at ints (out of Sl). -/
import Derived.Test.YtdnafbfmaphhhaaGreatDoorQTOutQ
import Derived.Lib.SliceRun
set_option linter.unusedSimpArgs false
set_option linter.unusedVariables false
namespace Go.Proofs.YtdnafbfmaphhhaaGreatDoor
open Go.RowKit
def ints (l : List Int) : List (List Lf) := l.map fun n => [.int .i64 n]
def SI (I : Gh) (v : Value) (l : List Int) : Prop := LRp I (.rows 1 (ints l)) v
theorem Acc.mono {I J : Gh} {w : World} {base : Nat} {e : TypeId} {n : Nat} {x : Value} {l : List (List Lf)} (h : Acc I w base e n x l) (hl : Le I J) (ha : ∀ g, x.ownBlock = some g → Av J g) : Acc J w base e n x l := by
  obtain ⟨xs, h1, h2, h3, _⟩ := h
  exact ⟨xs, h1, VsRp.mono hl _ _ h2, h3, ha⟩
theorem Acc.keep {I : Gh} {w w' : World} {base : Nat} {e : TypeId} {n : Nat} {x : Value} {l : List (List Lf)} (h : Acc I w base e n x l) (hk : ∀ g, x.ownBlock = some g → w'.heap[g]? = w.heap[g]?) : Acc I w' base e n x l := by
  obtain ⟨xs, h1, h2, h3, h4⟩ := h
  refine ⟨xs, ⟨h1.1, ?_⟩, h2, h3, h4⟩
  rcases h1.2 with h | ⟨g, cap, cur, rfl, hg, hb, hn⟩
  · exact .inl h
  · exact .inr ⟨g, cap, cur, rfl, hg, (hk g rfl).trans hb, hn⟩
theorem Acc.own {I : Gh} {w : World} {base : Nat} {e : TypeId} {n : Nat} {x : Value} {l : List (List Lf)} (h : Acc I w base e n x l) : ∀ g, x.ownBlock = some g → base ≤ g ∧ g < w.heap.size := by
  obtain ⟨xs, h1, _⟩ := h
  exact fun g hg => h1.lt g hg
theorem Acc.ext {I : Gh} {w w' : World} {base : Nat} {e : TypeId} {n : Nat} {x : Value} {l : List (List Lf)} (h : Acc I w base e n x l) (k : Ext w w') : Acc I w' base e n x l :=
  h.keep fun g hg => k.below.block g (h.own g hg).2
theorem SI.shape {I : Gh} {v : Value} {l : List Int} (h : SI I v l) : ∃ a c, v = .slice a l.length c ∧ l.length ≤ c ∧ c ≤ maxLen := by
  obtain ⟨a, c, h1, h2, h3⟩ := LRp.slice h
  have e : (ints l).length = l.length := by simp [ints]
  rw [e] at h1 h2
  exact ⟨a, c, h1, h2, h3⟩
theorem SI.at_ {I : Gh} {a : Option Addr} {c : Nat} {l : List Int} (h : SI I (.slice a l.length c) l) (j : Nat) (x : Int) (hj : l[j]? = some x) : ∃ b off, a = some ⟨b, off, none⟩ ∧ I b (off + j) = some (.int .i64 x) := by
  obtain ⟨b, off, c', cs, h1, _, _, _, h2, h3⟩ := LRp.elem h j [.int .i64 x] (by simp [ints, hj])
  injection h1 with h1 _ _
  obtain ⟨v, q, rfl, h4, _⟩ := h2
  have h5 := h3 0 v rfl
  refine ⟨b, off, h1, ?_⟩
  rw [Nat.mul_one, Nat.add_zero] at h5
  rw [h5]
  rw [h4.int.1]
theorem SI.wf {I : Gh} {v : Value} {l : List Int} (h : SI I v l) : ∀ x ∈ l, I64 x := by
  intro x hx
  obtain ⟨j, hj⟩ := List.getElem?_of_mem hx
  obtain ⟨b, off, c', cs, h1, _, _, _, h2, h3⟩ := LRp.elem h j [.int .i64 x] (by simp [ints, hj])
  obtain ⟨v, q, rfl, h4, _⟩ := h2
  have hb := bounds_i64 h4.int.2
  unfold I64; omega
end Go.Proofs.YtdnafbfmaphhhaaGreatDoor
