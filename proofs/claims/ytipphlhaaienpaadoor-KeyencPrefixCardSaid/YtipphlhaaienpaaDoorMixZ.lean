/- Regions that draw their order, walked in one order; that S holds is asked behind every operation but number L, which waits for all others. -/
import Derived.Test.YtipphlhaaienpaaDoorMix
set_option linter.unusedSimpArgs false
set_option linter.unusedVariables false
namespace Go.Proofs.YtipphlhaaienpaaDoor
open Go
section
variable {P : Program} {ops : Array Oper} {Q : Exit → Act → World → Prop} {S : World → Prop} {L : Nat}
def wpAnyZ (P : Program) (ops : Array Oper) (Q : Exit → Act → World → Prop) (S : World → Prop) (L : Nat) : Nat → Array Bool → Act → World → Prop
  | 0, listed, a, w => Region.ready .any ops listed = [] ∧ Q .normal a w
  | fuel + 1, listed, a, w =>
    (Region.ready .any ops listed = [] → Q .normal a w) ∧
    ∀ i ∈ Region.ready .any ops listed, wpOp P ops Q i (fun a' w' => (i ≠ L → S w') ∧ wpAnyZ P ops Q S L fuel (listed.setIfInBounds i true) a' w') a w
theorem wpAny_of_Z : ∀ (fuel : Nat) (listed : Array Bool) (a : Act) (w : World), wpAnyZ P ops Q S L fuel listed a w → wpAny P .any ops Q fuel listed a w
  | 0, _, _, _, h => h
  | fuel + 1, _, _, _, h => ⟨h.1, fun i hi => wpOp_mono (fun a' w' h' => wpAny_of_Z fuel _ a' w' h'.2) (h.2 i hi)⟩
/-- Number L waits for all others. -/
def lastB (ops : Array Oper) (L : Nat) : Bool := (List.range ops.size).all fun k => k == L || ((ops[L]?).map fun o => o.after.any fun e => Region.binds .any e && e.on == k).getD true
theorem lastB_spec {o : Oper} (h : lastB ops L = true) (ho : ops[L]? = some o) (k : Nat) (hk : k < ops.size) (hne : k ≠ L) : ∃ e ∈ o.after, Region.binds .any e = true ∧ e.on = k := by
  have h1 := List.all_eq_true.1 h k (List.mem_range.2 hk)
  simp only [ho, Option.map_some, Option.getD_some, Bool.or_eq_true, beq_iff_eq, hne, false_or] at h1
  obtain ⟨e, he, hb⟩ := Array.any_eq_true'.1 h1
  simp only [Bool.and_eq_true, beq_iff_eq] at hb
  exact ⟨e, he, hb.1, hb.2⟩
theorem wpAnyZ_first (hL : lastB ops L = true) {i : Nat} {oi : Oper} {v : Value} (hi : ops[i]? = some oi) (hsel : ∀ (j : Nat) (o : Oper) cs b, ops[j]? = some o → o.op ≠ .select cs b) (hQ : ∀ c a w, Q (.panic c) (a.put oi.dst v) w → Q (.panic c) a w) :
    ∀ (fuel : Nat) (listed : Array Bool) (a : Act) (w : World),
      (∀ j oj, ops[j]? = some oj → j ≠ i → listed.getD j true = false → (∀ e ∈ oj.after, Region.binds .any e = true → e.on ≠ i) → oi.apart ops oj = true) →
      i ∈ Region.ready .any ops listed → YieldsIf P ops S oi v a → S w →
      wpAnyZ P ops Q S L fuel (listed.setIfInBounds i true) (a.put oi.dst v) w → wpAnyZ P ops Q S L (fuel + 1) listed a w
  | fuel, listed, a, w, hfree, hr, hy, hS, H => by
    refine ⟨fun h => absurd hr (by rw [h]; simp), fun j hj => ?_⟩
    by_cases hji : j = i
    · subst hji
      exact hy.wpOp hi hS ⟨fun _ => hS, H⟩
    · have hin : j ∈ Region.ready .any ops (listed.setIfInBounds i true) := ready_mono hj hji
      match fuel, H with
      | 0, H => rw [H.1] at hin; cases hin
      | fuel + 1, H =>
        obtain ⟨hjun, oj, hoj, hall⟩ := mem_ready.1 hj
        have hnot : ∀ e ∈ oj.after, Region.binds .any e = true → e.on ≠ i := fun e he hb heq => by
          have h1 := hall e he hb
          have h0 := (mem_ready.1 hr).1
          rw [heq] at h1
          rcases Nat.lt_or_ge i listed.size with h' | h'
          · simp [h'] at h0 h1; rw [h0] at h1; cases h1
          · simp [Array.getElem?_eq_none h'] at h1
        have h2 := wpOp_putIf hoj (hfree j oj hoj hji hjun hnot) (fun cs b => hsel i oi cs b hi) (fun cs b => hsel j oj cs b hoj) hQ hy (H.2 j hin)
        have hri : i ∈ Region.ready .any ops (listed.setIfInBounds j true) := ready_mono hr (Ne.symm hji)
        have hfree' : ∀ k ok, ops[k]? = some ok → k ≠ i → (listed.setIfInBounds j true).getD k true = false → (∀ e ∈ ok.after, Region.binds .any e = true → e.on ≠ i) → oi.apart ops ok = true := fun k ok hk hki hun hno => by
          refine hfree k ok hk hki ?_ hno
          by_cases hjk : j = k
          · subst hjk; exact hjun
          · rw [getD_set_ne true hjk] at hun; exact hun
        have hjL : j ≠ L := by
          rintro rfl
          obtain ⟨e, he, hb, hon⟩ := lastB_spec hL hoj i (Array.getElem?_eq_some_iff.1 hi).1 (Ne.symm hji)
          exact hnot e he hb hon
        refine wpOp_mono (fun a' w' h3 => ?_) h2
        have hSw := h3.2.1 hjL
        refine ⟨fun _ => hSw, wpAnyZ_first hL hi hsel hQ fuel (listed.setIfInBounds j true) a' w' hfree' hri h3.1 hSw ?_⟩
        rw [Array.setIfInBounds_comm _ _ hji]
        exact h3.2.2
def wpMixZ (P : Program) (ops : Array Oper) (Q : Exit → Act → World → Prop) (S : World → Prop) (L : Nat) : List (Bool × Nat) → Act → World → Prop
  | [], a, w => Q .normal a w
  | (true, i) :: r, a, w => ∃ o v, ops[i]? = some o ∧ YieldsIf P ops S o v a ∧ wpMixZ P ops Q S L r (a.put o.dst v) w
  | (false, i) :: r, a, w => wpOp P ops Q i (fun a' w' => (i ≠ L → S w') ∧ wpMixZ P ops Q S L r a' w') a w
/-- In the list number L stands last. -/
def endsB (L : Nat) : List (Bool × Nat) → Bool
  | [] => true
  | [_] => true
  | (_, i) :: r => !(i == L) && endsB L r
theorem wpAnyZ_of_mix (hL : lastB ops L = true) (hs : Region.noSelect ops = true) (hQ : ∀ c a d v w, Q (.panic c) (Act.put a d v) w → Q (.panic c) a w) :
    ∀ (l : List (Bool × Nat)) (listed : Array Bool) (a : Act) (w : World) (fuel : Nat), l.length ≤ fuel → mixB ops l listed = true → endsB L l = true → S w → wpMixZ P ops Q S L l a w → wpAnyZ P ops Q S L fuel listed a w
  | [], listed, a, w, 0, _, hb, _, _, h => ⟨by simpa [mixB] using hb, h⟩
  | [], listed, a, w, _ + 1, _, hb, _, _, h => ⟨fun _ => h, fun i hi => by
      have : Region.ready .any ops listed = [] := by simpa [mixB] using hb
      rw [this] at hi; cases hi⟩
  | (true, i) :: r, listed, a, w, 0, hf, _, _, _, _ => by simp at hf
  | (false, i) :: r, listed, a, w, 0, hf, _, _, _, _ => by simp at hf
  | (true, i) :: r, listed, a, w, fuel + 1, hf, hb, he, hS, h => by
    obtain ⟨o, v, ho, hy, hr⟩ := h
    simp only [mixB, Bool.and_eq_true] at hb
    have he' : endsB L r = true := by
      cases r with
      | nil => rfl
      | cons x r => simp only [endsB, Bool.and_eq_true] at he; exact he.2
    exact wpAnyZ_first hL ho (Region.noSelect_spec hs) (fun c a w => hQ c a _ _ w) fuel listed a w (Region.free_spec ho hb.1.1) (by simpa using hb.1.2) hy hS (wpAnyZ_of_mix hL hs hQ r _ _ _ fuel (by simpa using hf) hb.2 he' hS hr)
  | (false, i) :: r, listed, a, w, fuel + 1, hf, hb, he, hS, h => by
    simp only [mixB, Bool.and_eq_true, beq_iff_eq] at hb
    refine ⟨fun h0 => (by rw [hb.1] at h0; cases h0), fun j hj => ?_⟩
    rw [hb.1] at hj
    obtain rfl : j = i := by simpa using hj
    refine wpOp_mono (fun a' w' ⟨h1, h2⟩ => ⟨h1, ?_⟩) h
    cases r with
    | nil =>
      cases fuel with
      | zero => exact ⟨by simpa [mixB] using hb.2, h2⟩
      | succ n => exact ⟨fun _ => h2, fun i hi => by
          have : Region.ready .any ops (listed.setIfInBounds j true) = [] := by simpa [mixB] using hb.2
          rw [this] at hi; cases hi⟩
    | cons x r =>
      simp only [endsB, Bool.and_eq_true, Bool.not_eq_true', beq_eq_false_iff_ne] at he
      exact wpAnyZ_of_mix hL hs hQ (x :: r) _ a' w' fuel (by simpa using hf) hb.2 he.2 (h1 he.1) h2
/-- A region that draws its order, walked in the order l; its last operation, L, waits for all others. -/
theorem wp_region_mixz (S : World → Prop) (L : Nat) (l : List (Bool × Nat)) {id : Nat} {a : Act} {w : World} (hm : P.follows .mixedOrders = true) (hs : Region.noSelect ops = true) (hl : decide (l.length ≤ ops.size) = true) (hb : mixB ops l (Array.replicate ops.size false) = true)
    (hL : lastB ops L = true) (he : endsB L l = true) (hS : S w.drew) (h : wpMixZ P ops (NoPanic Q) S L l a w.drew) : (Code.region id ops true).wp P Q a w :=
  wp_region_noPanic (wp_region_any hm (wpAny_of_Z _ _ _ _ (wpAnyZ_of_mix hL hs (fun _ _ _ _ _ h => h) l _ a _ ops.size (of_decide_eq_true hl) hb he hS h)))
theorem wpMixZ_nil {a : Act} {w : World} (h : Q .normal a w) : wpMixZ P ops (NoPanic Q) S L [] a w := h
theorem wpMixZ_q {i : Nat} {r : List (Bool × Nat)} {a : Act} {w : World} {o : Oper} {v : Value} (ho : ops[i]? = some o) (hw : Region.wanted o (yielded ops a.tmps) = true)
    (hy : ∀ w, S w → (execOp a.eval o).run P w = .ok (.value v) w) (h : wpMixZ P ops Q S L r (a.put o.dst v) w) : wpMixZ P ops Q S L ((true, i) :: r) a w :=
  ⟨o, v, ho, .inl ⟨hw, hy⟩, h⟩
theorem wpMixZ_u {i : Nat} {r : List (Bool × Nat)} {a : Act} {w : World} {o : Oper} (ho : ops[i]? = some o) (hw : Region.wanted o (yielded ops a.tmps) = false)
    (h : wpMixZ P ops Q S L r (a.put o.dst undef) w) : wpMixZ P ops Q S L ((true, i) :: r) a w :=
  ⟨o, undef, ho, .inr ⟨hw, rfl⟩, h⟩
/-- Any other operation but the last. -/
theorem wpMixZ_l {i : Nat} {r : List (Bool × Nat)} {a : Act} {w : World} {o : Oper} (ho : ops[i]? = some o) (hw : Region.wanted o (yielded ops a.tmps) = true)
    (h : ∀ K : Act → World → Prop, (∀ a' w', S w' → wpMixZ P ops Q S L r a' w' → K a' w') → o.wp P a w K Q) : wpMixZ P ops Q S L ((false, i) :: r) a w := by
  show wpOp P ops Q i _ a w
  unfold wpOp
  simp only [ho, hw, if_true]
  exact .inl (h _ (fun _ _ h1 h2 => ⟨fun _ => h1, h2⟩))
/-- The last. -/
theorem wpMixZ_z {r : List (Bool × Nat)} {a : Act} {w : World} {o : Oper} (ho : ops[L]? = some o) (hw : Region.wanted o (yielded ops a.tmps) = true)
    (h : ∀ K : Act → World → Prop, (∀ a' w', wpMixZ P ops Q S L r a' w' → K a' w') → o.wp P a w K Q) : wpMixZ P ops Q S L ((false, L) :: r) a w := by
  show wpOp P ops Q L _ a w
  unfold wpOp
  simp only [ho, hw, if_true]
  exact .inl (h _ (fun _ _ h2 => ⟨fun hne => absurd rfl hne, h2⟩))
end
end Go.Proofs.YtipphlhaaienpaaDoor
