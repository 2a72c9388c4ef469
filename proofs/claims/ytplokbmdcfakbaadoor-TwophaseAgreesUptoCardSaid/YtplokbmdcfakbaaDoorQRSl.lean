/- slices.Clone, Index, Contains at ints and bools (printed by gensl.py). -/
import Derived.Test.YtplokbmdcfakbaaDoorQROutQ
import Derived.Lib.SliceRun
set_option linter.unusedSimpArgs false
set_option linter.unusedVariables false
namespace Go.Proofs.YtplokbmdcfakbaaDoor
open Go.RowKit
def ints (l : List Int) : List (List Lf) := l.map fun n => [.int .i64 n]
def bools (l : List Bool) : List (List Lf) := l.map fun b => [.bool b]
def SI (I : Gh) (v : Value) (l : List Int) : Prop := LRp I (.rows 1 (ints l)) v
def SB (I : Gh) (v : Value) (l : List Bool) : Prop := LRp I (.rows 1 (bools l)) v
theorem Acc.mono {I J : Gh} {w : World} {base : Nat} {e : TypeId} {n : Nat} {x : Value} {l : List (List Lf)} (h : Acc I w base e n x l) (hl : Le I J) (ha : ∀ g, x.ownBlock = some g → Av J g) : Acc J w base e n x l := by
  obtain ⟨xs, h1, h2, h3, _⟩ := h
  exact ⟨xs, h1, VsRp.mono hl _ _ h2, h3, ha⟩
theorem Acc.keep {I : Gh} {w w' : World} {base : Nat} {e : TypeId} {n : Nat} {x : Value} {l : List (List Lf)} (h : Acc I w base e n x l) (hk : ∀ g, x.ownBlock = some g → w'.heap[g]? = w.heap[g]?) : Acc I w' base e n x l := by
  obtain ⟨xs, h1, h2, h3, h4⟩ := h
  refine ⟨xs, ⟨h1.1, ?_⟩, h2, h3, h4⟩
  rcases h1.2 with h | ⟨g, cap, cur, rfl, hg, hb, hn⟩
  · exact .inl h
  · exact .inr ⟨g, cap, cur, rfl, hg, (hk g rfl).trans hb, hn⟩
theorem Acc.done2 {I : Gh} {w w0 : World} {base : Nat} {e : TypeId} {n : Nat} {x : Value} {l : List (List Lf)} (h : Acc I w base e n x l) (hi : Inv I w) (hb : w0.heap.size ≤ base) (he : Ext w0 w) :
    ∃ I', Gr I I' w0 w ∧ LRp I' (.rows n l) x ∧ ∀ b, x.ownBlock ≠ some b → Av I b → Av I' b := by
  obtain ⟨xs, h1, h2, h3, h4⟩ := h
  rcases h1.2 with ⟨rfl, h0⟩ | ⟨g, cap, cur, rfl, hg, hblk, hn, hm, hsz, htk⟩
  · obtain rfl : l = [] := List.eq_nil_of_length_eq_zero h0
    exact ⟨I, ⟨Le.refl I, fun b o v e f => (by rw [f] at e; cases e), hi, he⟩, LRp.nil I n, fun _ _ h => h⟩
  · have hxl : xs.length = l.length * n := h1.1
    have hc : ∀ j v, j < l.length * n → xs[j]? = some v → w.cell? ⟨g, j, none⟩ = some v := fun j v hj hv => by
      rw [blk_cell hblk j]
      rw [← htk, List.getElem?_take] at hv
      rw [if_pos hj] at hv
      rw [← Array.getElem?_toList]; exact hv
    refine ⟨addB I g (l.length * n) xs, addB_gr hi (h4 g rfl) (by omega) he hc, ?_, fun b hb ha o => ?_⟩
    · unfold LRp
      refine ⟨_, cap, rfl, hn, hm, fun _ => ⟨g, 0, rfl, rows_of l 0 xs h3 (VsRp.mono (addB_le (h4 g rfl) _ _) _ _ h2) (fun j v hj => ?_)⟩⟩
      rw [Nat.zero_add]
      exact addB_at (by have := (List.getElem?_eq_some_iff.1 hj).1; omega) hj
    · unfold addB
      rw [if_neg (fun h => hb (by rw [h]; rfl))]; exact ha o
theorem Acc.low {I : Gh} {w : World} {base base' : Nat} {e : TypeId} {n : Nat} {x : Value} {l : List (List Lf)} (h : Acc I w base e n x l) (hb : base' ≤ base) : Acc I w base' e n x l := by
  obtain ⟨xs, h1, h2, h3, h4⟩ := h
  refine ⟨xs, ⟨h1.1, ?_⟩, h2, h3, h4⟩
  rcases h1.2 with h | ⟨g, cap, cur, rfl, hg, hb', hn⟩
  · exact .inl h
  · exact .inr ⟨g, cap, cur, rfl, Nat.le_trans hb hg, hb', hn⟩
theorem Acc.own {I : Gh} {w : World} {base : Nat} {e : TypeId} {n : Nat} {x : Value} {l : List (List Lf)} (h : Acc I w base e n x l) : ∀ g, x.ownBlock = some g → base ≤ g ∧ g < w.heap.size := by
  obtain ⟨xs, h1, _⟩ := h
  exact fun g hg => h1.lt g hg
theorem Acc.ext {I : Gh} {w w' : World} {base : Nat} {e : TypeId} {n : Nat} {x : Value} {l : List (List Lf)} (h : Acc I w base e n x l) (k : Ext w w') : Acc I w' base e n x l :=
  h.keep fun g hg => k.below.block g (h.own g hg).2
theorem SI.shape {I : Gh} {v : Value} {l : List Int} (h : SI I v l) : ∃ a c, v = .slice a l.length c ∧ l.length ≤ c ∧ c ≤ maxLen := by
  obtain ⟨a, c, h1, h2, h3⟩ := LRp.slice h
  have e : (ints l).length = l.length := by simp [ints]
  rw [e] at h1 h2
  exact ⟨a, c, h1, h2, h3⟩
theorem SI.at_ {I : Gh} {a : Option Addr} {c : Nat} {l : List Int} (h : SI I (.slice a l.length c) l) (j : Nat) (x : Int) (hj : l[j]? = some x) : ∃ b off, a = some ⟨b, off, none⟩ ∧ I b (off + j) = some (.int .i64 x) := by
  obtain ⟨b, off, c', cs, h1, _, _, _, h2, h3⟩ := LRp.elem h j [.int .i64 x] (by simp [ints, hj])
  injection h1 with h1 _ _
  obtain ⟨v, q, rfl, h4, _⟩ := h2
  have h5 := h3 0 v rfl
  refine ⟨b, off, h1, ?_⟩
  rw [Nat.mul_one, Nat.add_zero] at h5
  rw [h5]
  rw [h4.int.1]
theorem SI.wf {I : Gh} {v : Value} {l : List Int} (h : SI I v l) : ∀ x ∈ l, I64 x := by
  intro x hx
  obtain ⟨j, hj⟩ := List.getElem?_of_mem hx
  obtain ⟨b, off, c', cs, h1, _, _, _, h2, h3⟩ := LRp.elem h j [.int .i64 x] (by simp [ints, hj])
  obtain ⟨v, q, rfl, h4, _⟩ := h2
  have hb := bounds_i64 h4.int.2
  unfold I64; omega
theorem wf_i64 {x : Int} (h : I64 x) : (Lit.int .i64 x).wf = true := by
  unfold I64 at h
  have h1 : IntKind.min .i64 = -9223372036854775808 := by kernel_rfl
  have h2 : IntKind.max .i64 = 9223372036854775807 := by kernel_rfl
  simp only [Lit.wf, Bool.and_eq_true, decide_eq_true_eq]; omega
theorem vs_ints (I : Gh) : ∀ (l : List Int), (∀ x ∈ l, I64 x) → VsRp I (ints l).flatten (l.map fun x => .int .i64 x)
  | [], _ => rfl
  | x :: r, h => ⟨_, _, rfl, by unfold LRp; exact ⟨rfl, wf_i64 (h x (by simp))⟩, vs_ints I r (fun y hy => h y (by simp [hy]))⟩
theorem vs_bools (I : Gh) : ∀ (l : List Bool), VsRp I (bools l).flatten (l.map fun x => .bool x)
  | [] => rfl
  | x :: r => ⟨_, _, rfl, by unfold LRp; rfl, vs_bools I r⟩
def idxOf {α : Type} [DecidableEq α] (x : α) : List α → Nat → Int
  | [], _ => -1
  | y :: r, j => if x = y then (j : Int) else idxOf x r (j + 1)
theorem idxOf_ge {α : Type} [DecidableEq α] (x : α) : ∀ (l : List α) (j : Nat), idxOf x l j = -1 ∧ x ∉ l ∨ (j : Int) ≤ idxOf x l j ∧ x ∈ l
  | [], j => by simp [idxOf]
  | y :: r, j => by
    unfold idxOf
    by_cases h : x = y
    · rw [if_pos h]; right; exact ⟨Int.le_refl _, by simp [h]⟩
    · rw [if_neg h]
      rcases idxOf_ge x r (j + 1) with ⟨h1, h2⟩ | ⟨h1, h2⟩
      · left; exact ⟨h1, by simp [h, h2]⟩
      · right; exact ⟨by omega, by simp [h2]⟩
theorem idxOf_in {α : Type} [DecidableEq α] (x : α) (l : List α) : decide (0 ≤ idxOf x l 0) = decide (x ∈ l) := by
  rcases idxOf_ge x l 0 with ⟨h1, h2⟩ | ⟨h1, h2⟩
  · rw [h1, decide_eq_false h2]; rfl
  · rw [decide_eq_true h2, decide_eq_true (by omega)]
theorem infoI : (Tryd.prog.info? 3).map (fun i => (i.zero, i.size, i.bytes)) = some (some (.int .i64 0), 1, 8) := by kernel_rfl
set_option maxRecDepth 20000 in
set_option maxHeartbeats 4000000 in
theorem CloneI_ok (l : List Int) (v : Value) (I : Gh) (w : World) (hv : SI I v l) (hi : Inv I w) (hb : l.length ≤ 16777216) :
    Calls Tryd.prog 19 #[v] w fun e w' => ∃ v', e = .returned v' ∧ Acc I w' w.heap.size 3 1 v' (ints l) ∧ Ext w w' := by
  obtain ⟨a, c, rfl, hc1, hc2⟩ := hv.shape
  have HV := Lib.hid hv
  have HI := Lib.hid hi
  clear hv hi
  have hq : ∀ (w : World) (a : Option Addr) (n c n' c' : Nat), (binOp .eql 22 (.slice a n c) (.slice none n' c')).run Tryd.prog w = .ok (.bool a.isNone) w := fun w a n c n' c' => Lib.run_eql_slice_nil w _ _ a n c n' c' Tryd.underlying22
  cases a with
  | none =>
    have hl : l = [] := by
      cases l with
      | nil => rfl
      | cons x r => obtain ⟨b, off, h, _⟩ := SI.at_ HV.out 0 x rfl; cases h
    subst hl
    go_enter Tryd.func19, Tryd.ntmps19
    go_wp2_with fail
    go_ret
    exact ⟨_, rfl, Acc.nil _ _ _ _ _, Ext.refl _⟩
  | some ad =>
    obtain ⟨i0, hin, hz0, hz1, hz2⟩ := info_parts infoI
    have hcell : ∀ j u, (l.map (fun x : Int => (.int .i64 x)))[j]? = some u → w.cell? (ad.add j) = some u := fun j u hj => by
      rw [List.getElem?_map] at hj
      cases hx : l[j]? with
      | none => rw [hx] at hj; cases hj
      | some x =>
        rw [hx] at hj
        injection hj with hj
        obtain ⟨b, off, h, hI⟩ := SI.at_ HV.out j x hx
        injection h with h
        subst h hj
        rw [add_plain']
        exact HI.out _ _ _ hI
    go_enter Tryd.func19, Tryd.ntmps19
    go_wp2_with (at_builtin; refine wpList_append_own _ rfl _ _ 22 rfl w.heap.size 3 i0 (.int .i64 0) 1 8 Tryd.underlying22 hin hz0 hz1 hz2 rfl (by decide) _ _ _ rfl (World.ownsRow_made w #[] 0 (Nat.le_refl _) (Nat.zero_le _) rfl) ad l.length c (l.map (fun x : Int => (.int .i64 x))) rfl ?qc1 ?qc2 ?qc3 ?qc4 ?qc5 ?qc6 ?_)
    case qc1 => simp
    case qc2 => intro j u hj; exact ((Ext.refl w).alloc _).keep (hcell j u hj)
    case qc3 => intro u hu; obtain ⟨x, _, rfl⟩ := List.mem_map.1 hu; rfl
    case qc4 => unfold maxLen; omega
    case qc5 => omega
    case qc6 => simp
    intro v' w1 hown hgrow hnil
    have hE : Ext w w1 := Ext.grown ((Ext.refl w).alloc _) hgrow (by intro k hk; simp [Value.ownBlock] at hk; omega)
    have hA : Acc I w1 w.heap.size 3 1 v' (ints l) := ⟨_, by simpa [ints] using hown, vs_ints _ _ HV.out.wf, by intro r hr; obtain ⟨x, _, rfl⟩ := List.mem_map.1 (show r ∈ List.map _ l from hr); rfl, fun g hg => HI.out.av (hown.lt g hg).1⟩
    have HA := Lib.hid hA
    have HE := Lib.hid hE
    clear hA hE hown hgrow hnil hcell hq
    go_wp2_with fail
    go_ret
    exact ⟨_, rfl, HA.out, HE.out⟩
theorem SB.shape {I : Gh} {v : Value} {l : List Bool} (h : SB I v l) : ∃ a c, v = .slice a l.length c ∧ l.length ≤ c ∧ c ≤ maxLen := by
  obtain ⟨a, c, h1, h2, h3⟩ := LRp.slice h
  have e : (bools l).length = l.length := by simp [bools]
  rw [e] at h1 h2
  exact ⟨a, c, h1, h2, h3⟩
theorem SB.at_ {I : Gh} {a : Option Addr} {c : Nat} {l : List Bool} (h : SB I (.slice a l.length c) l) (j : Nat) (x : Bool) (hj : l[j]? = some x) : ∃ b off, a = some ⟨b, off, none⟩ ∧ I b (off + j) = some (.bool x) := by
  obtain ⟨b, off, c', cs, h1, _, _, _, h2, h3⟩ := LRp.elem h j [.bool x] (by simp [bools, hj])
  injection h1 with h1 _ _
  obtain ⟨v, q, rfl, h4, _⟩ := h2
  have h5 := h3 0 v rfl
  refine ⟨b, off, h1, ?_⟩
  rw [Nat.mul_one, Nat.add_zero] at h5
  rw [h5]
  rw [h4.bool]
theorem infoB : (Tryd.prog.info? 4).map (fun i => (i.zero, i.size, i.bytes)) = some (some (.bool false), 1, 1) := by kernel_rfl
set_option maxRecDepth 20000 in
set_option maxHeartbeats 4000000 in
theorem CloneB_ok (l : List Bool) (v : Value) (I : Gh) (w : World) (hv : SB I v l) (hi : Inv I w) (hb : l.length ≤ 16777216) :
    Calls Tryd.prog 34 #[v] w fun e w' => ∃ v', e = .returned v' ∧ Acc I w' w.heap.size 4 1 v' (bools l) ∧ Ext w w' := by
  obtain ⟨a, c, rfl, hc1, hc2⟩ := hv.shape
  have HV := Lib.hid hv
  have HI := Lib.hid hi
  clear hv hi
  have hq : ∀ (w : World) (a : Option Addr) (n c n' c' : Nat), (binOp .eql 25 (.slice a n c) (.slice none n' c')).run Tryd.prog w = .ok (.bool a.isNone) w := fun w a n c n' c' => Lib.run_eql_slice_nil w _ _ a n c n' c' Tryd.underlying25
  cases a with
  | none =>
    have hl : l = [] := by
      cases l with
      | nil => rfl
      | cons x r => obtain ⟨b, off, h, _⟩ := SB.at_ HV.out 0 x rfl; cases h
    subst hl
    go_enter Tryd.func34, Tryd.ntmps34
    go_wp2_with fail
    go_ret
    exact ⟨_, rfl, Acc.nil _ _ _ _ _, Ext.refl _⟩
  | some ad =>
    obtain ⟨i0, hin, hz0, hz1, hz2⟩ := info_parts infoB
    have hcell : ∀ j u, (l.map (fun x : Bool => (.bool x)))[j]? = some u → w.cell? (ad.add j) = some u := fun j u hj => by
      rw [List.getElem?_map] at hj
      cases hx : l[j]? with
      | none => rw [hx] at hj; cases hj
      | some x =>
        rw [hx] at hj
        injection hj with hj
        obtain ⟨b, off, h, hI⟩ := SB.at_ HV.out j x hx
        injection h with h
        subst h hj
        rw [add_plain']
        exact HI.out _ _ _ hI
    go_enter Tryd.func34, Tryd.ntmps34
    go_wp2_with (at_builtin; refine wpList_append_own _ rfl _ _ 25 rfl w.heap.size 4 i0 (.bool false) 1 1 Tryd.underlying25 hin hz0 hz1 hz2 rfl (by decide) _ _ _ rfl (World.ownsRow_made w #[] 0 (Nat.le_refl _) (Nat.zero_le _) rfl) ad l.length c (l.map (fun x : Bool => (.bool x))) rfl ?qc1 ?qc2 ?qc3 ?qc4 ?qc5 ?qc6 ?_)
    case qc1 => simp
    case qc2 => intro j u hj; exact ((Ext.refl w).alloc _).keep (hcell j u hj)
    case qc3 => intro u hu; obtain ⟨x, _, rfl⟩ := List.mem_map.1 hu; rfl
    case qc4 => unfold maxLen; omega
    case qc5 => omega
    case qc6 => simp
    intro v' w1 hown hgrow hnil
    have hE : Ext w w1 := Ext.grown ((Ext.refl w).alloc _) hgrow (by intro k hk; simp [Value.ownBlock] at hk; omega)
    have hA : Acc I w1 w.heap.size 4 1 v' (bools l) := ⟨_, by simpa [bools] using hown, vs_bools _ _, by intro r hr; obtain ⟨x, _, rfl⟩ := List.mem_map.1 (show r ∈ List.map _ l from hr); rfl, fun g hg => HI.out.av (hown.lt g hg).1⟩
    have HA := Lib.hid hA
    have HE := Lib.hid hE
    clear hA hE hown hgrow hnil hcell hq
    go_wp2_with fail
    go_ret
    exact ⟨_, rfl, HA.out, HE.out⟩
set_option maxRecDepth 20000 in
set_option maxHeartbeats 4000000 in
theorem IndexI_ok (l : List Int) (x : Int) (v : Value) (I : Gh) (w : World) (hv : SI I v l) (hi : Inv I w) (hb : l.length ≤ 16777216) :
    Calls Tryd.prog 20 #[v, .int .i64 x] w fun e w' => e = .returned (.int .i64 (idxOf x l 0)) ∧ w = w' := by
  obtain ⟨a, c, rfl, hc1, hc2⟩ := hv.shape
  have HV := Lib.hid hv
  have HI := Lib.hid hi
  unfold maxLen at hc2
  obtain ⟨r, hr⟩ : ∃ r, idxOf x l 0 = r := ⟨_, rfl⟩
  rw [hr]
  have HR := Lib.hid hr
  clear hv hi hr
  go_enter Tryd.func20, Tryd.ntmps20
  go_wp2_with fail
  go_loopw [8] (fun i wr => ∃ j : Nat, j ≤ l.length ∧ i = .int .i64 j ∧ Hid (idxOf x (l.drop j) j = r) ∧ w = wr) (fun i _ => l.length - (intOf i).toNat)
  case atStart => exact ⟨0, by omega, rfl, HR, rfl⟩
  case round =>
    obtain ⟨j, hj, rfl, HF, rfl⟩ := hrel
    by_cases hlt : j < l.length
    · obtain ⟨y, hy⟩ : ∃ y, l[j] = y := ⟨_, rfl⟩
      obtain ⟨b, off, rfl, hI⟩ := SI.at_ HV.out j y (by rw [← hy]; exact List.getElem?_eq_getElem hlt)
      have hcl := HI.out _ _ _ hI
      have hbl := HI.out.lt hI
      have hF := HF.out
      rw [List.drop_eq_getElem_cons hlt, hy] at hF
      unfold idxOf at hF
      by_cases hxy : x = y
      · rw [if_pos hxy] at hF
        subst hF
        have d : (x == y) = true := by simpa using hxy
        clear hxy hy hI
        go_wp2_with fail
        go_ret
        exact ⟨rfl, rfl⟩
      · rw [if_neg hxy] at hF
        have HF2 := Lib.hid hF
        have d : (x == y) = false := beq_eq_false_iff_ne.2 hxy
        clear hxy hy hI hF
        go_wp2_with fail
        exact ⟨⟨j + 1, by omega, by go_num, HF2, trivial⟩, by simp [intOf]; omega⟩
    · have hj2 : j = l.length := by omega
      subst hj2
      have hF := HF.out
      rw [List.drop_length] at hF
      unfold idxOf at hF
      subst hF
      go_wp2_with fail
      go_ret
      exact ⟨rfl, rfl⟩
set_option maxRecDepth 20000 in
set_option maxHeartbeats 4000000 in
theorem ContI_ok (l : List Int) (x : Int) (v : Value) (I : Gh) (w : World) (hv : SI I v l) (hi : Inv I w) (hb : l.length ≤ 16777216) :
    Calls Tryd.prog 22 #[v, .int .i64 x] w fun e w' => e = .returned (.bool (decide (x ∈ l))) ∧ w = w' := by
  have HV := Lib.hid hv
  have HI := Lib.hid hi
  clear hv hi
  rw [← idxOf_in]
  obtain ⟨r, hr⟩ : ∃ r, idxOf x l 0 = r := ⟨_, rfl⟩
  rw [hr]
  have HR := Lib.hid hr
  clear hr
  go_enter Tryd.func22, Tryd.ntmps22
  go_wp2_with fail
  refine (IndexI_ok l x v I _ HV.out HI.out hb).mono ?_
  rw [HR.out]
  rintro e w1 ⟨rfl, rfl⟩
  go_wp2_with fail
  go_ret
  exact ⟨rfl, rfl⟩
set_option maxRecDepth 20000 in
set_option maxHeartbeats 4000000 in
theorem IndexB_ok (l : List Bool) (x : Bool) (v : Value) (I : Gh) (w : World) (hv : SB I v l) (hi : Inv I w) (hb : l.length ≤ 16777216) :
    Calls Tryd.prog 37 #[v, .bool x] w fun e w' => e = .returned (.int .i64 (idxOf x l 0)) ∧ w = w' := by
  obtain ⟨a, c, rfl, hc1, hc2⟩ := hv.shape
  have HV := Lib.hid hv
  have HI := Lib.hid hi
  unfold maxLen at hc2
  obtain ⟨r, hr⟩ : ∃ r, idxOf x l 0 = r := ⟨_, rfl⟩
  rw [hr]
  have HR := Lib.hid hr
  clear hv hi hr
  go_enter Tryd.func37, Tryd.ntmps37
  go_wp2_with fail
  go_loopw [8] (fun i wr => ∃ j : Nat, j ≤ l.length ∧ i = .int .i64 j ∧ Hid (idxOf x (l.drop j) j = r) ∧ w = wr) (fun i _ => l.length - (intOf i).toNat)
  case atStart => exact ⟨0, by omega, rfl, HR, rfl⟩
  case round =>
    obtain ⟨j, hj, rfl, HF, rfl⟩ := hrel
    by_cases hlt : j < l.length
    · obtain ⟨y, hy⟩ : ∃ y, l[j] = y := ⟨_, rfl⟩
      obtain ⟨b, off, rfl, hI⟩ := SB.at_ HV.out j y (by rw [← hy]; exact List.getElem?_eq_getElem hlt)
      have hcl := HI.out _ _ _ hI
      have hbl := HI.out.lt hI
      have hF := HF.out
      rw [List.drop_eq_getElem_cons hlt, hy] at hF
      unfold idxOf at hF
      by_cases hxy : x = y
      · rw [if_pos hxy] at hF
        subst hF
        have d : (x == y) = true := by simpa using hxy
        clear hxy hy hI
        go_wp2_with fail
        go_ret
        exact ⟨rfl, rfl⟩
      · rw [if_neg hxy] at hF
        have HF2 := Lib.hid hF
        have d : (x == y) = false := beq_eq_false_iff_ne.2 hxy
        clear hxy hy hI hF
        go_wp2_with fail
        exact ⟨⟨j + 1, by omega, by go_num, HF2, trivial⟩, by simp [intOf]; omega⟩
    · have hj2 : j = l.length := by omega
      subst hj2
      have hF := HF.out
      rw [List.drop_length] at hF
      unfold idxOf at hF
      subst hF
      go_wp2_with fail
      go_ret
      exact ⟨rfl, rfl⟩
set_option maxRecDepth 20000 in
set_option maxHeartbeats 4000000 in
theorem ContB_ok (l : List Bool) (x : Bool) (v : Value) (I : Gh) (w : World) (hv : SB I v l) (hi : Inv I w) (hb : l.length ≤ 16777216) :
    Calls Tryd.prog 32 #[v, .bool x] w fun e w' => e = .returned (.bool (decide (x ∈ l))) ∧ w = w' := by
  have HV := Lib.hid hv
  have HI := Lib.hid hi
  clear hv hi
  rw [← idxOf_in]
  obtain ⟨r, hr⟩ : ∃ r, idxOf x l 0 = r := ⟨_, rfl⟩
  rw [hr]
  have HR := Lib.hid hr
  clear hr
  go_enter Tryd.func32, Tryd.ntmps32
  go_wp2_with fail
  refine (IndexB_ok l x v I _ HV.out HI.out hb).mono ?_
  rw [HR.out]
  rintro e w1 ⟨rfl, rfl⟩
  go_wp2_with fail
  go_ret
  exact ⟨rfl, rfl⟩
end Go.Proofs.YtplokbmdcfakbaaDoor
