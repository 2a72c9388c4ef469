/- twophase.Over, Vote, Ack. -/
import Derived.Test.YtplokbmdcfakbaaDoorQRTw2
set_option linter.unusedSimpArgs false
set_option linter.unusedVariables false
namespace Go.Proofs.YtplokbmdcfakbaaDoor
open Go.RowKit
def overB (d : Dec) : Bool := decide (d.st ≠ 1) && !decide (false ∈ d.ak)
set_option maxRecDepth 20000 in
set_option maxHeartbeats 4000000 in
theorem Over_ok (d : Dec) (v : Value) (I : Gh) (w : World) (hD : DR I d v) (hi : Inv I w) : Calls Tryd.prog 17 #[v] w fun e w' => e = .returned (.bool (overB d)) ∧ Ext w w' := by
  obtain ⟨a1, c1, a2, c2, a3, c3, rfl, h1, h2, h3, hs⟩ := hD
  have H3 := Lib.hid h3
  have HI := Lib.hid hi
  have HS := Lib.hid hs
  clear h1 h2 h3 hi hs
  obtain ⟨r, hr⟩ : ∃ r, overB d = r := ⟨_, rfl⟩
  rw [hr]
  unfold overB at hr
  by_cases h1 : d.st = 1
  · have e : r = false := by rw [← hr]; simp [h1]
    subst e
    have d1 : (d.st != 1) = false := by simp [h1]
    clear hr h1
    go_enter Tryd.func17, Tryd.ntmps17
    go_wp2_with fail
    go_ret
    exact ⟨rfl, (Ext.refl _).alloc _⟩
  · have d1 : (d.st != 1) = true := by simpa using h1
    rw [decide_eq_true h1, Bool.true_and] at hr
    have HR := Lib.hid hr
    clear hr h1
    go_enter Tryd.func17, Tryd.ntmps17
    go_wp2_with fail
    refine (ContB_ok d.ak false _ I _ H3.out (HI.out.alloc _) HS.out.2.2.2.1).mono ?_
    rintro e w1 ⟨rfl, rfl⟩
    go_wp2_with fail
    go_ret
    exact ⟨congrArg (fun b => Ending.returned (.bool b)) HR.out, (Ext.refl _).alloc _⟩
def voteE (d : Dec) (sd sp : Int) : Dec × Int :=
  if idxOf sd d.sh 0 < 0 ∨ (sp ≠ -1 ∧ (sp < 1 ∨ 1099511627776 < sp)) then (zeroD, 1)
  else if d.st ≠ 1 ∨ d.vo[(idxOf sd d.sh 0).toNat]? ≠ some 0 then (zeroD, 23)
  else ({ d with vo := d.vo.set (idxOf sd d.sh 0).toNat sp }, 0)
def ackE (d : Dec) (sd : Int) : Dec × Int :=
  if idxOf sd d.sh 0 < 0 then (zeroD, 1) else if d.st = 1 then (zeroD, 23)
  else ({ d with ak := d.ak.set (idxOf sd d.sh 0).toNat true }, 0)
theorem vs_ints_eq {I : Gh} : ∀ (l : List Int) (xs : List Value), VsRp I (ints l).flatten xs → xs = l.map fun x => .int .i64 x
  | [], _, h => h
  | x :: r, _, ⟨c, q, e, h1, h2⟩ => by rw [e, h1.int.1, vs_ints_eq r q h2]; rfl
theorem vs_bools_eq {I : Gh} : ∀ (l : List Bool) (xs : List Value), VsRp I (bools l).flatten xs → xs = l.map fun x => .bool x
  | [], _, h => h
  | x :: r, _, ⟨c, q, e, h1, h2⟩ => by rw [e, h1.bool, vs_bools_eq r q h2]; rfl
/-- one element of a row of the call's own is set -/
theorem acc_set_i {I : Gh} {w : World} {base g n c : Nat} {l : List Int} (h : Acc I w base 3 1 (.slice (some ⟨g, 0, none⟩) n c) (ints l)) (hn : n = l.length) (j : Nat) (x : Int) (hx : I64 x) (hl : ∀ y ∈ l, I64 y) :
    Acc I (w.setCell ⟨g, j, none⟩ (.int .i64 x)) base 3 1 (.slice (some ⟨g, 0, none⟩) n c) (ints (l.set j x)) := by
  subst hn
  obtain ⟨xs, h1, h2, h3, h4⟩ := h
  have e := vs_ints_eq l xs h2
  rw [ints_len] at h1
  have hs := (World.ownsRow.stored h1 j (.int .i64 x)).1
  refine ⟨xs.set j (.int .i64 x), by rw [ints_len, List.length_set]; exact hs, ?_, fun r hr => ?_, h4⟩
  · rw [e, ← List.map_set (f := fun x : Int => Value.int .i64 x)]
    exact vs_ints I _ (fun y hy => by
      rcases List.mem_or_eq_of_mem_set hy with h | h
      · exact hl y h
      · rw [h]; exact hx)
  · obtain ⟨x, _, rfl⟩ := List.mem_map.1 (show r ∈ List.map _ _ from hr); rfl
theorem acc_set_b {I : Gh} {w : World} {base g n c : Nat} {l : List Bool} (h : Acc I w base 4 1 (.slice (some ⟨g, 0, none⟩) n c) (bools l)) (hn : n = l.length) (j : Nat) (x : Bool) :
    Acc I (w.setCell ⟨g, j, none⟩ (.bool x)) base 4 1 (.slice (some ⟨g, 0, none⟩) n c) (bools (l.set j x)) := by
  subst hn
  obtain ⟨xs, h1, h2, h3, h4⟩ := h
  have e := vs_bools_eq l xs h2
  rw [bools_len] at h1
  have hs := (World.ownsRow.stored h1 j (.bool x)).1
  refine ⟨xs.set j (.bool x), by rw [bools_len, List.length_set]; exact hs, ?_, fun r hr => ?_, h4⟩
  · rw [e, ← List.map_set (f := fun x : Bool => Value.bool x)]
    exact vs_bools I _
  · obtain ⟨x, _, rfl⟩ := List.mem_map.1 (show r ∈ List.map _ _ from hr); rfl
/-- the cell of a row of the call's own -/
theorem acc_cell {I : Gh} {w : World} {base : Nat} {e : TypeId} {a : Option Addr} {n c : Nat} {l : List (List Lf)} (h : Acc I w base e 1 (.slice a n c) l) (hn : n = l.length) (j : Nat) (hj : j < n) : ∃ g u, a = some ⟨g, 0, none⟩ ∧ w.cell? ⟨g, j, none⟩ = some u ∧ w.frozen? ⟨g, j, none⟩ = false ∧ g < w.heap.size := by
  subst hn
  obtain ⟨xs, h1, h2, h3, h4⟩ := h
  have h1' := h1
  rcases h1.2 with ⟨h, h0⟩ | ⟨g, cap, cur, h, hb, hh, _⟩
  · omega
  · injection h with h _ hc
    subst h hc
    have hl : xs.length = l.length * 1 := h1.1
    refine ⟨g, xs[j]'(by omega), rfl, ?_, World.ownsRow.frozenAt h1' j, (h1'.lt g rfl).2⟩
    rw [World.ownsRow.cellAt h1' j (by omega), List.getElem?_eq_getElem (by omega)]
theorem idxOf_at {α : Type} [DecidableEq α] (x : α) : ∀ (l : List α) (j : Nat), idxOf x l j = -1 ∨ ∃ k, k < l.length ∧ idxOf x l j = ((j + k : Nat) : Int) ∧ l[k]? = some x
  | [], j => by simp [idxOf]
  | y :: r, j => by
    unfold idxOf
    by_cases h : x = y
    · rw [if_pos h]; right; exact ⟨0, by simp, by simp, by simp [h]⟩
    · rw [if_neg h]
      rcases idxOf_at x r (j + 1) with h1 | ⟨k, h1, h2, h3⟩
      · left; exact h1
      · right; exact ⟨k + 1, by simp; omega, by rw [h2]; congr 1; omega, by simpa using h3⟩
set_option maxRecDepth 20000 in
set_option maxHeartbeats 4000000 in
theorem Vote_ok (d : Dec) (sd sp : Int) (v : Value) (I : Gh) (w : World) (hD : DR I d v) (hi : Inv I w) (hsp : I64 sp) : Calls Tryd.prog 8 #[v, .int .i64 sd, .int .i64 sp] w (DPost I w (voteE d sd sp)) := by
  have HD := Lib.hid hD
  obtain ⟨a1, c1, a2, c2, a3, c3, rfl, h1, h2, h3, hs⟩ := hD
  have H1 := Lib.hid h1
  have H2 := Lib.hid h2
  have HI := Lib.hid hi
  have HS := Lib.hid hs
  have HSP := Lib.hid hsp
  obtain ⟨k2a, k2b⟩ : d.vo.length ≤ c2 ∧ c2 ≤ maxLen := by
    obtain ⟨a, c, e, h, h'⟩ := h2.shape
    injection e with _ _ e
    subst e; exact ⟨h, h'⟩
  unfold maxLen at k2b
  clear h1 h2 h3 hi hs
  obtain ⟨R, hR⟩ : ∃ R, voteE d sd sp = R := ⟨_, rfl⟩
  rw [hR]
  have HR := Lib.hid hR
  clear hR
  have hX0 := blk_alloc (blk_at0 w (.cells #[.string d.id, .slice a1 d.sh.length c1, .slice a2 d.vo.length c2, .int .i64 d.st, .int .i64 d.co, .slice a3 d.ak.length c3] 27)) (.cells #[.string ⟨#[]⟩, .slice none 0 0, .slice none 0 0, .int .i64 0, .int .i64 0, .slice none 0 0] 27)
  have hY0 := blk_at1 w (.cells #[.string d.id, .slice a1 d.sh.length c1, .slice a2 d.vo.length c2, .int .i64 d.st, .int .i64 d.co, .slice a3 d.ak.length c3] 27) (.cells #[.string ⟨#[]⟩, .slice none 0 0, .slice none 0 0, .int .i64 0, .int .i64 0, .slice none 0 0] 27)
  have hE0 := ((Ext.refl w).alloc (.cells #[.string d.id, .slice a1 d.sh.length c1, .slice a2 d.vo.length c2, .int .i64 d.st, .int .i64 d.co, .slice a3 d.ak.length c3] 27)).alloc (.cells #[.string ⟨#[]⟩, .slice none 0 0, .slice none 0 0, .int .i64 0, .int .i64 0, .slice none 0 0] 27)
  go_enter Tryd.func8, Tryd.ntmps8
  go_wp2_with fail
  obtain ⟨w0, hw0⟩ : ∃ W, (w.alloc (.cells #[.string d.id, .slice a1 d.sh.length c1, .slice a2 d.vo.length c2, .int .i64 d.st, .int .i64 d.co, .slice a3 d.ak.length c3] 27)).alloc (.cells #[.string ⟨#[]⟩, .slice none 0 0, .slice none 0 0, .int .i64 0, .int .i64 0, .slice none 0 0] 27) = W := ⟨_, rfl⟩
  have hs0 : w0.heap.size = w.heap.size + 2 := by rw [← hw0]; simp
  rw [hw0] at hX0 hY0 hE0 ⊢
  have HX0 := Lib.hid hX0
  have HY0 := Lib.hid hY0
  have HE0 := Lib.hid hE0
  clear hX0 hY0 hE0 hw0
  refine (IndexI_ok d.sh sd _ I _ H1.out (HI.out.ext HE0.out) HS.out.2.1).mono ?_
  rintro e w1 ⟨rfl, rfl⟩
  have ck := blk_cell HX0.out
  have cf := blk_free HX0.out
  have ck2 := blk_cell HY0.out
  have cf2 := blk_free HY0.out
  have lx : w.heap.size < w0.heap.size := by omega
  have lx2 : w.heap.size + 1 < w0.heap.size := by omega
  have zfin : ∀ (c : Int), R = (zeroD, c) → True := fun _ _ => trivial
  clear zfin
  rcases idxOf_at sd d.sh 0 with hix | ⟨k, hk, hix, hat⟩
  · have e : R = (zeroD, 1) := by rw [← HR.out]; unfold voteE; rw [if_pos (.inl (by rw [hix]; decide))]
    subst e
    rw [hix]
    clear hix
    go_wp2_with fail
    refine bodyPost_ret (v := .tuple #[.agg #[.string ⟨#[]⟩, .slice none 0 0, .slice none 0 0, .int .i64 0, .int .i64 0, .slice none 0 0], .int .i64 1]) (by simp only [results, Tryd.results8]; go_simp) rfl (DPost.zero HI.out ?_)
    have h := HE0.out
    repeat (first | with_reducible assumption | with_reducible exact Ext.refl _ | with_reducible refine Ext.drew ?_ | with_reducible refine Ext.alloc ?_ _ | ((with_reducible refine Ext.setCell ?_ ?_ _); rotate_left; (· first | exact Nat.le_refl _ | (simp; done) | omega | (simp; omega))))
  rw [Nat.zero_add] at hix
  rw [hix]
  have hk64 : (k : Int) < 9223372036854775808 := by have := HS.out.2.1; omega
  have dk : decide ((k : Int) < 0) = false := by simp
  have hn1 : ¬ (idxOf sd d.sh 0 < 0) := by rw [hix]; omega
  by_cases hA : sp ≠ -1 ∧ (sp < 1 ∨ 1099511627776 < sp)
  · have e : R = (zeroD, 1) := by rw [← HR.out]; unfold voteE; rw [if_pos (.inr hA)]
    subst e
    have d1 : (sp != -1) = true := by simpa using hA.1
    by_cases h1 : sp < 1
    · have d2 : decide (sp < 1) = true := by simpa using h1
      clear hA h1 hix hat hn1
      go_wp2_with fail
      refine bodyPost_ret (v := .tuple #[.agg #[.string ⟨#[]⟩, .slice none 0 0, .slice none 0 0, .int .i64 0, .int .i64 0, .slice none 0 0], .int .i64 1]) (by simp only [results, Tryd.results8]; go_simp) rfl (DPost.zero HI.out ?_)
      have h := HE0.out
      repeat (first | with_reducible assumption | with_reducible exact Ext.refl _ | with_reducible refine Ext.drew ?_ | with_reducible refine Ext.alloc ?_ _ | ((with_reducible refine Ext.setCell ?_ ?_ _); rotate_left; (· first | exact Nat.le_refl _ | (simp; done) | omega | (simp; omega))))
    · have d2 : decide (sp < 1) = false := by simpa using h1
      have d3 : decide (1099511627776 < sp) = true := by simp; omega
      clear hA h1 hix hat hn1
      go_wp2_with fail
      refine bodyPost_ret (v := .tuple #[.agg #[.string ⟨#[]⟩, .slice none 0 0, .slice none 0 0, .int .i64 0, .int .i64 0, .slice none 0 0], .int .i64 1]) (by simp only [results, Tryd.results8]; go_simp) rfl (DPost.zero HI.out ?_)
      have h := HE0.out
      repeat (first | with_reducible assumption | with_reducible exact Ext.refl _ | with_reducible refine Ext.drew ?_ | with_reducible refine Ext.alloc ?_ _ | ((with_reducible refine Ext.setCell ?_ ?_ _); rotate_left; (· first | exact Nat.le_refl _ | (simp; done) | omega | (simp; omega))))
  have hV : R = (if d.st ≠ 1 ∨ d.vo[k]? ≠ some 0 then (zeroD, 23) else ({ d with vo := d.vo.set k sp }, 0)) := by
    rw [← HR.out]; unfold voteE; rw [if_neg (by rintro (h | h); exact hn1 h; exact hA h), hix]; rfl
  have HV := Lib.hid hV
  have dsp : ((sp != -1) = false) ∨ ((sp != -1) = true ∧ decide (sp < 1) = false ∧ decide (1099511627776 < sp) = false) := by
    by_cases h : sp = -1
    · left; simp [h]
    · right; exact ⟨by simpa using h, by simp; omega, by simp; omega⟩
  clear hV hA hn1 hix
  by_cases hst : d.st = 1
  case neg =>
    have e : R = (zeroD, 23) := by rw [HV.out, if_pos (.inl hst)]
    subst e
    have d4 : (d.st != 1) = true := by simpa using hst
    clear hst
    rcases dsp with d1 | ⟨d1, d2, d3⟩
    · skip
      go_wp2_with fail
      refine bodyPost_ret (v := .tuple #[.agg #[.string ⟨#[]⟩, .slice none 0 0, .slice none 0 0, .int .i64 0, .int .i64 0, .slice none 0 0], .int .i64 23]) (by simp only [results, Tryd.results8]; go_simp) rfl (DPost.zero HI.out ?_)
      have h := HE0.out
      repeat (first | with_reducible assumption | with_reducible exact Ext.refl _ | with_reducible refine Ext.drew ?_ | with_reducible refine Ext.alloc ?_ _ | ((with_reducible refine Ext.setCell ?_ ?_ _); rotate_left; (· first | exact Nat.le_refl _ | (simp; done) | omega | (simp; omega))))
    · skip
      go_wp2_with fail
      refine bodyPost_ret (v := .tuple #[.agg #[.string ⟨#[]⟩, .slice none 0 0, .slice none 0 0, .int .i64 0, .int .i64 0, .slice none 0 0], .int .i64 23]) (by simp only [results, Tryd.results8]; go_simp) rfl (DPost.zero HI.out ?_)
      have h := HE0.out
      repeat (first | with_reducible assumption | with_reducible exact Ext.refl _ | with_reducible refine Ext.drew ?_ | with_reducible refine Ext.alloc ?_ _ | ((with_reducible refine Ext.setCell ?_ ?_ _); rotate_left; (· first | exact Nat.le_refl _ | (simp; done) | omega | (simp; omega))))
  have d4 : (d.st != 1) = false := by simp [hst]
  by_cases hkv : k < d.vo.length
  case neg =>
    have e : R = (zeroD, 23) := by rw [HV.out, if_pos (.inr (by rw [List.getElem?_eq_none (by omega)]; simp))]
    subst e
    have d5 : decide ((d.vo.length : Int) ≤ (k : Int)) = true := by simp; omega
    rcases dsp with d1 | ⟨d1, d2, d3⟩
    · skip
      go_wp2_with fail
      refine bodyPost_ret (v := .tuple #[.agg #[.string ⟨#[]⟩, .slice none 0 0, .slice none 0 0, .int .i64 0, .int .i64 0, .slice none 0 0], .int .i64 23]) (by simp only [results, Tryd.results8]; go_simp) rfl (DPost.zero HI.out ?_)
      have h := HE0.out
      repeat (first | with_reducible assumption | with_reducible exact Ext.refl _ | with_reducible refine Ext.drew ?_ | with_reducible refine Ext.alloc ?_ _ | ((with_reducible refine Ext.setCell ?_ ?_ _); rotate_left; (· first | exact Nat.le_refl _ | (simp; done) | omega | (simp; omega))))
    · skip
      go_wp2_with fail
      refine bodyPost_ret (v := .tuple #[.agg #[.string ⟨#[]⟩, .slice none 0 0, .slice none 0 0, .int .i64 0, .int .i64 0, .slice none 0 0], .int .i64 23]) (by simp only [results, Tryd.results8]; go_simp) rfl (DPost.zero HI.out ?_)
      have h := HE0.out
      repeat (first | with_reducible assumption | with_reducible exact Ext.refl _ | with_reducible refine Ext.drew ?_ | with_reducible refine Ext.alloc ?_ _ | ((with_reducible refine Ext.setCell ?_ ?_ _); rotate_left; (· first | exact Nat.le_refl _ | (simp; done) | omega | (simp; omega))))
  have d5 : decide ((d.vo.length : Int) ≤ (k : Int)) = false := by simp; omega
  obtain ⟨y, hy⟩ : ∃ y, d.vo[k]? = some y := ⟨_, List.getElem?_eq_getElem hkv⟩
  obtain ⟨vb, voff, rfl, hvI⟩ := SI.at_ H2.out k y hy
  have hvc := (HI.out.ext HE0.out) _ _ _ hvI
  have hvb := (HI.out.ext HE0.out).lt hvI
  by_cases hy0 : y = 0
  case neg =>
    have e : R = (zeroD, 23) := by rw [HV.out, if_pos (.inr (by rw [hy]; simpa using hy0))]
    subst e
    have d6 : (y != 0) = true := by simpa using hy0
    clear hvI hy
    rcases dsp with d1 | ⟨d1, d2, d3⟩
    · skip
      go_wp2_with fail
      refine bodyPost_ret (v := .tuple #[.agg #[.string ⟨#[]⟩, .slice none 0 0, .slice none 0 0, .int .i64 0, .int .i64 0, .slice none 0 0], .int .i64 23]) (by simp only [results, Tryd.results8]; go_simp) rfl (DPost.zero HI.out ?_)
      have h := HE0.out
      repeat (first | with_reducible assumption | with_reducible exact Ext.refl _ | with_reducible refine Ext.drew ?_ | with_reducible refine Ext.alloc ?_ _ | ((with_reducible refine Ext.setCell ?_ ?_ _); rotate_left; (· first | exact Nat.le_refl _ | (simp; done) | omega | (simp; omega))))
    · skip
      go_wp2_with fail
      refine bodyPost_ret (v := .tuple #[.agg #[.string ⟨#[]⟩, .slice none 0 0, .slice none 0 0, .int .i64 0, .int .i64 0, .slice none 0 0], .int .i64 23]) (by simp only [results, Tryd.results8]; go_simp) rfl (DPost.zero HI.out ?_)
      have h := HE0.out
      repeat (first | with_reducible assumption | with_reducible exact Ext.refl _ | with_reducible refine Ext.drew ?_ | with_reducible refine Ext.alloc ?_ _ | ((with_reducible refine Ext.setCell ?_ ?_ _); rotate_left; (· first | exact Nat.le_refl _ | (simp; done) | omega | (simp; omega))))
  have e : R = ({ d with vo := d.vo.set k sp }, 0) := by rw [HV.out, if_neg (by rw [hst, hy, hy0]; simp)]
  have HRR := Lib.hid e
  clear e HV
  have d6 : (y != 0) = false := by simp [hy0]
  have HST := Lib.hid hst
  have HKV := Lib.hid hkv
  have hkvI : (k : Int) < d.vo.length := by omega
  clear hvI hy hy0 hst hkvI hat
  have fin : Calls Tryd.prog 0 #[] w0 (fun _ _ => True) → True := fun _ => trivial
  clear fin
  have d5n : decide (d.vo.length ≤ k) = false := by simp; exact HKV.out
  rcases dsp with d1 | ⟨d1, d2, d3⟩
  · go_wp2_with (refine (copied_ok d _ I _ HD.out (HI.out.ext HE0.out)).mono ?_)
    rintro e w2 ⟨v1, v2, v3, rfl, own, h2⟩
    obtain ⟨p1, q1, rfl⟩ := acc_si own.r1
    obtain ⟨p2, q2, rfl⟩ := acc_si own.r2
    obtain ⟨p3, q3, rfl⟩ := acc_sb own.r3
    have OWN := Lib.hid own
    have HX2 := Lib.hid (blk_ext HX0.out h2)
    have HY2 := Lib.hid (blk_ext HY0.out h2)
    have HE2 := Lib.hid (HE0.out.trans h2)
    have z2 := h2.size
    obtain ⟨g, u, rfl, hg1, hg2, hg3⟩ := acc_cell own.r2 (ints_len _).symm k HKV.out
    have hg4 := own.r2.own g rfl
    clear own h2 ck cf ck2 cf2
    have ck := blk_cell HX2.out
    have cf := blk_free HX2.out
    have ck2 := blk_cell HY2.out
    have cf2 := blk_free HY2.out
    have n1 : ¬ g = w.heap.size := by omega
    have n2 : ¬ w.heap.size = g := by omega
    have n3 : ¬ g = w.heap.size + 1 := by omega
    have n4 : ¬ w.heap.size + 1 = g := by omega
    have lx3 : w.heap.size < w2.heap.size := by omega
    have lx4 : w.heap.size + 1 < w2.heap.size := by omega
    go_wp2_with fail
    obtain ⟨A, hA⟩ : ∃ W, (((((w2.setCell ⟨w.heap.size, 0, none⟩ (.string d.id)).setCell ⟨w.heap.size, 1, none⟩ (.slice p1 d.sh.length q1)).setCell ⟨w.heap.size, 2, none⟩ (.slice (some ⟨g, 0, none⟩) d.vo.length q2)).setCell ⟨w.heap.size, 3, none⟩ (.int .i64 d.st)).setCell ⟨w.heap.size, 4, none⟩ (.int .i64 d.co)).setCell ⟨w.heap.size, 5, none⟩ (.slice p3 d.ak.length q3) = W := ⟨_, rfl⟩
    simp only [hA]
    have hAE : Ext w A := by
      rw [← hA]
      have h := HE2.out
      repeat (first | with_reducible assumption | with_reducible exact Ext.refl _ | with_reducible refine Ext.drew ?_ | with_reducible refine Ext.alloc ?_ _ | ((with_reducible refine Ext.setCell ?_ ?_ _); rotate_left; (· first | exact Nat.le_refl _ | (simp; done) | omega | (simp; omega))))
    have hAk : ∀ x, w0.heap.size ≤ x → A.heap[x]? = w2.heap[x]? := fun x hx => by
      rw [← hA]
      rw [Below.heap_setCell _ _ _ _ (by show x ≠ w.heap.size; omega), Below.heap_setCell _ _ _ _ (by show x ≠ w.heap.size; omega), Below.heap_setCell _ _ _ _ (by show x ≠ w.heap.size; omega), Below.heap_setCell _ _ _ _ (by show x ≠ w.heap.size; omega), Below.heap_setCell _ _ _ _ (by show x ≠ w.heap.size; omega), Below.heap_setCell _ _ _ _ (by show x ≠ w.heap.size; omega)]
    have hAY : A.heap[w.heap.size + 1]? = w2.heap[w.heap.size + 1]? := by
      rw [← hA]
      rw [Below.heap_setCell _ _ _ _ (by show w.heap.size + 1 ≠ w.heap.size; omega), Below.heap_setCell _ _ _ _ (by show w.heap.size + 1 ≠ w.heap.size; omega), Below.heap_setCell _ _ _ _ (by show w.heap.size + 1 ≠ w.heap.size; omega), Below.heap_setCell _ _ _ _ (by show w.heap.size + 1 ≠ w.heap.size; omega), Below.heap_setCell _ _ _ _ (by show w.heap.size + 1 ≠ w.heap.size; omega), Below.heap_setCell _ _ _ _ (by show w.heap.size + 1 ≠ w.heap.size; omega)]
    have hBs := acc_set_i (OWN.out.r2.keep fun x hx => hAk x (OWN.out.r2.own x hx).1) rfl k sp HSP.out H2.out.wf
    obtain ⟨B, hB⟩ : ∃ W, A.setCell ⟨g, k, none⟩ (.int .i64 sp) = W := ⟨_, rfl⟩
    rw [hB] at hBs ⊢
    have hBE : Ext w B := by
      rw [← hB]
      have h := hAE
      repeat (first | with_reducible assumption | with_reducible exact Ext.refl _ | with_reducible refine Ext.drew ?_ | with_reducible refine Ext.alloc ?_ _ | ((with_reducible refine Ext.setCell ?_ ?_ _); rotate_left; (· first | exact Nat.le_refl _ | (simp; done) | omega | (simp; omega))))
    have hBk : ∀ x, x ≠ g → B.heap[x]? = A.heap[x]? := fun x hx => by
      rw [← hB, Below.heap_setCell _ _ _ _ hx]
    have HYB : B.heap[w.heap.size + 1]? = _ := (hBk _ (by omega)).trans (hAY.trans HY2.out)
    have HYC := blk_set (blk_set (blk_set (blk_set (blk_set (blk_set HYB 0 (.string d.id)) 1 (.slice p1 d.sh.length q1)) 2 (.slice (some ⟨g, 0, none⟩) d.vo.length q2)) 3 (.int .i64 d.st)) 4 (.int .i64 d.co)) 5 (.slice p3 d.ak.length q3)
    have hCE : Ext w ((((((B.setCell ⟨w.heap.size + 1, 0, none⟩ (.string d.id)).setCell ⟨w.heap.size + 1, 1, none⟩ (.slice p1 d.sh.length q1)).setCell ⟨w.heap.size + 1, 2, none⟩ (.slice (some ⟨g, 0, none⟩) d.vo.length q2)).setCell ⟨w.heap.size + 1, 3, none⟩ (.int .i64 d.st)).setCell ⟨w.heap.size + 1, 4, none⟩ (.int .i64 d.co)).setCell ⟨w.heap.size + 1, 5, none⟩ (.slice p3 d.ak.length q3)) := by
      have h := hBE
      repeat (first | with_reducible assumption | with_reducible exact Ext.refl _ | with_reducible refine Ext.drew ?_ | with_reducible refine Ext.alloc ?_ _ | ((with_reducible refine Ext.setCell ?_ ?_ _); rotate_left; (· first | exact Nat.le_refl _ | (simp; done) | omega | (simp; omega))))
    obtain ⟨C, hC⟩ : ∃ W, (((((B.setCell ⟨w.heap.size + 1, 0, none⟩ (.string d.id)).setCell ⟨w.heap.size + 1, 1, none⟩ (.slice p1 d.sh.length q1)).setCell ⟨w.heap.size + 1, 2, none⟩ (.slice (some ⟨g, 0, none⟩) d.vo.length q2)).setCell ⟨w.heap.size + 1, 3, none⟩ (.int .i64 d.st)).setCell ⟨w.heap.size + 1, 4, none⟩ (.int .i64 d.co)).setCell ⟨w.heap.size + 1, 5, none⟩ (.slice p3 d.ak.length q3) = W := ⟨_, rfl⟩
    rw [hC] at HYC hCE ⊢
    have hCk : ∀ x, w0.heap.size ≤ x → C.heap[x]? = B.heap[x]? := fun x hx => by
      rw [← hC]
      rw [Below.heap_setCell _ _ _ _ (by show x ≠ w.heap.size + 1; omega), Below.heap_setCell _ _ _ _ (by show x ≠ w.heap.size + 1; omega), Below.heap_setCell _ _ _ _ (by show x ≠ w.heap.size + 1; omega), Below.heap_setCell _ _ _ _ (by show x ≠ w.heap.size + 1; omega), Below.heap_setCell _ _ _ _ (by show x ≠ w.heap.size + 1; omega), Below.heap_setCell _ _ _ _ (by show x ≠ w.heap.size + 1; omega)]
    have own : Own3 I C w0.heap.size { d with vo := d.vo.set k sp } (.slice p1 d.sh.length q1) (.slice (some ⟨g, 0, none⟩) d.vo.length q2) (.slice p3 d.ak.length q3) := by
      refine ⟨OWN.out.r1.keep fun x hx => ?_, hBs.keep fun x hx => hCk x (hBs.own x hx).1, OWN.out.r3.keep fun x hx => ?_, OWN.out.n12, OWN.out.n13, OWN.out.n23⟩
      · have := (OWN.out.r1.own x hx).1
        rw [hCk x this, hBk x (fun e => OWN.out.n12 x hx (by rw [e]; rfl)), hAk x this]
      · have := (OWN.out.r3.own x hx).1
        rw [hCk x this, hBk x (fun e => OWN.out.n23 x (by rw [e]; rfl) hx), hAk x this]
    have sm := HS.out
    obtain ⟨I', G, hD⟩ := own.data (HI.out.ext hCE) (by omega) hCE ⟨sm.1, sm.2.1, by simpa using sm.2.2.1, sm.2.2.2.1, sm.2.2.2.2.1, sm.2.2.2.2.2⟩
    have ckY := blk_cell HYC
    refine bodyPost_ret (v := .tuple #[.agg #[.string d.id, .slice p1 d.sh.length q1, .slice (some ⟨g, 0, none⟩) d.vo.length q2, .int .i64 d.st, .int .i64 d.co, .slice p3 d.ak.length q3], .int .i64 0]) (by simp only [results, Tryd.results8]; go_simp) rfl ?_
    rw [HRR.out]
    exact ⟨I', _, G, rfl, hD⟩
  · go_wp2_with (refine (copied_ok d _ I _ HD.out (HI.out.ext HE0.out)).mono ?_)
    rintro e w2 ⟨v1, v2, v3, rfl, own, h2⟩
    obtain ⟨p1, q1, rfl⟩ := acc_si own.r1
    obtain ⟨p2, q2, rfl⟩ := acc_si own.r2
    obtain ⟨p3, q3, rfl⟩ := acc_sb own.r3
    have OWN := Lib.hid own
    have HX2 := Lib.hid (blk_ext HX0.out h2)
    have HY2 := Lib.hid (blk_ext HY0.out h2)
    have HE2 := Lib.hid (HE0.out.trans h2)
    have z2 := h2.size
    obtain ⟨g, u, rfl, hg1, hg2, hg3⟩ := acc_cell own.r2 (ints_len _).symm k HKV.out
    have hg4 := own.r2.own g rfl
    clear own h2 ck cf ck2 cf2
    have ck := blk_cell HX2.out
    have cf := blk_free HX2.out
    have ck2 := blk_cell HY2.out
    have cf2 := blk_free HY2.out
    have n1 : ¬ g = w.heap.size := by omega
    have n2 : ¬ w.heap.size = g := by omega
    have n3 : ¬ g = w.heap.size + 1 := by omega
    have n4 : ¬ w.heap.size + 1 = g := by omega
    have lx3 : w.heap.size < w2.heap.size := by omega
    have lx4 : w.heap.size + 1 < w2.heap.size := by omega
    go_wp2_with fail
    obtain ⟨A, hA⟩ : ∃ W, (((((w2.setCell ⟨w.heap.size, 0, none⟩ (.string d.id)).setCell ⟨w.heap.size, 1, none⟩ (.slice p1 d.sh.length q1)).setCell ⟨w.heap.size, 2, none⟩ (.slice (some ⟨g, 0, none⟩) d.vo.length q2)).setCell ⟨w.heap.size, 3, none⟩ (.int .i64 d.st)).setCell ⟨w.heap.size, 4, none⟩ (.int .i64 d.co)).setCell ⟨w.heap.size, 5, none⟩ (.slice p3 d.ak.length q3) = W := ⟨_, rfl⟩
    simp only [hA]
    have hAE : Ext w A := by
      rw [← hA]
      have h := HE2.out
      repeat (first | with_reducible assumption | with_reducible exact Ext.refl _ | with_reducible refine Ext.drew ?_ | with_reducible refine Ext.alloc ?_ _ | ((with_reducible refine Ext.setCell ?_ ?_ _); rotate_left; (· first | exact Nat.le_refl _ | (simp; done) | omega | (simp; omega))))
    have hAk : ∀ x, w0.heap.size ≤ x → A.heap[x]? = w2.heap[x]? := fun x hx => by
      rw [← hA]
      rw [Below.heap_setCell _ _ _ _ (by show x ≠ w.heap.size; omega), Below.heap_setCell _ _ _ _ (by show x ≠ w.heap.size; omega), Below.heap_setCell _ _ _ _ (by show x ≠ w.heap.size; omega), Below.heap_setCell _ _ _ _ (by show x ≠ w.heap.size; omega), Below.heap_setCell _ _ _ _ (by show x ≠ w.heap.size; omega), Below.heap_setCell _ _ _ _ (by show x ≠ w.heap.size; omega)]
    have hAY : A.heap[w.heap.size + 1]? = w2.heap[w.heap.size + 1]? := by
      rw [← hA]
      rw [Below.heap_setCell _ _ _ _ (by show w.heap.size + 1 ≠ w.heap.size; omega), Below.heap_setCell _ _ _ _ (by show w.heap.size + 1 ≠ w.heap.size; omega), Below.heap_setCell _ _ _ _ (by show w.heap.size + 1 ≠ w.heap.size; omega), Below.heap_setCell _ _ _ _ (by show w.heap.size + 1 ≠ w.heap.size; omega), Below.heap_setCell _ _ _ _ (by show w.heap.size + 1 ≠ w.heap.size; omega), Below.heap_setCell _ _ _ _ (by show w.heap.size + 1 ≠ w.heap.size; omega)]
    have hBs := acc_set_i (OWN.out.r2.keep fun x hx => hAk x (OWN.out.r2.own x hx).1) rfl k sp HSP.out H2.out.wf
    obtain ⟨B, hB⟩ : ∃ W, A.setCell ⟨g, k, none⟩ (.int .i64 sp) = W := ⟨_, rfl⟩
    rw [hB] at hBs ⊢
    have hBE : Ext w B := by
      rw [← hB]
      have h := hAE
      repeat (first | with_reducible assumption | with_reducible exact Ext.refl _ | with_reducible refine Ext.drew ?_ | with_reducible refine Ext.alloc ?_ _ | ((with_reducible refine Ext.setCell ?_ ?_ _); rotate_left; (· first | exact Nat.le_refl _ | (simp; done) | omega | (simp; omega))))
    have hBk : ∀ x, x ≠ g → B.heap[x]? = A.heap[x]? := fun x hx => by
      rw [← hB, Below.heap_setCell _ _ _ _ hx]
    have HYB : B.heap[w.heap.size + 1]? = _ := (hBk _ (by omega)).trans (hAY.trans HY2.out)
    have HYC := blk_set (blk_set (blk_set (blk_set (blk_set (blk_set HYB 0 (.string d.id)) 1 (.slice p1 d.sh.length q1)) 2 (.slice (some ⟨g, 0, none⟩) d.vo.length q2)) 3 (.int .i64 d.st)) 4 (.int .i64 d.co)) 5 (.slice p3 d.ak.length q3)
    have hCE : Ext w ((((((B.setCell ⟨w.heap.size + 1, 0, none⟩ (.string d.id)).setCell ⟨w.heap.size + 1, 1, none⟩ (.slice p1 d.sh.length q1)).setCell ⟨w.heap.size + 1, 2, none⟩ (.slice (some ⟨g, 0, none⟩) d.vo.length q2)).setCell ⟨w.heap.size + 1, 3, none⟩ (.int .i64 d.st)).setCell ⟨w.heap.size + 1, 4, none⟩ (.int .i64 d.co)).setCell ⟨w.heap.size + 1, 5, none⟩ (.slice p3 d.ak.length q3)) := by
      have h := hBE
      repeat (first | with_reducible assumption | with_reducible exact Ext.refl _ | with_reducible refine Ext.drew ?_ | with_reducible refine Ext.alloc ?_ _ | ((with_reducible refine Ext.setCell ?_ ?_ _); rotate_left; (· first | exact Nat.le_refl _ | (simp; done) | omega | (simp; omega))))
    obtain ⟨C, hC⟩ : ∃ W, (((((B.setCell ⟨w.heap.size + 1, 0, none⟩ (.string d.id)).setCell ⟨w.heap.size + 1, 1, none⟩ (.slice p1 d.sh.length q1)).setCell ⟨w.heap.size + 1, 2, none⟩ (.slice (some ⟨g, 0, none⟩) d.vo.length q2)).setCell ⟨w.heap.size + 1, 3, none⟩ (.int .i64 d.st)).setCell ⟨w.heap.size + 1, 4, none⟩ (.int .i64 d.co)).setCell ⟨w.heap.size + 1, 5, none⟩ (.slice p3 d.ak.length q3) = W := ⟨_, rfl⟩
    rw [hC] at HYC hCE ⊢
    have hCk : ∀ x, w0.heap.size ≤ x → C.heap[x]? = B.heap[x]? := fun x hx => by
      rw [← hC]
      rw [Below.heap_setCell _ _ _ _ (by show x ≠ w.heap.size + 1; omega), Below.heap_setCell _ _ _ _ (by show x ≠ w.heap.size + 1; omega), Below.heap_setCell _ _ _ _ (by show x ≠ w.heap.size + 1; omega), Below.heap_setCell _ _ _ _ (by show x ≠ w.heap.size + 1; omega), Below.heap_setCell _ _ _ _ (by show x ≠ w.heap.size + 1; omega), Below.heap_setCell _ _ _ _ (by show x ≠ w.heap.size + 1; omega)]
    have own : Own3 I C w0.heap.size { d with vo := d.vo.set k sp } (.slice p1 d.sh.length q1) (.slice (some ⟨g, 0, none⟩) d.vo.length q2) (.slice p3 d.ak.length q3) := by
      refine ⟨OWN.out.r1.keep fun x hx => ?_, hBs.keep fun x hx => hCk x (hBs.own x hx).1, OWN.out.r3.keep fun x hx => ?_, OWN.out.n12, OWN.out.n13, OWN.out.n23⟩
      · have := (OWN.out.r1.own x hx).1
        rw [hCk x this, hBk x (fun e => OWN.out.n12 x hx (by rw [e]; rfl)), hAk x this]
      · have := (OWN.out.r3.own x hx).1
        rw [hCk x this, hBk x (fun e => OWN.out.n23 x (by rw [e]; rfl) hx), hAk x this]
    have sm := HS.out
    obtain ⟨I', G, hD⟩ := own.data (HI.out.ext hCE) (by omega) hCE ⟨sm.1, sm.2.1, by simpa using sm.2.2.1, sm.2.2.2.1, sm.2.2.2.2.1, sm.2.2.2.2.2⟩
    have ckY := blk_cell HYC
    refine bodyPost_ret (v := .tuple #[.agg #[.string d.id, .slice p1 d.sh.length q1, .slice (some ⟨g, 0, none⟩) d.vo.length q2, .int .i64 d.st, .int .i64 d.co, .slice p3 d.ak.length q3], .int .i64 0]) (by simp only [results, Tryd.results8]; go_simp) rfl ?_
    rw [HRR.out]
    exact ⟨I', _, G, rfl, hD⟩
end Go.Proofs.YtplokbmdcfakbaaDoor
