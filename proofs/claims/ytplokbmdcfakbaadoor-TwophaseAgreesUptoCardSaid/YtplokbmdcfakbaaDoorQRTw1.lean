/- Decisions; twophase.copied, named. -/
import Derived.Test.YtplokbmdcfakbaaDoorQRSl
import Derived.Test.YtplokbmdcfakbaaDoorQRValid
set_option linter.unusedSimpArgs false
set_option linter.unusedVariables false
namespace Go.Proofs.YtplokbmdcfakbaaDoor
open Go.RowKit
structure Dec where
  id : ByteArray
  sh : List Int
  vo : List Int
  st : Int
  co : Int
  ak : List Bool
def Dec.small (d : Dec) : Prop := d.id.size ≤ 16777216 ∧ d.sh.length ≤ 16777216 ∧ d.vo.length ≤ 16777216 ∧ d.ak.length ≤ 16777216 ∧ I64 d.st ∧ I64 d.co
/-- The value v is the decision d. -/
def DR (I : Gh) (d : Dec) (v : Value) : Prop := ∃ a1 c1 a2 c2 a3 c3, v = .agg #[.string d.id, .slice a1 d.sh.length c1, .slice a2 d.vo.length c2, .int .i64 d.st, .int .i64 d.co, .slice a3 d.ak.length c3] ∧
  SI I (.slice a1 d.sh.length c1) d.sh ∧ SI I (.slice a2 d.vo.length c2) d.vo ∧ SB I (.slice a3 d.ak.length c3) d.ak ∧ d.small
theorem DR.mono {I J : Gh} (h : Le I J) {d : Dec} {v : Value} (k : DR I d v) : DR J d v := by
  obtain ⟨a1, c1, a2, c2, a3, c3, e, h1, h2, h3, h4⟩ := k
  exact ⟨a1, c1, a2, c2, a3, c3, e, LRp.mono h _ _ h1, LRp.mono h _ _ h2, LRp.mono h _ _ h3, h4⟩
def zeroD : Dec := ⟨⟨#[]⟩, [], [], 0, 0, []⟩
theorem zeroD_rep (I : Gh) : DR I zeroD (.agg #[.string ⟨#[]⟩, .slice none 0 0, .slice none 0 0, .int .i64 0, .int .i64 0, .slice none 0 0]) :=
  ⟨none, 0, none, 0, none, 0, rfl, LRp.nil I 1, LRp.nil I 1, LRp.nil I 1, by unfold Dec.small zeroD I64; decide⟩
theorem ints_len (l : List Int) : (ints l).length = l.length := by simp [ints]
theorem bools_len (l : List Bool) : (bools l).length = l.length := by simp [bools]
/-- three rows of the call's own, one block each -/
structure Own3 (I : Gh) (w : World) (base : Nat) (d : Dec) (v1 v2 v3 : Value) : Prop where
  r1 : Acc I w base 3 1 v1 (ints d.sh)
  r2 : Acc I w base 3 1 v2 (ints d.vo)
  r3 : Acc I w base 4 1 v3 (bools d.ak)
  n12 : ∀ g, v1.ownBlock = some g → v2.ownBlock ≠ some g
  n13 : ∀ g, v1.ownBlock = some g → v3.ownBlock ≠ some g
  n23 : ∀ g, v2.ownBlock = some g → v3.ownBlock ≠ some g
theorem acc_si {I : Gh} {w : World} {base : Nat} {x : Value} {l : List Int} (h : Acc I w base 3 1 x (ints l)) : ∃ a c, x = .slice a l.length c := by
  obtain ⟨a, c, e⟩ := h.shape
  rw [ints_len] at e; exact ⟨a, c, e⟩
theorem acc_sb {I : Gh} {w : World} {base : Nat} {x : Value} {l : List Bool} (h : Acc I w base 4 1 x (bools l)) : ∃ a c, x = .slice a l.length c := by
  obtain ⟨a, c, e⟩ := h.shape
  rw [bools_len] at e; exact ⟨a, c, e⟩
theorem acc_av {I : Gh} {w : World} {base : Nat} {e : TypeId} {n : Nat} {x : Value} {l : List (List Lf)} (h : Acc I w base e n x l) : ∀ g, x.ownBlock = some g → Av I g := by
  obtain ⟨_, _, _, _, h4⟩ := h; exact h4
/-- a decision all of the call's own becomes data -/
theorem Own3.data {I : Gh} {w w0 : World} {base : Nat} {d : Dec} {v1 v2 v3 : Value} (h : Own3 I w base d v1 v2 v3) (hi : Inv I w) (hb : w0.heap.size ≤ base) (he : Ext w0 w) (hs : d.small) :
    ∃ I', Gr I I' w0 w ∧ DR I' d (.agg #[.string d.id, v1, v2, .int .i64 d.st, .int .i64 d.co, v3]) := by
  obtain ⟨I1, g1, l1, k1⟩ := h.r1.done2 hi hb he
  have r2 := h.r2.mono g1.le (fun g hg => k1 g (fun e => h.n12 g e hg) (acc_av h.r2 g hg))
  have r3 := h.r3.mono g1.le (fun g hg => k1 g (fun e => h.n13 g e hg) (acc_av h.r3 g hg))
  obtain ⟨I2, g2, l2, k2⟩ := r2.done2 g1.inv hb he
  have r3 := r3.mono g2.le (fun g hg => k2 g (fun e => h.n23 g e hg) (acc_av r3 g hg))
  obtain ⟨I3, g3, l3, k3⟩ := r3.done2 g2.inv hb he
  have G : Gr I I3 w0 w := ⟨g1.le.trans (g2.le.trans g3.le), fun b o v e f => by
    cases h1 : I1 b o with
    | some u => exact g1.fresh b o u h1 f
    | none =>
      cases h2 : I2 b o with
      | some u => exact g2.fresh b o u h2 h1
      | none => exact g3.fresh b o v e h2, g3.inv, he⟩
  obtain ⟨a1, c1, rfl⟩ := acc_si h.r1
  obtain ⟨a2, c2, rfl⟩ := acc_si h.r2
  obtain ⟨a3, c3, rfl⟩ := acc_sb h.r3
  exact ⟨I3, G, a1, c1, a2, c2, a3, c3, rfl, LRp.mono (g2.le.trans g3.le) _ _ l1, LRp.mono g3.le _ _ l2, l3, hs⟩
set_option maxRecDepth 20000 in
set_option maxHeartbeats 4000000 in
theorem copied_ok (d : Dec) (v : Value) (I : Gh) (w : World) (hD : DR I d v) (hi : Inv I w) :
    Calls Tryd.prog 21 #[v] w fun e w' => ∃ v1 v2 v3, e = .returned (.agg #[.string d.id, v1, v2, .int .i64 d.st, .int .i64 d.co, v3]) ∧ Own3 I w' w.heap.size d v1 v2 v3 ∧ Ext w w' := by
  obtain ⟨a1, c1, a2, c2, a3, c3, rfl, h1, h2, h3, hs⟩ := hD
  have H1 := Lib.hid h1
  have H2 := Lib.hid h2
  have H3 := Lib.hid h3
  have HI := Lib.hid hi
  have HS := Lib.hid hs
  clear h1 h2 h3 hi hs
  have hX0 := blk_alloc (blk_at0 w (.cells #[.string d.id, .slice a1 d.sh.length c1, .slice a2 d.vo.length c2, .int .i64 d.st, .int .i64 d.co, .slice a3 d.ak.length c3] 27)) (.cells #[.string ⟨#[]⟩, .slice none 0 0, .slice none 0 0, .int .i64 0, .int .i64 0, .slice none 0 0] 27)
  have hY0 := blk_at1 w (.cells #[.string d.id, .slice a1 d.sh.length c1, .slice a2 d.vo.length c2, .int .i64 d.st, .int .i64 d.co, .slice a3 d.ak.length c3] 27) (.cells #[.string ⟨#[]⟩, .slice none 0 0, .slice none 0 0, .int .i64 0, .int .i64 0, .slice none 0 0] 27)
  have hE0 := ((Ext.refl w).alloc (.cells #[.string d.id, .slice a1 d.sh.length c1, .slice a2 d.vo.length c2, .int .i64 d.st, .int .i64 d.co, .slice a3 d.ak.length c3] 27)).alloc (.cells #[.string ⟨#[]⟩, .slice none 0 0, .slice none 0 0, .int .i64 0, .int .i64 0, .slice none 0 0] 27)
  go_enter Tryd.func21, Tryd.ntmps21
  go_wp2_with fail
  obtain ⟨w0, hw0⟩ : ∃ W, (w.alloc (.cells #[.string d.id, .slice a1 d.sh.length c1, .slice a2 d.vo.length c2, .int .i64 d.st, .int .i64 d.co, .slice a3 d.ak.length c3] 27)).alloc (.cells #[.string ⟨#[]⟩, .slice none 0 0, .slice none 0 0, .int .i64 0, .int .i64 0, .slice none 0 0] 27) = W := ⟨_, rfl⟩
  have hs0 : w0.heap.size = w.heap.size + 2 := by rw [← hw0]; simp
  rw [hw0] at hX0 hY0 hE0 ⊢
  have HX0 := Lib.hid hX0
  have HY0 := Lib.hid hY0
  have HE0 := Lib.hid hE0
  clear hX0 hY0 hE0 hw0
  refine (CloneI_ok d.sh _ I _ H1.out (HI.out.ext HE0.out) HS.out.2.1).mono ?_
  rintro e w1 ⟨v1, rfl, r1, h1⟩
  obtain ⟨p1, q1, rfl⟩ := acc_si r1
  have HX1 := Lib.hid (blk_ext HX0.out h1)
  have HY1 := Lib.hid (blk_ext HY0.out h1)
  have HE1 := Lib.hid (HE0.out.trans h1)
  have R1 := Lib.hid r1
  have z1 := h1.size
  clear r1 h1 HX0 HY0
  have ck := blk_cell HX1.out
  have cf := blk_free HX1.out
  have lx : w.heap.size < w1.heap.size := by omega
  go_wp2_with fail
  obtain ⟨u1, hu1⟩ : ∃ W, w1.setCell ⟨w.heap.size, 1, none⟩ (.slice p1 d.sh.length q1) = W := ⟨_, rfl⟩
  have HX1' : Hid (u1.heap[w.heap.size]? = some (.cells #[.string d.id, .slice p1 d.sh.length q1, .slice a2 d.vo.length c2, .int .i64 d.st, .int .i64 d.co, .slice a3 d.ak.length c3] 27 (0, 0))) := by show _ = _; rw [← hu1]; exact blk_set HX1.out 1 _
  have HY1' : Hid (u1.heap[w.heap.size + 1]? = some (.cells #[.string ⟨#[]⟩, .slice none 0 0, .slice none 0 0, .int .i64 0, .int .i64 0, .slice none 0 0] 27 (0, 0))) := by show _ = _; rw [← hu1]; exact blk_far HY1.out (by simp) _
  have HE1' : Hid (Ext w u1) := by show Ext _ _; rw [← hu1]; exact HE1.out.setCell (Nat.le_refl _) _
  have R1' : Hid (Acc I u1 w0.heap.size 3 1 (.slice p1 d.sh.length q1) (ints d.sh)) := by
    show Acc _ _ _ _ _ _ _; rw [← hu1]
    exact R1.out.keep fun g hg => Below.heap_setCell w1 _ _ g (by have := (R1.out.own g hg).1; simp; omega)
  have N1 : Hid (∀ g, (Value.slice p1 d.sh.length q1).ownBlock = some g → g < u1.heap.size) := fun g hg => (R1'.out.own g hg).2
  have zu1 : u1.heap.size = w1.heap.size := by rw [← hu1]; exact size_setCell _ _ _
  rw [hu1]
  clear ck cf HX1 HY1 HE1 R1 hu1
  refine (CloneI_ok d.vo _ I _ H2.out (HI.out.ext HE1'.out) HS.out.2.2.1).mono ?_
  rintro e w2 ⟨v2, rfl, r2, h2⟩
  obtain ⟨p2, q2, rfl⟩ := acc_si r2
  have HX2 := Lib.hid (blk_ext HX1'.out h2)
  have HY2 := Lib.hid (blk_ext HY1'.out h2)
  have HE2 := Lib.hid (HE1'.out.trans h2)
  have R1 := Lib.hid (R1'.out.ext h2)
  have R2 := Lib.hid r2
  have z2 := h2.size
  clear r2 h2 HX1' HY1' HE1'
  have ck := blk_cell HX2.out
  have cf := blk_free HX2.out
  have lx : w.heap.size < w2.heap.size := by omega
  go_wp2_with fail
  obtain ⟨u2, hu2⟩ : ∃ W, w2.setCell ⟨w.heap.size, 2, none⟩ (.slice p2 d.vo.length q2) = W := ⟨_, rfl⟩
  have HX2' : Hid (u2.heap[w.heap.size]? = some (.cells #[.string d.id, .slice p1 d.sh.length q1, .slice p2 d.vo.length q2, .int .i64 d.st, .int .i64 d.co, .slice a3 d.ak.length c3] 27 (0, 0))) := by show _ = _; rw [← hu2]; exact blk_set HX2.out 2 _
  have HY2' : Hid (u2.heap[w.heap.size + 1]? = some (.cells #[.string ⟨#[]⟩, .slice none 0 0, .slice none 0 0, .int .i64 0, .int .i64 0, .slice none 0 0] 27 (0, 0))) := by show _ = _; rw [← hu2]; exact blk_far HY2.out (by simp) _
  have HE2' : Hid (Ext w u2) := by show Ext _ _; rw [← hu2]; exact HE2.out.setCell (Nat.le_refl _) _
  have R1' : Hid (Acc I u2 w0.heap.size 3 1 (.slice p1 d.sh.length q1) (ints d.sh)) := by
    show Acc _ _ _ _ _ _ _; rw [← hu2]
    exact R1.out.keep fun g hg => Below.heap_setCell w2 _ _ g (by have := (R1.out.own g hg).1; simp; omega)
  have R2' : Hid (Acc I u2 u1.heap.size 3 1 (.slice p2 d.vo.length q2) (ints d.vo)) := by
    show Acc _ _ _ _ _ _ _; rw [← hu2]
    exact R2.out.keep fun g hg => Below.heap_setCell w2 _ _ g (by have := (R2.out.own g hg).1; simp; omega)
  have N2 : Hid (∀ g, (Value.slice p2 d.vo.length q2).ownBlock = some g → g < u2.heap.size) := fun g hg => (R2'.out.own g hg).2
  have zu2 : u2.heap.size = w2.heap.size := by rw [← hu2]; exact size_setCell _ _ _
  rw [hu2]
  clear ck cf HX2 HY2 HE2 R1 R2 hu2
  refine (CloneB_ok d.ak _ I _ H3.out (HI.out.ext HE2'.out) HS.out.2.2.2.1).mono ?_
  rintro e w3 ⟨v3, rfl, r3, h3⟩
  obtain ⟨p3, q3, rfl⟩ := acc_sb r3
  have HX3 := Lib.hid (blk_ext HX2'.out h3)
  have HY3 := Lib.hid (blk_ext HY2'.out h3)
  have HE3 := Lib.hid (HE2'.out.trans h3)
  have R1 := Lib.hid (R1'.out.ext h3)
  have R2 := Lib.hid (R2'.out.ext h3)
  have R3 := Lib.hid r3
  have z3 := h3.size
  clear r3 h3 HX2' HY2' HE2'
  have ck := blk_cell HX3.out
  have cf := blk_free HX3.out
  have ck2 := blk_cell HY3.out
  have cf2 := blk_free HY3.out
  have lx : w.heap.size < w3.heap.size := by omega
  have lx2 : w.heap.size + 1 < w3.heap.size := by omega
  go_wp2_with fail
  have key : ∀ g, w0.heap.size ≤ g → ∀ (p : Addr) (u : Value) (W : World), p.block < w0.heap.size → (W.setCell p u).heap[g]? = W.heap[g]? := fun g hg p u W hp => Below.heap_setCell W p u g (by omega)
  have kp : ∀ g, w0.heap.size ≤ g → (((((((w3.setCell ⟨w.heap.size, 5, none⟩ (.slice p3 d.ak.length q3)).setCell ⟨w.heap.size + 1, 0, none⟩ (.string d.id)).setCell ⟨w.heap.size + 1, 1, none⟩ (.slice p1 d.sh.length q1)).setCell ⟨w.heap.size + 1, 2, none⟩ (.slice p2 d.vo.length q2)).setCell ⟨w.heap.size + 1, 3, none⟩ (.int .i64 d.st)).setCell ⟨w.heap.size + 1, 4, none⟩ (.int .i64 d.co)).setCell ⟨w.heap.size + 1, 5, none⟩ (.slice p3 d.ak.length q3)).heap[g]? = w3.heap[g]? := fun g hg => by
    rw [key g hg _ _ _ (by simp; omega), key g hg _ _ _ (by simp; omega), key g hg _ _ _ (by simp; omega), key g hg _ _ _ (by simp; omega), key g hg _ _ _ (by simp; omega), key g hg _ _ _ (by simp; omega), key g hg _ _ _ (by simp; omega)]
  refine bodyPost_ret (v := .agg #[.string d.id, .slice p1 d.sh.length q1, .slice p2 d.vo.length q2, .int .i64 d.st, .int .i64 d.co, .slice p3 d.ak.length q3]) (by simp only [results, Tryd.results21]; go_simp) rfl ⟨_, _, _, rfl, ⟨?_, ?_, ?_, ?_, ?_, ?_⟩, ?_⟩
  · exact (R1.out.keep fun g hg => kp g (R1.out.own g hg).1).low (by omega)
  · exact (R2.out.keep fun g hg => kp g (by have := (R2.out.own g hg).1; omega)).low (by omega)
  · exact (R3.out.keep fun g hg => kp g (by have := (R3.out.own g hg).1; omega)).low (by omega)
  · intro g hg h2
    have := N1.out g hg
    have := (R2.out.own g h2).1
    omega
  · intro g hg h2
    have := N1.out g hg
    have := (R3.out.own g h2).1
    omega
  · intro g hg h2
    have := N2.out g hg
    have := (R3.out.own g h2).1
    omega
  · have h := HE3.out
    repeat (first | with_reducible assumption | with_reducible exact Ext.refl _ | with_reducible refine Ext.drew ?_ | with_reducible refine Ext.alloc ?_ _ | ((with_reducible refine Ext.setCell ?_ ?_ _); rotate_left; (· first | exact Nat.le_refl _ | (simp; done) | omega | (simp; omega))))
end Go.Proofs.YtplokbmdcfakbaaDoor
