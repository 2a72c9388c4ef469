/- docstoreref02.Same at two values of one tree. -/
import Derived.Test.YtdoofmohoamkbaaDoorTrN
import Derived.Test.YtdoofmohoamkbaaDoorMix
import Derived.Test.YtdoofmohoamkbaaDoorStr
import Derived.Test.YtdoofmohoamkbaaDoorNodes2
set_option linter.unusedSimpArgs false
set_option linter.unusedVariables false
namespace Go.Proofs.YtdoofmohoamkbaaDoor
open Go.RowKit
def SameOk (t : Tr) : Prop := ∀ (v v' : Value) (w : World), VRep w t v → VRep w t v' → Calls Tryd.prog 18 #[v, v'] w fun e w' => e = .returned (.bool true) ∧ Ext w w'
set_option maxRecDepth 20000 in
set_option maxHeartbeats 4000000 in
theorem same_step (t : Tr) (ih : ∀ p, p.sz < t.sz → SameOk p) : SameOk t := by
  intro v v' w hV hV'
  obtain ⟨k, i, s, l, ns, ds⟩ := t
  have ih2 : ∀ t, t ∈ l ∨ t ∈ ds → SameOk t := fun t ht => ih t (by rcases ht with h | h; exact Tr.sz_list h; exact Tr.sz_docs h)
  unfold VRep at hV hV'
  obtain ⟨la, lc, da, dc, rfl, _, ⟨hl1, _⟩, hl2, ⟨hd1, _⟩, hd2, hnd, hL, hD⟩ := hV
  obtain ⟨la', lc', da', dc', rfl, _, ⟨hl1', _⟩, hl2', ⟨hd1', _⟩, hd2', _, hL', hD'⟩ := hV'
  have HL := Lib.hid hL
  have HD := Lib.hid hD
  have HL' := Lib.hid hL'
  have HD' := Lib.hid hD'
  have HI := Lib.hid ih2
  clear hL hD hL' hD' ih ih2
  unfold maxLen at hl2 hd2 hl2' hd2'
  go_enter Tryd.func18, Tryd.ntmps18
  go_wp2_with fail
  go_loopw [5] (fun c wr => ∃ j : Nat, j ≤ l.length ∧ c = .int .i64 j ∧ Hid (Ext ((w.alloc (.cells #[.int .i64 k, .int .i64 i, .string s, .slice la l.length lc, .slice da ds.length dc] 32)).alloc (.cells #[.int .i64 k, .int .i64 i, .string s, .slice la' l.length lc', .slice da' ds.length dc'] 32)) wr)) (fun c _ => l.length - (intOf c).toNat)
  case atStart => exact ⟨0, by omega, rfl, Ext.refl _⟩
  case round =>
    obtain ⟨j, hj, rfl, HE⟩ := hrel
    have ka := blk_cell (blk_ext (blk_alloc (blk_at0 w (.cells #[.int .i64 k, .int .i64 i, .string s, .slice la l.length lc, .slice da ds.length dc] 32)) _) HE.out)
    have kb := blk_cell (blk_ext (blk_at1 w _ (.cells #[.int .i64 k, .int .i64 i, .string s, .slice la' l.length lc', .slice da' ds.length dc'] 32)) HE.out)
    have hz : w.heap.size + 1 < wr.heap.size := by have := HE.out.size; simp at this; omega
    have hz0 : w.heap.size < wr.heap.size := by omega
    have HEw := Lib.hid (((Ext.refl w).alloc _).alloc _ |>.trans HE.out)
    by_cases hlt : j < l.length
    · obtain ⟨b, off, c0, c1, c2, c3, c4, rfl, e0, e1, e2, e3, e4, hv⟩ := LRep.at_ l 0 j l[j] HL.out (List.getElem?_eq_getElem hlt)
      obtain ⟨b', off', x0, x1, x2, x3, x4, rfl, y0, y1, y2, y3, y4, hv'⟩ := LRep.at_ l 0 j l[j] HL'.out (List.getElem?_eq_getElem hlt)
      obtain ⟨k1, i1, s1, la1, ln1, lc1, da1, dn1, dc1, rfl, rfl, rfl, rfl, rfl⟩ := hv.shape5
      obtain ⟨k2, i2, s2, la2, ln2, lc2, da2, dn2, dc2, rfl, rfl, rfl, rfl, rfl⟩ := hv'.shape5
      have hEr := HEw.out
      have q0 := hEr.keep e0
      have q1 := hEr.keep e1
      have q2 := hEr.keep e2
      have q3 := hEr.keep e3
      have q4 := hEr.keep e4
      have r0 := hEr.keep y0
      have r1 := hEr.keep y1
      have r2 := hEr.keep y2
      have r3 := hEr.keep y3
      have r4 := hEr.keep y4
      rw [Nat.zero_add] at q0 q1 q2 q3 q4 r0 r1 r2 r3 r4
      have hb1 : b < wr.heap.size := World.block_lt_of_cell? _ _ q0
      have hb2 : b' < wr.heap.size := World.block_lt_of_cell? _ _ r0
      have HV := Lib.hid (VRep.ext hEr _ _ hv)
      have HV' := Lib.hid (VRep.ext hEr _ _ hv')
      obtain ⟨p, hp⟩ : ∃ p, l[j] = p := ⟨_, rfl⟩
      have hmem : p ∈ l := by rw [← hp]; exact List.getElem_mem hlt
      rw [hp] at HV HV'
      clear e0 e1 e2 e3 e4 hv hEr y0 y1 y2 y3 y4 hv' hp
      go_wp2_with fail
      refine wp_region_mix (Ext wr) [(true, 0), (true, 1), (true, 2), (true, 3), (true, 4), (true, 5), (true, 6), (true, 7), (true, 8), (true, 9), (false, 10), (true, 11)] (by kernel_rfl) (by kernel_rfl) (by kernel_rfl) (by kernel_rfl) ?hS ?_
      case hS => exact (Ext.refl _).drew
      repeat (first | (refine wpMix_q (v := ?_) rfl rfl ?_ ?_; rotate_left; (· intro wq hSq; have cq := hSq.cells; go_simp; try (with_reducible rfl)); simp only [Act.put, List.setIfInBounds_toArray, List.set_cons_zero, List.set_cons_succ, List.getElem_toArray, List.getElem_cons_zero, List.getElem_cons_succ]) | (refine wpMix_u rfl rfl ?_; simp only [Act.put, List.setIfInBounds_toArray, List.set_cons_zero, List.set_cons_succ, List.getElem_toArray, List.getElem_cons_zero, List.getElem_cons_succ]))
      refine wpMix_l rfl rfl (fun K hK => ?_)
      go_simp
      refine (HI.out p (.inl hmem) _ _ _ (VRep.ext (Ext.refl wr).drew _ _ HV.out) (VRep.ext (Ext.refl wr).drew _ _ HV'.out)).mono ?_
      rintro e w3 ⟨rfl, h3⟩
      have HE3 := Lib.hid ((Ext.refl wr).drew.trans h3)
      refine hK _ _ HE3.out ?_
      clear hK K h3
      repeat (first | (refine wpMix_q (v := ?_) rfl rfl ?_ ?_; rotate_left; (· intro wq hSq; have cq := hSq.cells; go_simp; try (with_reducible rfl)); simp only [Act.put, List.setIfInBounds_toArray, List.set_cons_zero, List.set_cons_succ, List.getElem_toArray, List.getElem_cons_zero, List.getElem_cons_succ]) | (refine wpMix_u rfl rfl ?_; simp only [Act.put, List.setIfInBounds_toArray, List.set_cons_zero, List.set_cons_succ, List.getElem_toArray, List.getElem_cons_zero, List.getElem_cons_succ]))
      refine wpMix_nil ?_
      have HE4 := Lib.hid (HE.out.trans HE3.out)
      clear ka kb q0 q1 q2 q3 q4 r0 r1 r2 r3 r4 HE3
      go_wp2_with fail
      exact ⟨⟨j + 1, by omega, by go_num, HE4⟩, by simp [intOf]; omega⟩
    · have hj2 : j = l.length := by omega
      subst hj2
      obtain ⟨wo, rfl⟩ : ∃ wo : World, wo = wr := ⟨_, rfl⟩
      go_wp2_with fail
      clear ka kb HEw hz hz0
      go_loopw [6] (fun c wr => ∃ j : Nat, j ≤ ds.length ∧ c = .int .i64 j ∧ Hid (Ext ((w.alloc (.cells #[.int .i64 k, .int .i64 i, .string s, .slice la l.length lc, .slice da ds.length dc] 32)).alloc (.cells #[.int .i64 k, .int .i64 i, .string s, .slice la' l.length lc', .slice da' ds.length dc'] 32)) wr)) (fun c _ => ds.length - (intOf c).toNat)
      case atStart => exact ⟨0, by omega, rfl, HE⟩
      case round =>
        clear HE
        obtain ⟨j, hj, rfl, HE⟩ := hrel
        have ka := blk_cell (blk_ext (blk_alloc (blk_at0 w (.cells #[.int .i64 k, .int .i64 i, .string s, .slice la l.length lc, .slice da ds.length dc] 32)) _) HE.out)
        have kb := blk_cell (blk_ext (blk_at1 w _ (.cells #[.int .i64 k, .int .i64 i, .string s, .slice la' l.length lc', .slice da' ds.length dc'] 32)) HE.out)
        have hz : w.heap.size + 1 < wr.heap.size := by have := HE.out.size; simp at this; omega
        have hz0 : w.heap.size < wr.heap.size := by omega
        have HEw := Lib.hid (((Ext.refl w).alloc _).alloc _ |>.trans HE.out)
        by_cases hlt : j < ds.length
        · obtain ⟨b, off, c0, c1, c2, c3, c4, rfl, hnm, en, e0, e1, e2, e3, e4, hv⟩ := DRep.at_ ns ds 0 j (ns[j]'(by omega)) ds[j] HD.out (List.getElem?_eq_getElem (by omega)) (List.getElem?_eq_getElem hlt)
          obtain ⟨b', off', x0, x1, x2, x3, x4, rfl, _, yn, y0, y1, y2, y3, y4, hv'⟩ := DRep.at_ ns ds 0 j (ns[j]'(by omega)) ds[j] HD'.out (List.getElem?_eq_getElem (by omega)) (List.getElem?_eq_getElem hlt)
          obtain ⟨k1, i1, s1, la1, ln1, lc1, da1, dn1, dc1, rfl, rfl, rfl, rfl, rfl⟩ := hv.shape5
          obtain ⟨k2, i2, s2, la2, ln2, lc2, da2, dn2, dc2, rfl, rfl, rfl, rfl, rfl⟩ := hv'.shape5
          have hEr := HEw.out
          have qn := hEr.keep en
          have q0 := hEr.keep e0
          have q1 := hEr.keep e1
          have q2 := hEr.keep e2
          have q3 := hEr.keep e3
          have q4 := hEr.keep e4
          have rn := hEr.keep yn
          have r0 := hEr.keep y0
          have r1 := hEr.keep y1
          have r2 := hEr.keep y2
          have r3 := hEr.keep y3
          have r4 := hEr.keep y4
          rw [Nat.zero_add] at qn q0 q1 q2 q3 q4 rn r0 r1 r2 r3 r4
          have hb1 : b < wr.heap.size := World.block_lt_of_cell? _ _ q0
          have hb2 : b' < wr.heap.size := World.block_lt_of_cell? _ _ r0
          have HV := Lib.hid (VRep.ext hEr _ _ hv)
          have HV' := Lib.hid (VRep.ext hEr _ _ hv')
          obtain ⟨p, hp⟩ : ∃ p, ds[j] = p := ⟨_, rfl⟩
          obtain ⟨nm, hn⟩ : ∃ n, ns[j]'(by omega) = n := ⟨_, rfl⟩
          have hmem : p ∈ ds := by rw [← hp]; exact List.getElem_mem hlt
          rw [hp] at HV HV'
          rw [hn] at qn rn
          clear en e0 e1 e2 e3 e4 hv hEr yn y0 y1 y2 y3 y4 hv' hp hn
          go_wp2_with fail
          refine wp_region_mix (Ext wr) [(true, 0), (true, 1), (true, 2), (true, 3), (true, 4), (true, 5), (true, 6), (true, 7), (true, 8), (true, 9), (true, 10), (true, 11), (true, 12), (true, 13), (true, 14), (true, 15), (true, 16), (true, 17), (true, 18), (true, 19), (true, 20), (true, 21), (true, 22), (true, 23), (true, 24), (true, 25), (false, 26), (true, 27), (true, 28)] (by kernel_rfl) (by kernel_rfl) (by kernel_rfl) (by kernel_rfl) ?hS ?_
          case hS => exact (Ext.refl _).drew
          repeat (first | (refine wpMix_q (v := ?_) rfl rfl ?_ ?_; rotate_left; (· intro wq hSq; have cq := hSq.cells; go_simp; try (with_reducible rfl)); simp only [Act.put, List.setIfInBounds_toArray, List.set_cons_zero, List.set_cons_succ, List.getElem_toArray, List.getElem_cons_zero, List.getElem_cons_succ]) | (refine wpMix_u rfl rfl ?_; simp only [Act.put, List.setIfInBounds_toArray, List.set_cons_zero, List.set_cons_succ, List.getElem_toArray, List.getElem_cons_zero, List.getElem_cons_succ]))
          refine wpMix_l rfl rfl (fun K hK => ?_)
          go_simp
          refine (HI.out p (.inr hmem) _ _ _ (VRep.ext (Ext.refl wr).drew _ _ HV.out) (VRep.ext (Ext.refl wr).drew _ _ HV'.out)).mono ?_
          rintro e w3 ⟨rfl, h3⟩
          have HE3 := Lib.hid ((Ext.refl wr).drew.trans h3)
          refine hK _ _ HE3.out ?_
          clear hK K h3
          repeat (first | (refine wpMix_q (v := ?_) rfl rfl ?_ ?_; rotate_left; (· intro wq hSq; have cq := hSq.cells; go_simp; try (with_reducible rfl)); simp only [Act.put, List.setIfInBounds_toArray, List.set_cons_zero, List.set_cons_succ, List.getElem_toArray, List.getElem_cons_zero, List.getElem_cons_succ]) | (refine wpMix_u rfl rfl ?_; simp only [Act.put, List.setIfInBounds_toArray, List.set_cons_zero, List.set_cons_succ, List.getElem_toArray, List.getElem_cons_zero, List.getElem_cons_succ]))
          refine wpMix_nil ?_
          have HE4 := Lib.hid (HE.out.trans HE3.out)
          clear ka kb qn q0 q1 q2 q3 q4 rn r0 r1 r2 r3 r4 HE3
          go_wp2_with fail
          exact ⟨⟨j + 1, by omega, by go_num, HE4⟩, by simp [intOf]; omega⟩
        · have hj2 : j = ds.length := by omega
          subst hj2
          go_wp2_with fail
          go_ret
          exact ⟨rfl, HEw.out⟩
theorem same_ok (t : Tr) : SameOk t := by
  have : ∀ n (t : Tr), t.sz = n → SameOk t := by
    intro n
    induction n using Nat.strongRecOn with
    | _ n ih => intro t ht; exact same_step t (fun p hp => ih p.sz (by rw [← ht]; exact hp) p rfl)
  exact this _ t rfl
end Go.Proofs.YtdoofmohoamkbaaDoor
