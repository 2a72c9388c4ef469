/- value.nodes: by induction on the tree. -/
import Derived.Test.YtplokbmdcfakbaaGreatDoorQVNodes
set_option linter.unusedSimpArgs false
set_option linter.unusedVariables false
namespace Go.Proofs.YtplokbmdcfakbaaGreatDoor
open Go.RowKit
theorem blk_at1 (w : World) (a : Obj) (b : Obj) : ((w.alloc a).alloc b).heap[w.heap.size + 1]? = some b := by
  show ((w.heap.push a).push b)[w.heap.size + 1]? = some b
  rw [Array.getElem?_push, if_pos (by simp)]
theorem blk_at2 (w : World) (a b c : Obj) : (((w.alloc a).alloc b).alloc c).heap[w.heap.size + 1 + 1]? = some c := by
  show (((w.heap.push a).push b).push c)[w.heap.size + 1 + 1]? = some c
  rw [Array.getElem?_push, if_pos (by simp)]
theorem nodesC_cf (a : Array Value) (W : World) : (callFunc 95 a).run Tryz.prog W = .ok (.enter 95 a) W := by kernel_rfl
set_option maxHeartbeats 1000000 in
theorem nodes_step (t : Tr) (ih : ∀ p ∈ t.parts, NodesOk p) : NodesOk t := by
  intro v w most hV h1 h2
  obtain ⟨k, i, s, la, ln, lc, da, dn, dc, rfl⟩ := hV.shape
  have HV := Lib.hid hV
  have HI := Lib.hid ih
  clear hV ih
  by_cases hm : most = 1
  · subst hm
    have e1 : min (t.cnt : Int) 1 = 1 := by have := t.cnt_pos; omega
    rw [e1]
    clear HV HI e1
    go_enter Tryz.func68, Tryz.ntmps68
    go_wp2_with fail
    go_ret
    exact ⟨rfl, by repeat (first | with_reducible assumption | with_reducible exact Ext.refl _ | with_reducible refine Ext.drew ?_ | with_reducible refine Ext.alloc ?_ _ | ((with_reducible refine Ext.setCell ?_ ?_ _); rotate_left; (· first | exact Nat.le_refl _ | (simp; done) | omega | (simp; omega))))⟩
  · have d1 : ((1 : Int) == most) = false := by simp; omega
    obtain ⟨r, hr⟩ : ∃ r : Int, min (t.cnt : Int) most = r := ⟨_, rfl⟩
    rw [hr]
    have HR := Lib.hid hr
    clear hr
    go_enter Tryz.func68, Tryz.ntmps68
    go_wp2_with fail
    refine (each_ok 95 (w.heap.size + 1 + 1) (w.heap.size + 1) nodesC_cf most (fun x t => x + min (t.cnt : Int) (most - x)) (fun y => decide (y < most)) (fun x => decide (1 ≤ x) && decide (x < most))
      (fun x u h1 h2 => by have := u.cnt_pos; simp at h1 h2 ⊢; omega) t (fun p hp => nodesC_ok _ _ most (by omega) h2 (by omega) p (HI.out p hp)) _ w _ 1 HV.out
      (by repeat (first | with_reducible assumption | with_reducible exact Ext.refl _ | with_reducible refine Ext.drew ?_ | with_reducible refine Ext.alloc ?_ _ | ((with_reducible refine Ext.setCell ?_ ?_ _); rotate_left; (· first | exact Nat.le_refl _ | (simp; done) | omega | (simp; omega))))) (by omega) (by omega) (by simp; omega) (blk_at2 _ _ _ _) (blk_alloc (blk_at1 _ _ _) _)).mono ?_
    rintro e w1 ⟨rfl, hB, g1⟩
    have hE : Ext w w1 := (((Ext.refl w).alloc _).alloc _).alloc _ |>.of_only g1 (by omega)
    rw [each_nodes most _ 1 (by omega) (by omega)] at hB
    have hB2 : w1.heap[w.heap.size + 1 + 1]? = some (.cells #[.int .i64 r] 3 (0, 0)) := by
      rw [hB, ← HR.out, t.cnt_eq]; simp
    clear hB
    have c1 := blk_cell hB2
    clear hB2
    go_wp2_with fail
    go_ret
    exact ⟨rfl, hE⟩
theorem nodes_ok (t : Tr) : NodesOk t := by
  have : ∀ n (t : Tr), t.sz = n → NodesOk t := by
    intro n
    induction n using Nat.strongRecOn with
    | _ n ih =>
      intro t ht
      exact nodes_step t (fun p hp => ih p.sz (by rw [← ht]; exact Tr.sz_parts hp) p rfl)
  exact this _ t rfl
end Go.Proofs.YtplokbmdcfakbaaGreatDoor
