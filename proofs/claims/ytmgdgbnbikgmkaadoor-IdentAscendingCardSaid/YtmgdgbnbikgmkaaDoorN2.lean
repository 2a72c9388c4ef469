/- R.NewSource, R.Next; Next in one form for every time. -/
import Derived.Test.YtmgdgbnbikgmkaaDoorN1
import Derived.Test.YtmgdgbnbikgmkaaDoorMix3
namespace Go.Proofs.YtmgdgbnbikgmkaaDoor
open Go.RowKit
/-- the value, the error and the counter behind a call -/
def nxK (t : Int) : Int := if inR t then 8 else 0
def nxS (n c t : Int) : ByteArray := if inR t then idStr t n c else ⟨#[]⟩
def nxE (t : Int) : Int := if inR t then 0 else 1
def nxC (c t : Int) : Int := if inR t then c + 1 else c
theorem next_any (g : Nat) (n c t : Int) (w : World) (hB : w.heap[g]? = some (.cells #[.int .i64 n, .int .i64 c] 70 (0, 0))) (hn : inR n = true) (hc : inR c = true) :
    Calls Tryd.prog 21 #[.pointer (some ⟨g, 0, none⟩), .int .i64 t] w fun e w' => e = .returned (.tuple #[.agg #[.int .i64 (nxK t), .int .i64 0, .string (nxS n c t), .slice none 0 0, .slice none 0 0], .int .i64 (nxE t)]) ∧ w.grownBy w' (some g) ∧ w'.heap[g]? = some (.cells #[.int .i64 n, .int .i64 (nxC c t)] 70 (0, 0)) := by
  cases ht : inR t
  · have e1 : nxK t = 0 := by simp [nxK, ht]
    have e2 : nxS n c t = ⟨#[]⟩ := by simp [nxS, ht]
    have e3 : nxE t = 1 := by simp [nxE, ht]
    have e4 : nxC c t = c := by simp [nxC, ht]
    rw [e1, e2, e3, e4]
    exact (next_arg g t w ht).mono fun e w' ⟨he, hx⟩ => ⟨he, hx.only _, blk_ext hB hx⟩
  · have e1 : nxK t = 8 := by simp [nxK, ht]
    have e2 : nxS n c t = idStr t n c := by simp [nxS, ht]
    have e3 : nxE t = 0 := by simp [nxE, ht]
    have e4 : nxC c t = c + 1 := by simp [nxC, ht]
    rw [e1, e2, e3, e4]
    exact next_ok g n c t w hB hn hc ht
set_option maxHeartbeats 400000 in
theorem rnewSource_ok (n : Int) (w : World) (hn : inR n = true) :
    Calls Tryd.prog 20 #[.int .i64 n] w fun e w' => e = .returned (.tuple #[.agg #[.int .i64 n, .int .i64 0], .int .i64 0]) ∧ Ext w w' := by
  go_enter Tryd.func20, Tryd.ntmps20
  go_wp2_with (go_at_call 25; refine (fits_any _ _).mono ?_; rintro e w' ⟨rfl, rfl⟩)
  exact bodyPost_ret (v := .tuple #[.agg #[.int .i64 n, .int .i64 0], .int .i64 0]) (by simp only [results, Tryd.results20]; go_simp) rfl ⟨rfl, (Ext.refl w).alloc _⟩
set_option maxHeartbeats 400000 in
theorem rnewSource_no (n : Int) (w : World) (hn : inR n = false) :
    Calls Tryd.prog 20 #[.int .i64 n] w fun e w' => e = .returned (.tuple #[.agg #[.int .i64 0, .int .i64 0], .int .i64 1]) ∧ Ext w w' := by
  go_enter Tryd.func20, Tryd.ntmps20
  go_wp2_with (go_at_call 25; refine (fits_any _ _).mono ?_; rintro e w' ⟨rfl, rfl⟩)
  exact bodyPost_ret (v := .tuple #[.agg #[.int .i64 0, .int .i64 0], .int .i64 1]) (by simp only [results, Tryd.results20]; go_simp) rfl ⟨rfl, (Ext.refl w).alloc _⟩
set_option maxHeartbeats 1000000 in
theorem rnext_any (n c t : Int) (w : World) (hn : inR n = true) (hc : inR c = true) :
    Calls Tryd.prog 22 #[.agg #[.int .i64 n, .int .i64 c], .int .i64 t] w fun e w' => e = .returned (.tuple #[.agg #[.int .i64 n, .int .i64 (nxC c t)], .agg #[.int .i64 (nxK t), .int .i64 0, .string (nxS n c t), .slice none 0 0, .slice none 0 0], .int .i64 (nxE t)]) ∧ Ext w w' := by
  cases ht : inR t
  · have e1 : nxK t = 0 := by simp [nxK, ht]
    have e2 : nxS n c t = ⟨#[]⟩ := by simp [nxS, ht]
    have e3 : nxE t = 1 := by simp [nxE, ht]
    have e4 : nxC c t = c := by simp [nxC, ht]
    rw [e1, e2, e3, e4]
    clear e1 e2 e3 e4
    go_enter Tryd.func22, Tryd.ntmps22
    go_wp2_with (go_at_call 25; refine (fits_any _ _).mono ?_; rintro e w' ⟨rfl, rfl⟩)
    exact bodyPost_ret (v := .tuple #[.agg #[.int .i64 n, .int .i64 c], .agg #[.int .i64 0, .int .i64 0, .string ⟨#[]⟩, .slice none 0 0, .slice none 0 0], .int .i64 1]) (by simp only [results, Tryd.results22]; go_simp) rfl ⟨rfl, by repeat (first | exact Ext.refl _ | refine Ext.alloc ?_ _)⟩
  · have e1 : nxK t = 8 := by simp [nxK, ht]
    have e2 : nxS n c t = idStr t n c := by simp [nxS, ht]
    have e3 : nxE t = 0 := by simp [nxE, ht]
    have e4 : nxC c t = c + 1 := by simp [nxC, ht]
    rw [e1, e2, e3, e4]
    clear e1 e2 e3 e4
    have hc' := inR_true hc
    have hlim : decide (4294967295 < c) = false := by simp; omega
    go_enter Tryd.func22, Tryd.ntmps22
    go_wp2_with (go_at_call 25; refine (fits_any _ _).mono ?_; rintro e w' ⟨rfl, rfl⟩)
    refine (rnew_ok _ _ _ _ ht hn hc).mono ?_
    rintro e w2 ⟨rfl, h2⟩
    unfold idVal
    have k2 := h2.ownc
    have f2 := h2.ownf
    have k3 := h2.of_alloc.ownc
    have f3 := h2.of_alloc.ownf
    have k4 := h2.of_alloc.of_alloc.ownc
    have f4 := h2.of_alloc.of_alloc.ownf
    have z2 := h2.lt
    have z3 := h2.of_alloc.lt
    have z4 := h2.of_alloc.of_alloc.lt
    simp only [World.size_alloc] at k2 f2 k3 f3 z2 z3
    go_wp2_with fail
    have hE := h2.of_alloc.of_alloc.of_alloc
    have n1 : ¬ w.heap.size = w2.heap.size := by omega
    have n2 : ¬ w.heap.size + 1 = w2.heap.size := by omega
    have n3 : ¬ w.heap.size + 1 + 1 = w2.heap.size := by omega
    refine wp_region_mix (fun w' => (∀ j, w'.cell? ⟨w.heap.size, j, none⟩ = #[Value.int .i64 n, .int .i64 (c + 1)][j]?) ∧ (∀ j, w'.cell? ⟨w2.heap.size, j, none⟩ = #[Value.int .i64 8, .int .i64 0, .string (idStr t n c), .slice none 0 0, .slice none 0 0][j]?)) [(true, 0), (true, 1), (true, 2), (false, 3), (false, 4), (true, 5)] (by kernel_rfl) (by kernel_rfl) (by kernel_rfl) (by kernel_rfl) ?hS ?_
    case hS =>
      refine ⟨fun j => ?_, fun j => ?_⟩
      · rcases j with _ | _ | j <;> go_simp
      · go_simp
    repeat (first | (refine wpMix_q (v := ?_) rfl rfl ?_ ?_; rotate_left; (· intro wq hSq; go_simp; try (with_reducible rfl)); simp only [Act.put, List.setIfInBounds_toArray, List.set_cons_zero, List.set_cons_succ, List.getElem_toArray, List.getElem_cons_zero, List.getElem_cons_succ]) | (refine wpMix_u rfl rfl ?_; simp only [Act.put, List.setIfInBounds_toArray, List.set_cons_zero, List.set_cons_succ, List.getElem_toArray, List.getElem_cons_zero, List.getElem_cons_succ]))
    refine wpMix_l rfl rfl (fun K hK => ?_)
    go_simp
    refine hK _ _ ⟨fun j => ?_, fun j => ?_⟩ ?_
    · rcases j with _ | _ | j <;> go_simp
    · go_simp
    clear hK K
    refine wpMix_l rfl rfl (fun K hK => ?_)
    go_simp
    refine hK _ _ ⟨fun j => ?_, fun j => ?_⟩ ?_
    · rcases j with _ | _ | j <;> go_simp
    · go_simp
    clear hK K
    (try simp only [Act.put, List.setIfInBounds_toArray, List.set_cons_zero, List.set_cons_succ, List.getElem_toArray, List.getElem_cons_zero, List.getElem_cons_succ])
    repeat (first | (refine wpMix_q (v := ?_) rfl rfl ?_ ?_; rotate_left; (· intro wq hSq; go_simp; try (with_reducible rfl)); simp only [Act.put, List.setIfInBounds_toArray, List.set_cons_zero, List.set_cons_succ, List.getElem_toArray, List.getElem_cons_zero, List.getElem_cons_succ]) | (refine wpMix_u rfl rfl ?_; simp only [Act.put, List.setIfInBounds_toArray, List.set_cons_zero, List.set_cons_succ, List.getElem_toArray, List.getElem_cons_zero, List.getElem_cons_succ]))
    refine wpMix_nil ?_
    go_wp2_with fail
    refine bodyPost_ret (v := .tuple #[.agg #[.int .i64 n, .int .i64 (c + 1)], .agg #[.int .i64 8, .int .i64 0, .string (idStr t n c), .slice none 0 0, .slice none 0 0], .int .i64 0]) (by simp only [results, Tryd.results22]; go_simp) rfl ⟨rfl, ?_⟩
    repeat (first | with_reducible assumption | with_reducible exact Ext.refl _ | with_reducible refine Ext.drew ?_ | with_reducible refine Ext.alloc ?_ _ | ((with_reducible refine Ext.setCell ?_ ?_ _); rotate_left; (· first | exact Nat.le_refl _ | (simp; done) | omega | (simp; omega))))
end Go.Proofs.YtmgdgbnbikgmkaaDoor
