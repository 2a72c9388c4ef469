/- KeyencOrder: for every input the law returns true: comparing keys is comparing lists of values (the card, tied to the program's text). -/
import Derived.Test.YtipphlhaaienpaaDoorKBk
import Derived.Laws.Externs
import Derived.Test.YtipphlhaaienpaaDoorD0
import Derived.Test.YtipphlhaaienpaaDoorKT
import Derived.Test.YtipphlhaaienpaaDoorTab
set_option linter.unusedSimpArgs false
set_option linter.unusedVariables false
namespace Go.Proofs.YtipphlhaaienpaaDoor
open Go.RowKit
set_option maxRecDepth 20000 in
set_option maxHeartbeats 4000000 in
theorem Ints_ok (a b : Int) (w : World) : Calls Tryd.prog 49 #[.int .i64 a, .int .i64 b] w fun e w' => e = .returned (.int .i64 (cmpI a b)) ∧ w = w' := by
  by_cases h1 : a < b
  · rw [show cmpI a b = -1 by unfold cmpI; rw [if_pos h1]]
    have d1 : decide (a < b) = true := by simpa using h1
    go_enter Tryd.func49, Tryd.ntmps49
    go_wp2_with fail
    go_ret
    exact ⟨rfl, rfl⟩
  · have d1 : decide (a < b) = false := by simpa using h1
    by_cases h2 : b < a
    · rw [show cmpI a b = 1 by unfold cmpI; rw [if_neg h1, if_pos h2]]
      have d2 : decide (b < a) = true := by simpa using h2
      go_enter Tryd.func49, Tryd.ntmps49
      go_wp2_with fail
      go_ret
      exact ⟨rfl, rfl⟩
    · rw [show cmpI a b = 0 by unfold cmpI; rw [if_neg h1, if_neg h2]]
      have d2 : decide (b < a) = false := by simpa using h2
      go_enter Tryd.func49, Tryd.ntmps49
      go_wp2_with fail
      go_ret
      exact ⟨rfl, rfl⟩
theorem cmpS_end : ∀ (x y : List UInt8), x = [] ∨ y = [] → cmpS x y = cmpI x.length y.length
  | [], [], _ => rfl
  | [], _ :: _, _ => by simp [cmpS, Lib.compareBytes, cmpI] <;> omega
  | _ :: _, [], _ => by simp [cmpS, Lib.compareBytes, cmpI] <;> omega
  | _ :: _, _ :: _, h => by simp at h
theorem cmpI_sub (a b j : Nat) (h1 : j ≤ a) (h2 : j ≤ b) : cmpI ((a - j : Nat) : Int) ((b - j : Nat) : Int) = cmpI a b := by
  unfold cmpI; repeat' split
  all_goals omega
set_option maxRecDepth 20000 in
set_option maxHeartbeats 4000000 in
theorem Texts_ok (a b : ByteArray) (w : World) (ha : a.size ≤ maxLen) (hb : b.size ≤ maxLen) : Calls Tryd.prog 50 #[.string a, .string b] w fun e w' => e = .returned (.int .i64 (cmpS a.data.toList b.data.toList)) ∧ Ext w w' := by
  unfold maxLen at ha hb
  obtain ⟨r, hr⟩ : ∃ r, cmpS a.data.toList b.data.toList = r := ⟨_, rfl⟩
  rw [hr]
  have HR := Lib.hid hr
  clear hr
  go_enter Tryd.func50, Tryd.ntmps50
  go_wp2_with fail
  go_loopw [5] (fun x wr => ∃ j : Nat, j ≤ a.size ∧ j ≤ b.size ∧ x = .int .i64 j ∧ Hid (cmpS (a.data.toList.drop j) (b.data.toList.drop j) = r) ∧ Hid (Ext w wr)) (fun x _ => a.size - (intOf x).toNat)
  case atStart => exact ⟨0, by omega, by omega, rfl, HR, Ext.refl _⟩
  case round =>
    obtain ⟨j, hja, hjb, rfl, HF, HE⟩ := hrel
    by_cases hl : j < a.size ∧ j < b.size
    · obtain ⟨hla, hlb⟩ := hl
      have hF := HF.out
      rw [List.drop_eq_getElem_cons (show j < a.data.toList.length by simpa using hla), List.drop_eq_getElem_cons (show j < b.data.toList.length by simpa using hlb), cmpS_cons] at hF
      have ea : a.data.toList[j]'(by simpa using hla) = a[j] := rfl
      have eb : b.data.toList[j]'(by simpa using hlb) = b[j] := rfl
      rw [ea, eb] at hF
      obtain ⟨ca, hca⟩ : ∃ c, a[j] = c := ⟨_, rfl⟩
      obtain ⟨cb, hcb⟩ : ∃ c, b[j] = c := ⟨_, rfl⟩
      rw [hca, hcb] at hF
      clear ea eb
      by_cases hc : ca = cb
      · subst hc
        rw [show cmpI (ca.toNat : Int) ca.toNat = 0 by unfold cmpI; simp, if_neg (by simp)] at hF
        have HF2 := Lib.hid hF
        have d : ((ca.toNat : Int) != ca.toNat) = false := by simp
        clear hF
        go_wp2_with fail
        refine wp_region_mix (Ext wr) [(true, 0), (true, 1), (true, 2), (true, 3), (true, 4), (true, 5), (true, 6)] (by kernel_rfl) (by kernel_rfl) (by kernel_rfl) (by kernel_rfl) ?hS ?_
        case hS => exact (Ext.refl _).drew
        repeat (first | (refine wpMix_q (v := ?_) rfl rfl ?_ ?_; rotate_left; (· intro wq hSq; have cq := hSq.cells; go_simp; try (with_reducible rfl)); simp only [Act.put, List.setIfInBounds_toArray, List.set_cons_zero, List.set_cons_succ, List.getElem_toArray, List.getElem_cons_zero, List.getElem_cons_succ]) | (refine wpMix_u rfl rfl ?_; simp only [Act.put, List.setIfInBounds_toArray, List.set_cons_zero, List.set_cons_succ, List.getElem_toArray, List.getElem_cons_zero, List.getElem_cons_succ]))
        refine wpMix_nil ?_
        go_wp2_with fail
        exact ⟨⟨j + 1, by omega, by omega, by go_num, HF2, HE.out.drew⟩, by simp [intOf]; omega⟩
      · rw [if_pos (cmpI_ne (u8_neI hc))] at hF
        have HF2 := Lib.hid hF
        have d : ((ca.toNat : Int) != cb.toNat) = true := by rw [bne_iff_ne]; exact u8_neI hc
        have hba := ca.toNat_lt
        have hbb := cb.toNat_lt
        clear hF hc
        go_wp2_with fail
        refine wp_region_mix (Ext wr) [(true, 0), (true, 1), (true, 2), (true, 3), (true, 4), (true, 5), (true, 6)] (by kernel_rfl) (by kernel_rfl) (by kernel_rfl) (by kernel_rfl) ?hS ?_
        case hS => exact (Ext.refl _).drew
        repeat (first | (refine wpMix_q (v := ?_) rfl rfl ?_ ?_; rotate_left; (· intro wq hSq; have cq := hSq.cells; go_simp; try (with_reducible rfl)); simp only [Act.put, List.setIfInBounds_toArray, List.set_cons_zero, List.set_cons_succ, List.getElem_toArray, List.getElem_cons_zero, List.getElem_cons_succ]) | (refine wpMix_u rfl rfl ?_; simp only [Act.put, List.setIfInBounds_toArray, List.set_cons_zero, List.set_cons_succ, List.getElem_toArray, List.getElem_cons_zero, List.getElem_cons_succ]))
        refine wpMix_nil ?_
        go_wp2_with fail
        refine wp_region_mix (Ext wr) [(true, 0), (true, 1), (true, 2), (true, 3), (true, 4), (true, 5), (true, 6), (true, 7), (false, 8), (true, 9)] (by kernel_rfl) (by kernel_rfl) (by kernel_rfl) (by kernel_rfl) ?hS ?_
        case hS => exact ((Ext.refl _).drew).drew
        repeat (first | (refine wpMix_q (v := ?_) rfl rfl ?_ ?_; rotate_left; (· intro wq hSq; have cq := hSq.cells; go_simp; try (with_reducible rfl)); simp only [Act.put, List.setIfInBounds_toArray, List.set_cons_zero, List.set_cons_succ, List.getElem_toArray, List.getElem_cons_zero, List.getElem_cons_succ]) | (refine wpMix_u rfl rfl ?_; simp only [Act.put, List.setIfInBounds_toArray, List.set_cons_zero, List.set_cons_succ, List.getElem_toArray, List.getElem_cons_zero, List.getElem_cons_succ]))
        refine wpMix_l rfl rfl (fun K hK => ?_)
        go_simp
        refine (Ints_ok _ _ _).mono ?_
        rintro e w3 ⟨rfl, rfl⟩
        rw [wrap_i64_val (ca.toNat : Int) (by omega) (by omega), wrap_i64_val (cb.toNat : Int) (by omega) (by omega), HF2.out]
        refine hK _ _ (by repeat (first | with_reducible assumption | with_reducible exact Ext.refl _ | with_reducible refine Ext.drew ?_ | with_reducible refine Ext.alloc ?_ _ | ((with_reducible refine Ext.setCell ?_ ?_ _); rotate_left; (· first | exact Nat.le_refl _ | (simp; done) | omega | (simp; omega))))) ?_
        clear hK K
        repeat (first | (refine wpMix_q (v := ?_) rfl rfl ?_ ?_; rotate_left; (· intro wq hSq; have cq := hSq.cells; go_simp; try (with_reducible rfl)); simp only [Act.put, List.setIfInBounds_toArray, List.set_cons_zero, List.set_cons_succ, List.getElem_toArray, List.getElem_cons_zero, List.getElem_cons_succ]) | (refine wpMix_u rfl rfl ?_; simp only [Act.put, List.setIfInBounds_toArray, List.set_cons_zero, List.set_cons_succ, List.getElem_toArray, List.getElem_cons_zero, List.getElem_cons_succ]))
        refine wpMix_nil ?_
        go_wp2_with fail
        go_ret
        exact ⟨rfl, by have := HE.out; repeat (first | with_reducible assumption | with_reducible exact Ext.refl _ | with_reducible refine Ext.drew ?_ | with_reducible refine Ext.alloc ?_ _ | ((with_reducible refine Ext.setCell ?_ ?_ _); rotate_left; (· first | exact Nat.le_refl _ | (simp; done) | omega | (simp; omega))))⟩
    · have hend : cmpI (a.size : Int) (b.size : Int) = r := by
        have hF := HF.out
        have e1 : (a.data.toList.drop j).length = a.size - j := by simp
        have e2 : (b.data.toList.drop j).length = b.size - j := by simp
        rw [cmpS_end _ _ (by
          rcases Nat.lt_or_ge j a.size with h | h
          · right; exact List.drop_of_length_le (by simp; omega)
          · left; exact List.drop_of_length_le (by simp; omega)), e1, e2, cmpI_sub _ _ _ hja hjb] at hF
        exact hF
      have HN := Lib.hid hend
      clear hend
      by_cases hla : j < a.size
      · have hlb : ¬ j < b.size := fun h => hl ⟨hla, h⟩
        clear hl
        go_wp2_with fail
        refine (Ints_ok _ _ _).mono ?_
        rintro e w3 ⟨rfl, rfl⟩
        rw [HN.out]
        go_wp2_with fail
        go_ret
        exact ⟨rfl, HE.out⟩
      · clear hl
        go_wp2_with fail
        refine (Ints_ok _ _ _).mono ?_
        rintro e w3 ⟨rfl, rfl⟩
        rw [HN.out]
        go_wp2_with fail
        go_ret
        exact ⟨rfl, HE.out⟩
set_option maxRecDepth 20000 in
set_option maxHeartbeats 4000000 in
theorem BCmp_ok (a b : ByteArray) (w : World) : Calls Tryd.prog 32 #[.string a, .string b] w fun e w' => e = .returned (.int .i64 (cmpS a.data.toList b.data.toList)) ∧ w = w' := by
  go_enter Tryd.func32, Tryd.ntmps32
  go_wp2_with fail
  rw [run_callFunc_extern Tryd.func48 (by kernel_rfl) (by kernel_rfl) (by kernel_rfl) (e := Extern.BytealgCompare.compare) (by kernel_rfl), Lib.run_compareString]
  simp only [Result.andThen]
  rw [Oper.upon_value]
  go_wp2_with fail
  go_ret
  exact ⟨rfl, rfl⟩
set_option maxRecDepth 20000 in
set_option maxHeartbeats 4000000 in
theorem SCmp_ok (a b : ByteArray) (w : World) : Calls Tryd.prog 19 #[.string a, .string b] w fun e w' => e = .returned (.int .i64 (cmpS a.data.toList b.data.toList)) ∧ w = w' := by
  go_enter Tryd.func19, Tryd.ntmps19
  go_wp2_with fail
  refine (BCmp_ok _ _ _).mono ?_
  rintro e w3 ⟨rfl, rfl⟩
  go_wp2_with fail
  go_ret
  exact ⟨rfl, rfl⟩
def CmpOk (t : Tr) : Prop := ∀ (u : Tr) (v v' : Value) (w : World), VRep w t v → VRep w u v' → Calls Tryd.prog 33 #[v, v'] w fun e w' => e = .returned (.int .i64 (cmpT t u)) ∧ Ext w w'
theorem cmpTL_end : ∀ (x y : List Tr), x = [] ∨ y = [] → cmpTL x y = cmpI x.length y.length
  | [], [], _ => by unfold cmpTL; rfl
  | [], _ :: _, _ => by unfold cmpTL; simp [cmpI] <;> omega
  | _ :: _, [], _ => by unfold cmpTL; simp [cmpI] <;> omega
  | _ :: _, _ :: _, h => by simp at h
theorem cmpTD_end (ns ms : List ByteArray) : ∀ (x y : List Tr), x = [] ∨ y = [] → cmpTD ns x ms y = cmpI x.length y.length
  | [], [], _ => by unfold cmpTD; rfl
  | [], _ :: _, _ => by unfold cmpTD; simp [cmpI] <;> omega
  | _ :: _, [], _ => by unfold cmpTD; simp [cmpI] <;> omega
  | _ :: _, _ :: _, h => by simp at h
theorem cmp_rng {t u : Tr} : -1 ≤ cmpT t u ∧ cmpT t u ≤ 1 := by
  have I : ∀ a b, -1 ≤ cmpI a b ∧ cmpI a b ≤ 1 := fun a b => by unfold cmpI; repeat' split
                                                                all_goals omega
  have Sx : ∀ x y, -1 ≤ cmpS x y ∧ cmpS x y ≤ 1 := fun x y => by rcases cmpT_range x y with h | h | h <;> omega
  have key : ∀ n (t u : Tr), t.sz = n → -1 ≤ cmpT t u ∧ cmpT t u ≤ 1 := by
    intro n
    induction n using Nat.strongRecOn with
    | _ n ih =>
      intro t u hn
      obtain ⟨k, i, s, l, ns, ds⟩ := t
      obtain ⟨k', i', s', l', ns', ds'⟩ := u
      have hl : ∀ (x y : List Tr), (∀ t ∈ x, ∀ u, -1 ≤ cmpT t u ∧ cmpT t u ≤ 1) → -1 ≤ cmpTL x y ∧ cmpTL x y ≤ 1 := by
        intro x
        induction x with
        | nil => intro y _; cases y <;> simp [cmpTL]
        | cons a x ihx =>
          intro y h
          cases y with
          | nil => simp [cmpTL]
          | cons b y => unfold cmpTL; split; · exact h a (by simp) b
                        exact ihx y (fun t ht => h t (by simp [ht]))
      have hd : ∀ (x : List Tr) (ns : List ByteArray) (ms : List ByteArray) (y : List Tr), (∀ t ∈ x, ∀ u, -1 ≤ cmpT t u ∧ cmpT t u ≤ 1) → -1 ≤ cmpTD ns x ms y ∧ cmpTD ns x ms y ≤ 1 := by
        intro x
        induction x with
        | nil => intro ns ms y _; cases y <;> simp [cmpTD]
        | cons a x ihx =>
          intro ns ms y h
          cases y with
          | nil => cases ns <;> simp [cmpTD]
          | cons b y =>
            cases ns with
            | nil => cases ms <;> simp [cmpTD]
            | cons n ns =>
              cases ms with
              | nil => simp [cmpTD]
              | cons m ms => unfold cmpTD; split; · exact Sx _ _
                             split; · exact h a (by simp) b
                             exact ihx ns ms y (fun t ht => h t (by simp [ht]))
      simp only [cmpT]
      split; · exact I _ _
      split; · exact I _ _
      split; · exact Sx _ _
      split; · exact hl l l' (fun t ht u => ih t.sz (by rw [← hn]; exact Tr.sz_list ht) t u rfl)
      split; · exact hd ds ns ns' ds' (fun t ht u => ih t.sz (by rw [← hn]; exact Tr.sz_docs ht) t u rfl)
      omega
  exact key _ t u rfl
set_option maxRecDepth 20000 in
set_option maxHeartbeats 4000000 in
theorem cmp_ne (k k' : Int) (i i' : Int) (s s' : ByteArray) (l l' : List Tr) (ns ns' : List ByteArray) (ds ds' : List Tr) (la da la' da' : Option Addr) (lc dc lc' dc' : Nat) (w : World) (hk : k ≠ k') :
    Calls Tryd.prog 33 #[.agg #[.int .i64 k, .int .i64 i, .string s, .slice la l.length lc, .slice da ds.length dc], .agg #[.int .i64 k', .int .i64 i', .string s', .slice la' l'.length lc', .slice da' ds'.length dc']] w fun e w' => e = .returned (.int .i64 (cmpI k k')) ∧ Ext w w' := by
  have d : (k != k') = true := by rw [bne_iff_ne]; exact hk
  clear hk
  go_enter Tryd.func33, Tryd.ntmps33
  go_wp2_with fail
  refine (Ints_ok _ _ _).mono ?_
  rintro e w3 ⟨rfl, rfl⟩
  go_wp2_with fail
  go_ret
  exact ⟨rfl, by repeat (first | with_reducible assumption | with_reducible exact Ext.refl _ | with_reducible refine Ext.drew ?_ | with_reducible refine Ext.alloc ?_ _ | ((with_reducible refine Ext.setCell ?_ ?_ _); rotate_left; (· first | exact Nat.le_refl _ | (simp; done) | omega | (simp; omega))))⟩
set_option maxRecDepth 20000 in
set_option maxHeartbeats 4000000 in
theorem cmp_k3 (i i' : Int) (s s' : ByteArray) (l l' : List Tr) (ns ns' : List ByteArray) (ds ds' : List Tr) (la da la' da' : Option Addr) (lc dc lc' dc' : Nat) (w : World) :
    Calls Tryd.prog 33 #[.agg #[.int .i64 3, .int .i64 i, .string s, .slice la l.length lc, .slice da ds.length dc], .agg #[.int .i64 3, .int .i64 i', .string s', .slice la' l'.length lc', .slice da' ds'.length dc']] w fun e w' => e = .returned (.int .i64 (cmpI i i')) ∧ Ext w w' := by
  go_enter Tryd.func33, Tryd.ntmps33
  go_wp2_with fail
  refine (Ints_ok _ _ _).mono ?_
  rintro e w3 ⟨rfl, rfl⟩
  go_wp2_with fail
  go_ret
  exact ⟨rfl, by repeat (first | with_reducible assumption | with_reducible exact Ext.refl _ | with_reducible refine Ext.drew ?_ | with_reducible refine Ext.alloc ?_ _ | ((with_reducible refine Ext.setCell ?_ ?_ _); rotate_left; (· first | exact Nat.le_refl _ | (simp; done) | omega | (simp; omega))))⟩
set_option maxRecDepth 20000 in
set_option maxHeartbeats 4000000 in
theorem cmp_k9 (i i' : Int) (s s' : ByteArray) (l l' : List Tr) (ns ns' : List ByteArray) (ds ds' : List Tr) (la da la' da' : Option Addr) (lc dc lc' dc' : Nat) (w : World) :
    Calls Tryd.prog 33 #[.agg #[.int .i64 9, .int .i64 i, .string s, .slice la l.length lc, .slice da ds.length dc], .agg #[.int .i64 9, .int .i64 i', .string s', .slice la' l'.length lc', .slice da' ds'.length dc']] w fun e w' => e = .returned (.int .i64 (cmpI i i')) ∧ Ext w w' := by
  go_enter Tryd.func33, Tryd.ntmps33
  go_wp2_with fail
  refine (Ints_ok _ _ _).mono ?_
  rintro e w3 ⟨rfl, rfl⟩
  go_wp2_with fail
  go_ret
  exact ⟨rfl, by repeat (first | with_reducible assumption | with_reducible exact Ext.refl _ | with_reducible refine Ext.drew ?_ | with_reducible refine Ext.alloc ?_ _ | ((with_reducible refine Ext.setCell ?_ ?_ _); rotate_left; (· first | exact Nat.le_refl _ | (simp; done) | omega | (simp; omega))))⟩
set_option maxRecDepth 20000 in
set_option maxHeartbeats 4000000 in
theorem cmp_k10 (i i' : Int) (s s' : ByteArray) (l l' : List Tr) (ns ns' : List ByteArray) (ds ds' : List Tr) (la da la' da' : Option Addr) (lc dc lc' dc' : Nat) (w : World) :
    Calls Tryd.prog 33 #[.agg #[.int .i64 10, .int .i64 i, .string s, .slice la l.length lc, .slice da ds.length dc], .agg #[.int .i64 10, .int .i64 i', .string s', .slice la' l'.length lc', .slice da' ds'.length dc']] w fun e w' => e = .returned (.int .i64 (cmpI i i')) ∧ Ext w w' := by
  go_enter Tryd.func33, Tryd.ntmps33
  go_wp2_with fail
  refine (Ints_ok _ _ _).mono ?_
  rintro e w3 ⟨rfl, rfl⟩
  go_wp2_with fail
  go_ret
  exact ⟨rfl, by repeat (first | with_reducible assumption | with_reducible exact Ext.refl _ | with_reducible refine Ext.drew ?_ | with_reducible refine Ext.alloc ?_ _ | ((with_reducible refine Ext.setCell ?_ ?_ _); rotate_left; (· first | exact Nat.le_refl _ | (simp; done) | omega | (simp; omega))))⟩
set_option maxRecDepth 20000 in
set_option maxHeartbeats 4000000 in
theorem cmp_k4 (i i' : Int) (s s' : ByteArray) (l l' : List Tr) (ns ns' : List ByteArray) (ds ds' : List Tr) (la da la' da' : Option Addr) (lc dc lc' dc' : Nat) (w : World) (hs : s.size ≤ maxLen) (hs' : s'.size ≤ maxLen) :
    Calls Tryd.prog 33 #[.agg #[.int .i64 4, .int .i64 i, .string s, .slice la l.length lc, .slice da ds.length dc], .agg #[.int .i64 4, .int .i64 i', .string s', .slice la' l'.length lc', .slice da' ds'.length dc']] w fun e w' => e = .returned (.int .i64 (cmpS s.data.toList s'.data.toList)) ∧ Ext w w' := by
  obtain ⟨r, hr⟩ : ∃ r, cmpS s.data.toList s'.data.toList = r := ⟨_, rfl⟩
  rw [hr]
  have HR := Lib.hid hr
  clear hr
  go_enter Tryd.func33, Tryd.ntmps33
  go_wp2_with fail
  refine (Texts_ok _ _ _ hs hs').mono ?_
  rintro e w3 ⟨rfl, h3⟩
  rw [HR.out]
  have HE3 := Lib.hid h3.of_alloc.of_alloc
  clear h3
  go_wp2_with fail
  go_ret
  exact ⟨rfl, HE3.out⟩
set_option maxRecDepth 20000 in
set_option maxHeartbeats 4000000 in
theorem cmp_k7 (i i' : Int) (s s' : ByteArray) (l l' : List Tr) (ns ns' : List ByteArray) (ds ds' : List Tr) (la da la' da' : Option Addr) (lc dc lc' dc' : Nat) (w : World) (hs : s.size ≤ maxLen) (hs' : s'.size ≤ maxLen) :
    Calls Tryd.prog 33 #[.agg #[.int .i64 7, .int .i64 i, .string s, .slice la l.length lc, .slice da ds.length dc], .agg #[.int .i64 7, .int .i64 i', .string s', .slice la' l'.length lc', .slice da' ds'.length dc']] w fun e w' => e = .returned (.int .i64 (cmpS s.data.toList s'.data.toList)) ∧ Ext w w' := by
  obtain ⟨r, hr⟩ : ∃ r, cmpS s.data.toList s'.data.toList = r := ⟨_, rfl⟩
  rw [hr]
  have HR := Lib.hid hr
  clear hr
  go_enter Tryd.func33, Tryd.ntmps33
  go_wp2_with fail
  refine (Texts_ok _ _ _ hs hs').mono ?_
  rintro e w3 ⟨rfl, h3⟩
  rw [HR.out]
  have HE3 := Lib.hid h3.of_alloc.of_alloc
  clear h3
  go_wp2_with fail
  go_ret
  exact ⟨rfl, HE3.out⟩
set_option maxRecDepth 20000 in
set_option maxHeartbeats 4000000 in
theorem cmp_k8 (i i' : Int) (s s' : ByteArray) (l l' : List Tr) (ns ns' : List ByteArray) (ds ds' : List Tr) (la da la' da' : Option Addr) (lc dc lc' dc' : Nat) (w : World) (hs : s.size ≤ maxLen) (hs' : s'.size ≤ maxLen) :
    Calls Tryd.prog 33 #[.agg #[.int .i64 8, .int .i64 i, .string s, .slice la l.length lc, .slice da ds.length dc], .agg #[.int .i64 8, .int .i64 i', .string s', .slice la' l'.length lc', .slice da' ds'.length dc']] w fun e w' => e = .returned (.int .i64 (cmpS s.data.toList s'.data.toList)) ∧ Ext w w' := by
  obtain ⟨r, hr⟩ : ∃ r, cmpS s.data.toList s'.data.toList = r := ⟨_, rfl⟩
  rw [hr]
  have HR := Lib.hid hr
  clear hr
  go_enter Tryd.func33, Tryd.ntmps33
  go_wp2_with fail
  refine (Texts_ok _ _ _ hs hs').mono ?_
  rintro e w3 ⟨rfl, h3⟩
  rw [HR.out]
  have HE3 := Lib.hid h3.of_alloc.of_alloc
  clear h3
  go_wp2_with fail
  go_ret
  exact ⟨rfl, HE3.out⟩
set_option maxRecDepth 20000 in
set_option maxHeartbeats 4000000 in
theorem cmp_kx (k : Int) (i i' : Int) (s s' : ByteArray) (l l' : List Tr) (ns ns' : List ByteArray) (ds ds' : List Tr) (la da la' da' : Option Addr) (lc dc lc' dc' : Nat) (w : World) (hk : k ≠ 3 ∧ k ≠ 9 ∧ k ≠ 10 ∧ k ≠ 4 ∧ k ≠ 7 ∧ k ≠ 8 ∧ k ≠ 6 ∧ k ≠ 5) :
    Calls Tryd.prog 33 #[.agg #[.int .i64 k, .int .i64 i, .string s, .slice la l.length lc, .slice da ds.length dc], .agg #[.int .i64 k, .int .i64 i', .string s', .slice la' l'.length lc', .slice da' ds'.length dc']] w fun e w' => e = .returned (.int .i64 (0)) ∧ Ext w w' := by
  have d0 : (k != k) = false := by simp
  have d3 : (k == 3) = false := beq_eq_false_iff_ne.2 hk.1
  have d9 : (k == 9) = false := beq_eq_false_iff_ne.2 hk.2.1
  have d10 : (k == 10) = false := beq_eq_false_iff_ne.2 hk.2.2.1
  have d4 : (k == 4) = false := beq_eq_false_iff_ne.2 hk.2.2.2.1
  have d7 : (k == 7) = false := beq_eq_false_iff_ne.2 hk.2.2.2.2.1
  have d8 : (k == 8) = false := beq_eq_false_iff_ne.2 hk.2.2.2.2.2.1
  have d6 : (k == 6) = false := beq_eq_false_iff_ne.2 hk.2.2.2.2.2.2.1
  have d5 : (k == 5) = false := beq_eq_false_iff_ne.2 hk.2.2.2.2.2.2.2
  clear hk
  go_enter Tryd.func33, Tryd.ntmps33
  go_wp2_with fail
  go_ret
  exact ⟨rfl, by repeat (first | with_reducible assumption | with_reducible exact Ext.refl _ | with_reducible refine Ext.drew ?_ | with_reducible refine Ext.alloc ?_ _ | ((with_reducible refine Ext.setCell ?_ ?_ _); rotate_left; (· first | exact Nat.le_refl _ | (simp; done) | omega | (simp; omega))))⟩
set_option maxRecDepth 20000 in
set_option maxHeartbeats 4000000 in
theorem cmp_k6 (i i' : Int) (s s' : ByteArray) (l l' : List Tr) (ns ns' : List ByteArray) (ds ds' : List Tr) (la da la' da' : Option Addr) (lc dc lc' dc' : Nat) (w : World) (hc1 : l.length ≤ lc) (hc2 : lc ≤ maxLen) (hc1' : l'.length ≤ lc') (hc2' : lc' ≤ maxLen) (hL : LRep w la 0 l) (hL' : LRep w la' 0 l') (ih : ∀ t ∈ l, CmpOk t) :
    Calls Tryd.prog 33 #[.agg #[.int .i64 6, .int .i64 i, .string s, .slice la l.length lc, .slice da ds.length dc], .agg #[.int .i64 6, .int .i64 i', .string s', .slice la' l'.length lc', .slice da' ds'.length dc']] w fun e w' => e = .returned (.int .i64 (cmpTL l l')) ∧ Ext w w' := by
  unfold maxLen at hc2 hc2'
  have HL := Lib.hid hL
  have HL' := Lib.hid hL'
  have HIH := Lib.hid ih
  clear hL hL' ih
  obtain ⟨r, hr⟩ : ∃ r, cmpTL l l' = r := ⟨_, rfl⟩
  rw [hr]
  have HR := Lib.hid hr
  clear hr
  go_enter Tryd.func33, Tryd.ntmps33
  go_wp2_with fail
  obtain ⟨w0, hw0⟩ : ∃ W, (w.alloc (.cells #[.int .i64 6, .int .i64 i, .string s, .slice la l.length lc, .slice da ds.length dc] 41)).alloc (.cells #[.int .i64 6, .int .i64 i', .string s', .slice la' l'.length lc', .slice da' ds'.length dc'] 41) = W := ⟨_, rfl⟩
  have hA1 : w0.heap[w.heap.size]? = some (.cells #[.int .i64 6, .int .i64 i, .string s, .slice la l.length lc, .slice da ds.length dc] 41 (0, 0)) := by rw [← hw0]; exact blk_at0 w _ |> fun h => blk_alloc h _
  have hA2 : w0.heap[w.heap.size + 1]? = some (.cells #[.int .i64 6, .int .i64 i', .string s', .slice la' l'.length lc', .slice da' ds'.length dc'] 41 (0, 0)) := by rw [← hw0]; exact blk_at1 w _ _
  have hE0 : Ext w w0 := by rw [← hw0]; exact ((Ext.refl w).alloc _).alloc _
  have HA1 := Lib.hid hA1
  have HA2 := Lib.hid hA2
  have HE0 := Lib.hid hE0
  clear hA1 hA2 hE0
  rw [hw0]
  clear hw0
  go_loopw [5] (fun x wr => ∃ j : Nat, j ≤ l.length ∧ j ≤ l'.length ∧ x = .int .i64 j ∧ Hid (cmpTL (l.drop j) (l'.drop j) = r) ∧ Hid (Ext w0 wr)) (fun x _ => l.length - (intOf x).toNat)
  case atStart => exact ⟨0, by omega, by omega, rfl, HR, Ext.refl _⟩
  case round =>
      obtain ⟨j, hja, hjb, rfl, HF, HE⟩ := hrel
      have ka := blk_cell (blk_ext HA1.out HE.out)
      have kb := blk_cell (blk_ext HA2.out HE.out)
      have sa := blk_lt (blk_ext HA1.out HE.out)
      have sb := blk_lt (blk_ext HA2.out HE.out)
      by_cases hl : j < l.length ∧ j < l'.length
      · obtain ⟨hla, hlb⟩ := hl
        have hF := HF.out
        rw [List.drop_eq_getElem_cons hla, List.drop_eq_getElem_cons hlb] at hF
        simp only [cmpTL] at hF
        obtain ⟨bb, off, c0, c1, c2, c3, c4, rfl, e0, e1, e2, e3, e4, hv⟩ := LRep.at_ l 0 j l[j] HL.out (List.getElem?_eq_getElem hla)
        obtain ⟨k1, i1, s1, la1, ln1, lc1, da1, dn1, dc1, rfl, rfl, rfl, rfl, rfl⟩ := hv.shape5
        obtain ⟨bb', off', c0, c1, c2, c3, c4, rfl, e0', e1', e2', e3', e4', hv'⟩ := LRep.at_ l' 0 j l'[j] HL'.out (List.getElem?_eq_getElem hlb)
        obtain ⟨k2, i2, s2, la2, ln2, lc2, da2, dn2, dc2, rfl, rfl, rfl, rfl, rfl⟩ := hv'.shape5
        have hEr := HE0.out.trans HE.out
        have q0 := hEr.keep e0
        have q1 := hEr.keep e1
        have q2 := hEr.keep e2
        have q3 := hEr.keep e3
        have q4 := hEr.keep e4
        have p0 := hEr.keep e0'
        have p1 := hEr.keep e1'
        have p2 := hEr.keep e2'
        have p3 := hEr.keep e3'
        have p4 := hEr.keep e4'
        rw [Nat.zero_add] at q0 q1 q2 q3 q4 p0 p1 p2 p3 p4
        have hbl : bb < wr.heap.size := World.block_lt_of_cell? _ _ q0
        have hbl' : bb' < wr.heap.size := World.block_lt_of_cell? _ _ p0
        have HV := Lib.hid (VRep.ext hEr _ _ hv)
        have HV' := Lib.hid (VRep.ext hEr _ _ hv')
        clear e0 e1 e2 e3 e4 hv e0' e1' e2' e3' e4' hv' hEr HF
        have hmem : l[j] ∈ l := List.getElem_mem hla
        obtain ⟨x, hx⟩ : ∃ x, l[j] = x := ⟨_, rfl⟩
        obtain ⟨y, hy⟩ : ∃ y, l'[j] = y := ⟨_, rfl⟩
        rw [hx] at hF hmem HV
        rw [hy] at hF HV'
        obtain ⟨c, hc⟩ : ∃ c, cmpT x y = c := ⟨_, rfl⟩
        rw [hc] at hF
        have HC := Lib.hid hc
        have HF := Lib.hid hF
        clear hc hF hx hy
        go_wp2_with fail
        refine wp_region_mix (Ext wr) [(true, 0), (true, 1), (true, 2), (true, 3), (true, 4), (true, 5), (true, 6), (true, 7), (true, 8), (true, 9), (false, 10), (true, 11)] (by kernel_rfl) (by kernel_rfl) (by kernel_rfl) (by kernel_rfl) ?hS ?_
        case hS => exact (Ext.refl _).drew
        repeat (first | (refine wpMix_q (v := ?_) rfl rfl ?_ ?_; rotate_left; (· intro wq hSq; have cq := hSq.cells; go_simp; try (with_reducible rfl)); simp only [Act.put, List.setIfInBounds_toArray, List.set_cons_zero, List.set_cons_succ, List.getElem_toArray, List.getElem_cons_zero, List.getElem_cons_succ]) | (refine wpMix_u rfl rfl ?_; simp only [Act.put, List.setIfInBounds_toArray, List.set_cons_zero, List.set_cons_succ, List.getElem_toArray, List.getElem_cons_zero, List.getElem_cons_succ]))
        refine wpMix_l rfl rfl (fun K hK => ?_)
        go_simp
        refine (HIH.out x hmem y _ _ _ (VRep.ext (Ext.refl _).drew _ _ HV.out) (VRep.ext (Ext.refl _).drew _ _ HV'.out)).mono ?_
        rintro e w3 ⟨rfl, h3⟩
        rw [HC.out]
        have HE3 := Lib.hid (HE.out.trans ((Ext.refl _).drew.trans h3))
        refine hK _ _ ((Ext.refl _).drew.trans h3) ?_
        clear hK K
        repeat (first | (refine wpMix_q (v := ?_) rfl rfl ?_ ?_; rotate_left; (· intro wq hSq; have cq := hSq.cells; go_simp; try (with_reducible rfl)); simp only [Act.put, List.setIfInBounds_toArray, List.set_cons_zero, List.set_cons_succ, List.getElem_toArray, List.getElem_cons_zero, List.getElem_cons_succ]) | (refine wpMix_u rfl rfl ?_; simp only [Act.put, List.setIfInBounds_toArray, List.set_cons_zero, List.set_cons_succ, List.getElem_toArray, List.getElem_cons_zero, List.getElem_cons_succ]))
        refine wpMix_nil ?_
        clear h3 ka kb q0 q1 q2 q3 q4 p0 p1 p2 p3 p4
        by_cases hc0 : c = 0
        · rw [if_neg (by simpa using hc0)] at HF
          subst hc0
          go_wp2_with fail
          exact ⟨⟨j + 1, by omega, by omega, by go_num, HF, HE3⟩, by simp [intOf]; omega⟩
        · rw [if_pos hc0] at HF
          have d : (c != 0) = true := by simpa using hc0
          have e := HF.out
          subst e
          clear hc0
          go_wp2_with fail
          go_ret
          exact ⟨rfl, HE0.out.trans HE3.out⟩
      · have hend : cmpI (l.length : Int) (l'.length : Int) = r := by
          have hF := HF.out
          rw [cmpTL_end _ _ (by
            rcases Nat.lt_or_ge j l.length with h | h
            · right; exact List.drop_of_length_le (by omega)
            · left; exact List.drop_of_length_le (by omega)), List.length_drop, List.length_drop, cmpI_sub _ _ _ hja hjb] at hF
          exact hF
        have HN := Lib.hid hend
        clear hend
        by_cases hla : j < l.length
        · have hlb : ¬ j < l'.length := fun h => hl ⟨hla, h⟩
          clear hl
          go_wp2_with fail
          refine (Ints_ok _ _ _).mono ?_
          rintro e w3 ⟨rfl, rfl⟩
          rw [HN.out]
          go_wp2_with fail
          go_ret
          exact ⟨rfl, HE0.out.trans HE.out⟩
        · clear hl
          go_wp2_with fail
          refine (Ints_ok _ _ _).mono ?_
          rintro e w3 ⟨rfl, rfl⟩
          rw [HN.out]
          go_wp2_with fail
          go_ret
          exact ⟨rfl, HE0.out.trans HE.out⟩
set_option maxRecDepth 20000 in
set_option maxHeartbeats 4000000 in
theorem cmp_k5 (i i' : Int) (s s' : ByteArray) (l l' : List Tr) (ns ns' : List ByteArray) (ds ds' : List Tr) (la da la' da' : Option Addr) (lc dc lc' dc' : Nat) (w : World) (hln : ns.length = ds.length) (hln' : ns'.length = ds'.length) (hc1 : ds.length ≤ dc) (hc2 : dc ≤ maxLen) (hc1' : ds'.length ≤ dc') (hc2' : dc' ≤ maxLen) (hL : DRep w da 0 ns ds) (hL' : DRep w da' 0 ns' ds') (ih : ∀ t ∈ ds, CmpOk t) :
    Calls Tryd.prog 33 #[.agg #[.int .i64 5, .int .i64 i, .string s, .slice la l.length lc, .slice da ds.length dc], .agg #[.int .i64 5, .int .i64 i', .string s', .slice la' l'.length lc', .slice da' ds'.length dc']] w fun e w' => e = .returned (.int .i64 (cmpTD ns ds ns' ds')) ∧ Ext w w' := by
  unfold maxLen at hc2 hc2'
  have HL := Lib.hid hL
  have HL' := Lib.hid hL'
  have HIH := Lib.hid ih
  clear hL hL' ih
  obtain ⟨r, hr⟩ : ∃ r, cmpTD ns ds ns' ds' = r := ⟨_, rfl⟩
  rw [hr]
  have HR := Lib.hid hr
  clear hr
  go_enter Tryd.func33, Tryd.ntmps33
  go_wp2_with fail
  obtain ⟨w0, hw0⟩ : ∃ W, (w.alloc (.cells #[.int .i64 5, .int .i64 i, .string s, .slice la l.length lc, .slice da ds.length dc] 41)).alloc (.cells #[.int .i64 5, .int .i64 i', .string s', .slice la' l'.length lc', .slice da' ds'.length dc'] 41) = W := ⟨_, rfl⟩
  have hA1 : w0.heap[w.heap.size]? = some (.cells #[.int .i64 5, .int .i64 i, .string s, .slice la l.length lc, .slice da ds.length dc] 41 (0, 0)) := by rw [← hw0]; exact blk_at0 w _ |> fun h => blk_alloc h _
  have hA2 : w0.heap[w.heap.size + 1]? = some (.cells #[.int .i64 5, .int .i64 i', .string s', .slice la' l'.length lc', .slice da' ds'.length dc'] 41 (0, 0)) := by rw [← hw0]; exact blk_at1 w _ _
  have hE0 : Ext w w0 := by rw [← hw0]; exact ((Ext.refl w).alloc _).alloc _
  have HA1 := Lib.hid hA1
  have HA2 := Lib.hid hA2
  have HE0 := Lib.hid hE0
  clear hA1 hA2 hE0
  rw [hw0]
  clear hw0
  go_loopw [7] (fun x wr => ∃ j : Nat, j ≤ ds.length ∧ j ≤ ds'.length ∧ x = .int .i64 j ∧ Hid (cmpTD (ns.drop j) (ds.drop j) (ns'.drop j) (ds'.drop j) = r) ∧ Hid (Ext w0 wr)) (fun x _ => ds.length - (intOf x).toNat)
  case atStart => exact ⟨0, by omega, by omega, rfl, HR, Ext.refl _⟩
  case round =>
      obtain ⟨j, hja, hjb, rfl, HF, HE⟩ := hrel
      have ka := blk_cell (blk_ext HA1.out HE.out)
      have kb := blk_cell (blk_ext HA2.out HE.out)
      have sa := blk_lt (blk_ext HA1.out HE.out)
      have sb := blk_lt (blk_ext HA2.out HE.out)
      by_cases hl : j < ds.length ∧ j < ds'.length
      · obtain ⟨hla, hlb⟩ := hl
        have hF := HF.out
        rw [List.drop_eq_getElem_cons hla, List.drop_eq_getElem_cons hlb, List.drop_eq_getElem_cons (show j < ns.length by omega), List.drop_eq_getElem_cons (show j < ns'.length by omega)] at hF
        simp only [cmpTD] at hF
        obtain ⟨bb, off, c0, c1, c2, c3, c4, rfl, hnm, en, e0, e1, e2, e3, e4, hv⟩ := DRep.at_ ns ds 0 j (ns[j]'(by omega)) ds[j] HL.out (List.getElem?_eq_getElem (by omega)) (List.getElem?_eq_getElem hla)
        obtain ⟨k1, i1, s1, la1, ln1, lc1, da1, dn1, dc1, rfl, rfl, rfl, rfl, rfl⟩ := hv.shape5
        obtain ⟨bb', off', c0, c1, c2, c3, c4, rfl, hnm', en', e0', e1', e2', e3', e4', hv'⟩ := DRep.at_ ns' ds' 0 j (ns'[j]'(by omega)) ds'[j] HL'.out (List.getElem?_eq_getElem (by omega)) (List.getElem?_eq_getElem hlb)
        obtain ⟨k2, i2, s2, la2, ln2, lc2, da2, dn2, dc2, rfl, rfl, rfl, rfl, rfl⟩ := hv'.shape5
        have qn := (HE0.out.trans HE.out).keep en
        have pn := (HE0.out.trans HE.out).keep en'
        rw [Nat.zero_add] at qn pn
        have hEr := HE0.out.trans HE.out
        have q0 := hEr.keep e0
        have q1 := hEr.keep e1
        have q2 := hEr.keep e2
        have q3 := hEr.keep e3
        have q4 := hEr.keep e4
        have p0 := hEr.keep e0'
        have p1 := hEr.keep e1'
        have p2 := hEr.keep e2'
        have p3 := hEr.keep e3'
        have p4 := hEr.keep e4'
        rw [Nat.zero_add] at q0 q1 q2 q3 q4 p0 p1 p2 p3 p4
        have hbl : bb < wr.heap.size := World.block_lt_of_cell? _ _ q0
        have hbl' : bb' < wr.heap.size := World.block_lt_of_cell? _ _ p0
        have HV := Lib.hid (VRep.ext hEr _ _ hv)
        have HV' := Lib.hid (VRep.ext hEr _ _ hv')
        clear e0 e1 e2 e3 e4 hv e0' e1' e2' e3' e4' hv' hEr HF en en'
        have hmem : ds[j] ∈ ds := List.getElem_mem hla
        obtain ⟨x, hx⟩ : ∃ x, ds[j] = x := ⟨_, rfl⟩
        obtain ⟨y, hy⟩ : ∃ y, ds'[j] = y := ⟨_, rfl⟩
        obtain ⟨nx, hnx⟩ : ∃ x, ns[j]'(by omega) = x := ⟨_, rfl⟩
        obtain ⟨ny, hny⟩ : ∃ x, ns'[j]'(by omega) = x := ⟨_, rfl⟩
        rw [hx] at hF hmem HV
        rw [hy] at hF HV'
        rw [hnx] at hF hnm qn
        rw [hny] at hF hnm' pn
        obtain ⟨cn, hcn⟩ : ∃ c, cmpS nx.data.toList ny.data.toList = c := ⟨_, rfl⟩
        obtain ⟨cv, hcv⟩ : ∃ c, cmpT x y = c := ⟨_, rfl⟩
        rw [hcn, hcv] at hF
        have HCn := Lib.hid hcn
        have HC := Lib.hid hcv
        have HF := Lib.hid hF
        clear hcv hcn hF hx hy hnx hny
        go_wp2_with fail
        refine wp_region_mix (Ext wr) [(true, 0), (true, 1), (true, 2), (true, 3), (true, 4), (true, 5), (true, 6), (true, 7), (true, 8), (true, 9), (true, 10), (true, 11), (false, 12), (true, 13)] (by kernel_rfl) (by kernel_rfl) (by kernel_rfl) (by kernel_rfl) ?hS ?_
        case hS => exact (Ext.refl _).drew
        repeat (first | (refine wpMix_q (v := ?_) rfl rfl ?_ ?_; rotate_left; (· intro wq hSq; have cq := hSq.cells; go_simp; try (with_reducible rfl)); simp only [Act.put, List.setIfInBounds_toArray, List.set_cons_zero, List.set_cons_succ, List.getElem_toArray, List.getElem_cons_zero, List.getElem_cons_succ]) | (refine wpMix_u rfl rfl ?_; simp only [Act.put, List.setIfInBounds_toArray, List.set_cons_zero, List.set_cons_succ, List.getElem_toArray, List.getElem_cons_zero, List.getElem_cons_succ]))
        refine wpMix_l rfl rfl (fun K hK => ?_)
        go_simp
        refine (Texts_ok nx ny _ hnm hnm').mono ?_
        rintro e w3 ⟨rfl, h3⟩
        rw [HCn.out]
        have hR3 : Ext wr w3 := (Ext.refl _).drew.trans h3
        have HR3 := Lib.hid hR3
        have HE3 := Lib.hid (HE.out.trans hR3)
        refine hK _ _ hR3 ?_
        clear hK K
        repeat (first | (refine wpMix_q (v := ?_) rfl rfl ?_ ?_; rotate_left; (· intro wq hSq; have cq := hSq.cells; go_simp; try (with_reducible rfl)); simp only [Act.put, List.setIfInBounds_toArray, List.set_cons_zero, List.set_cons_succ, List.getElem_toArray, List.getElem_cons_zero, List.getElem_cons_succ]) | (refine wpMix_u rfl rfl ?_; simp only [Act.put, List.setIfInBounds_toArray, List.set_cons_zero, List.set_cons_succ, List.getElem_toArray, List.getElem_cons_zero, List.getElem_cons_succ]))
        refine wpMix_nil ?_
        have HV := Lib.hid (VRep.ext hR3 _ _ HV.out)
        have HV' := Lib.hid (VRep.ext hR3 _ _ HV'.out)
        have ka := blk_cell (blk_ext HA1.out HE3.out)
        have kb := blk_cell (blk_ext HA2.out HE3.out)
        have sa := blk_lt (blk_ext HA1.out HE3.out)
        have sb := blk_lt (blk_ext HA2.out HE3.out)
        have q0 := hR3.keep q0
        have q1 := hR3.keep q1
        have q2 := hR3.keep q2
        have q3 := hR3.keep q3
        have q4 := hR3.keep q4
        have p0 := hR3.keep p0
        have p1 := hR3.keep p1
        have p2 := hR3.keep p2
        have p3 := hR3.keep p3
        have p4 := hR3.keep p4
        have hbl : bb < w3.heap.size := World.block_lt_of_cell? _ _ q0
        have hbl' : bb' < w3.heap.size := World.block_lt_of_cell? _ _ p0
        clear hR3 h3 qn pn
        by_cases hn0 : cn = 0
        case neg =>
          rw [if_pos hn0] at HF
          have d : (cn != 0) = true := by simpa using hn0
          have d' : (cn == 0) = false := beq_eq_false_iff_ne.2 hn0
          have e := HF.out
          subst e
          clear hn0
          go_wp2_with fail
          go_ret
          exact ⟨rfl, HE0.out.trans HE3.out⟩
        rw [if_neg (by simpa using hn0)] at HF
        subst hn0
        go_wp2_with fail
        refine wp_region_mix (Ext w3) [(true, 0), (true, 1), (true, 2), (true, 3), (true, 4), (true, 5), (true, 6), (true, 7), (true, 8), (true, 9), (true, 10), (true, 11), (false, 12), (true, 13)] (by kernel_rfl) (by kernel_rfl) (by kernel_rfl) (by kernel_rfl) ?hS ?_
        case hS => exact (Ext.refl _).drew
        repeat (first | (refine wpMix_q (v := ?_) rfl rfl ?_ ?_; rotate_left; (· intro wq hSq; have cq := hSq.cells; go_simp; try (with_reducible rfl)); simp only [Act.put, List.setIfInBounds_toArray, List.set_cons_zero, List.set_cons_succ, List.getElem_toArray, List.getElem_cons_zero, List.getElem_cons_succ]) | (refine wpMix_u rfl rfl ?_; simp only [Act.put, List.setIfInBounds_toArray, List.set_cons_zero, List.set_cons_succ, List.getElem_toArray, List.getElem_cons_zero, List.getElem_cons_succ]))
        refine wpMix_l rfl rfl (fun K hK => ?_)
        go_simp
        refine (HIH.out x hmem y _ _ _ (VRep.ext (Ext.refl _).drew _ _ HV.out) (VRep.ext (Ext.refl _).drew _ _ HV'.out)).mono ?_
        rintro e w5 ⟨rfl, h5⟩
        rw [HC.out]
        have HE5 := Lib.hid (HE3.out.trans ((Ext.refl _).drew.trans h5))
        refine hK _ _ ((Ext.refl _).drew.trans h5) ?_
        clear hK K
        repeat (first | (refine wpMix_q (v := ?_) rfl rfl ?_ ?_; rotate_left; (· intro wq hSq; have cq := hSq.cells; go_simp; try (with_reducible rfl)); simp only [Act.put, List.setIfInBounds_toArray, List.set_cons_zero, List.set_cons_succ, List.getElem_toArray, List.getElem_cons_zero, List.getElem_cons_succ]) | (refine wpMix_u rfl rfl ?_; simp only [Act.put, List.setIfInBounds_toArray, List.set_cons_zero, List.set_cons_succ, List.getElem_toArray, List.getElem_cons_zero, List.getElem_cons_succ]))
        refine wpMix_nil ?_
        clear h5 ka kb q0 q1 q2 q3 q4 p0 p1 p2 p3 p4
        by_cases hv0 : cv = 0
        · rw [if_neg (by simpa using hv0)] at HF
          subst hv0
          go_wp2_with fail
          exact ⟨⟨j + 1, by omega, by omega, by go_num, HF, HE5⟩, by simp [intOf]; omega⟩
        · rw [if_pos hv0] at HF
          have d : (cv != 0) = true := by simpa using hv0
          have e := HF.out
          subst e
          clear hv0
          go_wp2_with fail
          go_ret
          exact ⟨rfl, HE0.out.trans HE5.out⟩
      · have hend : cmpI (ds.length : Int) (ds'.length : Int) = r := by
          have hF := HF.out
          rw [cmpTD_end _ _ _ _ (by
            rcases Nat.lt_or_ge j ds.length with h | h
            · right; exact List.drop_of_length_le (by omega)
            · left; exact List.drop_of_length_le (by omega)), List.length_drop, List.length_drop, cmpI_sub _ _ _ hja hjb] at hF
          exact hF
        have HN := Lib.hid hend
        clear hend
        by_cases hla : j < ds.length
        · have hlb : ¬ j < ds'.length := fun h => hl ⟨hla, h⟩
          clear hl
          go_wp2_with fail
          refine (Ints_ok _ _ _).mono ?_
          rintro e w3 ⟨rfl, rfl⟩
          rw [HN.out]
          go_wp2_with fail
          go_ret
          exact ⟨rfl, HE0.out.trans HE.out⟩
        · clear hl
          go_wp2_with fail
          refine (Ints_ok _ _ _).mono ?_
          rintro e w3 ⟨rfl, rfl⟩
          rw [HN.out]
          go_wp2_with fail
          go_ret
          exact ⟨rfl, HE0.out.trans HE.out⟩
theorem cmp_ok (t : Tr) : CmpOk t := by
  have : ∀ n (t : Tr), t.sz = n → CmpOk t := by
    intro n
    induction n using Nat.strongRecOn with
    | _ n ih =>
      intro t ht u v v' w hV hV'
      obtain ⟨k, i, s, l, ns, ds⟩ := t
      obtain ⟨k', i', s', l', ns', ds'⟩ := u
      unfold VRep at hV hV'
      obtain ⟨la, lc, da, dc, rfl, ⟨hs, hk, hi⟩, hl1, hl2, hd1, hd2, hnd, hL, hD⟩ := hV
      obtain ⟨la', lc', da', dc', rfl, ⟨hs', hk', hi'⟩, hl1', hl2', hd1', hd2', hnd', hL', hD'⟩ := hV'
      have ih2 : ∀ t, t ∈ l ∨ t ∈ ds → CmpOk t := fun t h => ih t.sz (by rw [← ht]; rcases h with h | h; exact Tr.sz_list h; exact Tr.sz_docs h) t rfl
      simp only [cmpT]
      by_cases hk : k = k'
      case neg => rw [if_pos hk]; exact cmp_ne k k' i i' s s' l l' ns ns' ds ds' la da la' da' lc dc lc' dc' w hk
      subst hk
      rw [if_neg (show ¬ k ≠ k by simp)]
      by_cases c3 : k = 3 ∨ k = 9 ∨ k = 10
      · rw [if_pos c3]
        rcases c3 with rfl | rfl | rfl
        · exact cmp_k3 i i' s s' l l' ns ns' ds ds' la da la' da' lc dc lc' dc' w
        · exact cmp_k9 i i' s s' l l' ns ns' ds ds' la da la' da' lc dc lc' dc' w
        · exact cmp_k10 i i' s s' l l' ns ns' ds ds' la da la' da' lc dc lc' dc' w
      rw [if_neg c3]
      by_cases c4 : k = 4 ∨ k = 7 ∨ k = 8
      · rw [if_pos c4]
        rcases c4 with rfl | rfl | rfl
        · exact cmp_k4 i i' s s' l l' ns ns' ds ds' la da la' da' lc dc lc' dc' w hs hs'
        · exact cmp_k7 i i' s s' l l' ns ns' ds ds' la da la' da' lc dc lc' dc' w hs hs'
        · exact cmp_k8 i i' s s' l l' ns ns' ds ds' la da la' da' lc dc lc' dc' w hs hs'
      rw [if_neg c4]
      by_cases c6 : k = 6
      · rw [if_pos c6]; subst c6
        exact cmp_k6 i i' s s' l l' ns ns' ds ds' la da la' da' lc dc lc' dc' w hl1.1 hl2 hl1'.1 hl2' hL hL' (fun t h => ih2 t (.inl h))
      rw [if_neg c6]
      by_cases c5 : k = 5
      · rw [if_pos c5]; subst c5
        exact cmp_k5 i i' s s' l l' ns ns' ds ds' la da la' da' lc dc lc' dc' w hnd hnd' hd1.1 hd2 hd1'.1 hd2' hD hD' (fun t h => ih2 t (.inr h))
      rw [if_neg c5]
      exact cmp_kx k i i' s s' l l' ns ns' ds ds' la da la' da' lc dc lc' dc' w ⟨by omega, by omega, by omega, by omega, by omega, by omega, c6, c5⟩
  exact this _ t rfl
set_option maxRecDepth 20000 in
set_option maxHeartbeats 4000000 in
theorem lcmp_ok (a b : List Tr) (ds : List Bool) (la lb da : Option Addr) (ca cb dc : Nat) (w : World) (hLa : LRep w la 0 a) (hLb : LRep w lb 0 b) (hD : BRep w da ds) (h1 : a.length = ds.length) (h2 : b.length = ds.length) (hca : a.length ≤ ca) (hca2 : ca ≤ maxLen) (hcb : b.length ≤ cb) (hcb2 : cb ≤ maxLen) (hdc : ds.length ≤ dc) (hdc2 : dc ≤ maxLen) :
    Calls Tryd.prog 20 #[.slice la a.length ca, .slice lb b.length cb, .slice da ds.length dc] w fun e w' => e = .returned (.int .i64 (cmpK a b ds)) ∧ Ext w w' := by
  unfold maxLen at hca2 hcb2 hdc2
  have HA := Lib.hid hLa
  have HB := Lib.hid hLb
  have HD := Lib.hid hD
  clear hLa hLb hD
  obtain ⟨r, hr⟩ : ∃ r, cmpK a b ds = r := ⟨_, rfl⟩
  rw [hr]
  have HR := Lib.hid hr
  clear hr
  have H1 := Lib.hid h1
  have H2 := Lib.hid h2
  have hab : a.length ≤ b.length := by omega
  have had : a.length ≤ ds.length := by omega
  clear h1 h2
  go_enter Tryd.func20, Tryd.ntmps20
  go_wp2_with fail
  go_loopw [11] (fun x wr => ∃ j : Nat, j ≤ a.length ∧ x = .int .i64 j ∧ Hid (cmpK (a.drop j) (b.drop j) (ds.drop j) = r) ∧ Hid (Ext w wr)) (fun x _ => a.length - (intOf x).toNat)
  case atStart => exact ⟨0, by omega, rfl, HR, Ext.refl _⟩
  case round =>
    obtain ⟨j, hj, rfl, HF, HE⟩ := hrel
    by_cases hla : j < a.length
    · have hlb : j < b.length := by omega
      have hld : j < ds.length := by omega
      have hF := HF.out
      rw [List.drop_eq_getElem_cons hla, List.drop_eq_getElem_cons hlb, List.drop_eq_getElem_cons hld] at hF
      simp only [cmpK] at hF
      obtain ⟨dd, hdd⟩ : ∃ d, ds[j] = d := ⟨_, rfl⟩
      obtain ⟨db, doff, rfl, hdcl⟩ := HD.out j dd (by rw [← hdd]; exact List.getElem?_eq_getElem hld)
      rw [hdd] at hF
      obtain ⟨bb, off, c0, c1, c2, c3, c4, rfl, e0, e1, e2, e3, e4, hv⟩ := LRep.at_ a 0 j a[j] HA.out (List.getElem?_eq_getElem hla)
      obtain ⟨k1, i1, s1, la1, ln1, lc1, da1, dn1, dc1, rfl, rfl, rfl, rfl, rfl⟩ := hv.shape5
      obtain ⟨bb', off', c0, c1, c2, c3, c4, rfl, e0', e1', e2', e3', e4', hv'⟩ := LRep.at_ b 0 j b[j] HB.out (List.getElem?_eq_getElem hlb)
      obtain ⟨k2, i2, s2, la2, ln2, lc2, da2, dn2, dc2, rfl, rfl, rfl, rfl, rfl⟩ := hv'.shape5
      have hEr := HE.out
      have q0 := hEr.keep e0
      have q1 := hEr.keep e1
      have q2 := hEr.keep e2
      have q3 := hEr.keep e3
      have q4 := hEr.keep e4
      have p0 := hEr.keep e0'
      have p1 := hEr.keep e1'
      have p2 := hEr.keep e2'
      have p3 := hEr.keep e3'
      have p4 := hEr.keep e4'
      rw [Nat.zero_add] at q0 q1 q2 q3 q4 p0 p1 p2 p3 p4
      have hbl : bb < wr.heap.size := World.block_lt_of_cell? _ _ q0
      have hbl' : bb' < wr.heap.size := World.block_lt_of_cell? _ _ p0
      have HV := Lib.hid (VRep.ext hEr _ _ hv)
      have HV' := Lib.hid (VRep.ext hEr _ _ hv')
      clear e0 e1 e2 e3 e4 hv e0' e1' e2' e3' e4' hv' HF
      obtain ⟨x, hx⟩ : ∃ x, a[j] = x := ⟨_, rfl⟩
      obtain ⟨y, hy⟩ : ∃ y, b[j] = y := ⟨_, rfl⟩
      rw [hx] at hF HV
      rw [hy] at hF HV'
      have hrg := cmp_rng (t := x) (u := y)
      obtain ⟨c, hc⟩ : ∃ c, cmpT x y = c := ⟨_, rfl⟩
      rw [hc] at hF hrg
      have HC := Lib.hid hc
      have HF := Lib.hid hF
      have HDC := Lib.hid (hEr.keep hdcl)
      clear hc hF hx hy hdd hdcl hEr
      go_wp2_with fail
      refine wp_region_mix (Ext wr) [(true, 0), (true, 1), (true, 2), (true, 3), (true, 4), (true, 5), (true, 6), (true, 7), (false, 8), (true, 9)] (by kernel_rfl) (by kernel_rfl) (by kernel_rfl) (by kernel_rfl) ?hS ?_
      case hS => exact (Ext.refl _).drew
      repeat (first | (refine wpMix_q (v := ?_) rfl rfl ?_ ?_; rotate_left; (· intro wq hSq; have cq := hSq.cells; go_simp; try (with_reducible rfl)); simp only [Act.put, List.setIfInBounds_toArray, List.set_cons_zero, List.set_cons_succ, List.getElem_toArray, List.getElem_cons_zero, List.getElem_cons_succ]) | (refine wpMix_u rfl rfl ?_; simp only [Act.put, List.setIfInBounds_toArray, List.set_cons_zero, List.set_cons_succ, List.getElem_toArray, List.getElem_cons_zero, List.getElem_cons_succ]))
      refine wpMix_l rfl rfl (fun K hK => ?_)
      go_simp
      refine (cmp_ok x y _ _ _ (VRep.ext (Ext.refl _).drew _ _ HV.out) (VRep.ext (Ext.refl _).drew _ _ HV'.out)).mono ?_
      rintro e w3 ⟨rfl, h3⟩
      rw [HC.out]
      have hR3 : Ext wr w3 := (Ext.refl _).drew.trans h3
      have HE3 := Lib.hid (HE.out.trans hR3)
      have hdc3 := hR3.keep HDC.out
      refine hK _ _ hR3 ?_
      clear hK K
      repeat (first | (refine wpMix_q (v := ?_) rfl rfl ?_ ?_; rotate_left; (· intro wq hSq; have cq := hSq.cells; go_simp; try (with_reducible rfl)); simp only [Act.put, List.setIfInBounds_toArray, List.set_cons_zero, List.set_cons_succ, List.getElem_toArray, List.getElem_cons_zero, List.getElem_cons_succ]) | (refine wpMix_u rfl rfl ?_; simp only [Act.put, List.setIfInBounds_toArray, List.set_cons_zero, List.set_cons_succ, List.getElem_toArray, List.getElem_cons_zero, List.getElem_cons_succ]))
      refine wpMix_nil ?_
      clear h3 hR3 q0 q1 q2 q3 q4 p0 p1 p2 p3 p4
      by_cases hc0 : c = 0
      · rw [if_neg (by simpa using hc0)] at HF
        subst hc0
        go_wp2_with fail
        exact ⟨⟨j + 1, by omega, by go_num, HF, HE3⟩, by simp [intOf]; omega⟩
      · rw [if_pos hc0] at HF
        have d : (c != 0) = true := by simpa using hc0
        have hng := wrap_i64_val (-c) (by omega) (by omega)
        clear hc0
        cases dd
        · have e : c = r := HF.out
          subst e
          go_wp2_with fail
          go_ret
          exact ⟨rfl, HE3.out⟩
        · have e : -c = r := HF.out
          subst e
          go_wp2_with fail
          go_ret
          exact ⟨rfl, HE3.out⟩
    · have hj2 : j = a.length := by omega
      subst hj2
      have hF := HF.out
      rw [List.drop_length] at hF
      have hr : r = 0 := by rw [← hF]; simp [cmpK]
      subst hr
      go_wp2_with fail
      go_ret
      exact ⟨rfl, HE.out⟩
set_option maxRecDepth 20000 in
set_option maxHeartbeats 4000000 in
theorem order_walk (a b : List Tr) (ds : List Bool) (la lb da : Option Addr) (ca cb dc : Nat) (w : World) (hLa : LRep w la 0 a) (hLb : LRep w lb 0 b) (hD : BRep w da ds) (hca : a.length ≤ ca) (hca2 : ca ≤ maxLen) (hcb : b.length ≤ cb) (hcb2 : cb ≤ maxLen) (hdc : ds.length ≤ dc) (hdc2 : dc ≤ maxLen) (hT : Tabs w) :
    Calls Tryd.prog 8 #[.slice la a.length ca, .slice lb b.length cb, .slice da ds.length dc] w fun e w' => e = .returned (.bool true) ∧ Ext w w' := by
  have HT := Lib.hid hT
  have HD := Lib.hid hD
  have HA := Lib.hid hLa
  have HB := Lib.hid hLb
  have MA := Lib.hid hca2
  have MB := Lib.hid hcb2
  have MD := Lib.hid hdc2
  clear hT hD hLa hLb
  unfold maxLen at hca2 hcb2 hdc2
  obtain ⟨fa, hfa⟩ : ∃ x, fitsB a ds = x := ⟨_, rfl⟩
  obtain ⟨fb, hfb⟩ : ∃ x, fitsB b ds = x := ⟨_, rfl⟩
  have HFa := Lib.hid hfa
  have HFb := Lib.hid hfb
  go_enter Tryd.func8, Tryd.ntmps8
  go_wp2_with fail
  refine (fits_ok a ds la da ca dc _ HA.out hca MA.out hdc MD.out).mono ?_
  rw [HFa.out]
  rintro e w1 ⟨rfl, h1⟩
  have HE1 := Lib.hid h1
  clear h1
  cases fa
  · clear hfa hfb
    go_wp2_with fail
    refine (awake_ok _ (HT.out.ext HE1.out)).mono ?_
    rintro e w2 ⟨rfl, h2⟩
    go_wp2_with fail
    go_ret
    exact ⟨rfl, HE1.out.trans h2⟩
  go_wp2_with fail
  refine (fits_ok b ds lb da cb dc _ (LRep.ext HE1.out _ _ _ HB.out) hcb MB.out hdc MD.out).mono ?_
  rw [HFb.out]
  rintro e w2 ⟨rfl, h2⟩
  have HE2 := Lib.hid (HE1.out.trans h2)
  clear h2
  cases fb
  · clear hfa hfb
    go_wp2_with fail
    refine (awake_ok _ (HT.out.ext HE2.out)).mono ?_
    rintro e w3 ⟨rfl, h3⟩
    go_wp2_with fail
    go_ret
    exact ⟨rfl, HE2.out.trans h3⟩
  obtain ⟨la1, la40, laa⟩ := fits_parts hfa
  obtain ⟨lb1, lb40, lba⟩ := fits_parts hfb
  have oa : ∀ t ∈ a, t.Ok ∧ allowB t = true := fun t ht => ⟨Tr.OkL_mem (LRep.trok _ _ _ HA.out) t ht, laa t ht⟩
  have ob : ∀ t ∈ b, t.Ok ∧ allowB t = true := fun t ht => ⟨Tr.OkL_mem (LRep.trok _ _ _ HB.out) t ht, lba t ht⟩
  have hea := (kdec_back a ds la1 oa).1
  have heb := (kdec_back b ds lb1 ob).1
  have hdif := (kencs_dif a b ds la1 lb1 oa ob).cmp
  obtain ⟨sa, hsa⟩ : ∃ s : ByteArray, ⟨(kencs a ds).toArray⟩ = s := ⟨_, rfl⟩
  obtain ⟨sb, hsb⟩ : ∃ s : ByteArray, ⟨(kencs b ds).toArray⟩ = s := ⟨_, rfl⟩
  have ea : sa.data.toList = kencs a ds := by rw [← hsa]
  have eb : sb.data.toList = kencs b ds := by rw [← hsb]
  rw [← ea, ← eb] at hdif
  rw [hsa] at hea
  rw [hsb] at heb
  obtain ⟨c, hc⟩ : ∃ c, cmpK a b ds = c := ⟨_, rfl⟩
  rw [hc] at hdif
  have HEa := Lib.hid hea
  have HEb := Lib.hid heb
  have HDf := Lib.hid hdif
  have HC := Lib.hid hc
  have L1 := Lib.hid la1
  have L2 := Lib.hid lb1
  clear hea heb hdif hc hsa hsb ea eb oa ob laa lba la1 lb1 hfa hfb
  go_wp2_with fail
  refine (Encode_ok a ds la da ca dc _ (LRep.ext HE2.out _ _ _ HA.out) hca MA.out (HD.out.ext HE2.out) hdc MD.out la40 (HT.out.ext HE2.out)).mono ?_
  rw [HEa.out]
  rintro e w3 ⟨rfl, h3⟩
  have HE3 := Lib.hid (HE2.out.trans h3)
  clear h3
  go_wp2_with fail
  refine (Encode_ok b ds lb da cb dc _ (LRep.ext HE3.out _ _ _ HB.out) hcb MB.out (HD.out.ext HE3.out) hdc MD.out lb40 (HT.out.ext HE3.out)).mono ?_
  rw [HEb.out]
  rintro e w4 ⟨rfl, h4⟩
  have HE4 := Lib.hid (HE3.out.trans h4)
  clear h4
  go_wp2_with fail
  refine (SCmp_ok sa sb _).mono ?_
  rw [HDf.out]
  rintro e w5 ⟨rfl, rfl⟩
  go_wp2_with fail
  refine (lcmp_ok a b ds la lb da ca cb dc _ (LRep.ext HE4.out _ _ _ HA.out) (LRep.ext HE4.out _ _ _ HB.out) (HD.out.ext HE4.out) L1.out L2.out hca MA.out hcb MB.out hdc MD.out).mono ?_
  rw [HC.out]
  rintro e w6 ⟨rfl, h6⟩
  have HE6 := Lib.hid (HE4.out.trans h6)
  clear h6
  go_wp2_with fail
  refine (awake_ok _ (HT.out.ext HE6.out)).mono ?_
  rintro e w7 ⟨rfl, h7⟩
  go_wp2_with fail
  go_ret
  exact ⟨rfl, HE6.out.trans h7⟩
end Go.Proofs.YtipphlhaaienpaaDoor
set_option linter.unusedSimpArgs false
set_option linter.unusedVariables false
namespace Go.Proofs.YtipphlhaaienpaaDoor.keyencOrder
open Go.ChangeShapes Go.WideShapes Go.ChangeAt Go.RowKit

/-- What the walk gives, for every argument and every world. -/
theorem contract (H : Type) (enc : TypeId × Value → H) (W : World) (base : Nat) (args : Array Value) (ds gs : List (DataW H)) (before : List MemPlace)
    (hval : ∀ (j : Nat) t v, Tryd.f8.params[j]? = some t → args[j]? = some v → Value.okWide Tryd.prog W .any base t v)
    (hW : DataW.Whole enc Tryd.prog Tryd.f8.params.toList Rows.keyencOrderSpec.vars false W args.toList ds gs before) (_hL : laidMetH Tryd.prog Rows.keyencOrderRow.laid W) (hWt : (DataW.weightsEach Tryd.prog (Tryd.f8.params.toList ++ (OpenSpec.ofChange Rows.keyencOrderSpec).bare.plain.varTypes Tryd.prog) (ds ++ gs)).all (· ≤ reachBytes) = true) :
    Calls Tryd.prog 8 args W fun e W' => ∃ v, e = .returned v ∧ Rows.keyencOrderSpec.post enc Tryd.prog Tryd.f8 false true false false W args v W' := by
  have hW' := hW
  obtain ⟨p, q, hA0, hV, rfl, hfz, hnd⟩ := hW
  have hA : DataW.TrodAll enc Tryd.prog W 0 (fun _ => true) true Tryd.f8.params.toList args.toList ds p := hA0
  rw [Tryd.params8] at hA hval hWt
  obtain ⟨v0, vs0, d0, ds0, p0, q0, hargs, rfl, rfl, h0, r0⟩ := trodAll_cons hA
  obtain ⟨v1, vs1, d1, ds1, p1, q1, rfl, rfl, rfl, h1, r1⟩ := trodAll_cons r0
  obtain ⟨v2, vs2, d2, ds2, p2, q2, rfl, rfl, rfl, h2, r2⟩ := trodAll_cons r1
  obtain ⟨rfl, rfl, rfl⟩ := trodAll_nil r2
  obtain rfl : args = #[v0, v1, v2] := by cases args; simp_all
  obtain ⟨rfl, rfl⟩ := trodVars_none hV
  clear hA0 hargs
  suffices walk : Calls Tryd.prog 8 #[v0, v1, v2] W fun e W' => e = .returned (.bool true) ∧ Ext W W' by
    refine walk.mono fun e W' ⟨he, hg⟩ => ?_
    subst he
    exact ⟨_, rfl, law_post (by kernel_rfl) (by kernel_rfl) rfl rfl Tryd.underlying4 hW' rfl hg⟩
  have hT : Tabs W := tabs_of_laid _hL
  obtain ⟨a0, c0, ts0, rfl, hc01, hc02, hL0⟩ := lrep_arg (hval 0 22 v0 rfl rfl) h0 (fun n hn => by
    have := List.all_eq_true.1 hWt n (by simp [DataW.weightsEach, hn])
    exact of_decide_eq_true this)
  obtain ⟨a1, c1, ts1, rfl, hc11, hc12, hL1⟩ := lrep_arg (hval 1 22 v1 rfl rfl) h1 (fun n hn => by
    have := List.all_eq_true.1 hWt n (by simp [DataW.weightsEach, hn])
    exact of_decide_eq_true this)
  obtain ⟨a2, ds2, c2, rfl, hc21, hc22, hB2⟩ := brep_arg (hval 2 23 v2 rfl rfl) h2
  exact order_walk ts0 ts1 ds2 a0 a1 a2 c0 c1 c2 W hL0 hL1 hB2 hc01.1 hc02 hc11.1 hc12 hc21 hc22 hT

theorem laid_met (os : Os) : laidMet Tryd.prog Rows.keyencOrderRow.laid ((laidWorld os).forCall (fun _ _ => 0) ⟨#[], #[.slice none 0 0, .slice none 0 0, .slice none 0 0], []⟩).memory :=
  laidMet_of_run' 8 (by kernel_rfl) (by kernel_rfl)
theorem reads (os : Os) {H : Type} (enc : TypeId × Value → H) : ∃ places, DataW.whole enc Tryd.prog ((laidWorld os).forCall (fun _ _ => 0) ⟨#[], #[.slice none 0 0, .slice none 0 0, .slice none 0 0], []⟩).memory Tryd.f8.params.toList Rows.keyencOrderSpec.vars false #[.slice none 0 0, .slice none 0 0, .slice none 0 0].toList 8 = some ([.nil, .nil, .nil], [], places) :=
  ⟨[], by kernel_rfl⟩

set_option maxRecDepth 100000 in
theorem lifted (os : Os) (started : os.Started) (H : Type) (enc : TypeId × Value → H) (F : Stop.Interp) :
    ReturnsInHanded {} Tryd.checked os 8 .any ((OpenSpec.ofChange Rows.keyencOrderSpec).preRow enc Tryd.prog Tryd.f8 Rows.keyencOrderRow.domain false Rows.keyencOrderRow.laid) (((OpenSpec.ofChange Rows.keyencOrderSpec).at F).post enc Tryd.prog Tryd.f8 false true false false) := by
  obtain ⟨places, hx⟩ := reads os enc
  refine returnsInHanded_of_row (C := Tryd.checked) (s := OpenSpec.ofChange Rows.keyencOrderSpec) own started (by kernel_rfl) Tryd.func8
    (witness_row_at (enc := enc) (C := Tryd.checked) false (laidWorld os) #[.slice none 0 0, .slice none 0 0, .slice none 0 0] rfl (by kernel_rfl) (by kernel_rfl) (by kernel_rfl)
      (OpenSpec.preRow_of_cond 8 hx (by kernel_rfl) (fun k hk => by cases hk) (by kernel_rfl) (laid_met os))) ?_
  intro W base args ds gs before hval hW _ _ hWt hL _ _
  exact contract H enc W base args ds gs before hval hW hL hWt

theorem said : Rows.KeyencOrderSaid :=
  OpenClaim.holds_of_cond 8 Tryd.f8 rfl rfl rfl rfl rfl rfl rfl ⟨rfl, rfl, rfl, rfl, rfl⟩ rfl rfl rfl rfl rfl (by kernel_rfl) Tryd.func8 (by kernel_rfl)
    (of_decide_eq_true (by kernel_rfl)) (by unfold Func.isWrapper; first | (rw [if_pos (by decide +kernel)]; kernel_rfl) | (rw [if_neg (by decide +kernel)]; exact ⟨rfl, rfl⟩))
    (fun os started H enc _ F => by rw [OpenClaim.pre_eq_preRow]; exact lifted os started H enc F)

theorem plain (f : FuncId) (fn : Func) (hf : Tryd.pinned.checked.prog.funcNamed "docstore/docstorelaw03.KeyencOrder" = some f) (hfn : Tryd.pinned.checked.prog.funcs[f]? = some fn) :
    false = Tryd.pinned.checked.prog.looks [] ∧ ∀ (j : Nat) t, fn.params[j]? = some t → Tryd.pinned.checked.prog.wantsStandIn t = false := by
  obtain rfl : f = 8 := Option.some.inj ((show Tryd.prog.funcNamed "docstore/docstorelaw03.KeyencOrder" = some 8 by kernel_rfl).symm.trans hf) |>.symm
  obtain rfl : fn = Tryd.f8 := (Option.some.inj (Tryd.func8.symm.trans hfn)).symm
  refine ⟨by kernel_rfl, fun j t ht => ?_⟩
  have hall : (Tryd.f8.params.all fun t => !Tryd.prog.wantsStandIn t) = true := by kernel_rfl
  have h1 := Array.all_eq_true'.1 hall t (Array.mem_of_getElem? ht)
  have h2 : Tryd.prog.wantsStandIn t = false := by simpa using h1
  exact h2

/-- The card. -/
theorem card : Rows.KeyencOrderCardSaid :=
  Claim7.holds_tied_plain_at .later [] _ _ _ _ said (fun _ h => by cases h) (by kernel_rfl) (fun _ h => by cases h) keyencOrder_row_tie rfl ⟨rfl, rfl⟩ (by kernel_rfl) rfl plain (by kernel_rfl)
end Go.Proofs.YtipphlhaaienpaaDoor.keyencOrder
