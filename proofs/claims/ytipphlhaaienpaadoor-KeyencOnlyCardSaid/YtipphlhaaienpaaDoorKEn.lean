/- keyenc.allowed, Encode, After; docstoreref03.missing. -/
import Derived.Test.YtipphlhaaienpaaDoorKApp
import Derived.Test.YtipphlhaaienpaaDoorKQ
set_option linter.unusedSimpArgs false
set_option linter.unusedVariables false
namespace Go.Proofs.YtipphlhaaienpaaDoor
open Go.RowKit
theorem kbyte_at' (s : ByteArray) (p : Nat) (h : p < s.size) : s[p] = s.data.toList.getD p 0 := by
  rw [List.getD_eq_getElem?_getD, List.getElem?_eq_getElem (by simpa using h)]
  rfl
theorem zeroB_eq (k i : Int) (s : ByteArray) (l : List Tr) (ns : List ByteArray) (ds : List Tr) : zeroB (.mk k i s l ns ds) = (decide (i = 0) && decide (s.size = 0) && decide (l.length = 0) && decide (ds.length = 0)) := rfl
set_option maxRecDepth 20000 in
set_option maxHeartbeats 2000000 in
theorem allowed_ok (t : Tr) (v : Value) (w : World) (hV : VRep w t v) (hT : Tabs w) : Calls Tryd.prog 21 #[v] w fun e w' => e = .returned (.bool (allowB t)) ∧ Ext w w' := by
  obtain ⟨k, i, s, l, ns, ds⟩ := t
  have HV := Lib.hid hV
  have HT := Lib.hid hT
  unfold VRep at hV
  obtain ⟨la, lc, da, dc, rfl, ⟨hs, hk, hi⟩, ⟨hl1, _⟩, hl2, ⟨hd1, _⟩, hd2, hnd, _, _⟩ := hV
  clear hT
  obtain ⟨r, hr⟩ : ∃ r, allowB (.mk k i s l ns ds) = r := ⟨_, rfl⟩
  rw [hr]
  by_cases hk0 : k = 0
  · subst hk0
    unfold allowB at hr
    rw [if_pos (by rfl), zeroB_eq] at hr
    by_cases hi0 : i = 0
    case neg =>
      have hf : r = false := by rw [← hr]; simp [hi0]
      subst hf
      have d0 : (i == 0) = false := beq_eq_false_iff_ne.2 hi0
      clear hr hi0
      go_enter Tryd.func21, Tryd.ntmps21
      go_wp2_with fail
      go_ret
      exact ⟨rfl, by repeat (first | with_reducible assumption | with_reducible exact Ext.refl _ | with_reducible refine Ext.drew ?_ | with_reducible refine Ext.alloc ?_ _ | ((with_reducible refine Ext.setCell ?_ ?_ _); rotate_left; (· first | exact Nat.le_refl _ | (simp; done) | omega | (simp; omega))))⟩
    subst hi0
    by_cases hz0 : s.size = 0
    case neg =>
      have hf : r = false := by rw [← hr]; simp [hz0]
      subst hf
      have d0 := bytes_some hz0
      clear hr hz0
      go_enter Tryd.func21, Tryd.ntmps21
      go_wp2_with fail
      go_ret
      exact ⟨rfl, by repeat (first | with_reducible assumption | with_reducible exact Ext.refl _ | with_reducible refine Ext.drew ?_ | with_reducible refine Ext.alloc ?_ _ | ((with_reducible refine Ext.setCell ?_ ?_ _); rotate_left; (· first | exact Nat.le_refl _ | (simp; done) | omega | (simp; omega))))⟩
    obtain rfl := bytes_nil hz0
    by_cases hl0 : l.length = 0
    case neg =>
      have hf : r = false := by rw [← hr]; simp [hl0]
      subst hf
      have d0 : ((l.length : Int) == 0) = false := beq_eq_false_iff_ne.2 (by omega)
      clear hr hl0
      go_enter Tryd.func21, Tryd.ntmps21
      go_wp2_with fail
      go_ret
      exact ⟨rfl, by repeat (first | with_reducible assumption | with_reducible exact Ext.refl _ | with_reducible refine Ext.drew ?_ | with_reducible refine Ext.alloc ?_ _ | ((with_reducible refine Ext.setCell ?_ ?_ _); rotate_left; (· first | exact Nat.le_refl _ | (simp; done) | omega | (simp; omega))))⟩
    by_cases hd0 : ds.length = 0
    case neg =>
      have hf : r = false := by rw [← hr]; simp [hd0]
      subst hf
      have d0 : ((ds.length : Int) == 0) = false := beq_eq_false_iff_ne.2 (by omega)
      clear hr hd0
      go_enter Tryd.func21, Tryd.ntmps21
      go_wp2_with fail
      go_ret
      exact ⟨rfl, by repeat (first | with_reducible assumption | with_reducible exact Ext.refl _ | with_reducible refine Ext.drew ?_ | with_reducible refine Ext.alloc ?_ _ | ((with_reducible refine Ext.setCell ?_ ?_ _); rotate_left; (· first | exact Nat.le_refl _ | (simp; done) | omega | (simp; omega))))⟩
    have hf : r = true := by rw [← hr]; simp [hl0, hd0, bytes_e]
    subst hf
    obtain rfl : l = [] := List.eq_nil_of_length_eq_zero hl0
    obtain rfl : ds = [] := List.eq_nil_of_length_eq_zero hd0
    clear hr hl0 hd0
    go_enter Tryd.func21, Tryd.ntmps21
    go_wp2_with fail
    go_ret
    exact ⟨rfl, by repeat (first | with_reducible assumption | with_reducible exact Ext.refl _ | with_reducible refine Ext.drew ?_ | with_reducible refine Ext.alloc ?_ _ | ((with_reducible refine Ext.setCell ?_ ?_ _); rotate_left; (· first | exact Nat.le_refl _ | (simp; done) | omega | (simp; omega))))⟩
  · unfold allowB at hr
    rw [if_neg (by exact hk0)] at hr
    have HR := Lib.hid hr
    have d : (k == 0) = false := beq_eq_false_iff_ne.2 hk0
    clear hr hk0
    go_enter Tryd.func21, Tryd.ntmps21
    go_wp2_with fail
    refine (Valid_ok _ _ _ (VRep.ext ((Ext.refl w).alloc _) _ _ HV.out) (HT.out.ext ((Ext.refl w).alloc _))).mono ?_
    rintro e w1 ⟨rfl, h1⟩
    rw [HR.out]
    go_wp2_with fail
    go_ret
    exact ⟨rfl, h1.of_alloc⟩
set_option maxRecDepth 20000 in
set_option maxHeartbeats 2000000 in
theorem missing_ok (t : Tr) (v : Value) (w : World) (hV : VRep w t v) : Calls Tryd.prog 23 #[v] w fun e w' => e = .returned (.bool (decide (t.kind = 0) && zeroB t)) ∧ Ext w w' := by
  obtain ⟨k, i, s, l, ns, ds⟩ := t
  unfold VRep at hV
  obtain ⟨la, lc, da, dc, rfl, ⟨hs, hk, hi⟩, ⟨hl1, _⟩, hl2, ⟨hd1, _⟩, hd2, hnd, _, _⟩ := hV
  rw [zeroB_eq]
  show Calls _ _ _ _ fun e w' => e = .returned (.bool (decide (k = 0) && _)) ∧ Ext w w'
  obtain ⟨r, hr⟩ : ∃ r, (decide (k = 0) && (decide (i = 0) && decide (s.size = 0) && decide (l.length = 0) && decide (ds.length = 0))) = r := ⟨_, rfl⟩
  rw [hr]
  by_cases hk0 : k = 0
  case neg =>
    have hf : r = false := by rw [← hr]; simp [hk0]
    subst hf
    have d : (k == 0) = false := beq_eq_false_iff_ne.2 hk0
    clear hr hk0
    go_enter Tryd.func23, Tryd.ntmps23
    go_wp2_with fail
    go_ret
    exact ⟨rfl, by repeat (first | with_reducible assumption | with_reducible exact Ext.refl _ | with_reducible refine Ext.drew ?_ | with_reducible refine Ext.alloc ?_ _ | ((with_reducible refine Ext.setCell ?_ ?_ _); rotate_left; (· first | exact Nat.le_refl _ | (simp; done) | omega | (simp; omega))))⟩
  subst hk0
  by_cases hi0 : i = 0
  case neg =>
    have hf : r = false := by rw [← hr]; simp [hi0]
    subst hf
    have d0 : (i == 0) = false := beq_eq_false_iff_ne.2 hi0
    clear hr hi0
    go_enter Tryd.func23, Tryd.ntmps23
    go_wp2_with fail
    go_ret
    exact ⟨rfl, by repeat (first | with_reducible assumption | with_reducible exact Ext.refl _ | with_reducible refine Ext.drew ?_ | with_reducible refine Ext.alloc ?_ _ | ((with_reducible refine Ext.setCell ?_ ?_ _); rotate_left; (· first | exact Nat.le_refl _ | (simp; done) | omega | (simp; omega))))⟩
  subst hi0
  by_cases hz0 : s.size = 0
  case neg =>
    have hf : r = false := by rw [← hr]; simp [hz0]
    subst hf
    have d0 := bytes_some hz0
    clear hr hz0
    go_enter Tryd.func23, Tryd.ntmps23
    go_wp2_with fail
    go_ret
    exact ⟨rfl, by repeat (first | with_reducible assumption | with_reducible exact Ext.refl _ | with_reducible refine Ext.drew ?_ | with_reducible refine Ext.alloc ?_ _ | ((with_reducible refine Ext.setCell ?_ ?_ _); rotate_left; (· first | exact Nat.le_refl _ | (simp; done) | omega | (simp; omega))))⟩
  obtain rfl := bytes_nil hz0
  by_cases hl0 : l.length = 0
  case neg =>
    have hf : r = false := by rw [← hr]; simp [hl0]
    subst hf
    have d0 : ((l.length : Int) == 0) = false := beq_eq_false_iff_ne.2 (by omega)
    clear hr hl0
    go_enter Tryd.func23, Tryd.ntmps23
    go_wp2_with fail
    go_ret
    exact ⟨rfl, by repeat (first | with_reducible assumption | with_reducible exact Ext.refl _ | with_reducible refine Ext.drew ?_ | with_reducible refine Ext.alloc ?_ _ | ((with_reducible refine Ext.setCell ?_ ?_ _); rotate_left; (· first | exact Nat.le_refl _ | (simp; done) | omega | (simp; omega))))⟩
  by_cases hd0 : ds.length = 0
  case neg =>
    have hf : r = false := by rw [← hr]; simp [hd0]
    subst hf
    have d0 : ((ds.length : Int) == 0) = false := beq_eq_false_iff_ne.2 (by omega)
    clear hr hd0
    go_enter Tryd.func23, Tryd.ntmps23
    go_wp2_with fail
    go_ret
    exact ⟨rfl, by repeat (first | with_reducible assumption | with_reducible exact Ext.refl _ | with_reducible refine Ext.drew ?_ | with_reducible refine Ext.alloc ?_ _ | ((with_reducible refine Ext.setCell ?_ ?_ _); rotate_left; (· first | exact Nat.le_refl _ | (simp; done) | omega | (simp; omega))))⟩
  have hf : r = true := by rw [← hr]; simp [hl0, hd0, bytes_e]
  subst hf
  obtain rfl : l = [] := List.eq_nil_of_length_eq_zero hl0
  obtain rfl : ds = [] := List.eq_nil_of_length_eq_zero hd0
  clear hr hl0 hd0
  go_enter Tryd.func23, Tryd.ntmps23
  go_wp2_with fail
  go_ret
  exact ⟨rfl, by repeat (first | with_reducible assumption | with_reducible exact Ext.refl _ | with_reducible refine Ext.drew ?_ | with_reducible refine Ext.alloc ?_ _ | ((with_reducible refine Ext.setCell ?_ ?_ _); rotate_left; (· first | exact Nat.le_refl _ | (simp; done) | omega | (simp; omega))))⟩
/-- After, plain: the length of what is kept, with the last byte raised -/
def aftN (s : ByteArray) : Nat → Nat
  | 0 => 0
  | n + 1 => if s.data.toList.getD n 0 = 255 then aftN s n else n + 1
def aftR (s : ByteArray) : ByteArray × Bool := if aftN s s.size = 0 then (⟨#[]⟩, false) else (⟨(s.data.toList.take (aftN s s.size - 1) ++ [s.data.toList.getD (aftN s s.size - 1) 0 + 1]).toArray⟩, true)
theorem aftN_le (s : ByteArray) (n : Nat) : aftN s n ≤ n := by
  induction n with
  | zero => exact Nat.le_refl _
  | succ n ih => unfold aftN; split <;> omega
theorem aftN_ne (s : ByteArray) (n : Nat) (h : aftN s n ≠ 0) : s.data.toList.getD (aftN s n - 1) 0 ≠ 255 := by
  induction n with
  | zero => exact absurd rfl h
  | succ n ih =>
    unfold aftN at h ⊢
    split
    · rw [if_pos (by assumption)] at h; exact ih h
    · rename_i hx; exact hx
theorem ret_sb {a b : ByteArray} {c d : Bool} (h : (a, c) = (b, d)) : Ending.returned (.tuple #[.string a, .bool c]) = .returned (.tuple #[.string b, .bool d]) := by injection h with h1 h2; rw [h1, h2]
set_option maxRecDepth 20000 in
set_option maxHeartbeats 2000000 in
theorem After_ok (s : ByteArray) (w : World) (hs : s.size ≤ 140737488355327) : Calls Tryd.prog 17 #[.string s] w fun e w' => e = .returned (.tuple #[.string (aftR s).1, .bool (aftR s).2]) ∧ Ext w w' := by
  obtain ⟨r, hr⟩ : ∃ r, aftR s = r := ⟨_, rfl⟩
  rw [hr]
  have HR := Lib.hid hr
  clear hr
  go_enter Tryd.func17, Tryd.ntmps17
  go_wp2_with fail
  go_loopw [4] (fun x wr => ∃ n : Nat, n ≤ s.size ∧ x = .int .i64 n ∧ Hid (aftN s n = aftN s s.size) ∧ wr = w) (fun x _ => (intOf x).toNat)
  case atStart => exact ⟨s.size, Nat.le_refl _, rfl, Lib.hid rfl, rfl⟩
  case round =>
    obtain ⟨n, hn, rfl, HN, rfl⟩ := hrel
    cases n with
    | zero =>
      have e := HR.out
      unfold aftR at e
      have h0 : aftN s s.size = 0 := by rw [← HN.out]; rfl
      rw [if_pos h0] at e
      have HE := Lib.hid e
      clear e h0
      go_wp2_with fail
      go_ret2
      exact ⟨by rw [← HE.out]; rfl, Ext.refl _⟩
    | succ m =>
      have hb := kbyte_at' s m (by omega)
      obtain ⟨b, hb2⟩ : ∃ b, s.data.toList.getD m 0 = b := ⟨_, rfl⟩
      rw [hb2] at hb
      have hbl := b.toNat_lt
      by_cases h255 : b = 255
      · have HN2 : Hid (aftN s m = aftN s s.size) := by
          show _ = _
          rw [← HN.out, aftN, hb2, if_pos h255]
        have d : ((b.toNat : Int) == 255) = true := by rw [h255]; rfl
        have dz : b.toNat = 255 := by rw [h255]; rfl
        have HB2 := Lib.hid hb2
        clear hb2 h255
        go_wp2_with fail
        exact ⟨⟨m, by omega, by go_num, HN2, trivial⟩, by simp [intOf]⟩
      · have hN : aftN s s.size = m + 1 := by rw [← HN.out, aftN, hb2, if_neg h255]
        have d : ((b.toNat : Int) == 255) = false := by
          rw [beq_eq_false_iff_ne]; intro e; exact h255 (UInt8.toNat_inj.1 (by show b.toNat = 255; omega))
        have e := HR.out
        unfold aftR at e
        rw [hN, if_neg (by omega), show m + 1 - 1 = m from rfl, hb2] at e
        have HE := Lib.hid e
        have hne : b.toNat ≠ 255 := fun e => h255 (UInt8.toNat_inj.1 e)
        have hb1 : ((b + 1).toNat : Int) = (b.toNat : Int) + 1 := by rw [UInt8.toNat_add]; have : (1 : UInt8).toNat = 1 := rfl; omega
        have HB1 := Lib.hid hb1
        clear e hN hb2 h255 hb1
        go_wp2_with fail
        have hw1 := wrap_i64_val (m : Int) (by omega) (by omega)
        have hml : m < s.size := by omega
        refine wp_region_mix (fun _ => True) [(true, 0), (true, 1), (true, 2), (true, 3), (true, 4), (true, 5), (true, 6), (true, 7), (true, 8), (false, 9), (false, 10), (true, 11), (true, 12), (true, 13)] (by kernel_rfl) (by kernel_rfl) (by kernel_rfl) (by kernel_rfl) ?hS ?_
        case hS => trivial
        repeat (first | (refine wpMix_q (v := ?_) rfl rfl ?_ ?_; rotate_left; (· intro wq hSq; go_simp; try (with_reducible rfl)); simp only [Act.put, List.setIfInBounds_toArray, List.set_cons_zero, List.set_cons_succ, List.getElem_toArray, List.getElem_cons_zero, List.getElem_cons_succ]) | (refine wpMix_u rfl rfl ?_; simp only [Act.put, List.setIfInBounds_toArray, List.set_cons_zero, List.set_cons_succ, List.getElem_toArray, List.getElem_cons_zero, List.getElem_cons_succ]))
        obtain ⟨x, hx⟩ : ∃ x, s.extract 0 m = x := ⟨_, rfl⟩
        have hxl : x.size ≤ m := by rw [← hx]; simp; omega
        have HXx := Lib.hid hx
        clear hx
        refine wpMix_q (v := .string x) rfl rfl ?_ ?_
        · intro wq hSq
          rw [← HXx.out]
          go_simp
          exact fun h => absurd h (by omega)
        (try simp only [Act.put, List.setIfInBounds_toArray, List.set_cons_zero, List.set_cons_succ, List.getElem_toArray, List.getElem_cons_zero, List.getElem_cons_succ])
        have hw8 : IntKind.u8.wrap ((b.toNat : Int) + 1) = (b.toNat : Int) + 1 := by simp [IntKind.wrap, IntKind.bits, IntKind.signed]; omega
        repeat (first | (refine wpMix_q (v := ?_) rfl rfl ?_ ?_; rotate_left; (· intro wq hSq; go_simp; try (with_reducible rfl)); simp only [Act.put, List.setIfInBounds_toArray, List.set_cons_zero, List.set_cons_succ, List.getElem_toArray, List.getElem_cons_zero, List.getElem_cons_succ]) | (refine wpMix_u rfl rfl ?_; simp only [Act.put, List.setIfInBounds_toArray, List.set_cons_zero, List.set_cons_succ, List.getElem_toArray, List.getElem_cons_zero, List.getElem_cons_succ]))
        refine wpMix_l rfl rfl (fun K hK => ?_)
        go_simp
        refine hK _ _ trivial ?_
        clear hK K
        have hcv := conv_blk (wr.alloc (.cells #[.int .u8 ((b.toNat : Int) + 1)] 5)).drew wr.heap.size (b + 1) ((b.toNat : Int) + 1) HB1.out.symm (by show (wr.heap.push _)[wr.heap.size]? = _; simp)
        obtain ⟨y, hy⟩ : ∃ y, (⟨#[b + 1]⟩ : ByteArray) = y := ⟨_, rfl⟩
        have hyl : y.size ≤ 1 := by rw [← hy]; exact Nat.le_refl _
        rw [hy] at hcv
        have HY := Lib.hid hy
        clear hy
        refine wpMix_l rfl rfl (fun K hK => ?_)
        go_simp
        refine hK _ _ trivial ?_
        clear hK K hcv
        have hz1 : ¬ 9223372036854775807 < x.size + y.size := by omega
        repeat (first | (refine wpMix_q (v := ?_) rfl rfl ?_ ?_; rotate_left; (· intro wq hSq; go_simp; try (with_reducible rfl)); simp only [Act.put, List.setIfInBounds_toArray, List.set_cons_zero, List.set_cons_succ, List.getElem_toArray, List.getElem_cons_zero, List.getElem_cons_succ]) | (refine wpMix_u rfl rfl ?_; simp only [Act.put, List.setIfInBounds_toArray, List.set_cons_zero, List.set_cons_succ, List.getElem_toArray, List.getElem_cons_zero, List.getElem_cons_succ]))
        refine wpMix_nil ?_
        clear hz1
        go_wp2_with fail
        go_ret2
        refine ⟨?_, ((Ext.refl _).alloc _).drew⟩
        rw [← HE.out]
        refine ret_sb ?_
        congr 1
        apply bytes_ext
        rw [cat_list, ← HXx.out, ← HY.out]
        show _ = s.data.toList.take m ++ [b + 1]
        congr 1
        simp
/-- what Encode makes of one value -/
def kone (d : Bool) (t : Tr) : List UInt8 := if d then (kenc t).map (fun c => 255 - c) else kenc t
def kencs : List Tr → List Bool → List UInt8
  | t :: r, d :: e => kone d t ++ kencs r e
  | _, _ => []
def kencE (ts : List Tr) (ds : List Bool) : ByteArray × Int := if ts.length ≠ ds.length then (⟨#[]⟩, 1) else if ts.all allowB then (⟨(kencs ts ds).toArray⟩, 0) else (⟨#[]⟩, 8)
end Go.Proofs.YtipphlhaaienpaaDoor
