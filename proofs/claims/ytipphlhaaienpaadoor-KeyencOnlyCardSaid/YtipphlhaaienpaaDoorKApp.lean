/- keyenc.appendValue, kind by kind (printed by genkapp.py). -/
import Derived.Test.YtipphlhaaienpaaDoorKP
import Derived.Test.YtipphlhaaienpaaDoorMix
set_option linter.unusedSimpArgs false
set_option linter.unusedVariables false
namespace Go.Proofs.YtipphlhaaienpaaDoor
open Go.RowKit
def KAppOk (t : Tr) : Prop := ∀ (v b : Value) (l : List UInt8) (base : Nat) (W0 w : World), snd t = true → VRep W0 t v → Ext W0 w → W0.heap.size ≤ base → base ≤ w.heap.size → Buf w base b l → l.length + (kenc t).length ≤ 90000000000 →
  Calls Tryd.prog 22 #[b, v] w (BufPost base w (l ++ kenc t))
set_option maxRecDepth 20000 in
set_option maxHeartbeats 2000000 in
theorem kapp_k0 (i : Int) (s : ByteArray) (lt : List Tr) (ns : List ByteArray) (ds : List Tr) (la da : Option Addr) (lc dc : Nat) (b : Value) (l : List UInt8) (base : Nat) (W0 w : World) (hE : Ext W0 w) (hb0 : W0.heap.size ≤ base) (hbase : base ≤ w.heap.size) (hB : Buf w base b l) (hlen : l.length ≤ 90000000000) :
    Calls Tryd.prog 22 #[b, .agg #[.int .i64 0, .int .i64 i, .string s, .slice la lt.length lc, .slice da ds.length dc]] w (BufPost base w (l ++ ([0]))) := by
  obtain ⟨rr, hrr⟩ : ∃ x, l ++ ([0]) = x := ⟨_, rfl⟩
  rw [hrr]
  have HR := Lib.hid hrr
  clear hrr
  have HB := Lib.hid hB
  obtain ⟨ad, c, rfl⟩ := hB.shape
  clear hB
  have HL1 : Hid (l.length + [(0 : UInt8)].length ≤ 140737488355328) := by
    show _ ≤ _
    simp; omega
  go_enter Tryd.func22, Tryd.ntmps22
  go_wp2_with (at_builtin; refine wpList_append_buf _ rfl _ _ rfl base _ _ rfl ((HB.out.alloc _).alloc _) ⟨w.heap.size + 1, 0, none⟩ 1 1 [0] rfl rfl (one_newg _ _ (by simp) _ _ rfl) HL1.out (by simp; omega) ?_)
  intro v1 w1 hb1 hk1
  obtain ⟨x1, hx1⟩ : ∃ x, l ++ [0] = x := ⟨_, rfl⟩
  rw [hx1] at hb1
  have HX1 := Lib.hid hx1
  have n1 : x1.length ≤ l.length + 1 := by rw [← hx1]; simp
  have HB1 := Lib.hid hb1
  have hk1a := hk1.of_alloc
  have HK1 := Lib.hid hk1a
  have k1 := hk1a.ownc (by decide)
  have l1 := hk1a.lt
  have s1 := hk1a.of_alloc.size
  obtain ⟨ad1, c1, rfl⟩ := HB1.out.shape
  clear hb1 hk1 hk1a hx1
  go_wp2_with fail
  go_ret
  exact ⟨_, rfl, by rw [← HR.out, HX1.out]; exact HB1.out, HK1.out.of_alloc⟩
set_option maxRecDepth 20000 in
set_option maxHeartbeats 2000000 in
theorem kapp_k1 (i : Int) (s : ByteArray) (lt : List Tr) (ns : List ByteArray) (ds : List Tr) (la da : Option Addr) (lc dc : Nat) (b : Value) (l : List UInt8) (base : Nat) (W0 w : World) (hE : Ext W0 w) (hb0 : W0.heap.size ≤ base) (hbase : base ≤ w.heap.size) (hB : Buf w base b l) (hlen : l.length ≤ 90000000000) :
    Calls Tryd.prog 22 #[b, .agg #[.int .i64 1, .int .i64 i, .string s, .slice la lt.length lc, .slice da ds.length dc]] w (BufPost base w (l ++ ([1]))) := by
  obtain ⟨rr, hrr⟩ : ∃ x, l ++ ([1]) = x := ⟨_, rfl⟩
  rw [hrr]
  have HR := Lib.hid hrr
  clear hrr
  have HB := Lib.hid hB
  obtain ⟨ad, c, rfl⟩ := hB.shape
  clear hB
  have HL1 : Hid (l.length + [(1 : UInt8)].length ≤ 140737488355328) := by
    show _ ≤ _
    simp; omega
  go_enter Tryd.func22, Tryd.ntmps22
  go_wp2_with (at_builtin; refine wpList_append_buf _ rfl _ _ rfl base _ _ rfl ((HB.out.alloc _).alloc _) ⟨w.heap.size + 1, 0, none⟩ 1 1 [1] rfl rfl (one_newg _ _ (by simp) _ _ rfl) HL1.out (by simp; omega) ?_)
  intro v1 w1 hb1 hk1
  obtain ⟨x1, hx1⟩ : ∃ x, l ++ [1] = x := ⟨_, rfl⟩
  rw [hx1] at hb1
  have HX1 := Lib.hid hx1
  have n1 : x1.length ≤ l.length + 1 := by rw [← hx1]; simp
  have HB1 := Lib.hid hb1
  have hk1a := hk1.of_alloc
  have HK1 := Lib.hid hk1a
  have k1 := hk1a.ownc (by decide)
  have l1 := hk1a.lt
  have s1 := hk1a.of_alloc.size
  obtain ⟨ad1, c1, rfl⟩ := HB1.out.shape
  clear hb1 hk1 hk1a hx1
  go_wp2_with fail
  go_ret
  exact ⟨_, rfl, by rw [← HR.out, HX1.out]; exact HB1.out, HK1.out.of_alloc⟩
set_option maxRecDepth 20000 in
set_option maxHeartbeats 2000000 in
theorem kapp_k2 (i : Int) (s : ByteArray) (lt : List Tr) (ns : List ByteArray) (ds : List Tr) (la da : Option Addr) (lc dc : Nat) (b : Value) (l : List UInt8) (base : Nat) (W0 w : World) (hE : Ext W0 w) (hb0 : W0.heap.size ≤ base) (hbase : base ≤ w.heap.size) (hB : Buf w base b l) (hlen : l.length ≤ 90000000000) :
    Calls Tryd.prog 22 #[b, .agg #[.int .i64 2, .int .i64 i, .string s, .slice la lt.length lc, .slice da ds.length dc]] w (BufPost base w (l ++ ([2]))) := by
  obtain ⟨rr, hrr⟩ : ∃ x, l ++ ([2]) = x := ⟨_, rfl⟩
  rw [hrr]
  have HR := Lib.hid hrr
  clear hrr
  have HB := Lib.hid hB
  obtain ⟨ad, c, rfl⟩ := hB.shape
  clear hB
  have HL1 : Hid (l.length + [(2 : UInt8)].length ≤ 140737488355328) := by
    show _ ≤ _
    simp; omega
  go_enter Tryd.func22, Tryd.ntmps22
  go_wp2_with (at_builtin; refine wpList_append_buf _ rfl _ _ rfl base _ _ rfl ((HB.out.alloc _).alloc _) ⟨w.heap.size + 1, 0, none⟩ 1 1 [2] rfl rfl (one_newg _ _ (by simp) _ _ rfl) HL1.out (by simp; omega) ?_)
  intro v1 w1 hb1 hk1
  obtain ⟨x1, hx1⟩ : ∃ x, l ++ [2] = x := ⟨_, rfl⟩
  rw [hx1] at hb1
  have HX1 := Lib.hid hx1
  have n1 : x1.length ≤ l.length + 1 := by rw [← hx1]; simp
  have HB1 := Lib.hid hb1
  have hk1a := hk1.of_alloc
  have HK1 := Lib.hid hk1a
  have k1 := hk1a.ownc (by decide)
  have l1 := hk1a.lt
  have s1 := hk1a.of_alloc.size
  obtain ⟨ad1, c1, rfl⟩ := HB1.out.shape
  clear hb1 hk1 hk1a hx1
  go_wp2_with fail
  go_ret
  exact ⟨_, rfl, by rw [← HR.out, HX1.out]; exact HB1.out, HK1.out.of_alloc⟩
set_option maxRecDepth 20000 in
set_option maxHeartbeats 2000000 in
theorem kapp_k11 (i : Int) (s : ByteArray) (lt : List Tr) (ns : List ByteArray) (ds : List Tr) (la da : Option Addr) (lc dc : Nat) (b : Value) (l : List UInt8) (base : Nat) (W0 w : World) (hE : Ext W0 w) (hb0 : W0.heap.size ≤ base) (hbase : base ≤ w.heap.size) (hB : Buf w base b l) (hlen : l.length ≤ 90000000000) :
    Calls Tryd.prog 22 #[b, .agg #[.int .i64 11, .int .i64 i, .string s, .slice la lt.length lc, .slice da ds.length dc]] w (BufPost base w (l ++ ([11]))) := by
  obtain ⟨rr, hrr⟩ : ∃ x, l ++ ([11]) = x := ⟨_, rfl⟩
  rw [hrr]
  have HR := Lib.hid hrr
  clear hrr
  have HB := Lib.hid hB
  obtain ⟨ad, c, rfl⟩ := hB.shape
  clear hB
  have HL1 : Hid (l.length + [(11 : UInt8)].length ≤ 140737488355328) := by
    show _ ≤ _
    simp; omega
  go_enter Tryd.func22, Tryd.ntmps22
  go_wp2_with (at_builtin; refine wpList_append_buf _ rfl _ _ rfl base _ _ rfl ((HB.out.alloc _).alloc _) ⟨w.heap.size + 1, 0, none⟩ 1 1 [11] rfl rfl (one_newg _ _ (by simp) _ _ rfl) HL1.out (by simp; omega) ?_)
  intro v1 w1 hb1 hk1
  obtain ⟨x1, hx1⟩ : ∃ x, l ++ [11] = x := ⟨_, rfl⟩
  rw [hx1] at hb1
  have HX1 := Lib.hid hx1
  have n1 : x1.length ≤ l.length + 1 := by rw [← hx1]; simp
  have HB1 := Lib.hid hb1
  have hk1a := hk1.of_alloc
  have HK1 := Lib.hid hk1a
  have k1 := hk1a.ownc (by decide)
  have l1 := hk1a.lt
  have s1 := hk1a.of_alloc.size
  obtain ⟨ad1, c1, rfl⟩ := HB1.out.shape
  clear hb1 hk1 hk1a hx1
  go_wp2_with fail
  go_ret
  exact ⟨_, rfl, by rw [← HR.out, HX1.out]; exact HB1.out, HK1.out.of_alloc⟩
set_option maxRecDepth 20000 in
set_option maxHeartbeats 2000000 in
theorem kapp_k3 (i : Int) (s : ByteArray) (lt : List Tr) (ns : List ByteArray) (ds : List Tr) (la da : Option Addr) (lc dc : Nat) (b : Value) (l : List UInt8) (base : Nat) (W0 w : World) (hE : Ext W0 w) (hb0 : W0.heap.size ≤ base) (hbase : base ≤ w.heap.size) (hB : Buf w base b l) (hI : I64 i) (hlen : l.length ≤ 90000000000) :
    Calls Tryd.prog 22 #[b, .agg #[.int .i64 3, .int .i64 i, .string s, .slice la lt.length lc, .slice da ds.length dc]] w (BufPost base w (l ++ ([3] ++ num8 (uOf i)))) := by
  obtain ⟨rr, hrr⟩ : ∃ x, l ++ ([3] ++ num8 (uOf i)) = x := ⟨_, rfl⟩
  rw [hrr]
  have HR := Lib.hid hrr
  clear hrr
  have HB := Lib.hid hB
  obtain ⟨ad, c, rfl⟩ := hB.shape
  clear hB
  have HL1 : Hid (l.length + [(3 : UInt8)].length ≤ 140737488355328) := by
    show _ ≤ _
    simp; omega
  obtain ⟨u, hu⟩ : ∃ u, uOf i = u := ⟨_, rfl⟩
  have hX := xor63 i hI
  have hU := uOf_lt i hI
  rw [hu] at hX hU HR
  have HXr := Lib.hid hX
  clear hX hu hI
  go_enter Tryd.func22, Tryd.ntmps22
  go_wp2_with (at_builtin; refine wpList_append_buf _ rfl _ _ rfl base _ _ rfl ((HB.out.alloc _).alloc _) ⟨w.heap.size + 1, 0, none⟩ 1 1 [3] rfl rfl (one_newg _ _ (by simp) _ _ rfl) HL1.out (by simp; omega) ?_)
  intro v1 w1 hb1 hk1
  obtain ⟨x1, hx1⟩ : ∃ x, l ++ [3] = x := ⟨_, rfl⟩
  rw [hx1] at hb1
  have HX1 := Lib.hid hx1
  have n1 : x1.length ≤ l.length + 1 := by rw [← hx1]; simp
  have HB1 := Lib.hid hb1
  have hk1a := hk1.of_alloc
  have HK1 := Lib.hid hk1a
  have k1 := hk1a.ownc (by decide)
  have l1 := hk1a.lt
  have s1 := hk1a.of_alloc.size
  obtain ⟨ad1, c1, rfl⟩ := HB1.out.shape
  clear hb1 hk1 hk1a hx1
  go_wp2_with fail
  simp only [HXr.out]
  go_loopw [0, 6] (fun b x wr => ∃ (j : Nat), j ≤ 8 ∧ x = .int .i64 (56 - 8 * j) ∧ Hid (Buf wr base b (x1 ++ (num8 u).take j)) ∧ Hid (Keep base (w.alloc (.cells #[.int .i64 3, .int .i64 i, .string s, .slice la lt.length lc, .slice da ds.length dc] 41)) wr)) (fun _ x _ => (intOf x + 8).toNat)
  case atStart => exact ⟨0, by omega, rfl, by simpa using HB1, HK1⟩
  case round =>
    obtain ⟨j, hj, rfl, HB3, HK3⟩ := hrel
    obtain ⟨cur, hcur⟩ : ∃ x, x1 ++ (num8 u).take j = x := ⟨_, rfl⟩
    rw [hcur] at HB3
    have hcl : cur.length ≤ x1.length + 8 := by rw [← hcur]; simp [num8]; omega
    have HC := Lib.hid hcur
    clear hcur HXr
    obtain ⟨ad3, c3, rfl⟩ := HB3.out.shape
    have s3 := HK3.out.of_alloc.size
    have HL2 : Hid (cur.length + [(0 : UInt8)].length ≤ 140737488355328) := by
      show _ ≤ _
      simp; omega
    have hj9 : j = 0 ∨ j = 1 ∨ j = 2 ∨ j = 3 ∨ j = 4 ∨ j = 5 ∨ j = 6 ∨ j = 7 ∨ j = 8 := by omega
    clear hj
    rcases hj9 with rfl | rfl | rfl | rfl | rfl | rfl | rfl | rfl | rfl
    · go_wp2_with (at_builtin; refine wpList_append_buf _ rfl _ _ rfl base _ _ rfl (HB3.out.alloc _) ⟨wr.heap.size, 0, none⟩ 1 1 [UInt8.ofNat (u / 72057594037927936)] rfl rfl (one_new _ _ _ (u8_atT u hU)) HL2.out (by simp; omega) ?_)
      intro v4 w4 hb4 hk4
      have hb5 : Buf w4 base v4 (x1 ++ (num8 u).take 1) := by
        rw [← HC.out] at hb4; simpa [num8] using hb4
      have HB4 := Lib.hid hb5
      have HK4 := Lib.hid ((HK3.out.alloc _).trans hk4)
      clear hb4 hb5 hk4
      obtain ⟨x5, hx5⟩ : ∃ x, x1 ++ (num8 u).take 1 = x := ⟨_, rfl⟩
      rw [hx5] at HB4
      have HX5 := Lib.hid hx5
      clear hx5
      obtain ⟨ad4, c4, rfl⟩ := HB4.out.shape
      go_wp2_with fail
      exact ⟨⟨1, by omega, by simp, by rw [HX5.out]; exact HB4, HK4⟩, by simp [intOf]⟩
    · go_wp2_with (at_builtin; refine wpList_append_buf _ rfl _ _ rfl base _ _ rfl (HB3.out.alloc _) ⟨wr.heap.size, 0, none⟩ 1 1 [UInt8.ofNat (u / 281474976710656)] rfl rfl (one_new _ _ _ (u8_at u 281474976710656)) HL2.out (by simp; omega) ?_)
      intro v4 w4 hb4 hk4
      have hb5 : Buf w4 base v4 (x1 ++ (num8 u).take 2) := by
        rw [← HC.out] at hb4; simpa [num8] using hb4
      have HB4 := Lib.hid hb5
      have HK4 := Lib.hid ((HK3.out.alloc _).trans hk4)
      clear hb4 hb5 hk4
      obtain ⟨x5, hx5⟩ : ∃ x, x1 ++ (num8 u).take 2 = x := ⟨_, rfl⟩
      rw [hx5] at HB4
      have HX5 := Lib.hid hx5
      clear hx5
      obtain ⟨ad4, c4, rfl⟩ := HB4.out.shape
      go_wp2_with fail
      exact ⟨⟨2, by omega, by simp, by rw [HX5.out]; exact HB4, HK4⟩, by simp [intOf]⟩
    · go_wp2_with (at_builtin; refine wpList_append_buf _ rfl _ _ rfl base _ _ rfl (HB3.out.alloc _) ⟨wr.heap.size, 0, none⟩ 1 1 [UInt8.ofNat (u / 1099511627776)] rfl rfl (one_new _ _ _ (u8_at u 1099511627776)) HL2.out (by simp; omega) ?_)
      intro v4 w4 hb4 hk4
      have hb5 : Buf w4 base v4 (x1 ++ (num8 u).take 3) := by
        rw [← HC.out] at hb4; simpa [num8] using hb4
      have HB4 := Lib.hid hb5
      have HK4 := Lib.hid ((HK3.out.alloc _).trans hk4)
      clear hb4 hb5 hk4
      obtain ⟨x5, hx5⟩ : ∃ x, x1 ++ (num8 u).take 3 = x := ⟨_, rfl⟩
      rw [hx5] at HB4
      have HX5 := Lib.hid hx5
      clear hx5
      obtain ⟨ad4, c4, rfl⟩ := HB4.out.shape
      go_wp2_with fail
      exact ⟨⟨3, by omega, by simp, by rw [HX5.out]; exact HB4, HK4⟩, by simp [intOf]⟩
    · go_wp2_with (at_builtin; refine wpList_append_buf _ rfl _ _ rfl base _ _ rfl (HB3.out.alloc _) ⟨wr.heap.size, 0, none⟩ 1 1 [UInt8.ofNat (u / 4294967296)] rfl rfl (one_new _ _ _ (u8_at u 4294967296)) HL2.out (by simp; omega) ?_)
      intro v4 w4 hb4 hk4
      have hb5 : Buf w4 base v4 (x1 ++ (num8 u).take 4) := by
        rw [← HC.out] at hb4; simpa [num8] using hb4
      have HB4 := Lib.hid hb5
      have HK4 := Lib.hid ((HK3.out.alloc _).trans hk4)
      clear hb4 hb5 hk4
      obtain ⟨x5, hx5⟩ : ∃ x, x1 ++ (num8 u).take 4 = x := ⟨_, rfl⟩
      rw [hx5] at HB4
      have HX5 := Lib.hid hx5
      clear hx5
      obtain ⟨ad4, c4, rfl⟩ := HB4.out.shape
      go_wp2_with fail
      exact ⟨⟨4, by omega, by simp, by rw [HX5.out]; exact HB4, HK4⟩, by simp [intOf]⟩
    · go_wp2_with (at_builtin; refine wpList_append_buf _ rfl _ _ rfl base _ _ rfl (HB3.out.alloc _) ⟨wr.heap.size, 0, none⟩ 1 1 [UInt8.ofNat (u / 16777216)] rfl rfl (one_new _ _ _ (u8_at u 16777216)) HL2.out (by simp; omega) ?_)
      intro v4 w4 hb4 hk4
      have hb5 : Buf w4 base v4 (x1 ++ (num8 u).take 5) := by
        rw [← HC.out] at hb4; simpa [num8] using hb4
      have HB4 := Lib.hid hb5
      have HK4 := Lib.hid ((HK3.out.alloc _).trans hk4)
      clear hb4 hb5 hk4
      obtain ⟨x5, hx5⟩ : ∃ x, x1 ++ (num8 u).take 5 = x := ⟨_, rfl⟩
      rw [hx5] at HB4
      have HX5 := Lib.hid hx5
      clear hx5
      obtain ⟨ad4, c4, rfl⟩ := HB4.out.shape
      go_wp2_with fail
      exact ⟨⟨5, by omega, by simp, by rw [HX5.out]; exact HB4, HK4⟩, by simp [intOf]⟩
    · go_wp2_with (at_builtin; refine wpList_append_buf _ rfl _ _ rfl base _ _ rfl (HB3.out.alloc _) ⟨wr.heap.size, 0, none⟩ 1 1 [UInt8.ofNat (u / 65536)] rfl rfl (one_new _ _ _ (u8_at u 65536)) HL2.out (by simp; omega) ?_)
      intro v4 w4 hb4 hk4
      have hb5 : Buf w4 base v4 (x1 ++ (num8 u).take 6) := by
        rw [← HC.out] at hb4; simpa [num8] using hb4
      have HB4 := Lib.hid hb5
      have HK4 := Lib.hid ((HK3.out.alloc _).trans hk4)
      clear hb4 hb5 hk4
      obtain ⟨x5, hx5⟩ : ∃ x, x1 ++ (num8 u).take 6 = x := ⟨_, rfl⟩
      rw [hx5] at HB4
      have HX5 := Lib.hid hx5
      clear hx5
      obtain ⟨ad4, c4, rfl⟩ := HB4.out.shape
      go_wp2_with fail
      exact ⟨⟨6, by omega, by simp, by rw [HX5.out]; exact HB4, HK4⟩, by simp [intOf]⟩
    · go_wp2_with (at_builtin; refine wpList_append_buf _ rfl _ _ rfl base _ _ rfl (HB3.out.alloc _) ⟨wr.heap.size, 0, none⟩ 1 1 [UInt8.ofNat (u / 256)] rfl rfl (one_new _ _ _ (u8_at u 256)) HL2.out (by simp; omega) ?_)
      intro v4 w4 hb4 hk4
      have hb5 : Buf w4 base v4 (x1 ++ (num8 u).take 7) := by
        rw [← HC.out] at hb4; simpa [num8] using hb4
      have HB4 := Lib.hid hb5
      have HK4 := Lib.hid ((HK3.out.alloc _).trans hk4)
      clear hb4 hb5 hk4
      obtain ⟨x5, hx5⟩ : ∃ x, x1 ++ (num8 u).take 7 = x := ⟨_, rfl⟩
      rw [hx5] at HB4
      have HX5 := Lib.hid hx5
      clear hx5
      obtain ⟨ad4, c4, rfl⟩ := HB4.out.shape
      go_wp2_with fail
      exact ⟨⟨7, by omega, by simp, by rw [HX5.out]; exact HB4, HK4⟩, by simp [intOf]⟩
    · go_wp2_with (at_builtin; refine wpList_append_buf _ rfl _ _ rfl base _ _ rfl (HB3.out.alloc _) ⟨wr.heap.size, 0, none⟩ 1 1 [UInt8.ofNat u] rfl rfl (one_new _ _ _ (u8_at0 u)) HL2.out (by simp; omega) ?_)
      intro v4 w4 hb4 hk4
      have hb5 : Buf w4 base v4 (x1 ++ (num8 u).take 8) := by
        rw [← HC.out] at hb4; simpa [num8] using hb4
      have HB4 := Lib.hid hb5
      have HK4 := Lib.hid ((HK3.out.alloc _).trans hk4)
      clear hb4 hb5 hk4
      obtain ⟨x5, hx5⟩ : ∃ x, x1 ++ (num8 u).take 8 = x := ⟨_, rfl⟩
      rw [hx5] at HB4
      have HX5 := Lib.hid hx5
      clear hx5
      obtain ⟨ad4, c4, rfl⟩ := HB4.out.shape
      go_wp2_with fail
      exact ⟨⟨8, by omega, by simp, by rw [HX5.out]; exact HB4, HK4⟩, by simp [intOf]⟩
    · have hlf : cur = rr := by rw [← HC.out, ← HR.out, ← HX1.out]; simp [num8]
      have HLF := Lib.hid hlf
      clear hlf
      go_wp2_with fail
      go_ret
      exact ⟨_, rfl, by rw [← HLF.out]; exact HB3.out, HK3.out.of_alloc⟩
set_option maxRecDepth 20000 in
set_option maxHeartbeats 2000000 in
theorem kapp_k9 (i : Int) (s : ByteArray) (lt : List Tr) (ns : List ByteArray) (ds : List Tr) (la da : Option Addr) (lc dc : Nat) (b : Value) (l : List UInt8) (base : Nat) (W0 w : World) (hE : Ext W0 w) (hb0 : W0.heap.size ≤ base) (hbase : base ≤ w.heap.size) (hB : Buf w base b l) (hI : I64 i) (hlen : l.length ≤ 90000000000) :
    Calls Tryd.prog 22 #[b, .agg #[.int .i64 9, .int .i64 i, .string s, .slice la lt.length lc, .slice da ds.length dc]] w (BufPost base w (l ++ ([9] ++ num8 (uOf i)))) := by
  obtain ⟨rr, hrr⟩ : ∃ x, l ++ ([9] ++ num8 (uOf i)) = x := ⟨_, rfl⟩
  rw [hrr]
  have HR := Lib.hid hrr
  clear hrr
  have HB := Lib.hid hB
  obtain ⟨ad, c, rfl⟩ := hB.shape
  clear hB
  have HL1 : Hid (l.length + [(9 : UInt8)].length ≤ 140737488355328) := by
    show _ ≤ _
    simp; omega
  obtain ⟨u, hu⟩ : ∃ u, uOf i = u := ⟨_, rfl⟩
  have hX := xor63 i hI
  have hU := uOf_lt i hI
  rw [hu] at hX hU HR
  have HXr := Lib.hid hX
  clear hX hu hI
  go_enter Tryd.func22, Tryd.ntmps22
  go_wp2_with (at_builtin; refine wpList_append_buf _ rfl _ _ rfl base _ _ rfl ((HB.out.alloc _).alloc _) ⟨w.heap.size + 1, 0, none⟩ 1 1 [9] rfl rfl (one_newg _ _ (by simp) _ _ rfl) HL1.out (by simp; omega) ?_)
  intro v1 w1 hb1 hk1
  obtain ⟨x1, hx1⟩ : ∃ x, l ++ [9] = x := ⟨_, rfl⟩
  rw [hx1] at hb1
  have HX1 := Lib.hid hx1
  have n1 : x1.length ≤ l.length + 1 := by rw [← hx1]; simp
  have HB1 := Lib.hid hb1
  have hk1a := hk1.of_alloc
  have HK1 := Lib.hid hk1a
  have k1 := hk1a.ownc (by decide)
  have l1 := hk1a.lt
  have s1 := hk1a.of_alloc.size
  obtain ⟨ad1, c1, rfl⟩ := HB1.out.shape
  clear hb1 hk1 hk1a hx1
  go_wp2_with fail
  simp only [HXr.out]
  go_loopw [0, 6] (fun b x wr => ∃ (j : Nat), j ≤ 8 ∧ x = .int .i64 (56 - 8 * j) ∧ Hid (Buf wr base b (x1 ++ (num8 u).take j)) ∧ Hid (Keep base (w.alloc (.cells #[.int .i64 9, .int .i64 i, .string s, .slice la lt.length lc, .slice da ds.length dc] 41)) wr)) (fun _ x _ => (intOf x + 8).toNat)
  case atStart => exact ⟨0, by omega, rfl, by simpa using HB1, HK1⟩
  case round =>
    obtain ⟨j, hj, rfl, HB3, HK3⟩ := hrel
    obtain ⟨cur, hcur⟩ : ∃ x, x1 ++ (num8 u).take j = x := ⟨_, rfl⟩
    rw [hcur] at HB3
    have hcl : cur.length ≤ x1.length + 8 := by rw [← hcur]; simp [num8]; omega
    have HC := Lib.hid hcur
    clear hcur HXr
    obtain ⟨ad3, c3, rfl⟩ := HB3.out.shape
    have s3 := HK3.out.of_alloc.size
    have HL2 : Hid (cur.length + [(0 : UInt8)].length ≤ 140737488355328) := by
      show _ ≤ _
      simp; omega
    have hj9 : j = 0 ∨ j = 1 ∨ j = 2 ∨ j = 3 ∨ j = 4 ∨ j = 5 ∨ j = 6 ∨ j = 7 ∨ j = 8 := by omega
    clear hj
    rcases hj9 with rfl | rfl | rfl | rfl | rfl | rfl | rfl | rfl | rfl
    · go_wp2_with (at_builtin; refine wpList_append_buf _ rfl _ _ rfl base _ _ rfl (HB3.out.alloc _) ⟨wr.heap.size, 0, none⟩ 1 1 [UInt8.ofNat (u / 72057594037927936)] rfl rfl (one_new _ _ _ (u8_atT u hU)) HL2.out (by simp; omega) ?_)
      intro v4 w4 hb4 hk4
      have hb5 : Buf w4 base v4 (x1 ++ (num8 u).take 1) := by
        rw [← HC.out] at hb4; simpa [num8] using hb4
      have HB4 := Lib.hid hb5
      have HK4 := Lib.hid ((HK3.out.alloc _).trans hk4)
      clear hb4 hb5 hk4
      obtain ⟨x5, hx5⟩ : ∃ x, x1 ++ (num8 u).take 1 = x := ⟨_, rfl⟩
      rw [hx5] at HB4
      have HX5 := Lib.hid hx5
      clear hx5
      obtain ⟨ad4, c4, rfl⟩ := HB4.out.shape
      go_wp2_with fail
      exact ⟨⟨1, by omega, by simp, by rw [HX5.out]; exact HB4, HK4⟩, by simp [intOf]⟩
    · go_wp2_with (at_builtin; refine wpList_append_buf _ rfl _ _ rfl base _ _ rfl (HB3.out.alloc _) ⟨wr.heap.size, 0, none⟩ 1 1 [UInt8.ofNat (u / 281474976710656)] rfl rfl (one_new _ _ _ (u8_at u 281474976710656)) HL2.out (by simp; omega) ?_)
      intro v4 w4 hb4 hk4
      have hb5 : Buf w4 base v4 (x1 ++ (num8 u).take 2) := by
        rw [← HC.out] at hb4; simpa [num8] using hb4
      have HB4 := Lib.hid hb5
      have HK4 := Lib.hid ((HK3.out.alloc _).trans hk4)
      clear hb4 hb5 hk4
      obtain ⟨x5, hx5⟩ : ∃ x, x1 ++ (num8 u).take 2 = x := ⟨_, rfl⟩
      rw [hx5] at HB4
      have HX5 := Lib.hid hx5
      clear hx5
      obtain ⟨ad4, c4, rfl⟩ := HB4.out.shape
      go_wp2_with fail
      exact ⟨⟨2, by omega, by simp, by rw [HX5.out]; exact HB4, HK4⟩, by simp [intOf]⟩
    · go_wp2_with (at_builtin; refine wpList_append_buf _ rfl _ _ rfl base _ _ rfl (HB3.out.alloc _) ⟨wr.heap.size, 0, none⟩ 1 1 [UInt8.ofNat (u / 1099511627776)] rfl rfl (one_new _ _ _ (u8_at u 1099511627776)) HL2.out (by simp; omega) ?_)
      intro v4 w4 hb4 hk4
      have hb5 : Buf w4 base v4 (x1 ++ (num8 u).take 3) := by
        rw [← HC.out] at hb4; simpa [num8] using hb4
      have HB4 := Lib.hid hb5
      have HK4 := Lib.hid ((HK3.out.alloc _).trans hk4)
      clear hb4 hb5 hk4
      obtain ⟨x5, hx5⟩ : ∃ x, x1 ++ (num8 u).take 3 = x := ⟨_, rfl⟩
      rw [hx5] at HB4
      have HX5 := Lib.hid hx5
      clear hx5
      obtain ⟨ad4, c4, rfl⟩ := HB4.out.shape
      go_wp2_with fail
      exact ⟨⟨3, by omega, by simp, by rw [HX5.out]; exact HB4, HK4⟩, by simp [intOf]⟩
    · go_wp2_with (at_builtin; refine wpList_append_buf _ rfl _ _ rfl base _ _ rfl (HB3.out.alloc _) ⟨wr.heap.size, 0, none⟩ 1 1 [UInt8.ofNat (u / 4294967296)] rfl rfl (one_new _ _ _ (u8_at u 4294967296)) HL2.out (by simp; omega) ?_)
      intro v4 w4 hb4 hk4
      have hb5 : Buf w4 base v4 (x1 ++ (num8 u).take 4) := by
        rw [← HC.out] at hb4; simpa [num8] using hb4
      have HB4 := Lib.hid hb5
      have HK4 := Lib.hid ((HK3.out.alloc _).trans hk4)
      clear hb4 hb5 hk4
      obtain ⟨x5, hx5⟩ : ∃ x, x1 ++ (num8 u).take 4 = x := ⟨_, rfl⟩
      rw [hx5] at HB4
      have HX5 := Lib.hid hx5
      clear hx5
      obtain ⟨ad4, c4, rfl⟩ := HB4.out.shape
      go_wp2_with fail
      exact ⟨⟨4, by omega, by simp, by rw [HX5.out]; exact HB4, HK4⟩, by simp [intOf]⟩
    · go_wp2_with (at_builtin; refine wpList_append_buf _ rfl _ _ rfl base _ _ rfl (HB3.out.alloc _) ⟨wr.heap.size, 0, none⟩ 1 1 [UInt8.ofNat (u / 16777216)] rfl rfl (one_new _ _ _ (u8_at u 16777216)) HL2.out (by simp; omega) ?_)
      intro v4 w4 hb4 hk4
      have hb5 : Buf w4 base v4 (x1 ++ (num8 u).take 5) := by
        rw [← HC.out] at hb4; simpa [num8] using hb4
      have HB4 := Lib.hid hb5
      have HK4 := Lib.hid ((HK3.out.alloc _).trans hk4)
      clear hb4 hb5 hk4
      obtain ⟨x5, hx5⟩ : ∃ x, x1 ++ (num8 u).take 5 = x := ⟨_, rfl⟩
      rw [hx5] at HB4
      have HX5 := Lib.hid hx5
      clear hx5
      obtain ⟨ad4, c4, rfl⟩ := HB4.out.shape
      go_wp2_with fail
      exact ⟨⟨5, by omega, by simp, by rw [HX5.out]; exact HB4, HK4⟩, by simp [intOf]⟩
    · go_wp2_with (at_builtin; refine wpList_append_buf _ rfl _ _ rfl base _ _ rfl (HB3.out.alloc _) ⟨wr.heap.size, 0, none⟩ 1 1 [UInt8.ofNat (u / 65536)] rfl rfl (one_new _ _ _ (u8_at u 65536)) HL2.out (by simp; omega) ?_)
      intro v4 w4 hb4 hk4
      have hb5 : Buf w4 base v4 (x1 ++ (num8 u).take 6) := by
        rw [← HC.out] at hb4; simpa [num8] using hb4
      have HB4 := Lib.hid hb5
      have HK4 := Lib.hid ((HK3.out.alloc _).trans hk4)
      clear hb4 hb5 hk4
      obtain ⟨x5, hx5⟩ : ∃ x, x1 ++ (num8 u).take 6 = x := ⟨_, rfl⟩
      rw [hx5] at HB4
      have HX5 := Lib.hid hx5
      clear hx5
      obtain ⟨ad4, c4, rfl⟩ := HB4.out.shape
      go_wp2_with fail
      exact ⟨⟨6, by omega, by simp, by rw [HX5.out]; exact HB4, HK4⟩, by simp [intOf]⟩
    · go_wp2_with (at_builtin; refine wpList_append_buf _ rfl _ _ rfl base _ _ rfl (HB3.out.alloc _) ⟨wr.heap.size, 0, none⟩ 1 1 [UInt8.ofNat (u / 256)] rfl rfl (one_new _ _ _ (u8_at u 256)) HL2.out (by simp; omega) ?_)
      intro v4 w4 hb4 hk4
      have hb5 : Buf w4 base v4 (x1 ++ (num8 u).take 7) := by
        rw [← HC.out] at hb4; simpa [num8] using hb4
      have HB4 := Lib.hid hb5
      have HK4 := Lib.hid ((HK3.out.alloc _).trans hk4)
      clear hb4 hb5 hk4
      obtain ⟨x5, hx5⟩ : ∃ x, x1 ++ (num8 u).take 7 = x := ⟨_, rfl⟩
      rw [hx5] at HB4
      have HX5 := Lib.hid hx5
      clear hx5
      obtain ⟨ad4, c4, rfl⟩ := HB4.out.shape
      go_wp2_with fail
      exact ⟨⟨7, by omega, by simp, by rw [HX5.out]; exact HB4, HK4⟩, by simp [intOf]⟩
    · go_wp2_with (at_builtin; refine wpList_append_buf _ rfl _ _ rfl base _ _ rfl (HB3.out.alloc _) ⟨wr.heap.size, 0, none⟩ 1 1 [UInt8.ofNat u] rfl rfl (one_new _ _ _ (u8_at0 u)) HL2.out (by simp; omega) ?_)
      intro v4 w4 hb4 hk4
      have hb5 : Buf w4 base v4 (x1 ++ (num8 u).take 8) := by
        rw [← HC.out] at hb4; simpa [num8] using hb4
      have HB4 := Lib.hid hb5
      have HK4 := Lib.hid ((HK3.out.alloc _).trans hk4)
      clear hb4 hb5 hk4
      obtain ⟨x5, hx5⟩ : ∃ x, x1 ++ (num8 u).take 8 = x := ⟨_, rfl⟩
      rw [hx5] at HB4
      have HX5 := Lib.hid hx5
      clear hx5
      obtain ⟨ad4, c4, rfl⟩ := HB4.out.shape
      go_wp2_with fail
      exact ⟨⟨8, by omega, by simp, by rw [HX5.out]; exact HB4, HK4⟩, by simp [intOf]⟩
    · have hlf : cur = rr := by rw [← HC.out, ← HR.out, ← HX1.out]; simp [num8]
      have HLF := Lib.hid hlf
      clear hlf
      go_wp2_with fail
      go_ret
      exact ⟨_, rfl, by rw [← HLF.out]; exact HB3.out, HK3.out.of_alloc⟩
set_option maxRecDepth 20000 in
set_option maxHeartbeats 2000000 in
theorem kapp_k10 (i : Int) (s : ByteArray) (lt : List Tr) (ns : List ByteArray) (ds : List Tr) (la da : Option Addr) (lc dc : Nat) (b : Value) (l : List UInt8) (base : Nat) (W0 w : World) (hE : Ext W0 w) (hb0 : W0.heap.size ≤ base) (hbase : base ≤ w.heap.size) (hB : Buf w base b l) (hI : I64 i) (hlen : l.length ≤ 90000000000) :
    Calls Tryd.prog 22 #[b, .agg #[.int .i64 10, .int .i64 i, .string s, .slice la lt.length lc, .slice da ds.length dc]] w (BufPost base w (l ++ ([10] ++ num8 (uOf i)))) := by
  obtain ⟨rr, hrr⟩ : ∃ x, l ++ ([10] ++ num8 (uOf i)) = x := ⟨_, rfl⟩
  rw [hrr]
  have HR := Lib.hid hrr
  clear hrr
  have HB := Lib.hid hB
  obtain ⟨ad, c, rfl⟩ := hB.shape
  clear hB
  have HL1 : Hid (l.length + [(10 : UInt8)].length ≤ 140737488355328) := by
    show _ ≤ _
    simp; omega
  obtain ⟨u, hu⟩ : ∃ u, uOf i = u := ⟨_, rfl⟩
  have hX := xor63 i hI
  have hU := uOf_lt i hI
  rw [hu] at hX hU HR
  have HXr := Lib.hid hX
  clear hX hu hI
  go_enter Tryd.func22, Tryd.ntmps22
  go_wp2_with (at_builtin; refine wpList_append_buf _ rfl _ _ rfl base _ _ rfl ((HB.out.alloc _).alloc _) ⟨w.heap.size + 1, 0, none⟩ 1 1 [10] rfl rfl (one_newg _ _ (by simp) _ _ rfl) HL1.out (by simp; omega) ?_)
  intro v1 w1 hb1 hk1
  obtain ⟨x1, hx1⟩ : ∃ x, l ++ [10] = x := ⟨_, rfl⟩
  rw [hx1] at hb1
  have HX1 := Lib.hid hx1
  have n1 : x1.length ≤ l.length + 1 := by rw [← hx1]; simp
  have HB1 := Lib.hid hb1
  have hk1a := hk1.of_alloc
  have HK1 := Lib.hid hk1a
  have k1 := hk1a.ownc (by decide)
  have l1 := hk1a.lt
  have s1 := hk1a.of_alloc.size
  obtain ⟨ad1, c1, rfl⟩ := HB1.out.shape
  clear hb1 hk1 hk1a hx1
  go_wp2_with fail
  simp only [HXr.out]
  go_loopw [0, 6] (fun b x wr => ∃ (j : Nat), j ≤ 8 ∧ x = .int .i64 (56 - 8 * j) ∧ Hid (Buf wr base b (x1 ++ (num8 u).take j)) ∧ Hid (Keep base (w.alloc (.cells #[.int .i64 10, .int .i64 i, .string s, .slice la lt.length lc, .slice da ds.length dc] 41)) wr)) (fun _ x _ => (intOf x + 8).toNat)
  case atStart => exact ⟨0, by omega, rfl, by simpa using HB1, HK1⟩
  case round =>
    obtain ⟨j, hj, rfl, HB3, HK3⟩ := hrel
    obtain ⟨cur, hcur⟩ : ∃ x, x1 ++ (num8 u).take j = x := ⟨_, rfl⟩
    rw [hcur] at HB3
    have hcl : cur.length ≤ x1.length + 8 := by rw [← hcur]; simp [num8]; omega
    have HC := Lib.hid hcur
    clear hcur HXr
    obtain ⟨ad3, c3, rfl⟩ := HB3.out.shape
    have s3 := HK3.out.of_alloc.size
    have HL2 : Hid (cur.length + [(0 : UInt8)].length ≤ 140737488355328) := by
      show _ ≤ _
      simp; omega
    have hj9 : j = 0 ∨ j = 1 ∨ j = 2 ∨ j = 3 ∨ j = 4 ∨ j = 5 ∨ j = 6 ∨ j = 7 ∨ j = 8 := by omega
    clear hj
    rcases hj9 with rfl | rfl | rfl | rfl | rfl | rfl | rfl | rfl | rfl
    · go_wp2_with (at_builtin; refine wpList_append_buf _ rfl _ _ rfl base _ _ rfl (HB3.out.alloc _) ⟨wr.heap.size, 0, none⟩ 1 1 [UInt8.ofNat (u / 72057594037927936)] rfl rfl (one_new _ _ _ (u8_atT u hU)) HL2.out (by simp; omega) ?_)
      intro v4 w4 hb4 hk4
      have hb5 : Buf w4 base v4 (x1 ++ (num8 u).take 1) := by
        rw [← HC.out] at hb4; simpa [num8] using hb4
      have HB4 := Lib.hid hb5
      have HK4 := Lib.hid ((HK3.out.alloc _).trans hk4)
      clear hb4 hb5 hk4
      obtain ⟨x5, hx5⟩ : ∃ x, x1 ++ (num8 u).take 1 = x := ⟨_, rfl⟩
      rw [hx5] at HB4
      have HX5 := Lib.hid hx5
      clear hx5
      obtain ⟨ad4, c4, rfl⟩ := HB4.out.shape
      go_wp2_with fail
      exact ⟨⟨1, by omega, by simp, by rw [HX5.out]; exact HB4, HK4⟩, by simp [intOf]⟩
    · go_wp2_with (at_builtin; refine wpList_append_buf _ rfl _ _ rfl base _ _ rfl (HB3.out.alloc _) ⟨wr.heap.size, 0, none⟩ 1 1 [UInt8.ofNat (u / 281474976710656)] rfl rfl (one_new _ _ _ (u8_at u 281474976710656)) HL2.out (by simp; omega) ?_)
      intro v4 w4 hb4 hk4
      have hb5 : Buf w4 base v4 (x1 ++ (num8 u).take 2) := by
        rw [← HC.out] at hb4; simpa [num8] using hb4
      have HB4 := Lib.hid hb5
      have HK4 := Lib.hid ((HK3.out.alloc _).trans hk4)
      clear hb4 hb5 hk4
      obtain ⟨x5, hx5⟩ : ∃ x, x1 ++ (num8 u).take 2 = x := ⟨_, rfl⟩
      rw [hx5] at HB4
      have HX5 := Lib.hid hx5
      clear hx5
      obtain ⟨ad4, c4, rfl⟩ := HB4.out.shape
      go_wp2_with fail
      exact ⟨⟨2, by omega, by simp, by rw [HX5.out]; exact HB4, HK4⟩, by simp [intOf]⟩
    · go_wp2_with (at_builtin; refine wpList_append_buf _ rfl _ _ rfl base _ _ rfl (HB3.out.alloc _) ⟨wr.heap.size, 0, none⟩ 1 1 [UInt8.ofNat (u / 1099511627776)] rfl rfl (one_new _ _ _ (u8_at u 1099511627776)) HL2.out (by simp; omega) ?_)
      intro v4 w4 hb4 hk4
      have hb5 : Buf w4 base v4 (x1 ++ (num8 u).take 3) := by
        rw [← HC.out] at hb4; simpa [num8] using hb4
      have HB4 := Lib.hid hb5
      have HK4 := Lib.hid ((HK3.out.alloc _).trans hk4)
      clear hb4 hb5 hk4
      obtain ⟨x5, hx5⟩ : ∃ x, x1 ++ (num8 u).take 3 = x := ⟨_, rfl⟩
      rw [hx5] at HB4
      have HX5 := Lib.hid hx5
      clear hx5
      obtain ⟨ad4, c4, rfl⟩ := HB4.out.shape
      go_wp2_with fail
      exact ⟨⟨3, by omega, by simp, by rw [HX5.out]; exact HB4, HK4⟩, by simp [intOf]⟩
    · go_wp2_with (at_builtin; refine wpList_append_buf _ rfl _ _ rfl base _ _ rfl (HB3.out.alloc _) ⟨wr.heap.size, 0, none⟩ 1 1 [UInt8.ofNat (u / 4294967296)] rfl rfl (one_new _ _ _ (u8_at u 4294967296)) HL2.out (by simp; omega) ?_)
      intro v4 w4 hb4 hk4
      have hb5 : Buf w4 base v4 (x1 ++ (num8 u).take 4) := by
        rw [← HC.out] at hb4; simpa [num8] using hb4
      have HB4 := Lib.hid hb5
      have HK4 := Lib.hid ((HK3.out.alloc _).trans hk4)
      clear hb4 hb5 hk4
      obtain ⟨x5, hx5⟩ : ∃ x, x1 ++ (num8 u).take 4 = x := ⟨_, rfl⟩
      rw [hx5] at HB4
      have HX5 := Lib.hid hx5
      clear hx5
      obtain ⟨ad4, c4, rfl⟩ := HB4.out.shape
      go_wp2_with fail
      exact ⟨⟨4, by omega, by simp, by rw [HX5.out]; exact HB4, HK4⟩, by simp [intOf]⟩
    · go_wp2_with (at_builtin; refine wpList_append_buf _ rfl _ _ rfl base _ _ rfl (HB3.out.alloc _) ⟨wr.heap.size, 0, none⟩ 1 1 [UInt8.ofNat (u / 16777216)] rfl rfl (one_new _ _ _ (u8_at u 16777216)) HL2.out (by simp; omega) ?_)
      intro v4 w4 hb4 hk4
      have hb5 : Buf w4 base v4 (x1 ++ (num8 u).take 5) := by
        rw [← HC.out] at hb4; simpa [num8] using hb4
      have HB4 := Lib.hid hb5
      have HK4 := Lib.hid ((HK3.out.alloc _).trans hk4)
      clear hb4 hb5 hk4
      obtain ⟨x5, hx5⟩ : ∃ x, x1 ++ (num8 u).take 5 = x := ⟨_, rfl⟩
      rw [hx5] at HB4
      have HX5 := Lib.hid hx5
      clear hx5
      obtain ⟨ad4, c4, rfl⟩ := HB4.out.shape
      go_wp2_with fail
      exact ⟨⟨5, by omega, by simp, by rw [HX5.out]; exact HB4, HK4⟩, by simp [intOf]⟩
    · go_wp2_with (at_builtin; refine wpList_append_buf _ rfl _ _ rfl base _ _ rfl (HB3.out.alloc _) ⟨wr.heap.size, 0, none⟩ 1 1 [UInt8.ofNat (u / 65536)] rfl rfl (one_new _ _ _ (u8_at u 65536)) HL2.out (by simp; omega) ?_)
      intro v4 w4 hb4 hk4
      have hb5 : Buf w4 base v4 (x1 ++ (num8 u).take 6) := by
        rw [← HC.out] at hb4; simpa [num8] using hb4
      have HB4 := Lib.hid hb5
      have HK4 := Lib.hid ((HK3.out.alloc _).trans hk4)
      clear hb4 hb5 hk4
      obtain ⟨x5, hx5⟩ : ∃ x, x1 ++ (num8 u).take 6 = x := ⟨_, rfl⟩
      rw [hx5] at HB4
      have HX5 := Lib.hid hx5
      clear hx5
      obtain ⟨ad4, c4, rfl⟩ := HB4.out.shape
      go_wp2_with fail
      exact ⟨⟨6, by omega, by simp, by rw [HX5.out]; exact HB4, HK4⟩, by simp [intOf]⟩
    · go_wp2_with (at_builtin; refine wpList_append_buf _ rfl _ _ rfl base _ _ rfl (HB3.out.alloc _) ⟨wr.heap.size, 0, none⟩ 1 1 [UInt8.ofNat (u / 256)] rfl rfl (one_new _ _ _ (u8_at u 256)) HL2.out (by simp; omega) ?_)
      intro v4 w4 hb4 hk4
      have hb5 : Buf w4 base v4 (x1 ++ (num8 u).take 7) := by
        rw [← HC.out] at hb4; simpa [num8] using hb4
      have HB4 := Lib.hid hb5
      have HK4 := Lib.hid ((HK3.out.alloc _).trans hk4)
      clear hb4 hb5 hk4
      obtain ⟨x5, hx5⟩ : ∃ x, x1 ++ (num8 u).take 7 = x := ⟨_, rfl⟩
      rw [hx5] at HB4
      have HX5 := Lib.hid hx5
      clear hx5
      obtain ⟨ad4, c4, rfl⟩ := HB4.out.shape
      go_wp2_with fail
      exact ⟨⟨7, by omega, by simp, by rw [HX5.out]; exact HB4, HK4⟩, by simp [intOf]⟩
    · go_wp2_with (at_builtin; refine wpList_append_buf _ rfl _ _ rfl base _ _ rfl (HB3.out.alloc _) ⟨wr.heap.size, 0, none⟩ 1 1 [UInt8.ofNat u] rfl rfl (one_new _ _ _ (u8_at0 u)) HL2.out (by simp; omega) ?_)
      intro v4 w4 hb4 hk4
      have hb5 : Buf w4 base v4 (x1 ++ (num8 u).take 8) := by
        rw [← HC.out] at hb4; simpa [num8] using hb4
      have HB4 := Lib.hid hb5
      have HK4 := Lib.hid ((HK3.out.alloc _).trans hk4)
      clear hb4 hb5 hk4
      obtain ⟨x5, hx5⟩ : ∃ x, x1 ++ (num8 u).take 8 = x := ⟨_, rfl⟩
      rw [hx5] at HB4
      have HX5 := Lib.hid hx5
      clear hx5
      obtain ⟨ad4, c4, rfl⟩ := HB4.out.shape
      go_wp2_with fail
      exact ⟨⟨8, by omega, by simp, by rw [HX5.out]; exact HB4, HK4⟩, by simp [intOf]⟩
    · have hlf : cur = rr := by rw [← HC.out, ← HR.out, ← HX1.out]; simp [num8]
      have HLF := Lib.hid hlf
      clear hlf
      go_wp2_with fail
      go_ret
      exact ⟨_, rfl, by rw [← HLF.out]; exact HB3.out, HK3.out.of_alloc⟩
set_option maxRecDepth 20000 in
set_option maxHeartbeats 2000000 in
theorem kapp_k4 (i : Int) (s : ByteArray) (lt : List Tr) (ns : List ByteArray) (ds : List Tr) (la da : Option Addr) (lc dc : Nat) (b : Value) (l : List UInt8) (base : Nat) (W0 w : World) (hE : Ext W0 w) (hb0 : W0.heap.size ≤ base) (hbase : base ≤ w.heap.size) (hB : Buf w base b l) (hs : s.size ≤ 4096) (hlen : l.length ≤ 90000000000) :
    Calls Tryd.prog 22 #[b, .agg #[.int .i64 4, .int .i64 i, .string s, .slice la lt.length lc, .slice da ds.length dc]] w (BufPost base w (l ++ ([4] ++ (esc s.data.toList ++ [0, 0])))) := by
  obtain ⟨rr, hrr⟩ : ∃ x, l ++ ([4] ++ (esc s.data.toList ++ [0, 0])) = x := ⟨_, rfl⟩
  rw [hrr]
  have HR := Lib.hid hrr
  clear hrr
  have HB := Lib.hid hB
  obtain ⟨ad, c, rfl⟩ := hB.shape
  clear hB
  have HL1 : Hid (l.length + [(4 : UInt8)].length ≤ 140737488355328) := by
    show _ ≤ _
    simp; omega
  go_enter Tryd.func22, Tryd.ntmps22
  go_wp2_with (at_builtin; refine wpList_append_buf _ rfl _ _ rfl base _ _ rfl ((HB.out.alloc _).alloc _) ⟨w.heap.size + 1, 0, none⟩ 1 1 [4] rfl rfl (one_newg _ _ (by simp) _ _ rfl) HL1.out (by simp; omega) ?_)
  intro v1 w1 hb1 hk1
  obtain ⟨x1, hx1⟩ : ∃ x, l ++ [4] = x := ⟨_, rfl⟩
  rw [hx1] at hb1
  have HX1 := Lib.hid hx1
  have n1 : x1.length ≤ l.length + 1 := by rw [← hx1]; simp
  have HB1 := Lib.hid hb1
  have hk1a := hk1.of_alloc
  have HK1 := Lib.hid hk1a
  have k1 := hk1a.ownc (by decide)
  have l1 := hk1a.lt
  have s1 := hk1a.of_alloc.size
  obtain ⟨ad1, c1, rfl⟩ := HB1.out.shape
  clear hb1 hk1 hk1a hx1
  go_wp2_with fail
  go_loopw [0, 46] (fun b x wr => ∃ (j : Nat), j ≤ s.size ∧ x = .int .i64 j ∧ Hid (Buf wr base b (x1 ++ esc (s.data.toList.take j))) ∧ Hid (Keep base (w.alloc (.cells #[.int .i64 4, .int .i64 i, .string s, .slice la lt.length lc, .slice da ds.length dc] 41)) wr)) (fun _ x _ => s.size - (intOf x).toNat)
  case atStart => exact ⟨0, by omega, rfl, by simpa [esc] using HB1, HK1⟩
  case round =>
    obtain ⟨j, hj, rfl, HB3, HK3⟩ := hrel
    obtain ⟨cur, hcur⟩ : ∃ x, x1 ++ esc (s.data.toList.take j) = x := ⟨_, rfl⟩
    rw [hcur] at HB3
    have hcl : cur.length ≤ x1.length + 2 * s.size := by
      rw [← hcur]; have := esc_le (s.data.toList.take j); simp only [List.length_append]; simp at this; omega
    have HC := Lib.hid hcur
    clear hcur k1
    obtain ⟨ad3, c3, rfl⟩ := HB3.out.shape
    have k3 := HK3.out.ownc (by decide)
    have l3 := HK3.out.lt
    have s3 := HK3.out.of_alloc.size
    have HL2 : Hid (cur.length + [(0 : UInt8)].length ≤ 140737488355328) := by
      show _ ≤ _
      simp; omega
    by_cases hlt : j < s.size
    · have htk : s.data.toList.take (j + 1) = s.data.toList.take j ++ [s[j]] := by rw [List.take_succ_eq_append_getElem (by simpa using hlt)]; rfl
      have hsn : esc (s.data.toList.take (j + 1)) = esc (s.data.toList.take j) ++ escC s[j] := by rw [htk, esc_snoc]
      obtain ⟨cc, hcc⟩ : ∃ c, s[j] = c := ⟨_, rfl⟩
      rw [hcc] at hsn
      have HSN := Lib.hid hsn
      clear hsn htk
      go_wp2_with (at_builtin; refine wpList_append_buf _ rfl _ _ rfl base _ _ rfl (HB3.out.alloc _) ⟨wr.heap.size, 0, none⟩ 1 1 [cc] rfl rfl (one_new _ _ _ rfl) HL2.out (by simp; omega) ?_)
      intro v4 w4 hb4 hk4
      have HK4 := Lib.hid ((HK3.out.alloc _).trans hk4)
      have k4 := HK4.out.ownc (by decide)
      have l4 := HK4.out.lt
      have s4 := HK4.out.of_alloc.size
      clear hk4 k3
      obtain ⟨x4, hx4⟩ : ∃ x, cur ++ [cc] = x := ⟨_, rfl⟩
      rw [hx4] at hb4
      have hx4l : x4.length ≤ cur.length + 1 := by rw [← hx4]; simp
      have HX4 := Lib.hid hx4
      have HB4 := Lib.hid hb4
      clear hx4 hb4
      obtain ⟨ad4, c4, rfl⟩ := HB4.out.shape
      by_cases hz : cc = 0
      · have d : ((cc.toNat : Int) == 0) = true := by rw [hz]; rfl
        have HL3 : Hid (x4.length + [(0 : UInt8)].length ≤ 140737488355328) := by
          show _ ≤ _
          simp; omega
        have hz2 : cc.toNat = 0 := by rw [hz]; rfl
        have HZ := Lib.hid hz
        clear hz
        go_wp2_with (at_builtin; refine wpList_append_buf _ rfl _ _ rfl base _ _ rfl (HB4.out.alloc _) ⟨w4.heap.size, 0, none⟩ 1 1 [255] rfl rfl (one_new _ _ _ rfl) HL3.out (by simp; omega) ?_)
        intro v5 w5 hb5 hk5
        have hb6 : Buf w5 base v5 (x1 ++ esc (s.data.toList.take (j + 1))) := by
          rw [HSN.out]; rw [← HX4.out, ← HC.out, HZ.out] at hb5; rw [HZ.out]; simpa [escC] using hb5
        have HK5 := Lib.hid ((HK4.out.alloc _).trans hk5)
        obtain ⟨x6, hx6⟩ : ∃ x, x1 ++ esc (s.data.toList.take (j + 1)) = x := ⟨_, rfl⟩
        rw [hx6] at hb6
        have HX6 := Lib.hid hx6
        have HB6 := Lib.hid hb6
        clear hb5 hk5 hb6 hx6 k4
        obtain ⟨ad6, c6, rfl⟩ := HB6.out.shape
        go_wp2_with fail
        exact ⟨⟨j + 1, by omega, by go_num, by rw [HX6.out]; exact HB6, HK5⟩, by simp [intOf]; omega⟩
      · have d : ((cc.toNat : Int) == 0) = false := by
          rw [beq_eq_false_iff_ne]; intro e; exact hz (UInt8.toNat_inj.1 (by simpa using e))
        have hb6 : Buf w4 base (.slice ad4 x4.length c4) (x1 ++ esc (s.data.toList.take (j + 1))) := by
          have h := HB4.out
          rw [HSN.out]; rw [← HX4.out, ← HC.out] at h ⊢; simpa [escC, hz] using h
        have hx6 : x4 = x1 ++ esc (s.data.toList.take (j + 1)) := by
          rw [HSN.out, ← HX4.out, ← HC.out]; simp [escC, hz]
        have HX6 := Lib.hid hx6
        clear hb6 hx6 hz
        go_wp2_with fail
        exact ⟨⟨j + 1, by omega, by go_num, by rw [← HX6.out]; exact HB4, HK4⟩, by simp [intOf]; omega⟩
    · have hj2 : j = s.size := by omega
      subst hj2
      have HL3 : Hid (cur.length + [(0 : UInt8), 0].length ≤ 140737488355328) := by
        show _ ≤ _
        simp; omega
      go_wp2_with (at_builtin; refine wpList_append_buf _ rfl _ _ rfl base _ _ rfl (HB3.out.alloc _) ⟨wr.heap.size, 0, none⟩ 2 2 [0, 0] rfl rfl (two_newg _ _ rfl) HL3.out (by simp; omega) ?_)
      intro v4 w4 hb4 hk4
      have hb6 : Buf w4 base v4 rr := by
        rw [← HC.out, List.take_of_length_le (by simp)] at hb4
        rw [← HR.out, ← List.append_assoc, HX1.out, ← List.append_assoc]; exact hb4
      have HB6 := Lib.hid hb6
      have HK4 := Lib.hid ((HK3.out.alloc _).trans hk4)
      clear hb4 hb6 hk4
      obtain ⟨ad4, c4, rfl⟩ := HB6.out.shape
      go_wp2_with fail
      go_ret
      exact ⟨_, rfl, HB6.out, HK4.out.of_alloc⟩
set_option maxRecDepth 20000 in
set_option maxHeartbeats 2000000 in
theorem kapp_k7 (i : Int) (s : ByteArray) (lt : List Tr) (ns : List ByteArray) (ds : List Tr) (la da : Option Addr) (lc dc : Nat) (b : Value) (l : List UInt8) (base : Nat) (W0 w : World) (hE : Ext W0 w) (hb0 : W0.heap.size ≤ base) (hbase : base ≤ w.heap.size) (hB : Buf w base b l) (hs : s.size ≤ 4096) (hlen : l.length ≤ 90000000000) :
    Calls Tryd.prog 22 #[b, .agg #[.int .i64 7, .int .i64 i, .string s, .slice la lt.length lc, .slice da ds.length dc]] w (BufPost base w (l ++ ([7] ++ (esc s.data.toList ++ [0, 0])))) := by
  obtain ⟨rr, hrr⟩ : ∃ x, l ++ ([7] ++ (esc s.data.toList ++ [0, 0])) = x := ⟨_, rfl⟩
  rw [hrr]
  have HR := Lib.hid hrr
  clear hrr
  have HB := Lib.hid hB
  obtain ⟨ad, c, rfl⟩ := hB.shape
  clear hB
  have HL1 : Hid (l.length + [(7 : UInt8)].length ≤ 140737488355328) := by
    show _ ≤ _
    simp; omega
  go_enter Tryd.func22, Tryd.ntmps22
  go_wp2_with (at_builtin; refine wpList_append_buf _ rfl _ _ rfl base _ _ rfl ((HB.out.alloc _).alloc _) ⟨w.heap.size + 1, 0, none⟩ 1 1 [7] rfl rfl (one_newg _ _ (by simp) _ _ rfl) HL1.out (by simp; omega) ?_)
  intro v1 w1 hb1 hk1
  obtain ⟨x1, hx1⟩ : ∃ x, l ++ [7] = x := ⟨_, rfl⟩
  rw [hx1] at hb1
  have HX1 := Lib.hid hx1
  have n1 : x1.length ≤ l.length + 1 := by rw [← hx1]; simp
  have HB1 := Lib.hid hb1
  have hk1a := hk1.of_alloc
  have HK1 := Lib.hid hk1a
  have k1 := hk1a.ownc (by decide)
  have l1 := hk1a.lt
  have s1 := hk1a.of_alloc.size
  obtain ⟨ad1, c1, rfl⟩ := HB1.out.shape
  clear hb1 hk1 hk1a hx1
  go_wp2_with fail
  go_loopw [0, 46] (fun b x wr => ∃ (j : Nat), j ≤ s.size ∧ x = .int .i64 j ∧ Hid (Buf wr base b (x1 ++ esc (s.data.toList.take j))) ∧ Hid (Keep base (w.alloc (.cells #[.int .i64 7, .int .i64 i, .string s, .slice la lt.length lc, .slice da ds.length dc] 41)) wr)) (fun _ x _ => s.size - (intOf x).toNat)
  case atStart => exact ⟨0, by omega, rfl, by simpa [esc] using HB1, HK1⟩
  case round =>
    obtain ⟨j, hj, rfl, HB3, HK3⟩ := hrel
    obtain ⟨cur, hcur⟩ : ∃ x, x1 ++ esc (s.data.toList.take j) = x := ⟨_, rfl⟩
    rw [hcur] at HB3
    have hcl : cur.length ≤ x1.length + 2 * s.size := by
      rw [← hcur]; have := esc_le (s.data.toList.take j); simp only [List.length_append]; simp at this; omega
    have HC := Lib.hid hcur
    clear hcur k1
    obtain ⟨ad3, c3, rfl⟩ := HB3.out.shape
    have k3 := HK3.out.ownc (by decide)
    have l3 := HK3.out.lt
    have s3 := HK3.out.of_alloc.size
    have HL2 : Hid (cur.length + [(0 : UInt8)].length ≤ 140737488355328) := by
      show _ ≤ _
      simp; omega
    by_cases hlt : j < s.size
    · have htk : s.data.toList.take (j + 1) = s.data.toList.take j ++ [s[j]] := by rw [List.take_succ_eq_append_getElem (by simpa using hlt)]; rfl
      have hsn : esc (s.data.toList.take (j + 1)) = esc (s.data.toList.take j) ++ escC s[j] := by rw [htk, esc_snoc]
      obtain ⟨cc, hcc⟩ : ∃ c, s[j] = c := ⟨_, rfl⟩
      rw [hcc] at hsn
      have HSN := Lib.hid hsn
      clear hsn htk
      go_wp2_with (at_builtin; refine wpList_append_buf _ rfl _ _ rfl base _ _ rfl (HB3.out.alloc _) ⟨wr.heap.size, 0, none⟩ 1 1 [cc] rfl rfl (one_new _ _ _ rfl) HL2.out (by simp; omega) ?_)
      intro v4 w4 hb4 hk4
      have HK4 := Lib.hid ((HK3.out.alloc _).trans hk4)
      have k4 := HK4.out.ownc (by decide)
      have l4 := HK4.out.lt
      have s4 := HK4.out.of_alloc.size
      clear hk4 k3
      obtain ⟨x4, hx4⟩ : ∃ x, cur ++ [cc] = x := ⟨_, rfl⟩
      rw [hx4] at hb4
      have hx4l : x4.length ≤ cur.length + 1 := by rw [← hx4]; simp
      have HX4 := Lib.hid hx4
      have HB4 := Lib.hid hb4
      clear hx4 hb4
      obtain ⟨ad4, c4, rfl⟩ := HB4.out.shape
      by_cases hz : cc = 0
      · have d : ((cc.toNat : Int) == 0) = true := by rw [hz]; rfl
        have HL3 : Hid (x4.length + [(0 : UInt8)].length ≤ 140737488355328) := by
          show _ ≤ _
          simp; omega
        have hz2 : cc.toNat = 0 := by rw [hz]; rfl
        have HZ := Lib.hid hz
        clear hz
        go_wp2_with (at_builtin; refine wpList_append_buf _ rfl _ _ rfl base _ _ rfl (HB4.out.alloc _) ⟨w4.heap.size, 0, none⟩ 1 1 [255] rfl rfl (one_new _ _ _ rfl) HL3.out (by simp; omega) ?_)
        intro v5 w5 hb5 hk5
        have hb6 : Buf w5 base v5 (x1 ++ esc (s.data.toList.take (j + 1))) := by
          rw [HSN.out]; rw [← HX4.out, ← HC.out, HZ.out] at hb5; rw [HZ.out]; simpa [escC] using hb5
        have HK5 := Lib.hid ((HK4.out.alloc _).trans hk5)
        obtain ⟨x6, hx6⟩ : ∃ x, x1 ++ esc (s.data.toList.take (j + 1)) = x := ⟨_, rfl⟩
        rw [hx6] at hb6
        have HX6 := Lib.hid hx6
        have HB6 := Lib.hid hb6
        clear hb5 hk5 hb6 hx6 k4
        obtain ⟨ad6, c6, rfl⟩ := HB6.out.shape
        go_wp2_with fail
        exact ⟨⟨j + 1, by omega, by go_num, by rw [HX6.out]; exact HB6, HK5⟩, by simp [intOf]; omega⟩
      · have d : ((cc.toNat : Int) == 0) = false := by
          rw [beq_eq_false_iff_ne]; intro e; exact hz (UInt8.toNat_inj.1 (by simpa using e))
        have hb6 : Buf w4 base (.slice ad4 x4.length c4) (x1 ++ esc (s.data.toList.take (j + 1))) := by
          have h := HB4.out
          rw [HSN.out]; rw [← HX4.out, ← HC.out] at h ⊢; simpa [escC, hz] using h
        have hx6 : x4 = x1 ++ esc (s.data.toList.take (j + 1)) := by
          rw [HSN.out, ← HX4.out, ← HC.out]; simp [escC, hz]
        have HX6 := Lib.hid hx6
        clear hb6 hx6 hz
        go_wp2_with fail
        exact ⟨⟨j + 1, by omega, by go_num, by rw [← HX6.out]; exact HB4, HK4⟩, by simp [intOf]; omega⟩
    · have hj2 : j = s.size := by omega
      subst hj2
      have HL3 : Hid (cur.length + [(0 : UInt8), 0].length ≤ 140737488355328) := by
        show _ ≤ _
        simp; omega
      go_wp2_with (at_builtin; refine wpList_append_buf _ rfl _ _ rfl base _ _ rfl (HB3.out.alloc _) ⟨wr.heap.size, 0, none⟩ 2 2 [0, 0] rfl rfl (two_newg _ _ rfl) HL3.out (by simp; omega) ?_)
      intro v4 w4 hb4 hk4
      have hb6 : Buf w4 base v4 rr := by
        rw [← HC.out, List.take_of_length_le (by simp)] at hb4
        rw [← HR.out, ← List.append_assoc, HX1.out, ← List.append_assoc]; exact hb4
      have HB6 := Lib.hid hb6
      have HK4 := Lib.hid ((HK3.out.alloc _).trans hk4)
      clear hb4 hb6 hk4
      obtain ⟨ad4, c4, rfl⟩ := HB6.out.shape
      go_wp2_with fail
      go_ret
      exact ⟨_, rfl, HB6.out, HK4.out.of_alloc⟩
set_option maxRecDepth 20000 in
set_option maxHeartbeats 2000000 in
theorem kapp_k8 (i : Int) (s : ByteArray) (lt : List Tr) (ns : List ByteArray) (ds : List Tr) (la da : Option Addr) (lc dc : Nat) (b : Value) (l : List UInt8) (base : Nat) (W0 w : World) (hE : Ext W0 w) (hb0 : W0.heap.size ≤ base) (hbase : base ≤ w.heap.size) (hB : Buf w base b l) (hs : s.size ≤ 4096) (hlen : l.length ≤ 90000000000) :
    Calls Tryd.prog 22 #[b, .agg #[.int .i64 8, .int .i64 i, .string s, .slice la lt.length lc, .slice da ds.length dc]] w (BufPost base w (l ++ ([8] ++ (esc s.data.toList ++ [0, 0])))) := by
  obtain ⟨rr, hrr⟩ : ∃ x, l ++ ([8] ++ (esc s.data.toList ++ [0, 0])) = x := ⟨_, rfl⟩
  rw [hrr]
  have HR := Lib.hid hrr
  clear hrr
  have HB := Lib.hid hB
  obtain ⟨ad, c, rfl⟩ := hB.shape
  clear hB
  have HL1 : Hid (l.length + [(8 : UInt8)].length ≤ 140737488355328) := by
    show _ ≤ _
    simp; omega
  go_enter Tryd.func22, Tryd.ntmps22
  go_wp2_with (at_builtin; refine wpList_append_buf _ rfl _ _ rfl base _ _ rfl ((HB.out.alloc _).alloc _) ⟨w.heap.size + 1, 0, none⟩ 1 1 [8] rfl rfl (one_newg _ _ (by simp) _ _ rfl) HL1.out (by simp; omega) ?_)
  intro v1 w1 hb1 hk1
  obtain ⟨x1, hx1⟩ : ∃ x, l ++ [8] = x := ⟨_, rfl⟩
  rw [hx1] at hb1
  have HX1 := Lib.hid hx1
  have n1 : x1.length ≤ l.length + 1 := by rw [← hx1]; simp
  have HB1 := Lib.hid hb1
  have hk1a := hk1.of_alloc
  have HK1 := Lib.hid hk1a
  have k1 := hk1a.ownc (by decide)
  have l1 := hk1a.lt
  have s1 := hk1a.of_alloc.size
  obtain ⟨ad1, c1, rfl⟩ := HB1.out.shape
  clear hb1 hk1 hk1a hx1
  go_wp2_with fail
  go_loopw [0, 46] (fun b x wr => ∃ (j : Nat), j ≤ s.size ∧ x = .int .i64 j ∧ Hid (Buf wr base b (x1 ++ esc (s.data.toList.take j))) ∧ Hid (Keep base (w.alloc (.cells #[.int .i64 8, .int .i64 i, .string s, .slice la lt.length lc, .slice da ds.length dc] 41)) wr)) (fun _ x _ => s.size - (intOf x).toNat)
  case atStart => exact ⟨0, by omega, rfl, by simpa [esc] using HB1, HK1⟩
  case round =>
    obtain ⟨j, hj, rfl, HB3, HK3⟩ := hrel
    obtain ⟨cur, hcur⟩ : ∃ x, x1 ++ esc (s.data.toList.take j) = x := ⟨_, rfl⟩
    rw [hcur] at HB3
    have hcl : cur.length ≤ x1.length + 2 * s.size := by
      rw [← hcur]; have := esc_le (s.data.toList.take j); simp only [List.length_append]; simp at this; omega
    have HC := Lib.hid hcur
    clear hcur k1
    obtain ⟨ad3, c3, rfl⟩ := HB3.out.shape
    have k3 := HK3.out.ownc (by decide)
    have l3 := HK3.out.lt
    have s3 := HK3.out.of_alloc.size
    have HL2 : Hid (cur.length + [(0 : UInt8)].length ≤ 140737488355328) := by
      show _ ≤ _
      simp; omega
    by_cases hlt : j < s.size
    · have htk : s.data.toList.take (j + 1) = s.data.toList.take j ++ [s[j]] := by rw [List.take_succ_eq_append_getElem (by simpa using hlt)]; rfl
      have hsn : esc (s.data.toList.take (j + 1)) = esc (s.data.toList.take j) ++ escC s[j] := by rw [htk, esc_snoc]
      obtain ⟨cc, hcc⟩ : ∃ c, s[j] = c := ⟨_, rfl⟩
      rw [hcc] at hsn
      have HSN := Lib.hid hsn
      clear hsn htk
      go_wp2_with (at_builtin; refine wpList_append_buf _ rfl _ _ rfl base _ _ rfl (HB3.out.alloc _) ⟨wr.heap.size, 0, none⟩ 1 1 [cc] rfl rfl (one_new _ _ _ rfl) HL2.out (by simp; omega) ?_)
      intro v4 w4 hb4 hk4
      have HK4 := Lib.hid ((HK3.out.alloc _).trans hk4)
      have k4 := HK4.out.ownc (by decide)
      have l4 := HK4.out.lt
      have s4 := HK4.out.of_alloc.size
      clear hk4 k3
      obtain ⟨x4, hx4⟩ : ∃ x, cur ++ [cc] = x := ⟨_, rfl⟩
      rw [hx4] at hb4
      have hx4l : x4.length ≤ cur.length + 1 := by rw [← hx4]; simp
      have HX4 := Lib.hid hx4
      have HB4 := Lib.hid hb4
      clear hx4 hb4
      obtain ⟨ad4, c4, rfl⟩ := HB4.out.shape
      by_cases hz : cc = 0
      · have d : ((cc.toNat : Int) == 0) = true := by rw [hz]; rfl
        have HL3 : Hid (x4.length + [(0 : UInt8)].length ≤ 140737488355328) := by
          show _ ≤ _
          simp; omega
        have hz2 : cc.toNat = 0 := by rw [hz]; rfl
        have HZ := Lib.hid hz
        clear hz
        go_wp2_with (at_builtin; refine wpList_append_buf _ rfl _ _ rfl base _ _ rfl (HB4.out.alloc _) ⟨w4.heap.size, 0, none⟩ 1 1 [255] rfl rfl (one_new _ _ _ rfl) HL3.out (by simp; omega) ?_)
        intro v5 w5 hb5 hk5
        have hb6 : Buf w5 base v5 (x1 ++ esc (s.data.toList.take (j + 1))) := by
          rw [HSN.out]; rw [← HX4.out, ← HC.out, HZ.out] at hb5; rw [HZ.out]; simpa [escC] using hb5
        have HK5 := Lib.hid ((HK4.out.alloc _).trans hk5)
        obtain ⟨x6, hx6⟩ : ∃ x, x1 ++ esc (s.data.toList.take (j + 1)) = x := ⟨_, rfl⟩
        rw [hx6] at hb6
        have HX6 := Lib.hid hx6
        have HB6 := Lib.hid hb6
        clear hb5 hk5 hb6 hx6 k4
        obtain ⟨ad6, c6, rfl⟩ := HB6.out.shape
        go_wp2_with fail
        exact ⟨⟨j + 1, by omega, by go_num, by rw [HX6.out]; exact HB6, HK5⟩, by simp [intOf]; omega⟩
      · have d : ((cc.toNat : Int) == 0) = false := by
          rw [beq_eq_false_iff_ne]; intro e; exact hz (UInt8.toNat_inj.1 (by simpa using e))
        have hb6 : Buf w4 base (.slice ad4 x4.length c4) (x1 ++ esc (s.data.toList.take (j + 1))) := by
          have h := HB4.out
          rw [HSN.out]; rw [← HX4.out, ← HC.out] at h ⊢; simpa [escC, hz] using h
        have hx6 : x4 = x1 ++ esc (s.data.toList.take (j + 1)) := by
          rw [HSN.out, ← HX4.out, ← HC.out]; simp [escC, hz]
        have HX6 := Lib.hid hx6
        clear hb6 hx6 hz
        go_wp2_with fail
        exact ⟨⟨j + 1, by omega, by go_num, by rw [← HX6.out]; exact HB4, HK4⟩, by simp [intOf]; omega⟩
    · have hj2 : j = s.size := by omega
      subst hj2
      have HL3 : Hid (cur.length + [(0 : UInt8), 0].length ≤ 140737488355328) := by
        show _ ≤ _
        simp; omega
      go_wp2_with (at_builtin; refine wpList_append_buf _ rfl _ _ rfl base _ _ rfl (HB3.out.alloc _) ⟨wr.heap.size, 0, none⟩ 2 2 [0, 0] rfl rfl (two_newg _ _ rfl) HL3.out (by simp; omega) ?_)
      intro v4 w4 hb4 hk4
      have hb6 : Buf w4 base v4 rr := by
        rw [← HC.out, List.take_of_length_le (by simp)] at hb4
        rw [← HR.out, ← List.append_assoc, HX1.out, ← List.append_assoc]; exact hb4
      have HB6 := Lib.hid hb6
      have HK4 := Lib.hid ((HK3.out.alloc _).trans hk4)
      clear hb4 hb6 hk4
      obtain ⟨ad4, c4, rfl⟩ := HB6.out.shape
      go_wp2_with fail
      go_ret
      exact ⟨_, rfl, HB6.out, HK4.out.of_alloc⟩
set_option maxRecDepth 20000 in
set_option maxHeartbeats 2000000 in
theorem kapp_k6 (i : Int) (s : ByteArray) (lt : List Tr) (ns : List ByteArray) (ds : List Tr) (la da : Option Addr) (lc dc : Nat) (b : Value) (l : List UInt8) (base : Nat) (W0 w : World) (hE : Ext W0 w) (hb0 : W0.heap.size ≤ base) (hbase : base ≤ w.heap.size) (hB : Buf w base b l) (hc1 : lt.length ≤ lc) (hc2 : lc ≤ maxLen) (hc3 : lt.length ≤ 90000000000) (hL : LRep W0 la 0 lt) (hsl : ∀ t ∈ lt, snd t = true) (ih : ∀ t ∈ lt, KAppOk t) (hlen : l.length + ([6] ++ (kencL lt ++ [0])).length ≤ 90000000000) :
    Calls Tryd.prog 22 #[b, .agg #[.int .i64 6, .int .i64 i, .string s, .slice la lt.length lc, .slice da ds.length dc]] w (BufPost base w (l ++ ([6] ++ (kencL lt ++ [0])))) := by
  obtain ⟨rr, hrr⟩ : ∃ x, l ++ ([6] ++ (kencL lt ++ [0])) = x := ⟨_, rfl⟩
  rw [hrr]
  have HR := Lib.hid hrr
  clear hrr
  have HB := Lib.hid hB
  obtain ⟨ad, c, rfl⟩ := hB.shape
  clear hB
  have HL1 : Hid (l.length + [(6 : UInt8)].length ≤ 140737488355328) := by
    show _ ≤ _
    simp; omega
  have HL := Lib.hid hL
  have HIH := Lib.hid ih
  have HSL := Lib.hid hsl
  clear hL ih hsl
  go_enter Tryd.func22, Tryd.ntmps22
  go_wp2_with (at_builtin; refine wpList_append_buf _ rfl _ _ rfl base _ _ rfl ((HB.out.alloc _).alloc _) ⟨w.heap.size + 1, 0, none⟩ 1 1 [6] rfl rfl (one_newg _ _ (by simp) _ _ rfl) HL1.out (by simp; omega) ?_)
  intro v1 w1 hb1 hk1
  obtain ⟨x1, hx1⟩ : ∃ x, l ++ [6] = x := ⟨_, rfl⟩
  rw [hx1] at hb1
  have HX1 := Lib.hid hx1
  have n1 : x1.length ≤ l.length + 1 := by rw [← hx1]; simp
  have HB1 := Lib.hid hb1
  have hk1a := hk1.of_alloc
  have HK1 := Lib.hid hk1a
  have k1 := hk1a.ownc (by decide)
  have l1 := hk1a.lt
  have s1 := hk1a.of_alloc.size
  obtain ⟨ad1, c1, rfl⟩ := HB1.out.shape
  clear hb1 hk1 hk1a hx1
  have hpl : x1.length + (kencL lt).length ≤ 90000000000 := by
    rw [← HX1.out]; have := hlen; simp only [List.length_append] at this ⊢; omega
  go_wp2_with fail
  go_loopw [0, 73] (fun b c wr => ∃ j : Nat, j ≤ lt.length ∧ c = .int .i64 j ∧ Hid (Buf wr base b (x1 ++ kencL (lt.take j))) ∧ Hid (Keep base (w.alloc (.cells #[.int .i64 6, .int .i64 i, .string s, .slice la lt.length lc, .slice da ds.length dc] 41)) wr)) (fun _ c _ => lt.length - (intOf c).toNat)
  case atStart => exact ⟨0, by omega, rfl, by simpa [kencL] using HB1, HK1⟩
  case round =>
    obtain ⟨j, hj, rfl, HB3, HK3⟩ := hrel
    obtain ⟨cur, hcur⟩ : ∃ x, x1 ++ kencL (lt.take j) = x := ⟨_, rfl⟩
    rw [hcur] at HB3
    have hcl : cur.length ≤ 90000000000 := by
      rw [← hcur]; have := kencL_take_le lt j; simp only [List.length_append] at this ⊢; omega
    have HC := Lib.hid hcur
    clear hcur
    obtain ⟨ad3, c3, rfl⟩ := HB3.out.shape
    have l3 := HK3.out.lt
    have s3 := HK3.out.of_alloc.size
    by_cases hlt : j < lt.length
    · obtain ⟨bb, off, c0, c1, c2, c3', c4, rfl, e0, e1, e2, e3, e4, hv⟩ := LRep.at_ lt 0 j lt[j] HL.out (List.getElem?_eq_getElem hlt)
      obtain ⟨k', i', s', la', ln', lc', da', dn', dc', rfl, rfl, rfl, rfl, rfl⟩ := hv.shape5
      have hEr := HK3.out.of_alloc.ext hE hb0
      have q0 := hEr.keep e0
      have q1 := hEr.keep e1
      have q2 := hEr.keep e2
      have q3 := hEr.keep e3
      have q4 := hEr.keep e4
      rw [Nat.zero_add] at q0 q1 q2 q3 q4
      have HV := Lib.hid hv
      have HEr := Lib.hid hEr
      clear e0 e1 e2 e3 e4 hv hEr
      have hsn := kencL_snoc (lt.take j) lt[j]
      rw [← List.take_succ_eq_append_getElem hlt] at hsn
      have hle := kencL_take_le lt (j + 1)
      obtain ⟨p, hp⟩ : ∃ p, lt[j] = p := ⟨_, rfl⟩
      have hmem : p ∈ lt := by rw [← hp]; exact List.getElem_mem hlt
      rw [hp] at HV hsn
      have hlp : (cur ++ [1]).length + (kenc p).length ≤ 90000000000 := by
        rw [← HC.out]; rw [hsn] at hle; simp only [List.length_append] at hle ⊢; omega
      have HLp := Lib.hid hlp
      have HSn := Lib.hid hsn
      have HL2 : Hid (cur.length + [(1 : UInt8)].length ≤ 140737488355328) := by
        show _ ≤ _
        simp; omega
      clear hp hsn hle hlp
      go_wp2_with fail
      refine wp_region_mix (Keep base (wr.alloc (.cells #[.int .i64 k', .int .i64 i', .string s', .slice la' ln' lc', .slice da' dn' dc'] 41))) [(true, 0), (true, 3), (false, 1), (false, 2), (false, 4), (true, 5)] (by kernel_rfl) (by kernel_rfl) (by kernel_rfl) (by kernel_rfl) ?hS ?_
      case hS => exact (Keep.refl _ _).drew
      repeat (first | (refine wpMix_q (v := ?_) rfl rfl ?_ ?_; rotate_left; (· intro wq hSq; have cq := Keep.ownc hSq (by decide); go_simp; try (with_reducible rfl)); simp only [Act.put, List.setIfInBounds_toArray, List.set_cons_zero, List.set_cons_succ, List.getElem_toArray, List.getElem_cons_zero, List.getElem_cons_succ]) | (refine wpMix_u rfl rfl ?_; simp only [Act.put, List.setIfInBounds_toArray, List.set_cons_zero, List.set_cons_succ, List.getElem_toArray, List.getElem_cons_zero, List.getElem_cons_succ]))
      refine wpMix_l rfl rfl (fun K hK => ?_)
      go_simp
      refine hK _ _ ((Keep.refl _ _).alloc _).drew ?_
      clear hK K
      refine wpMix_l rfl rfl (fun K hK => ?_)
      refine wp_append_buf _ _ _ rfl base _ cur rfl ((HB3.out.alloc _).alloc _).drew ⟨wr.heap.size + 1, 0, none⟩ 1 1 [1] rfl rfl (one_newg (wr.alloc (.cells #[.int .i64 k', .int .i64 i', .string s', .slice la' ln' lc', .slice da' dn' dc'] 41)) _ (by simp) _ _ rfl) HL2.out (by simp; omega) ?_
      intro v4 w4 hb4 hk4
      obtain ⟨mid, hmid⟩ : ∃ x, cur ++ [1] = x := ⟨_, rfl⟩
      rw [hmid] at hb4 HLp
      have HMid := Lib.hid hmid
      clear hmid
      have HB4 := Lib.hid hb4
      obtain ⟨ad4, c4', rfl⟩ := hb4.shape
      clear hb4
      have HK4 := Lib.hid (((Keep.refl base (wr.alloc (.cells #[.int .i64 k', .int .i64 i', .string s', .slice la' ln' lc', .slice da' dn' dc'] 41))).alloc (.cells #[.int .u8 1] 5)).drew.trans hk4)
      refine hK _ _ HK4.out ?_
      clear hK K hk4
      have s4 := HK4.out.of_alloc.size
      (try simp only [Act.put, List.setIfInBounds_toArray, List.set_cons_zero, List.set_cons_succ, List.getElem_toArray, List.getElem_cons_zero, List.getElem_cons_succ])
      refine wpMix_l rfl rfl (fun K hK => ?_)
      go_simp
      refine (HIH.out p hmem _ _ _ base W0 _ (HSL.out p hmem) HV.out (HK4.out.of_alloc.ext HEr.out hb0) hb0 (by omega) HB4.out HLp.out).mono ?_
      rintro e w5 ⟨v5, rfl, hb5, hk5⟩
      have hb6 : Buf w5 base v5 (x1 ++ kencL (lt.take (j + 1))) := by
        rw [HSn.out]; rw [← HMid.out, ← HC.out] at hb5; simp only [List.append_assoc] at hb5 ⊢; exact hb5
      obtain ⟨nx, hnx⟩ : ∃ x, x1 ++ kencL (lt.take (j + 1)) = x := ⟨_, rfl⟩
      rw [hnx] at hb6
      have HNx := Lib.hid hnx
      clear hnx
      have HB5 := Lib.hid hb6
      obtain ⟨ad5, c5', rfl⟩ := hb6.shape
      have HK5 := Lib.hid (HK4.out.trans hk5)
      refine hK _ _ HK5.out ?_
      clear hK K hk5 hb5 hb6
      repeat (first | (refine wpMix_q (v := ?_) rfl rfl ?_ ?_; rotate_left; (· intro wq hSq; have cq := Keep.ownc hSq (by decide); go_simp; try (with_reducible rfl)); simp only [Act.put, List.setIfInBounds_toArray, List.set_cons_zero, List.set_cons_succ, List.getElem_toArray, List.getElem_cons_zero, List.getElem_cons_succ]) | (refine wpMix_u rfl rfl ?_; simp only [Act.put, List.setIfInBounds_toArray, List.set_cons_zero, List.set_cons_succ, List.getElem_toArray, List.getElem_cons_zero, List.getElem_cons_succ]))
      refine wpMix_nil ?_
      have HK6 := Lib.hid (HK3.out.trans HK5.out.of_alloc)
      go_wp2_with fail
      exact ⟨⟨j + 1, by omega, by go_num, by rw [HNx.out]; exact HB5, HK6⟩, by simp [intOf]; omega⟩
    · have hj2 : j = lt.length := by omega
      subst hj2
      have hlf2 : cur ++ [0] = rr := by
        rw [← HC.out, List.take_length, ← HX1.out, ← HR.out]; simp only [List.append_assoc]
      have HLF := Lib.hid hlf2
      clear hlf2
      have HL3 : Hid (cur.length + [(0 : UInt8)].length ≤ 140737488355328) := by
        show _ ≤ _
        simp; omega
      go_wp2_with (at_builtin; refine wpList_append_buf _ rfl _ _ rfl base _ _ rfl (HB3.out.alloc _) ⟨wr.heap.size, 0, none⟩ 1 1 [0] rfl rfl (one_new _ _ _ rfl) HL3.out (by simp; omega) ?_)
      intro v4 w4 hb4 hk4
      have hb6 : Buf w4 base v4 rr := by
        rw [← HLF.out]; exact hb4
      have HB6 := Lib.hid hb6
      have HK4 := Lib.hid ((HK3.out.alloc _).trans hk4)
      clear hb4 hb6 hk4
      obtain ⟨ad4, c4, rfl⟩ := HB6.out.shape
      go_wp2_with fail
      go_ret
      exact ⟨_, rfl, HB6.out, HK4.out.of_alloc⟩
set_option maxRecDepth 20000 in
set_option maxHeartbeats 2000000 in
theorem kapp_k5 (i : Int) (s : ByteArray) (lt : List Tr) (ns : List ByteArray) (ds : List Tr) (la da : Option Addr) (lc dc : Nat) (b : Value) (l : List UInt8) (base : Nat) (W0 w : World) (hE : Ext W0 w) (hb0 : W0.heap.size ≤ base) (hbase : base ≤ w.heap.size) (hB : Buf w base b l) (hln : ns.length = ds.length) (hc1 : ds.length ≤ dc) (hc2 : dc ≤ maxLen) (hc3 : ds.length ≤ 90000000000) (hL : DRep W0 da 0 ns ds) (hnm : ∀ n ∈ ns, n.size ≤ 32) (hsl : ∀ t ∈ ds, snd t = true) (ih : ∀ t ∈ ds, KAppOk t) (hlen : l.length + ([5] ++ (kencF ns ds ++ [0])).length ≤ 90000000000) :
    Calls Tryd.prog 22 #[b, .agg #[.int .i64 5, .int .i64 i, .string s, .slice la lt.length lc, .slice da ds.length dc]] w (BufPost base w (l ++ ([5] ++ (kencF ns ds ++ [0])))) := by
  obtain ⟨rr, hrr⟩ : ∃ x, l ++ ([5] ++ (kencF ns ds ++ [0])) = x := ⟨_, rfl⟩
  rw [hrr]
  have HR := Lib.hid hrr
  clear hrr
  have HB := Lib.hid hB
  obtain ⟨ad, c, rfl⟩ := hB.shape
  clear hB
  have HL1 : Hid (l.length + [(5 : UInt8)].length ≤ 140737488355328) := by
    show _ ≤ _
    simp; omega
  have HL := Lib.hid hL
  have HIH := Lib.hid ih
  have HSL := Lib.hid hsl
  clear hL ih hsl
  have HNM := Lib.hid hnm
  clear hnm
  go_enter Tryd.func22, Tryd.ntmps22
  go_wp2_with (at_builtin; refine wpList_append_buf _ rfl _ _ rfl base _ _ rfl ((HB.out.alloc _).alloc _) ⟨w.heap.size + 1, 0, none⟩ 1 1 [5] rfl rfl (one_newg _ _ (by simp) _ _ rfl) HL1.out (by simp; omega) ?_)
  intro v1 w1 hb1 hk1
  obtain ⟨x1, hx1⟩ : ∃ x, l ++ [5] = x := ⟨_, rfl⟩
  rw [hx1] at hb1
  have HX1 := Lib.hid hx1
  have n1 : x1.length ≤ l.length + 1 := by rw [← hx1]; simp
  have HB1 := Lib.hid hb1
  have hk1a := hk1.of_alloc
  have HK1 := Lib.hid hk1a
  have k1 := hk1a.ownc (by decide)
  have l1 := hk1a.lt
  have s1 := hk1a.of_alloc.size
  obtain ⟨ad1, c1, rfl⟩ := HB1.out.shape
  clear hb1 hk1 hk1a hx1
  have hpl : x1.length + (kencF ns ds).length ≤ 90000000000 := by
    rw [← HX1.out]; have := hlen; simp only [List.length_append] at this ⊢; omega
  go_wp2_with fail
  go_loopw [0, 91] (fun b c wr => ∃ j : Nat, j ≤ ds.length ∧ c = .int .i64 j ∧ Hid (Buf wr base b (x1 ++ kencF (ns.take j) (ds.take j))) ∧ Hid (Keep base (w.alloc (.cells #[.int .i64 5, .int .i64 i, .string s, .slice la lt.length lc, .slice da ds.length dc] 41)) wr)) (fun _ c _ => ds.length - (intOf c).toNat)
  case atStart => exact ⟨0, by omega, rfl, by simpa [kencF] using HB1, HK1⟩
  case round =>
    obtain ⟨j, hj, rfl, HB3, HK3⟩ := hrel
    obtain ⟨cur, hcur⟩ : ∃ x, x1 ++ kencF (ns.take j) (ds.take j) = x := ⟨_, rfl⟩
    rw [hcur] at HB3
    have hcl : cur.length ≤ 90000000000 := by
      rw [← hcur]; have := kencF_take_le ns ds j; simp only [List.length_append] at this ⊢; omega
    have HC := Lib.hid hcur
    clear hcur
    obtain ⟨ad3, c3, rfl⟩ := HB3.out.shape
    have l3 := HK3.out.lt
    have s3 := HK3.out.of_alloc.size
    by_cases hlt : j < ds.length
    · obtain ⟨bb, off, c0, c1, c2, c3', c4, rfl, hnm, en, e0, e1, e2, e3, e4, hv⟩ := DRep.at_ ns ds 0 j (ns[j]'(by omega)) ds[j] HL.out (List.getElem?_eq_getElem (by omega)) (List.getElem?_eq_getElem hlt)
      obtain ⟨k', i', s', la', ln', lc', da', dn', dc', rfl, rfl, rfl, rfl, rfl⟩ := hv.shape5
      have hEr := HK3.out.of_alloc.ext hE hb0
      have qn := hEr.keep en
      have q0 := hEr.keep e0
      have q1 := hEr.keep e1
      have q2 := hEr.keep e2
      have q3 := hEr.keep e3
      have q4 := hEr.keep e4
      rw [Nat.zero_add] at qn q0 q1 q2 q3 q4
      have HV := Lib.hid hv
      have HEr := Lib.hid hEr
      clear en e0 e1 e2 e3 e4 hv hEr
      have hsn := kencF_snoc (ns.take j) (ds.take j) (ns[j]'(by omega)) ds[j] (by simp; omega)
      rw [← List.take_succ_eq_append_getElem hlt, ← List.take_succ_eq_append_getElem (by omega)] at hsn
      have hle := kencF_take_le ns ds (j + 1)
      obtain ⟨p, hp⟩ : ∃ p, ds[j] = p := ⟨_, rfl⟩
      obtain ⟨nm, hn⟩ : ∃ n, ns[j]'(by omega) = n := ⟨_, rfl⟩
      have hmem : p ∈ ds := by rw [← hp]; exact List.getElem_mem hlt
      have hmn : nm ∈ ns := by rw [← hn]; exact List.getElem_mem (by omega)
      have h32 : nm.size ≤ 32 := HNM.out nm hmn
      rw [hp] at HV hsn
      rw [hn] at qn hsn hnm
      have hlp : (cur ++ [1] ++ nm.data.toList ++ [0]).length + (kenc p).length ≤ 90000000000 := by
        rw [← HC.out]; rw [hsn] at hle; simp only [List.length_append] at hle ⊢; omega
      have HLp := Lib.hid hlp
      have HSn := Lib.hid hsn
      have HL2 : Hid (cur.length + [(1 : UInt8)].length ≤ 140737488355328) := by
        show _ ≤ _
        simp; omega
      clear hp hn hsn hle hlp
      go_wp2_with (at_builtin; refine wpList_append_buf _ rfl _ _ rfl base _ _ rfl ((HB3.out.alloc _).alloc _) ⟨wr.heap.size + 1, 0, none⟩ 1 1 [1] rfl rfl (one_newg _ _ (by simp) _ _ rfl) HL2.out (by simp; omega) ?_)
      intro v4 w4 hb4 hk4
      obtain ⟨m1, hm1⟩ : ∃ x, cur ++ [1] = x := ⟨_, rfl⟩
      rw [hm1] at hb4 HLp
      have hm1l : m1.length ≤ cur.length + 1 := by rw [← hm1]; simp
      have HM1 := Lib.hid hm1
      clear hm1
      have HB4 := Lib.hid hb4
      obtain ⟨ad4, c4', rfl⟩ := hb4.shape
      have hk4a := hk4.of_alloc
      have HK4 := Lib.hid hk4a
      have k4 := hk4a.ownc (by decide)
      have l4 := hk4a.lt
      have s4 := hk4a.of_alloc.size
      have HL3 : Hid (m1.length + nm.size ≤ 140737488355328) := by
        show _ ≤ _
        omega
      clear hb4 hk4 hk4a
      go_wp2_with (at_builtin; refine wpList_append_bufS _ rfl _ _ rfl base _ _ rfl HB4.out nm rfl HL3.out (by omega) ?_)
      intro v5 w5 hb5 hk5
      obtain ⟨m2, hm2⟩ : ∃ x, m1 ++ nm.data.toList = x := ⟨_, rfl⟩
      rw [hm2] at hb5 HLp
      have hm2l : m2.length ≤ m1.length + 32 := by rw [← hm2]; simp; omega
      have HM2 := Lib.hid hm2
      clear hm2
      have HB5 := Lib.hid hb5
      obtain ⟨ad5, c5', rfl⟩ := hb5.shape
      have HK5 := Lib.hid (HK4.out.trans hk5)
      have l5 := HK5.out.lt
      have s5 := HK5.out.of_alloc.size
      have HL4 : Hid (m2.length + [(0 : UInt8)].length ≤ 140737488355328) := by
        show _ ≤ _
        simp; omega
      clear hb5 hk5 k4
      go_wp2_with fail
      refine wp_region_mix (Keep base (wr.alloc (.cells #[.string nm, .int .i64 k', .int .i64 i', .string s', .slice la' ln' lc', .slice da' dn' dc'] 58))) [(true, 0), (true, 3), (true, 4), (false, 1), (false, 2), (false, 5), (true, 6)] (by kernel_rfl) (by kernel_rfl) (by kernel_rfl) (by kernel_rfl) ?hS ?_
      case hS => exact HK5.out.drew
      repeat (first | (refine wpMix_q (v := ?_) rfl rfl ?_ ?_; rotate_left; (· intro wq hSq; have cq := Keep.ownc hSq (by decide); go_simp; try (with_reducible rfl)); simp only [Act.put, List.setIfInBounds_toArray, List.set_cons_zero, List.set_cons_succ, List.getElem_toArray, List.getElem_cons_zero, List.getElem_cons_succ]) | (refine wpMix_u rfl rfl ?_; simp only [Act.put, List.setIfInBounds_toArray, List.set_cons_zero, List.set_cons_succ, List.getElem_toArray, List.getElem_cons_zero, List.getElem_cons_succ]))
      refine wpMix_l rfl rfl (fun K hK => ?_)
      go_simp
      refine hK _ _ (HK5.out.alloc _).drew ?_
      clear hK K
      refine wpMix_l rfl rfl (fun K hK => ?_)
      refine wp_append_buf _ _ _ rfl base _ m2 rfl (HB5.out.alloc _).drew ⟨w5.heap.size, 0, none⟩ 1 1 [0] rfl rfl (one_new w5 _ _ rfl) HL4.out (by simp; omega) ?_
      intro v6 w6 hb6 hk6
      obtain ⟨m3, hm3⟩ : ∃ x, m2 ++ [0] = x := ⟨_, rfl⟩
      rw [hm3] at hb6 HLp
      have HM3 := Lib.hid hm3
      clear hm3
      have HB6 := Lib.hid hb6
      obtain ⟨ad6, c6', rfl⟩ := hb6.shape
      clear hb6
      have HK6 := Lib.hid ((HK5.out.alloc (.cells #[.int .u8 0] 5)).drew.trans hk6)
      refine hK _ _ HK6.out ?_
      clear hK K hk6
      have s6 := HK6.out.of_alloc.size
      (try simp only [Act.put, List.setIfInBounds_toArray, List.set_cons_zero, List.set_cons_succ, List.getElem_toArray, List.getElem_cons_zero, List.getElem_cons_succ])
      refine wpMix_l rfl rfl (fun K hK => ?_)
      go_simp
      refine (HIH.out p hmem _ _ _ base W0 _ (HSL.out p hmem) HV.out (HK6.out.of_alloc.ext HEr.out hb0) hb0 (by omega) HB6.out HLp.out).mono ?_
      rintro e w7 ⟨v7, rfl, hb7, hk7⟩
      have hb8 : Buf w7 base v7 (x1 ++ kencF (ns.take (j + 1)) (ds.take (j + 1))) := by
        rw [HSn.out]; rw [← HM3.out, ← HM2.out, ← HM1.out, ← HC.out] at hb7; simp only [List.append_assoc] at hb7 ⊢; exact hb7
      obtain ⟨nx, hnx⟩ : ∃ x, x1 ++ kencF (ns.take (j + 1)) (ds.take (j + 1)) = x := ⟨_, rfl⟩
      rw [hnx] at hb8
      have HNx := Lib.hid hnx
      clear hnx
      have HB8 := Lib.hid hb8
      obtain ⟨ad8, c8', rfl⟩ := hb8.shape
      have HK8 := Lib.hid (HK6.out.trans hk7)
      refine hK _ _ HK8.out ?_
      clear hK K hk7 hb7 hb8
      repeat (first | (refine wpMix_q (v := ?_) rfl rfl ?_ ?_; rotate_left; (· intro wq hSq; have cq := Keep.ownc hSq (by decide); go_simp; try (with_reducible rfl)); simp only [Act.put, List.setIfInBounds_toArray, List.set_cons_zero, List.set_cons_succ, List.getElem_toArray, List.getElem_cons_zero, List.getElem_cons_succ]) | (refine wpMix_u rfl rfl ?_; simp only [Act.put, List.setIfInBounds_toArray, List.set_cons_zero, List.set_cons_succ, List.getElem_toArray, List.getElem_cons_zero, List.getElem_cons_succ]))
      refine wpMix_nil ?_
      have HK9 := Lib.hid (HK3.out.trans HK8.out.of_alloc)
      go_wp2_with fail
      exact ⟨⟨j + 1, by omega, by go_num, by rw [HNx.out]; exact HB8, HK9⟩, by simp [intOf]; omega⟩
    · have hj2 : j = ds.length := by omega
      subst hj2
      have hlf2 : cur ++ [0] = rr := by
        rw [← HC.out, List.take_length, List.take_of_length_le (by omega), ← HX1.out, ← HR.out]; simp only [List.append_assoc]
      have HLF := Lib.hid hlf2
      clear hlf2
      have HL3 : Hid (cur.length + [(0 : UInt8)].length ≤ 140737488355328) := by
        show _ ≤ _
        simp; omega
      go_wp2_with (at_builtin; refine wpList_append_buf _ rfl _ _ rfl base _ _ rfl (HB3.out.alloc _) ⟨wr.heap.size, 0, none⟩ 1 1 [0] rfl rfl (one_new _ _ _ rfl) HL3.out (by simp; omega) ?_)
      intro v4 w4 hb4 hk4
      have hb6 : Buf w4 base v4 rr := by
        rw [← HLF.out]; exact hb4
      have HB6 := Lib.hid hb6
      have HK4 := Lib.hid ((HK3.out.alloc _).trans hk4)
      clear hb4 hb6 hk4
      obtain ⟨ad4, c4, rfl⟩ := HB6.out.shape
      go_wp2_with fail
      go_ret
      exact ⟨_, rfl, HB6.out, HK4.out.of_alloc⟩
theorem kapp_step (t : Tr) (ih : ∀ p, p.sz < t.sz → KAppOk p) : KAppOk t := by
  intro v b l base W0 w hsd hV hE hb0 hbase hB hlen
  obtain ⟨k, i, s, lt, ns, ds⟩ := t
  unfold VRep at hV
  obtain ⟨la, lc, da, dc, rfl, ⟨hs, hk, hi⟩, hl1, hl2, hd1, hd2, hnd, hL, hD⟩ := hV
  obtain ⟨h1, h2, h3, h4⟩ := snd_list hsd
  have ih2 : ∀ t, t ∈ lt ∨ t ∈ ds → KAppOk t := fun t ht => ih t (by rcases ht with h | h; exact Tr.sz_list h; exact Tr.sz_docs h)
  clear ih
  have hep := kenc_pos (.mk k i s lt ns ds)
  by_cases k1 : k = 1
  · subst k1; exact kapp_k1 i s lt ns ds la da lc dc b l base W0 w hE hb0 hbase hB (by omega)
  by_cases k2 : k = 2
  · subst k2; exact kapp_k2 i s lt ns ds la da lc dc b l base W0 w hE hb0 hbase hB (by omega)
  by_cases k11 : k = 11
  · subst k11; exact kapp_k11 i s lt ns ds la da lc dc b l base W0 w hE hb0 hbase hB (by omega)
  by_cases k3 : k = 3
  · subst k3; exact kapp_k3 i s lt ns ds la da lc dc b l base W0 w hE hb0 hbase hB hi (by omega)
  by_cases k9 : k = 9
  · subst k9; exact kapp_k9 i s lt ns ds la da lc dc b l base W0 w hE hb0 hbase hB hi (by omega)
  by_cases k10 : k = 10
  · subst k10; exact kapp_k10 i s lt ns ds la da lc dc b l base W0 w hE hb0 hbase hB hi (by omega)
  by_cases k4 : k = 4
  · subst k4; exact kapp_k4 i s lt ns ds la da lc dc b l base W0 w hE hb0 hbase hB (by simp [leafOk] at h2; exact h2.1) (by omega)
  by_cases k7 : k = 7
  · subst k7; exact kapp_k7 i s lt ns ds la da lc dc b l base W0 w hE hb0 hbase hB (by simpa [leafOk] using h2) (by omega)
  by_cases k8 : k = 8
  · subst k8; exact kapp_k8 i s lt ns ds la da lc dc b l base W0 w hE hb0 hbase hB (by simp [leafOk] at h2; omega) (by omega)
  by_cases k5 : k = 5
  · subst k5
    have e : kenc (.mk 5 i s lt ns ds) = [5] ++ (kencF ns ds ++ [0]) := by simp [kenc]
    rw [e] at hlen ⊢
    have := kencF_len ns ds hnd
    exact kapp_k5 i s lt ns ds la da lc dc b l base W0 w hE hb0 hbase hB hnd hd1.1 hd2 (by simp only [List.length_append] at hlen; omega) hD (fun n hn => nameB_le (sndF_names h4 hnd n hn)) (fun t ht => sndF_mem h4 t ht) (fun t ht => ih2 t (.inr ht)) hlen
  by_cases k6 : k = 6
  · subst k6
    have e : kenc (.mk 6 i s lt ns ds) = [6] ++ (kencL lt ++ [0]) := by simp [kenc]
    rw [e] at hlen ⊢
    have := kencL_len lt
    exact kapp_k6 i s lt ns ds la da lc dc b l base W0 w hE hb0 hbase hB hl1.1 hl2 (by simp only [List.length_append] at hlen; omega) hL (fun t ht => sndL_mem h3 t ht) (fun t ht => ih2 t (.inl ht)) hlen
  exfalso
  simp [leafOk, k1, k2, k3, k4, k5, k6, k7, k8, k9, k10, k11] at h2
theorem kapp_ok (t : Tr) : KAppOk t := by
  have : ∀ n (t : Tr), t.sz = n → KAppOk t := by
    intro n
    induction n using Nat.strongRecOn with
    | _ n ih => intro t ht; exact kapp_step t (fun p hp => ih p.sz (by rw [← ht]; exact hp) p rfl)
  exact this _ t rfl
end Go.Proofs.YtipphlhaaienpaaDoor
