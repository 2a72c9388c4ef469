/- codec.appendText and codec.appendValue, kind by kind (printed by genapp.py). -/
import Derived.Test.YtdoofmohoamkbaaDoorEncP
import Derived.Test.YtdoofmohoamkbaaDoorNum
set_option linter.unusedSimpArgs false
set_option linter.unusedVariables false
namespace Go.Proofs.YtdoofmohoamkbaaDoor
open Go.RowKit
theorem one_newg (w : World) (g : Nat) (hg : g = w.heap.size) (c : UInt8) (x : Int) (hx : x = c.toNat) : ∀ j u, ([c].map bv)[j]? = some u → (w.alloc (.cells #[.int .u8 x] 5)).cell? ((⟨g, 0, none⟩ : Addr).add j) = some u := by
  subst hg; exact one_new w c x hx
set_option maxRecDepth 20000 in
set_option maxHeartbeats 1000000 in
theorem appendText_ok (s : ByteArray) (b : Value) (l : List UInt8) (base : Nat) (w : World) (hB : Buf w base b l) (hlen : l.length + s.size + 10 ≤ 100000000000) (hbase : base ≤ w.heap.size) :
    Calls Tryd.prog 54 #[b, .string s] w (BufPost base w (l ++ (numL (zz s.size) ++ s.data.toList))) := by
  have HB := Lib.hid hB
  obtain ⟨ad, c, rfl⟩ := hB.shape
  clear hB
  have HI := Lib.hid (I64_nat s.size (by unfold maxLen; omega))
  have HN := Lib.hid (numL_10 _ (zz_lt _ HI.out))
  go_enter Tryd.func54, Tryd.ntmps54
  go_wp2_with fail
  refine (appendNum_ok _ _ l base _ HI.out HB.out (by omega) hbase).mono ?_
  rintro e w1 ⟨v, rfl, hb, hk⟩
  obtain ⟨x1, hx1⟩ : ∃ x, l ++ numL (zz s.size) = x := ⟨_, rfl⟩
  rw [hx1] at hb
  have HX1 := Lib.hid hx1
  have HB1 := Lib.hid hb
  have HK1 := Lib.hid hk
  have hsz := hk.size
  obtain ⟨ad2, c2, rfl⟩ := hb.shape
  have HLn : Hid (x1.length + s.size ≤ 140737488355328) := by
    show _ ≤ _
    have := HN.out
    rw [← hx1, List.length_append]; omega
  clear hb hk hx1
  go_wp2_with (at_builtin; refine wpList_append_bufS _ rfl _ _ rfl base _ _ rfl HB1.out s rfl HLn.out (by omega) ?_)
  intro v2 w2 hb2 hk2
  obtain ⟨x2, hx2⟩ : ∃ x, x1 ++ s.data.toList = x := ⟨_, rfl⟩
  rw [hx2] at hb2
  have HX2 := Lib.hid hx2
  have HB2 := Lib.hid hb2
  have HK2 := Lib.hid (HK1.out.trans hk2)
  clear hb2 hk2 hx2
  obtain ⟨ad3, c3, rfl⟩ := HB2.out.shape
  go_wp2_with fail
  go_ret
  exact ⟨_, rfl, by rw [← List.append_assoc, HX1.out, HX2.out]; exact HB2.out, HK2.out⟩
def AppOk (t : Tr) : Prop := ∀ (v b : Value) (l : List UInt8) (base : Nat) (W0 w : World), snd t = true → VRep W0 t v → Ext W0 w → W0.heap.size ≤ base → base ≤ w.heap.size → Buf w base b l → l.length + (enc t).length ≤ 90000000000 →
  Calls Tryd.prog 31 #[b, v] w (BufPost base w (l ++ enc t))
set_option maxRecDepth 20000 in
set_option maxHeartbeats 1000000 in
theorem app_k1 (i : Int) (s : ByteArray) (lt : List Tr) (ns : List ByteArray) (ds : List Tr) (la da : Option Addr) (lc dc : Nat) (b : Value) (l : List UInt8) (base : Nat) (W0 w : World) (hE : Ext W0 w) (hb0 : W0.heap.size ≤ base) (hbase : base ≤ w.heap.size) (hB : Buf w base b l) (hlen : l.length ≤ 90000000000) :
    Calls Tryd.prog 31 #[b, .agg #[.int .i64 1, .int .i64 i, .string s, .slice la lt.length lc, .slice da ds.length dc]] w (BufPost base w (l ++ ([1]))) := by
  obtain ⟨rr, hrr⟩ : ∃ x, l ++ ([1]) = x := ⟨_, rfl⟩
  rw [hrr]
  have HR := Lib.hid hrr
  clear hrr
  have HB := Lib.hid hB
  obtain ⟨ad, c, rfl⟩ := hB.shape
  clear hB
  have HL1 : Hid (l.length + [(1 : UInt8)].length ≤ 140737488355328) := by
    show _ ≤ _
    simp; omega
  go_enter Tryd.func31, Tryd.ntmps31
  go_wp2_with (at_builtin; refine wpList_append_buf _ rfl _ _ rfl base _ _ rfl ((HB.out.alloc _).alloc _) ⟨w.heap.size + 1, 0, none⟩ 1 1 [1] rfl rfl (one_newg _ _ (by simp) _ _ rfl) HL1.out (by simp; omega) ?_)
  intro v1 w1 hb1 hk1
  obtain ⟨x1, hx1⟩ : ∃ x, l ++ [1] = x := ⟨_, rfl⟩
  rw [hx1] at hb1
  have HX1 := Lib.hid hx1
  have n1 : x1.length ≤ l.length + 1 := by rw [← hx1]; simp
  have HB1 := Lib.hid hb1
  have hk1a := hk1.of_alloc
  have HK1 := Lib.hid hk1a
  have k1 := hk1a.ownc (by decide)
  have l1 := hk1a.lt
  obtain ⟨ad1, c1, rfl⟩ := HB1.out.shape
  clear hb1 hk1 hk1a hx1
  go_wp2_with fail
  go_ret
  exact ⟨_, rfl, by rw [← HR.out, HX1.out]; exact HB1.out, HK1.out.of_alloc⟩
set_option maxRecDepth 20000 in
set_option maxHeartbeats 1000000 in
theorem app_k2 (i : Int) (s : ByteArray) (lt : List Tr) (ns : List ByteArray) (ds : List Tr) (la da : Option Addr) (lc dc : Nat) (b : Value) (l : List UInt8) (base : Nat) (W0 w : World) (hE : Ext W0 w) (hb0 : W0.heap.size ≤ base) (hbase : base ≤ w.heap.size) (hB : Buf w base b l) (hlen : l.length ≤ 90000000000) :
    Calls Tryd.prog 31 #[b, .agg #[.int .i64 2, .int .i64 i, .string s, .slice la lt.length lc, .slice da ds.length dc]] w (BufPost base w (l ++ ([2]))) := by
  obtain ⟨rr, hrr⟩ : ∃ x, l ++ ([2]) = x := ⟨_, rfl⟩
  rw [hrr]
  have HR := Lib.hid hrr
  clear hrr
  have HB := Lib.hid hB
  obtain ⟨ad, c, rfl⟩ := hB.shape
  clear hB
  have HL1 : Hid (l.length + [(2 : UInt8)].length ≤ 140737488355328) := by
    show _ ≤ _
    simp; omega
  go_enter Tryd.func31, Tryd.ntmps31
  go_wp2_with (at_builtin; refine wpList_append_buf _ rfl _ _ rfl base _ _ rfl ((HB.out.alloc _).alloc _) ⟨w.heap.size + 1, 0, none⟩ 1 1 [2] rfl rfl (one_newg _ _ (by simp) _ _ rfl) HL1.out (by simp; omega) ?_)
  intro v1 w1 hb1 hk1
  obtain ⟨x1, hx1⟩ : ∃ x, l ++ [2] = x := ⟨_, rfl⟩
  rw [hx1] at hb1
  have HX1 := Lib.hid hx1
  have n1 : x1.length ≤ l.length + 1 := by rw [← hx1]; simp
  have HB1 := Lib.hid hb1
  have hk1a := hk1.of_alloc
  have HK1 := Lib.hid hk1a
  have k1 := hk1a.ownc (by decide)
  have l1 := hk1a.lt
  obtain ⟨ad1, c1, rfl⟩ := HB1.out.shape
  clear hb1 hk1 hk1a hx1
  go_wp2_with fail
  go_ret
  exact ⟨_, rfl, by rw [← HR.out, HX1.out]; exact HB1.out, HK1.out.of_alloc⟩
set_option maxRecDepth 20000 in
set_option maxHeartbeats 1000000 in
theorem app_k11 (i : Int) (s : ByteArray) (lt : List Tr) (ns : List ByteArray) (ds : List Tr) (la da : Option Addr) (lc dc : Nat) (b : Value) (l : List UInt8) (base : Nat) (W0 w : World) (hE : Ext W0 w) (hb0 : W0.heap.size ≤ base) (hbase : base ≤ w.heap.size) (hB : Buf w base b l) (hlen : l.length ≤ 90000000000) :
    Calls Tryd.prog 31 #[b, .agg #[.int .i64 11, .int .i64 i, .string s, .slice la lt.length lc, .slice da ds.length dc]] w (BufPost base w (l ++ ([11]))) := by
  obtain ⟨rr, hrr⟩ : ∃ x, l ++ ([11]) = x := ⟨_, rfl⟩
  rw [hrr]
  have HR := Lib.hid hrr
  clear hrr
  have HB := Lib.hid hB
  obtain ⟨ad, c, rfl⟩ := hB.shape
  clear hB
  have HL1 : Hid (l.length + [(11 : UInt8)].length ≤ 140737488355328) := by
    show _ ≤ _
    simp; omega
  go_enter Tryd.func31, Tryd.ntmps31
  go_wp2_with (at_builtin; refine wpList_append_buf _ rfl _ _ rfl base _ _ rfl ((HB.out.alloc _).alloc _) ⟨w.heap.size + 1, 0, none⟩ 1 1 [11] rfl rfl (one_newg _ _ (by simp) _ _ rfl) HL1.out (by simp; omega) ?_)
  intro v1 w1 hb1 hk1
  obtain ⟨x1, hx1⟩ : ∃ x, l ++ [11] = x := ⟨_, rfl⟩
  rw [hx1] at hb1
  have HX1 := Lib.hid hx1
  have n1 : x1.length ≤ l.length + 1 := by rw [← hx1]; simp
  have HB1 := Lib.hid hb1
  have hk1a := hk1.of_alloc
  have HK1 := Lib.hid hk1a
  have k1 := hk1a.ownc (by decide)
  have l1 := hk1a.lt
  obtain ⟨ad1, c1, rfl⟩ := HB1.out.shape
  clear hb1 hk1 hk1a hx1
  go_wp2_with fail
  go_ret
  exact ⟨_, rfl, by rw [← HR.out, HX1.out]; exact HB1.out, HK1.out.of_alloc⟩
set_option maxRecDepth 20000 in
set_option maxHeartbeats 1000000 in
theorem app_k3 (i : Int) (s : ByteArray) (lt : List Tr) (ns : List ByteArray) (ds : List Tr) (la da : Option Addr) (lc dc : Nat) (b : Value) (l : List UInt8) (base : Nat) (W0 w : World) (hE : Ext W0 w) (hb0 : W0.heap.size ≤ base) (hbase : base ≤ w.heap.size) (hB : Buf w base b l) (hI : I64 i) (hlen : l.length ≤ 90000000000) :
    Calls Tryd.prog 31 #[b, .agg #[.int .i64 3, .int .i64 i, .string s, .slice la lt.length lc, .slice da ds.length dc]] w (BufPost base w (l ++ ([3] ++ numL (zz i)))) := by
  obtain ⟨rr, hrr⟩ : ∃ x, l ++ ([3] ++ numL (zz i)) = x := ⟨_, rfl⟩
  rw [hrr]
  have HR := Lib.hid hrr
  clear hrr
  have HB := Lib.hid hB
  obtain ⟨ad, c, rfl⟩ := hB.shape
  clear hB
  have HL1 : Hid (l.length + [(3 : UInt8)].length ≤ 140737488355328) := by
    show _ ≤ _
    simp; omega
  have HI := Lib.hid hI
  clear hI
  go_enter Tryd.func31, Tryd.ntmps31
  go_wp2_with (at_builtin; refine wpList_append_buf _ rfl _ _ rfl base _ _ rfl ((HB.out.alloc _).alloc _) ⟨w.heap.size + 1, 0, none⟩ 1 1 [3] rfl rfl (one_newg _ _ (by simp) _ _ rfl) HL1.out (by simp; omega) ?_)
  intro v1 w1 hb1 hk1
  obtain ⟨x1, hx1⟩ : ∃ x, l ++ [3] = x := ⟨_, rfl⟩
  rw [hx1] at hb1
  have HX1 := Lib.hid hx1
  have n1 : x1.length ≤ l.length + 1 := by rw [← hx1]; simp
  have HB1 := Lib.hid hb1
  have hk1a := hk1.of_alloc
  have HK1 := Lib.hid hk1a
  have k1 := hk1a.ownc (by decide)
  have l1 := hk1a.lt
  obtain ⟨ad1, c1, rfl⟩ := HB1.out.shape
  clear hb1 hk1 hk1a hx1
  go_wp2_with fail
  refine (appendNum_ok _ _ _ base _ HI.out HB1.out (by omega) (by omega)).mono ?_
  rintro e w2 ⟨v2, rfl, hb2, hk2⟩
  obtain ⟨x2, hx2⟩ : ∃ x, x1 ++ numL (zz i) = x := ⟨_, rfl⟩
  rw [hx2] at hb2
  have HX2 := Lib.hid hx2
  clear hx2
  have HB2 := Lib.hid hb2
  have HK2 := Lib.hid (HK1.out.trans hk2)
  have k2 := HK2.out.ownc (by decide)
  have l2 := HK2.out.lt
  have s2 := HK2.out.of_alloc.size
  obtain ⟨ad2, c2, rfl⟩ := HB2.out.shape
  clear hb2 hk2 k1
  go_wp2_with fail
  go_ret
  exact ⟨_, rfl, by rw [← HR.out, ← List.append_assoc, HX1.out, HX2.out]; exact HB2.out, HK2.out.of_alloc⟩
set_option maxRecDepth 20000 in
set_option maxHeartbeats 1000000 in
theorem app_k10 (i : Int) (s : ByteArray) (lt : List Tr) (ns : List ByteArray) (ds : List Tr) (la da : Option Addr) (lc dc : Nat) (b : Value) (l : List UInt8) (base : Nat) (W0 w : World) (hE : Ext W0 w) (hb0 : W0.heap.size ≤ base) (hbase : base ≤ w.heap.size) (hB : Buf w base b l) (hI : I64 i) (hlen : l.length ≤ 90000000000) :
    Calls Tryd.prog 31 #[b, .agg #[.int .i64 10, .int .i64 i, .string s, .slice la lt.length lc, .slice da ds.length dc]] w (BufPost base w (l ++ ([10] ++ numL (zz i)))) := by
  obtain ⟨rr, hrr⟩ : ∃ x, l ++ ([10] ++ numL (zz i)) = x := ⟨_, rfl⟩
  rw [hrr]
  have HR := Lib.hid hrr
  clear hrr
  have HB := Lib.hid hB
  obtain ⟨ad, c, rfl⟩ := hB.shape
  clear hB
  have HL1 : Hid (l.length + [(10 : UInt8)].length ≤ 140737488355328) := by
    show _ ≤ _
    simp; omega
  have HI := Lib.hid hI
  clear hI
  go_enter Tryd.func31, Tryd.ntmps31
  go_wp2_with (at_builtin; refine wpList_append_buf _ rfl _ _ rfl base _ _ rfl ((HB.out.alloc _).alloc _) ⟨w.heap.size + 1, 0, none⟩ 1 1 [10] rfl rfl (one_newg _ _ (by simp) _ _ rfl) HL1.out (by simp; omega) ?_)
  intro v1 w1 hb1 hk1
  obtain ⟨x1, hx1⟩ : ∃ x, l ++ [10] = x := ⟨_, rfl⟩
  rw [hx1] at hb1
  have HX1 := Lib.hid hx1
  have n1 : x1.length ≤ l.length + 1 := by rw [← hx1]; simp
  have HB1 := Lib.hid hb1
  have hk1a := hk1.of_alloc
  have HK1 := Lib.hid hk1a
  have k1 := hk1a.ownc (by decide)
  have l1 := hk1a.lt
  obtain ⟨ad1, c1, rfl⟩ := HB1.out.shape
  clear hb1 hk1 hk1a hx1
  go_wp2_with fail
  refine (appendNum_ok _ _ _ base _ HI.out HB1.out (by omega) (by omega)).mono ?_
  rintro e w2 ⟨v2, rfl, hb2, hk2⟩
  obtain ⟨x2, hx2⟩ : ∃ x, x1 ++ numL (zz i) = x := ⟨_, rfl⟩
  rw [hx2] at hb2
  have HX2 := Lib.hid hx2
  clear hx2
  have HB2 := Lib.hid hb2
  have HK2 := Lib.hid (HK1.out.trans hk2)
  have k2 := HK2.out.ownc (by decide)
  have l2 := HK2.out.lt
  have s2 := HK2.out.of_alloc.size
  obtain ⟨ad2, c2, rfl⟩ := HB2.out.shape
  clear hb2 hk2 k1
  go_wp2_with fail
  go_ret
  exact ⟨_, rfl, by rw [← HR.out, ← List.append_assoc, HX1.out, HX2.out]; exact HB2.out, HK2.out.of_alloc⟩
set_option maxRecDepth 20000 in
set_option maxHeartbeats 1000000 in
theorem app_k9 (i : Int) (s : ByteArray) (lt : List Tr) (ns : List ByteArray) (ds : List Tr) (la da : Option Addr) (lc dc : Nat) (b : Value) (l : List UInt8) (base : Nat) (W0 w : World) (hE : Ext W0 w) (hb0 : W0.heap.size ≤ base) (hbase : base ≤ w.heap.size) (hB : Buf w base b l) (hi : 0 ≤ i ∧ i ≤ 1) (hlen : l.length ≤ 90000000000) :
    Calls Tryd.prog 31 #[b, .agg #[.int .i64 9, .int .i64 i, .string s, .slice la lt.length lc, .slice da ds.length dc]] w (BufPost base w (l ++ ([9] ++ [UInt8.ofNat i.toNat]))) := by
  obtain ⟨rr, hrr⟩ : ∃ x, l ++ ([9] ++ [UInt8.ofNat i.toNat]) = x := ⟨_, rfl⟩
  rw [hrr]
  have HR := Lib.hid hrr
  clear hrr
  have HB := Lib.hid hB
  obtain ⟨ad, c, rfl⟩ := hB.shape
  clear hB
  have HL1 : Hid (l.length + [(9 : UInt8)].length ≤ 140737488355328) := by
    show _ ≤ _
    simp; omega
  obtain ⟨cc, hc9⟩ : ∃ c, UInt8.ofNat i.toNat = c := ⟨_, rfl⟩
  rw [hc9] at HR
  go_enter Tryd.func31, Tryd.ntmps31
  go_wp2_with (at_builtin; refine wpList_append_buf _ rfl _ _ rfl base _ _ rfl ((HB.out.alloc _).alloc _) ⟨w.heap.size + 1, 0, none⟩ 1 1 [9] rfl rfl (one_newg _ _ (by simp) _ _ rfl) HL1.out (by simp; omega) ?_)
  intro v1 w1 hb1 hk1
  obtain ⟨x1, hx1⟩ : ∃ x, l ++ [9] = x := ⟨_, rfl⟩
  rw [hx1] at hb1
  have HX1 := Lib.hid hx1
  have n1 : x1.length ≤ l.length + 1 := by rw [← hx1]; simp
  have HB1 := Lib.hid hb1
  have hk1a := hk1.of_alloc
  have HK1 := Lib.hid hk1a
  have k1 := hk1a.ownc (by decide)
  have l1 := hk1a.lt
  obtain ⟨ad1, c1, rfl⟩ := HB1.out.shape
  clear hb1 hk1 hk1a hx1
  have HL2 : Hid (x1.length + [cc].length ≤ 140737488355328) := by
    show _ ≤ _
    simp; omega
  have hcc : i = cc.toNat := by rw [← hc9]; rw [UInt8.toNat_ofNat']; omega
  subst hcc
  have hc2 := cc.toNat_lt
  clear hc9
  go_wp2_with (at_builtin; refine wpList_append_buf _ rfl _ _ rfl base _ _ rfl (HB1.out.alloc _) ⟨w1.heap.size, 0, none⟩ 1 1 [cc] rfl rfl (one_new _ _ _ rfl) HL2.out (by simp; omega) ?_)
  intro v2 w2 hb2 hk2
  obtain ⟨x2, hx2⟩ : ∃ x, x1 ++ [cc] = x := ⟨_, rfl⟩
  rw [hx2] at hb2
  have HX2 := Lib.hid hx2
  clear hx2
  have HB2 := Lib.hid hb2
  have HK2 := Lib.hid ((HK1.out.alloc _).trans hk2)
  obtain ⟨ad2, c2, rfl⟩ := HB2.out.shape
  clear hb2 hk2
  go_wp2_with fail
  go_ret
  exact ⟨_, rfl, by rw [← HR.out, ← List.append_assoc, HX1.out, HX2.out]; exact HB2.out, HK2.out.of_alloc⟩
set_option maxRecDepth 20000 in
set_option maxHeartbeats 1000000 in
theorem app_k4 (i : Int) (s : ByteArray) (lt : List Tr) (ns : List ByteArray) (ds : List Tr) (la da : Option Addr) (lc dc : Nat) (b : Value) (l : List UInt8) (base : Nat) (W0 w : World) (hE : Ext W0 w) (hb0 : W0.heap.size ≤ base) (hbase : base ≤ w.heap.size) (hB : Buf w base b l) (hs : s.size ≤ 4096) (hlen : l.length ≤ 90000000000) :
    Calls Tryd.prog 31 #[b, .agg #[.int .i64 4, .int .i64 i, .string s, .slice la lt.length lc, .slice da ds.length dc]] w (BufPost base w (l ++ ([4] ++ (numL (zz s.size) ++ s.data.toList)))) := by
  obtain ⟨rr, hrr⟩ : ∃ x, l ++ ([4] ++ (numL (zz s.size) ++ s.data.toList)) = x := ⟨_, rfl⟩
  rw [hrr]
  have HR := Lib.hid hrr
  clear hrr
  have HB := Lib.hid hB
  obtain ⟨ad, c, rfl⟩ := hB.shape
  clear hB
  have HL1 : Hid (l.length + [(4 : UInt8)].length ≤ 140737488355328) := by
    show _ ≤ _
    simp; omega
  go_enter Tryd.func31, Tryd.ntmps31
  go_wp2_with (at_builtin; refine wpList_append_buf _ rfl _ _ rfl base _ _ rfl ((HB.out.alloc _).alloc _) ⟨w.heap.size + 1, 0, none⟩ 1 1 [4] rfl rfl (one_newg _ _ (by simp) _ _ rfl) HL1.out (by simp; omega) ?_)
  intro v1 w1 hb1 hk1
  obtain ⟨x1, hx1⟩ : ∃ x, l ++ [4] = x := ⟨_, rfl⟩
  rw [hx1] at hb1
  have HX1 := Lib.hid hx1
  have n1 : x1.length ≤ l.length + 1 := by rw [← hx1]; simp
  have HB1 := Lib.hid hb1
  have hk1a := hk1.of_alloc
  have HK1 := Lib.hid hk1a
  have k1 := hk1a.ownc (by decide)
  have l1 := hk1a.lt
  obtain ⟨ad1, c1, rfl⟩ := HB1.out.shape
  clear hb1 hk1 hk1a hx1
  go_wp2_with fail
  refine (appendText_ok _ _ _ base _ HB1.out (by omega) (by omega)).mono ?_
  rintro e w2 ⟨v2, rfl, hb2, hk2⟩
  obtain ⟨x2, hx2⟩ : ∃ x, x1 ++ (numL (zz s.size) ++ s.data.toList) = x := ⟨_, rfl⟩
  rw [hx2] at hb2
  have HX2 := Lib.hid hx2
  clear hx2
  have HB2 := Lib.hid hb2
  have HK2 := Lib.hid (HK1.out.trans hk2)
  have k2 := HK2.out.ownc (by decide)
  have l2 := HK2.out.lt
  have s2 := HK2.out.of_alloc.size
  obtain ⟨ad2, c2, rfl⟩ := HB2.out.shape
  clear hb2 hk2 k1
  go_wp2_with fail
  go_ret
  exact ⟨_, rfl, by rw [← HR.out, ← List.append_assoc, HX1.out, HX2.out]; exact HB2.out, HK2.out.of_alloc⟩
set_option maxRecDepth 20000 in
set_option maxHeartbeats 1000000 in
theorem app_k7 (i : Int) (s : ByteArray) (lt : List Tr) (ns : List ByteArray) (ds : List Tr) (la da : Option Addr) (lc dc : Nat) (b : Value) (l : List UInt8) (base : Nat) (W0 w : World) (hE : Ext W0 w) (hb0 : W0.heap.size ≤ base) (hbase : base ≤ w.heap.size) (hB : Buf w base b l) (hs : s.size ≤ 4096) (hlen : l.length ≤ 90000000000) :
    Calls Tryd.prog 31 #[b, .agg #[.int .i64 7, .int .i64 i, .string s, .slice la lt.length lc, .slice da ds.length dc]] w (BufPost base w (l ++ ([7] ++ (numL (zz s.size) ++ s.data.toList)))) := by
  obtain ⟨rr, hrr⟩ : ∃ x, l ++ ([7] ++ (numL (zz s.size) ++ s.data.toList)) = x := ⟨_, rfl⟩
  rw [hrr]
  have HR := Lib.hid hrr
  clear hrr
  have HB := Lib.hid hB
  obtain ⟨ad, c, rfl⟩ := hB.shape
  clear hB
  have HL1 : Hid (l.length + [(7 : UInt8)].length ≤ 140737488355328) := by
    show _ ≤ _
    simp; omega
  go_enter Tryd.func31, Tryd.ntmps31
  go_wp2_with (at_builtin; refine wpList_append_buf _ rfl _ _ rfl base _ _ rfl ((HB.out.alloc _).alloc _) ⟨w.heap.size + 1, 0, none⟩ 1 1 [7] rfl rfl (one_newg _ _ (by simp) _ _ rfl) HL1.out (by simp; omega) ?_)
  intro v1 w1 hb1 hk1
  obtain ⟨x1, hx1⟩ : ∃ x, l ++ [7] = x := ⟨_, rfl⟩
  rw [hx1] at hb1
  have HX1 := Lib.hid hx1
  have n1 : x1.length ≤ l.length + 1 := by rw [← hx1]; simp
  have HB1 := Lib.hid hb1
  have hk1a := hk1.of_alloc
  have HK1 := Lib.hid hk1a
  have k1 := hk1a.ownc (by decide)
  have l1 := hk1a.lt
  obtain ⟨ad1, c1, rfl⟩ := HB1.out.shape
  clear hb1 hk1 hk1a hx1
  go_wp2_with fail
  refine (appendText_ok _ _ _ base _ HB1.out (by omega) (by omega)).mono ?_
  rintro e w2 ⟨v2, rfl, hb2, hk2⟩
  obtain ⟨x2, hx2⟩ : ∃ x, x1 ++ (numL (zz s.size) ++ s.data.toList) = x := ⟨_, rfl⟩
  rw [hx2] at hb2
  have HX2 := Lib.hid hx2
  clear hx2
  have HB2 := Lib.hid hb2
  have HK2 := Lib.hid (HK1.out.trans hk2)
  have k2 := HK2.out.ownc (by decide)
  have l2 := HK2.out.lt
  have s2 := HK2.out.of_alloc.size
  obtain ⟨ad2, c2, rfl⟩ := HB2.out.shape
  clear hb2 hk2 k1
  go_wp2_with fail
  go_ret
  exact ⟨_, rfl, by rw [← HR.out, ← List.append_assoc, HX1.out, HX2.out]; exact HB2.out, HK2.out.of_alloc⟩
set_option maxRecDepth 20000 in
set_option maxHeartbeats 1000000 in
theorem app_k8 (i : Int) (s : ByteArray) (lt : List Tr) (ns : List ByteArray) (ds : List Tr) (la da : Option Addr) (lc dc : Nat) (b : Value) (l : List UInt8) (base : Nat) (W0 w : World) (hE : Ext W0 w) (hb0 : W0.heap.size ≤ base) (hbase : base ≤ w.heap.size) (hB : Buf w base b l) (hs : s.size ≤ 4096) (hlen : l.length ≤ 90000000000) :
    Calls Tryd.prog 31 #[b, .agg #[.int .i64 8, .int .i64 i, .string s, .slice la lt.length lc, .slice da ds.length dc]] w (BufPost base w (l ++ ([8] ++ s.data.toList))) := by
  obtain ⟨rr, hrr⟩ : ∃ x, l ++ ([8] ++ s.data.toList) = x := ⟨_, rfl⟩
  rw [hrr]
  have HR := Lib.hid hrr
  clear hrr
  have HB := Lib.hid hB
  obtain ⟨ad, c, rfl⟩ := hB.shape
  clear hB
  have HL1 : Hid (l.length + [(8 : UInt8)].length ≤ 140737488355328) := by
    show _ ≤ _
    simp; omega
  go_enter Tryd.func31, Tryd.ntmps31
  go_wp2_with (at_builtin; refine wpList_append_buf _ rfl _ _ rfl base _ _ rfl ((HB.out.alloc _).alloc _) ⟨w.heap.size + 1, 0, none⟩ 1 1 [8] rfl rfl (one_newg _ _ (by simp) _ _ rfl) HL1.out (by simp; omega) ?_)
  intro v1 w1 hb1 hk1
  obtain ⟨x1, hx1⟩ : ∃ x, l ++ [8] = x := ⟨_, rfl⟩
  rw [hx1] at hb1
  have HX1 := Lib.hid hx1
  have n1 : x1.length ≤ l.length + 1 := by rw [← hx1]; simp
  have HB1 := Lib.hid hb1
  have hk1a := hk1.of_alloc
  have HK1 := Lib.hid hk1a
  have k1 := hk1a.ownc (by decide)
  have l1 := hk1a.lt
  obtain ⟨ad1, c1, rfl⟩ := HB1.out.shape
  clear hb1 hk1 hk1a hx1
  have HL2 : Hid (x1.length + s.size ≤ 140737488355328) := by
    show _ ≤ _
    omega
  go_wp2_with (at_builtin; refine wpList_append_bufS _ rfl _ _ rfl base _ _ rfl HB1.out s rfl HL2.out (by omega) ?_)
  intro v2 w2 hb2 hk2
  obtain ⟨x2, hx2⟩ : ∃ x, x1 ++ s.data.toList = x := ⟨_, rfl⟩
  rw [hx2] at hb2
  have HX2 := Lib.hid hx2
  clear hx2
  have HB2 := Lib.hid hb2
  have HK2 := Lib.hid (HK1.out.trans hk2)
  obtain ⟨ad2, c2, rfl⟩ := HB2.out.shape
  clear hb2 hk2
  go_wp2_with fail
  go_ret
  exact ⟨_, rfl, by rw [← HR.out, ← List.append_assoc, HX1.out, HX2.out]; exact HB2.out, HK2.out.of_alloc⟩
set_option maxRecDepth 20000 in
set_option maxHeartbeats 1000000 in
theorem app_k6 (i : Int) (s : ByteArray) (lt : List Tr) (ns : List ByteArray) (ds : List Tr) (la da : Option Addr) (lc dc : Nat) (b : Value) (l : List UInt8) (base : Nat) (W0 w : World) (hE : Ext W0 w) (hb0 : W0.heap.size ≤ base) (hbase : base ≤ w.heap.size) (hB : Buf w base b l) (hc1 : lt.length ≤ lc) (hc2 : lc ≤ maxLen) (hc3 : lt.length ≤ 90000000000) (hL : LRep W0 la 0 lt) (hsl : ∀ t ∈ lt, snd t = true) (ih : ∀ t ∈ lt, AppOk t) (hlen : l.length + ([6] ++ (numL (zz lt.length) ++ encL lt)).length ≤ 90000000000) :
    Calls Tryd.prog 31 #[b, .agg #[.int .i64 6, .int .i64 i, .string s, .slice la lt.length lc, .slice da ds.length dc]] w (BufPost base w (l ++ ([6] ++ (numL (zz lt.length) ++ encL lt)))) := by
  obtain ⟨rr, hrr⟩ : ∃ x, l ++ ([6] ++ (numL (zz lt.length) ++ encL lt)) = x := ⟨_, rfl⟩
  rw [hrr]
  have HR := Lib.hid hrr
  clear hrr
  have HB := Lib.hid hB
  obtain ⟨ad, c, rfl⟩ := hB.shape
  clear hB
  have HL1 : Hid (l.length + [(6 : UInt8)].length ≤ 140737488355328) := by
    show _ ≤ _
    simp; omega
  have HI := Lib.hid (I64_nat lt.length (by unfold maxLen; omega))
  have HL := Lib.hid hL
  have HIH := Lib.hid ih
  have HSL := Lib.hid hsl
  clear hL ih hsl
  go_enter Tryd.func31, Tryd.ntmps31
  go_wp2_with (at_builtin; refine wpList_append_buf _ rfl _ _ rfl base _ _ rfl ((HB.out.alloc _).alloc _) ⟨w.heap.size + 1, 0, none⟩ 1 1 [6] rfl rfl (one_newg _ _ (by simp) _ _ rfl) HL1.out (by simp; omega) ?_)
  intro v1 w1 hb1 hk1
  obtain ⟨x1, hx1⟩ : ∃ x, l ++ [6] = x := ⟨_, rfl⟩
  rw [hx1] at hb1
  have HX1 := Lib.hid hx1
  have n1 : x1.length ≤ l.length + 1 := by rw [← hx1]; simp
  have HB1 := Lib.hid hb1
  have hk1a := hk1.of_alloc
  have HK1 := Lib.hid hk1a
  have k1 := hk1a.ownc (by decide)
  have l1 := hk1a.lt
  obtain ⟨ad1, c1, rfl⟩ := HB1.out.shape
  clear hb1 hk1 hk1a hx1
  go_wp2_with fail
  refine (appendNum_ok _ _ _ base _ HI.out HB1.out (by omega) (by omega)).mono ?_
  rintro e w2 ⟨v2, rfl, hb2, hk2⟩
  obtain ⟨x2, hx2⟩ : ∃ x, x1 ++ numL (zz lt.length) = x := ⟨_, rfl⟩
  rw [hx2] at hb2
  have HX2 := Lib.hid hx2
  clear hx2
  have HB2 := Lib.hid hb2
  have HK2 := Lib.hid (HK1.out.trans hk2)
  have k2 := HK2.out.ownc (by decide)
  have l2 := HK2.out.lt
  have s2 := HK2.out.of_alloc.size
  obtain ⟨ad2, c2, rfl⟩ := HB2.out.shape
  clear hb2 hk2 k1
  obtain ⟨pre, rfl⟩ : ∃ p, p = x2 := ⟨_, rfl⟩
  have HP : Hid (l ++ ([6] ++ numL (zz lt.length)) = pre) := by
    show _ = _
    rw [← List.append_assoc, HX1.out, HX2.out]
  have hpl : pre.length + (encL lt).length ≤ 90000000000 := by
    rw [← HP.out]; have := hlen; simp only [List.length_append] at this ⊢; omega
  clear HX1 HX2
  go_wp2_with fail
  go_loopw [0, 55] (fun b c wr => ∃ j : Nat, j ≤ lt.length ∧ c = .int .i64 j ∧ Hid (Buf wr base b (pre ++ encL (lt.take j))) ∧ Hid (Keep base (w.alloc (.cells #[.int .i64 6, .int .i64 i, .string s, .slice la lt.length lc, .slice da ds.length dc] 32)) wr)) (fun _ c _ => lt.length - (intOf c).toNat)
  case atStart => exact ⟨0, by omega, rfl, by simpa [encL] using HB2, HK2⟩
  case round =>
    obtain ⟨j, hj, rfl, HB3, HK3⟩ := hrel
    obtain ⟨cur, hcur⟩ : ∃ x, pre ++ encL (lt.take j) = x := ⟨_, rfl⟩
    rw [hcur] at HB3
    have HC := Lib.hid hcur
    clear hcur
    obtain ⟨ad3, c3, rfl⟩ := HB3.out.shape
    have l3 := HK3.out.lt
    have s3 := HK3.out.of_alloc.size
    by_cases hlt : j < lt.length
    · obtain ⟨bb, off, c0, c1, c2, c3', c4, rfl, e0, e1, e2, e3, e4, hv⟩ := LRep.at_ lt 0 j lt[j] HL.out (List.getElem?_eq_getElem hlt)
      obtain ⟨k', i', s', la', ln', lc', da', dn', dc', rfl, rfl, rfl, rfl, rfl⟩ := hv.shape5
      have hEr := HK3.out.of_alloc.ext hE hb0
      have q0 := hEr.keep e0
      have q1 := hEr.keep e1
      have q2 := hEr.keep e2
      have q3 := hEr.keep e3
      have q4 := hEr.keep e4
      rw [Nat.zero_add] at q0 q1 q2 q3 q4
      have HV := Lib.hid hv
      have HEr := Lib.hid hEr
      clear e0 e1 e2 e3 e4 hv hEr
      have hsn := encL_snoc (lt.take j) lt[j]
      rw [← List.take_succ_eq_append_getElem hlt] at hsn
      have hle := encL_take_le lt (j + 1)
      obtain ⟨p, hp⟩ : ∃ p, lt[j] = p := ⟨_, rfl⟩
      have hmem : p ∈ lt := by rw [← hp]; exact List.getElem_mem hlt
      rw [hp] at HV hsn
      have hlp : cur.length + (enc p).length ≤ 90000000000 := by
        rw [← HC.out]; rw [hsn] at hle; simp only [List.length_append] at hle ⊢; omega
      have HLp := Lib.hid hlp
      have HSn := Lib.hid hsn
      clear hp hsn hle hlp
      go_wp2_with fail
      refine (HIH.out p hmem _ _ _ base W0 _ (HSL.out p hmem) HV.out (HEr.out.alloc _) hb0 (by simp; omega) (HB3.out.alloc _) HLp.out).mono ?_
      rintro e w4 ⟨v4, rfl, hb4, hk4⟩
      rw [← HC.out, List.append_assoc, ← HSn.out] at hb4
      obtain ⟨nx, hnx⟩ : ∃ x, pre ++ encL (lt.take (j + 1)) = x := ⟨_, rfl⟩
      rw [hnx] at hb4
      have HNx := Lib.hid hnx
      have HB4 := Lib.hid hb4
      have HK4 := Lib.hid ((HK3.out.alloc _).trans hk4)
      obtain ⟨ad4, c4, rfl⟩ := HB4.out.shape
      clear hb4 hk4 hnx
      go_wp2_with fail
      exact ⟨⟨j + 1, by omega, by go_num, by rw [HNx.out]; exact HB4, HK4⟩, by simp [intOf]; omega⟩
    · have hj2 : j = lt.length := by omega
      subst hj2
      have hlf2 : cur = rr := by
        rw [← HC.out, List.take_length, ← HP.out, ← HR.out]; simp only [List.append_assoc]
      have HLF := Lib.hid hlf2
      clear hlf2
      go_wp2_with fail
      go_ret
      exact ⟨_, rfl, by rw [← HLF.out]; exact HB3.out, HK3.out.of_alloc⟩
set_option maxRecDepth 20000 in
set_option maxHeartbeats 1000000 in
theorem app_k5 (i : Int) (s : ByteArray) (lt : List Tr) (ns : List ByteArray) (ds : List Tr) (la da : Option Addr) (lc dc : Nat) (b : Value) (l : List UInt8) (base : Nat) (W0 w : World) (hE : Ext W0 w) (hb0 : W0.heap.size ≤ base) (hbase : base ≤ w.heap.size) (hB : Buf w base b l) (hln : ns.length = ds.length) (hc1 : ds.length ≤ dc) (hc2 : dc ≤ maxLen) (hc3 : ds.length ≤ 90000000000) (hL : DRep W0 da 0 ns ds) (hnm : ∀ n ∈ ns, n.size ≤ 32) (hsl : ∀ t ∈ ds, snd t = true) (ih : ∀ t ∈ ds, AppOk t) (hlen : l.length + ([5] ++ (numL (zz ds.length) ++ encF ns ds)).length ≤ 90000000000) :
    Calls Tryd.prog 31 #[b, .agg #[.int .i64 5, .int .i64 i, .string s, .slice la lt.length lc, .slice da ds.length dc]] w (BufPost base w (l ++ ([5] ++ (numL (zz ds.length) ++ encF ns ds)))) := by
  obtain ⟨rr, hrr⟩ : ∃ x, l ++ ([5] ++ (numL (zz ds.length) ++ encF ns ds)) = x := ⟨_, rfl⟩
  rw [hrr]
  have HR := Lib.hid hrr
  clear hrr
  have HB := Lib.hid hB
  obtain ⟨ad, c, rfl⟩ := hB.shape
  clear hB
  have HL1 : Hid (l.length + [(5 : UInt8)].length ≤ 140737488355328) := by
    show _ ≤ _
    simp; omega
  have HI := Lib.hid (I64_nat ds.length (by unfold maxLen; omega))
  have HL := Lib.hid hL
  have HIH := Lib.hid ih
  have HSL := Lib.hid hsl
  have HNM := Lib.hid hnm
  clear hL ih hsl hnm
  go_enter Tryd.func31, Tryd.ntmps31
  go_wp2_with (at_builtin; refine wpList_append_buf _ rfl _ _ rfl base _ _ rfl ((HB.out.alloc _).alloc _) ⟨w.heap.size + 1, 0, none⟩ 1 1 [5] rfl rfl (one_newg _ _ (by simp) _ _ rfl) HL1.out (by simp; omega) ?_)
  intro v1 w1 hb1 hk1
  obtain ⟨x1, hx1⟩ : ∃ x, l ++ [5] = x := ⟨_, rfl⟩
  rw [hx1] at hb1
  have HX1 := Lib.hid hx1
  have n1 : x1.length ≤ l.length + 1 := by rw [← hx1]; simp
  have HB1 := Lib.hid hb1
  have hk1a := hk1.of_alloc
  have HK1 := Lib.hid hk1a
  have k1 := hk1a.ownc (by decide)
  have l1 := hk1a.lt
  obtain ⟨ad1, c1, rfl⟩ := HB1.out.shape
  clear hb1 hk1 hk1a hx1
  go_wp2_with fail
  refine (appendNum_ok _ _ _ base _ HI.out HB1.out (by omega) (by omega)).mono ?_
  rintro e w2 ⟨v2, rfl, hb2, hk2⟩
  obtain ⟨x2, hx2⟩ : ∃ x, x1 ++ numL (zz ds.length) = x := ⟨_, rfl⟩
  rw [hx2] at hb2
  have HX2 := Lib.hid hx2
  clear hx2
  have HB2 := Lib.hid hb2
  have HK2 := Lib.hid (HK1.out.trans hk2)
  have k2 := HK2.out.ownc (by decide)
  have l2 := HK2.out.lt
  have s2 := HK2.out.of_alloc.size
  obtain ⟨ad2, c2, rfl⟩ := HB2.out.shape
  clear hb2 hk2 k1
  obtain ⟨pre, rfl⟩ : ∃ p, p = x2 := ⟨_, rfl⟩
  have HP : Hid (l ++ ([5] ++ numL (zz ds.length)) = pre) := by
    show _ = _
    rw [← List.append_assoc, HX1.out, HX2.out]
  have hpl : pre.length + (encF ns ds).length ≤ 90000000000 := by
    rw [← HP.out]; have := hlen; simp only [List.length_append] at this ⊢; omega
  clear HX1 HX2
  go_wp2_with fail
  go_loopw [0, 73] (fun b c wr => ∃ j : Nat, j ≤ ds.length ∧ c = .int .i64 j ∧ Hid (Buf wr base b (pre ++ encF (ns.take j) (ds.take j))) ∧ Hid (Keep base (w.alloc (.cells #[.int .i64 5, .int .i64 i, .string s, .slice la lt.length lc, .slice da ds.length dc] 32)) wr)) (fun _ c _ => ds.length - (intOf c).toNat)
  case atStart => exact ⟨0, by omega, rfl, by simpa [encF] using HB2, HK2⟩
  case round =>
    obtain ⟨j, hj, rfl, HB3, HK3⟩ := hrel
    obtain ⟨cur, hcur⟩ : ∃ x, pre ++ encF (ns.take j) (ds.take j) = x := ⟨_, rfl⟩
    rw [hcur] at HB3
    have HC := Lib.hid hcur
    clear hcur
    obtain ⟨ad3, c3, rfl⟩ := HB3.out.shape
    have l3 := HK3.out.lt
    have s3 := HK3.out.of_alloc.size
    by_cases hlt : j < ds.length
    · obtain ⟨bb, off, c0, c1, c2, c3', c4, rfl, hnm, en, e0, e1, e2, e3, e4, hv⟩ := DRep.at_ ns ds 0 j (ns[j]'(by omega)) ds[j] HL.out (List.getElem?_eq_getElem (by omega)) (List.getElem?_eq_getElem hlt)
      obtain ⟨k', i', s', la', ln', lc', da', dn', dc', rfl, rfl, rfl, rfl, rfl⟩ := hv.shape5
      have hEr := HK3.out.of_alloc.ext hE hb0
      have qn := hEr.keep en
      have q0 := hEr.keep e0
      have q1 := hEr.keep e1
      have q2 := hEr.keep e2
      have q3 := hEr.keep e3
      have q4 := hEr.keep e4
      rw [Nat.zero_add] at qn q0 q1 q2 q3 q4
      have HV := Lib.hid hv
      have HEr := Lib.hid hEr
      clear en e0 e1 e2 e3 e4 hv hEr
      have hsn := encF_snoc (ns.take j) (ds.take j) (ns[j]'(by omega)) ds[j] (by simp; omega)
      rw [← List.take_succ_eq_append_getElem hlt, ← List.take_succ_eq_append_getElem (by omega)] at hsn
      have hle := encF_take_le ns ds (j + 1)
      obtain ⟨p, hp⟩ : ∃ p, ds[j] = p := ⟨_, rfl⟩
      obtain ⟨nm, hn⟩ : ∃ n, ns[j]'(by omega) = n := ⟨_, rfl⟩
      have hmem : p ∈ ds := by rw [← hp]; exact List.getElem_mem hlt
      have hmn : nm ∈ ns := by rw [← hn]; exact List.getElem_mem (by omega)
      have h32 : nm.size ≤ 32 := HNM.out nm hmn
      rw [hp] at HV hsn
      rw [hn] at qn hsn hnm
      have hlp : (cur ++ (numL (zz nm.size) ++ nm.data.toList)).length + (enc p).length ≤ 90000000000 := by
        rw [← HC.out]; rw [hsn] at hle; simp only [List.length_append] at hle ⊢; omega
      have hlq : cur.length + nm.size + 10 ≤ 100000000000 := by
        simp only [List.length_append] at hlp ⊢; omega
      have HLp := Lib.hid hlp
      have HLq := Lib.hid hlq
      have HSn := Lib.hid hsn
      clear hp hn hsn hle hlp hlq
      go_wp2_with fail
      refine wp_region_mix (Keep base (wr.alloc (.cells #[.string nm, .int .i64 k', .int .i64 i', .string s', .slice la' ln' lc', .slice da' dn' dc'] 60))) [(true, 0), (true, 1), (true, 2), (true, 4), (true, 5), (false, 3), (false, 6), (true, 7)] (by kernel_rfl) (by kernel_rfl) (by kernel_rfl) (by kernel_rfl) ?hS ?_
      case hS => exact (Keep.refl _ _).drew
      repeat (first | (refine wpMix_q (v := ?_) rfl rfl ?_ ?_; rotate_left; (· intro wq hSq; have cq := Keep.ownc hSq (by decide); go_simp; try (with_reducible rfl)); simp only [Act.put, List.setIfInBounds_toArray, List.set_cons_zero, List.set_cons_succ, List.getElem_toArray, List.getElem_cons_zero, List.getElem_cons_succ]) | (refine wpMix_u rfl rfl ?_; simp only [Act.put, List.setIfInBounds_toArray, List.set_cons_zero, List.set_cons_succ, List.getElem_toArray, List.getElem_cons_zero, List.getElem_cons_succ]))
      refine wpMix_l rfl rfl (fun K hK => ?_)
      go_simp
      refine (appendText_ok _ _ _ base _ (HB3.out.alloc _).drew HLq.out (by simp; omega)).mono ?_
      rintro e w4 ⟨v4, rfl, hb4, hk4⟩
      obtain ⟨mid, hmid⟩ : ∃ x, cur ++ (numL (zz nm.size) ++ nm.data.toList) = x := ⟨_, rfl⟩
      rw [hmid] at hb4 HLp
      have HMid := Lib.hid hmid
      clear hmid
      have HB4 := Lib.hid hb4
      obtain ⟨ad4, c4', rfl⟩ := hb4.shape
      clear hb4
      have HK4 := Lib.hid ((Keep.refl base (wr.alloc (.cells #[.string nm, .int .i64 k', .int .i64 i', .string s', .slice la' ln' lc', .slice da' dn' dc'] 60))).drew.trans hk4)
      refine hK _ _ HK4.out ?_
      clear hK K hk4
      have s4 := HK4.out.of_alloc.size
      refine wpMix_l rfl rfl (fun K hK => ?_)
      go_simp
      refine (HIH.out p hmem _ _ _ base W0 _ (HSL.out p hmem) HV.out (HK4.out.of_alloc.ext HEr.out hb0) hb0 (by omega) HB4.out HLp.out).mono ?_
      rintro e w5 ⟨v5, rfl, hb5, hk5⟩
      have hb6 : Buf w5 base v5 (pre ++ encF (ns.take (j + 1)) (ds.take (j + 1))) := by
        rw [HSn.out]; rw [← HMid.out, ← HC.out] at hb5; simp only [List.append_assoc] at hb5 ⊢; exact hb5
      obtain ⟨nx, hnx⟩ : ∃ x, pre ++ encF (ns.take (j + 1)) (ds.take (j + 1)) = x := ⟨_, rfl⟩
      rw [hnx] at hb6
      have HNx := Lib.hid hnx
      clear hnx
      have HB5 := Lib.hid hb6
      obtain ⟨ad5, c5', rfl⟩ := hb6.shape
      have HK5 := Lib.hid (HK4.out.trans hk5)
      refine hK _ _ HK5.out ?_
      clear hK K hk5 hb5 hb6
      repeat (first | (refine wpMix_q (v := ?_) rfl rfl ?_ ?_; rotate_left; (· intro wq hSq; have cq := Keep.ownc hSq (by decide); go_simp; try (with_reducible rfl)); simp only [Act.put, List.setIfInBounds_toArray, List.set_cons_zero, List.set_cons_succ, List.getElem_toArray, List.getElem_cons_zero, List.getElem_cons_succ]) | (refine wpMix_u rfl rfl ?_; simp only [Act.put, List.setIfInBounds_toArray, List.set_cons_zero, List.set_cons_succ, List.getElem_toArray, List.getElem_cons_zero, List.getElem_cons_succ]))
      refine wpMix_nil ?_
      have HK6 := Lib.hid (HK3.out.trans HK5.out.of_alloc)
      go_wp2_with fail
      exact ⟨⟨j + 1, by omega, by go_num, by rw [HNx.out]; exact HB5, HK6⟩, by simp [intOf]; omega⟩
    · have hj2 : j = ds.length := by omega
      subst hj2
      have hlf2 : cur = rr := by
        rw [← HC.out, List.take_length, List.take_of_length_le (by omega), ← HP.out, ← HR.out]; simp only [List.append_assoc]
      have HLF := Lib.hid hlf2
      clear hlf2
      go_wp2_with fail
      go_ret
      exact ⟨_, rfl, by rw [← HLF.out]; exact HB3.out, HK3.out.of_alloc⟩
theorem encL_len (l : List Tr) : l.length ≤ (encL l).length := by
  induction l with
  | nil => simp [encL]
  | cons x r ih => simp only [encL, List.length_append, List.length_cons]; have := enc_pos x; omega
theorem encF_len (ns : List ByteArray) (ds : List Tr) (h : ns.length = ds.length) : ds.length ≤ (encF ns ds).length := by
  induction ns generalizing ds with
  | nil => cases ds with
    | nil => simp
    | cons x r => simp at h
  | cons m nr ih => cases ds with
    | nil => simp
    | cons x r => simp only [encF, List.length_append, List.length_cons]; have := ih r (by simpa using h); have := enc_pos x; omega
theorem app_step (t : Tr) (ih : ∀ p, p.sz < t.sz → AppOk p) : AppOk t := by
  intro v b l base W0 w hsd hV hE hb0 hbase hB hlen
  obtain ⟨k, i, s, lt, ns, ds⟩ := t
  unfold VRep at hV
  obtain ⟨la, lc, da, dc, rfl, ⟨hs, hk, hi⟩, hl1, hl2, hd1, hd2, hnd, hL, hD⟩ := hV
  obtain ⟨h1, h2, h3, h4⟩ := snd_list hsd
  have ih2 : ∀ t, t ∈ lt ∨ t ∈ ds → AppOk t := fun t ht => ih t (by rcases ht with h | h; exact Tr.sz_list h; exact Tr.sz_docs h)
  clear ih
  have hep := enc_pos (.mk k i s lt ns ds)
  by_cases k1 : k = 1
  · subst k1; exact app_k1 i s lt ns ds la da lc dc b l base W0 w hE hb0 hbase hB (by omega)
  by_cases k2 : k = 2
  · subst k2; exact app_k2 i s lt ns ds la da lc dc b l base W0 w hE hb0 hbase hB (by omega)
  by_cases k3 : k = 3
  · subst k3; exact app_k3 i s lt ns ds la da lc dc b l base W0 w hE hb0 hbase hB hi (by omega)
  by_cases k4 : k = 4
  · subst k4; exact app_k4 i s lt ns ds la da lc dc b l base W0 w hE hb0 hbase hB (by simp [leafOk] at h2; exact h2.1) (by omega)
  by_cases k5 : k = 5
  · subst k5
    have e : enc (.mk 5 i s lt ns ds) = [5] ++ (numL (zz ds.length) ++ encF ns ds) := by simp [enc]
    rw [e] at hlen ⊢
    have := encF_len ns ds hnd
    exact app_k5 i s lt ns ds la da lc dc b l base W0 w hE hb0 hbase hB hnd hd1.1 hd2 (by simp only [List.length_append] at hlen; omega) hD (fun n hn => nameB_le (sndF_names h4 hnd n hn)) (fun t ht => sndF_mem h4 t ht) (fun t ht => ih2 t (.inr ht)) hlen
  by_cases k6 : k = 6
  · subst k6
    have e : enc (.mk 6 i s lt ns ds) = [6] ++ (numL (zz lt.length) ++ encL lt) := by simp [enc]
    rw [e] at hlen ⊢
    have := encL_len lt
    exact app_k6 i s lt ns ds la da lc dc b l base W0 w hE hb0 hbase hB hl1.1 hl2 (by simp only [List.length_append] at hlen; omega) hL (fun t ht => sndL_mem h3 t ht) (fun t ht => ih2 t (.inl ht)) hlen
  by_cases k7 : k = 7
  · subst k7; exact app_k7 i s lt ns ds la da lc dc b l base W0 w hE hb0 hbase hB (by simpa [leafOk] using h2) (by omega)
  by_cases k8 : k = 8
  · subst k8; exact app_k8 i s lt ns ds la da lc dc b l base W0 w hE hb0 hbase hB (by simp [leafOk] at h2; omega) (by omega)
  by_cases k9 : k = 9
  · subst k9; exact app_k9 i s lt ns ds la da lc dc b l base W0 w hE hb0 hbase hB (by simp [leafOk] at h2; omega) (by omega)
  by_cases k10 : k = 10
  · subst k10; exact app_k10 i s lt ns ds la da lc dc b l base W0 w hE hb0 hbase hB hi (by omega)
  by_cases k11 : k = 11
  · subst k11; exact app_k11 i s lt ns ds la da lc dc b l base W0 w hE hb0 hbase hB (by omega)
  exfalso
  simp [leafOk, k1, k2, k3, k4, k5, k6, k7, k8, k9, k10, k11] at h2
theorem app_ok (t : Tr) : AppOk t := by
  have : ∀ n (t : Tr), t.sz = n → AppOk t := by
    intro n
    induction n using Nat.strongRecOn with
    | _ n ih => intro t ht; exact app_step t (fun p hp => ih p.sz (by rw [← ht]; exact hp) p rfl)
  exact this _ t rfl
end Go.Proofs.YtdoofmohoamkbaaDoor
