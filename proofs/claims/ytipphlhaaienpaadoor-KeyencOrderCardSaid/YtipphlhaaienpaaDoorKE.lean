/- The order of strings, and what After divides: plain. -/
import Derived.Test.YtipphlhaaienpaaDoorEncP
import Derived.Test.YtipphlhaaienpaaDoorBuf
import Derived.Test.YtipphlhaaienpaaDoorMix
import Derived.Laws.OwnMore
set_option linter.unusedSimpArgs false
set_option linter.unusedVariables false
namespace Go.Proofs.YtipphlhaaienpaaDoor
open Go.RowKit
/-- the eight bytes of a number -/
def num8 (u : Nat) : List UInt8 := [UInt8.ofNat (u / 72057594037927936), UInt8.ofNat (u / 281474976710656), UInt8.ofNat (u / 1099511627776), UInt8.ofNat (u / 4294967296), UInt8.ofNat (u / 16777216), UInt8.ofNat (u / 65536), UInt8.ofNat (u / 256), UInt8.ofNat u]
/-- the number of an int -/
def uOf (i : Int) : Nat := (i + 9223372036854775808).toNat
def escC (c : UInt8) : List UInt8 := if c = 0 then [0, 255] else [c]
def esc : List UInt8 → List UInt8 | [] => [] | c :: r => escC c ++ esc r
mutual
def kenc : Tr → List UInt8
  | .mk k i s l ns ds => [UInt8.ofNat k.toNat] ++
    (if k = 3 ∨ k = 9 ∨ k = 10 then num8 (uOf i) else if k = 4 ∨ k = 7 ∨ k = 8 then esc s.data.toList ++ [0, 0]
     else if k = 6 then kencL l ++ [0] else if k = 5 then kencF ns ds ++ [0] else [])
def kencL : List Tr → List UInt8 | [] => [] | t :: r => ([1] ++ kenc t) ++ kencL r
def kencF : List ByteArray → List Tr → List UInt8
  | n :: nr, t :: r => ([1] ++ n.data.toList ++ [0] ++ kenc t) ++ kencF nr r
  | _, _ => []
end
theorem esc_snoc (l : List UInt8) (c : UInt8) : esc (l ++ [c]) = esc l ++ escC c := by
  induction l with
  | nil => simp [esc]
  | cons x r ih => simp only [List.cons_append, esc, ih, List.append_assoc]
theorem esc_le (l : List UInt8) : (esc l).length ≤ 2 * l.length := by
  induction l with
  | nil => simp [esc]
  | cons x r ih => simp only [esc, List.length_append, List.length_cons, escC]; split <;> simp <;> omega
theorem esc_take_le (l : List UInt8) (j : Nat) : (esc (l.take j)).length ≤ (esc l).length := by
  induction l generalizing j with
  | nil => simp [esc]
  | cons x r ih => cases j with
    | zero => simp [esc]
    | succ j => simp only [List.take_succ_cons, esc, List.length_append]; have := ih j; omega
theorem kencL_snoc (l : List Tr) (t : Tr) : kencL (l ++ [t]) = kencL l ++ ([1] ++ kenc t) := by
  induction l with
  | nil => simp [kencL]
  | cons x r ih => simp only [List.cons_append, kencL, ih, List.append_assoc]
theorem kencF_snoc (ns : List ByteArray) (ds : List Tr) (n : ByteArray) (t : Tr) (h : ns.length = ds.length) : kencF (ns ++ [n]) (ds ++ [t]) = kencF ns ds ++ ([1] ++ n.data.toList ++ [0] ++ kenc t) := by
  induction ns generalizing ds with
  | nil => cases ds with
    | nil => simp [kencF]
    | cons x r => simp at h
  | cons m nr ih =>
    cases ds with
    | nil => simp at h
    | cons x r => simp only [List.cons_append, kencF, ih r (by simpa using h), List.append_assoc]
theorem kencL_take_le (l : List Tr) (j : Nat) : (kencL (l.take j)).length ≤ (kencL l).length := by
  induction l generalizing j with
  | nil => simp [kencL]
  | cons x r ih => cases j with
    | zero => simp [kencL]
    | succ j => simp only [List.take_succ_cons, kencL, List.length_append]; have := ih j; omega
theorem kencF_take_le (ns : List ByteArray) (ds : List Tr) (j : Nat) : (kencF (ns.take j) (ds.take j)).length ≤ (kencF ns ds).length := by
  induction ns generalizing ds j with
  | nil => simp [kencF]
  | cons m nr ih => cases j with
    | zero => simp [kencF]
    | succ j => cases ds with
      | nil => simp [kencF]
      | cons x r => simp only [List.take_succ_cons, kencF, List.length_append]; have := ih r j; omega
theorem kenc_pos (t : Tr) : 1 ≤ (kenc t).length := by cases t; simp [kenc]
theorem kencL_len (l : List Tr) : l.length ≤ (kencL l).length := by
  induction l with
  | nil => simp [kencL]
  | cons x r ih => simp only [kencL, List.length_append, List.length_cons]; have := kenc_pos x; omega
theorem kencF_len (ns : List ByteArray) (ds : List Tr) (h : ns.length = ds.length) : ds.length ≤ (kencF ns ds).length := by
  induction ns generalizing ds with
  | nil => cases ds with
    | nil => simp
    | cons x r => simp at h
  | cons m nr ih => cases ds with
    | nil => simp
    | cons x r => simp only [kencF, List.length_append, List.length_cons]; have := ih r (by simpa using h); have := kenc_pos x; omega
theorem one_new (w : World) (c : UInt8) (x : Int) (hx : x = c.toNat) : ∀ j u, ([c].map bv)[j]? = some u → (w.alloc (.cells #[.int .u8 x] 5)).cell? ((⟨w.heap.size, 0, none⟩ : Addr).add j) = some u := by
  subst hx; exact cells_new w [bv c] 5
theorem one_newg (w : World) (g : Nat) (hg : g = w.heap.size) (c : UInt8) (x : Int) (hx : x = c.toNat) : ∀ j u, ([c].map bv)[j]? = some u → (w.alloc (.cells #[.int .u8 x] 5)).cell? ((⟨g, 0, none⟩ : Addr).add j) = some u := by
  subst hg; exact one_new w c x hx
theorem two_newg (w : World) (g : Nat) (hg : g = w.heap.size) : ∀ j u, ([0, 0].map bv)[j]? = some u → (w.alloc (.cells #[.int .u8 0, .int .u8 0] 5)).cell? ((⟨g, 0, none⟩ : Addr).add j) = some u := by
  subst hg; exact cells_new w [bv 0, bv 0] 5
/-- e is a row of bytes, l -/
def BufPost (base : Nat) (w : World) (l : List UInt8) (e : Ending) (w' : World) : Prop := ∃ v, e = .returned v ∧ Buf w' base v l ∧ Keep base w w'
/-- what may be encoded: a valid value, or none -/
def zeroB (t : Tr) : Bool := decide (t.int = 0) && decide (t.text.size = 0) && decide (t.list.length = 0) && decide (t.docs.length = 0)
def allowB (t : Tr) : Bool := if t.kind = 0 then zeroB t else validB t
theorem xor63 (i : Int) (h : I64 i) : bits .xor .u64 (IntKind.u64.wrap i) 9223372036854775808 = (uOf i : Int) := by
  unfold I64 at h
  have h1 : IntKind.u64.wrap i = (((i % 18446744073709551616).toNat : Nat) : Int) := by rw [wrap_u64_eq]; omega
  rw [h1, show (9223372036854775808 : Int) = ((9223372036854775808 : Nat) : Int) from rfl, bits_xor_u64_nat _ _ (by omega) (by omega)]
  unfold uOf
  congr 1
  have h2 : ∀ x : Nat, x < 9223372036854775808 → x ^^^ 9223372036854775808 = x + 9223372036854775808 := fun x hx => by
    have := Nat.two_pow_add_eq_or_of_lt (i := 63) (b := x) (by simpa using hx) 1
    rw [Nat.xor_comm]
    have e : (9223372036854775808 : Nat) = 2 ^ 63 := by decide
    rw [e] at hx ⊢
    rw [Nat.mul_one] at this
    rw [Nat.add_comm x, this]
    apply Nat.eq_of_testBit_eq
    intro j
    rw [Nat.testBit_xor, Nat.testBit_or, Nat.testBit_two_pow]
    by_cases hj : 63 = j
    · subst hj; rw [Nat.testBit_lt_two_pow hx]; simp
    · simp [hj]
  rcases Int.lt_or_le i 0 with hi | hi
  · have e : (i % 18446744073709551616).toNat = (i + 9223372036854775808).toNat + 9223372036854775808 := by omega
    rw [e, ← h2 _ (by omega), Nat.xor_assoc, Nat.xor_self, Nat.xor_zero]
  · rw [h2 _ (by omega)]; omega
theorem uOf_lt (i : Int) (h : I64 i) : uOf i < 18446744073709551616 := by unfold I64 at h; unfold uOf; omega
theorem u8_at (u d : Nat) : (u : Int) / (d : Int) % 256 = ((UInt8.ofNat (u / d)).toNat : Int) := by
  rw [UInt8.toNat_ofNat']; omega
theorem u8_atT (u : Nat) (h : u < 18446744073709551616) : (u : Int) / 72057594037927936 = ((UInt8.ofNat (u / 72057594037927936)).toNat : Int) := by
  rw [UInt8.toNat_ofNat']; omega
theorem u8_at0 (u : Nat) : (u : Int) % 256 = ((UInt8.ofNat u).toNat : Int) := by
  rw [UInt8.toNat_ofNat']; omega
end Go.Proofs.YtipphlhaaienpaaDoor
set_option linter.unusedSimpArgs false
set_option linter.unusedVariables false
namespace Go.Proofs.YtipphlhaaienpaaDoor
open Go.RowKit
theorem bytes_ext {a b : ByteArray} (h : a.data.toList = b.data.toList) : a = b := by
  cases a; cases b; simp at h; subst h; rfl
theorem conv_one (w : World) (c : UInt8) (x : Int) (hx : x = c.toNat) : (convert 43 9 (.slice (some ⟨w.heap.size, 0, none⟩) 1 1)).run Tryd.prog (w.alloc (.cells #[.int .u8 x] 5)) = .ok (.string ⟨#[c]⟩) (w.alloc (.cells #[.int .u8 x] 5)) := by
  subst hx
  exact Buf.str (l := [c]) (base := 0) (w := w.alloc (.cells #[.int .u8 (c.toNat : Int)] 5)) (v := .slice (some ⟨w.heap.size, 0, none⟩) 1 1) ⟨rfl, .inr ⟨w.heap.size, 1, #[.int .u8 (c.toNat : Int)], rfl, Nat.zero_le _, by show (w.heap.push _)[w.heap.size]? = _; simp, Nat.le_refl _, by unfold maxLen; omega, rfl, rfl⟩⟩
theorem conv_blk (w : World) (g : Nat) (c : UInt8) (x : Int) (hx : x = c.toNat) (h : w.heap[g]? = some (.cells #[.int .u8 x] 5 (0, 0))) : (convert 43 9 (.slice (some ⟨g, 0, none⟩) 1 1)).run Tryd.prog w = .ok (.string ⟨#[c]⟩) w := by
  subst hx
  exact Buf.str (l := [c]) (base := 0) (w := w) (v := .slice (some ⟨g, 0, none⟩) 1 1) ⟨rfl, .inr ⟨g, 1, #[.int .u8 (c.toNat : Int)], rfl, Nat.zero_le _, h, Nat.le_refl _, by unfold maxLen; omega, rfl, rfl⟩⟩
theorem conv_oneg (w : World) (g : Nat) (hg : g = w.heap.size) (c : UInt8) (x : Int) (hx : x = c.toNat) : (convert 43 9 (.slice (some ⟨g, 0, none⟩) 1 1)).run Tryd.prog (w.alloc (.cells #[.int .u8 x] 5)) = .ok (.string ⟨#[c]⟩) (w.alloc (.cells #[.int .u8 x] 5)) := by
  subst hg; exact conv_one w c x hx
theorem snoc_str (l : List UInt8) (c : UInt8) (s : ByteArray) (h : s.data.toList = l) : (s ++ (⟨#[c]⟩ : ByteArray)).data.toList = l ++ [c] := by
  rw [ByteArray.data_append]; simp [h]
theorem cat_list (a b : ByteArray) : (a ++ b).data.toList = a.data.toList ++ b.data.toList := by rw [ByteArray.data_append]; simp
theorem arr_list (l : List UInt8) : (⟨l.toArray⟩ : ByteArray).data.toList = l := rfl
theorem cat_size (a b : ByteArray) : (a ++ b).size = a.size + b.size := by simp
end Go.Proofs.YtipphlhaaienpaaDoor
set_option linter.unusedSimpArgs false
set_option linter.unusedVariables false
namespace Go.Proofs.YtipphlhaaienpaaDoor
open Go.RowKit
def KAppOk (t : Tr) : Prop := ∀ (v b : Value) (l : List UInt8) (base : Nat) (W0 w : World), snd t = true → VRep W0 t v → Ext W0 w → W0.heap.size ≤ base → base ≤ w.heap.size → Buf w base b l → l.length + (kenc t).length ≤ 90000000000 →
  Calls Tryd.prog 22 #[b, v] w (BufPost base w (l ++ kenc t))
set_option maxRecDepth 20000 in
set_option maxHeartbeats 2000000 in
theorem kapp_k0 (i : Int) (s : ByteArray) (lt : List Tr) (ns : List ByteArray) (ds : List Tr) (la da : Option Addr) (lc dc : Nat) (b : Value) (l : List UInt8) (base : Nat) (W0 w : World) (hE : Ext W0 w) (hb0 : W0.heap.size ≤ base) (hbase : base ≤ w.heap.size) (hB : Buf w base b l) (hlen : l.length ≤ 90000000000) :
    Calls Tryd.prog 22 #[b, .agg #[.int .i64 0, .int .i64 i, .string s, .slice la lt.length lc, .slice da ds.length dc]] w (BufPost base w (l ++ ([0]))) := by
  obtain ⟨rr, hrr⟩ : ∃ x, l ++ ([0]) = x := ⟨_, rfl⟩
  rw [hrr]
  have HR := Lib.hid hrr
  clear hrr
  have HB := Lib.hid hB
  obtain ⟨ad, c, rfl⟩ := hB.shape
  clear hB
  have HL1 : Hid (l.length + [(0 : UInt8)].length ≤ 140737488355328) := by
    show _ ≤ _
    simp; omega
  go_enter Tryd.func22, Tryd.ntmps22
  go_wp2_with (at_builtin; refine wpList_append_buf _ rfl _ _ rfl base _ _ rfl ((HB.out.alloc _).alloc _) ⟨w.heap.size + 1, 0, none⟩ 1 1 [0] rfl rfl (one_newg _ _ (by simp) _ _ rfl) HL1.out (by simp; omega) ?_)
  intro v1 w1 hb1 hk1
  obtain ⟨x1, hx1⟩ : ∃ x, l ++ [0] = x := ⟨_, rfl⟩
  rw [hx1] at hb1
  have HX1 := Lib.hid hx1
  have n1 : x1.length ≤ l.length + 1 := by rw [← hx1]; simp
  have HB1 := Lib.hid hb1
  have hk1a := hk1.of_alloc
  have HK1 := Lib.hid hk1a
  have k1 := hk1a.ownc (by decide)
  have l1 := hk1a.lt
  have s1 := hk1a.of_alloc.size
  obtain ⟨ad1, c1, rfl⟩ := HB1.out.shape
  clear hb1 hk1 hk1a hx1
  go_wp2_with fail
  go_ret
  exact ⟨_, rfl, by rw [← HR.out, HX1.out]; exact HB1.out, HK1.out.of_alloc⟩
set_option maxRecDepth 20000 in
set_option maxHeartbeats 2000000 in
theorem kapp_k1 (i : Int) (s : ByteArray) (lt : List Tr) (ns : List ByteArray) (ds : List Tr) (la da : Option Addr) (lc dc : Nat) (b : Value) (l : List UInt8) (base : Nat) (W0 w : World) (hE : Ext W0 w) (hb0 : W0.heap.size ≤ base) (hbase : base ≤ w.heap.size) (hB : Buf w base b l) (hlen : l.length ≤ 90000000000) :
    Calls Tryd.prog 22 #[b, .agg #[.int .i64 1, .int .i64 i, .string s, .slice la lt.length lc, .slice da ds.length dc]] w (BufPost base w (l ++ ([1]))) := by
  obtain ⟨rr, hrr⟩ : ∃ x, l ++ ([1]) = x := ⟨_, rfl⟩
  rw [hrr]
  have HR := Lib.hid hrr
  clear hrr
  have HB := Lib.hid hB
  obtain ⟨ad, c, rfl⟩ := hB.shape
  clear hB
  have HL1 : Hid (l.length + [(1 : UInt8)].length ≤ 140737488355328) := by
    show _ ≤ _
    simp; omega
  go_enter Tryd.func22, Tryd.ntmps22
  go_wp2_with (at_builtin; refine wpList_append_buf _ rfl _ _ rfl base _ _ rfl ((HB.out.alloc _).alloc _) ⟨w.heap.size + 1, 0, none⟩ 1 1 [1] rfl rfl (one_newg _ _ (by simp) _ _ rfl) HL1.out (by simp; omega) ?_)
  intro v1 w1 hb1 hk1
  obtain ⟨x1, hx1⟩ : ∃ x, l ++ [1] = x := ⟨_, rfl⟩
  rw [hx1] at hb1
  have HX1 := Lib.hid hx1
  have n1 : x1.length ≤ l.length + 1 := by rw [← hx1]; simp
  have HB1 := Lib.hid hb1
  have hk1a := hk1.of_alloc
  have HK1 := Lib.hid hk1a
  have k1 := hk1a.ownc (by decide)
  have l1 := hk1a.lt
  have s1 := hk1a.of_alloc.size
  obtain ⟨ad1, c1, rfl⟩ := HB1.out.shape
  clear hb1 hk1 hk1a hx1
  go_wp2_with fail
  go_ret
  exact ⟨_, rfl, by rw [← HR.out, HX1.out]; exact HB1.out, HK1.out.of_alloc⟩
set_option maxRecDepth 20000 in
set_option maxHeartbeats 2000000 in
theorem kapp_k2 (i : Int) (s : ByteArray) (lt : List Tr) (ns : List ByteArray) (ds : List Tr) (la da : Option Addr) (lc dc : Nat) (b : Value) (l : List UInt8) (base : Nat) (W0 w : World) (hE : Ext W0 w) (hb0 : W0.heap.size ≤ base) (hbase : base ≤ w.heap.size) (hB : Buf w base b l) (hlen : l.length ≤ 90000000000) :
    Calls Tryd.prog 22 #[b, .agg #[.int .i64 2, .int .i64 i, .string s, .slice la lt.length lc, .slice da ds.length dc]] w (BufPost base w (l ++ ([2]))) := by
  obtain ⟨rr, hrr⟩ : ∃ x, l ++ ([2]) = x := ⟨_, rfl⟩
  rw [hrr]
  have HR := Lib.hid hrr
  clear hrr
  have HB := Lib.hid hB
  obtain ⟨ad, c, rfl⟩ := hB.shape
  clear hB
  have HL1 : Hid (l.length + [(2 : UInt8)].length ≤ 140737488355328) := by
    show _ ≤ _
    simp; omega
  go_enter Tryd.func22, Tryd.ntmps22
  go_wp2_with (at_builtin; refine wpList_append_buf _ rfl _ _ rfl base _ _ rfl ((HB.out.alloc _).alloc _) ⟨w.heap.size + 1, 0, none⟩ 1 1 [2] rfl rfl (one_newg _ _ (by simp) _ _ rfl) HL1.out (by simp; omega) ?_)
  intro v1 w1 hb1 hk1
  obtain ⟨x1, hx1⟩ : ∃ x, l ++ [2] = x := ⟨_, rfl⟩
  rw [hx1] at hb1
  have HX1 := Lib.hid hx1
  have n1 : x1.length ≤ l.length + 1 := by rw [← hx1]; simp
  have HB1 := Lib.hid hb1
  have hk1a := hk1.of_alloc
  have HK1 := Lib.hid hk1a
  have k1 := hk1a.ownc (by decide)
  have l1 := hk1a.lt
  have s1 := hk1a.of_alloc.size
  obtain ⟨ad1, c1, rfl⟩ := HB1.out.shape
  clear hb1 hk1 hk1a hx1
  go_wp2_with fail
  go_ret
  exact ⟨_, rfl, by rw [← HR.out, HX1.out]; exact HB1.out, HK1.out.of_alloc⟩
set_option maxRecDepth 20000 in
set_option maxHeartbeats 2000000 in
theorem kapp_k11 (i : Int) (s : ByteArray) (lt : List Tr) (ns : List ByteArray) (ds : List Tr) (la da : Option Addr) (lc dc : Nat) (b : Value) (l : List UInt8) (base : Nat) (W0 w : World) (hE : Ext W0 w) (hb0 : W0.heap.size ≤ base) (hbase : base ≤ w.heap.size) (hB : Buf w base b l) (hlen : l.length ≤ 90000000000) :
    Calls Tryd.prog 22 #[b, .agg #[.int .i64 11, .int .i64 i, .string s, .slice la lt.length lc, .slice da ds.length dc]] w (BufPost base w (l ++ ([11]))) := by
  obtain ⟨rr, hrr⟩ : ∃ x, l ++ ([11]) = x := ⟨_, rfl⟩
  rw [hrr]
  have HR := Lib.hid hrr
  clear hrr
  have HB := Lib.hid hB
  obtain ⟨ad, c, rfl⟩ := hB.shape
  clear hB
  have HL1 : Hid (l.length + [(11 : UInt8)].length ≤ 140737488355328) := by
    show _ ≤ _
    simp; omega
  go_enter Tryd.func22, Tryd.ntmps22
  go_wp2_with (at_builtin; refine wpList_append_buf _ rfl _ _ rfl base _ _ rfl ((HB.out.alloc _).alloc _) ⟨w.heap.size + 1, 0, none⟩ 1 1 [11] rfl rfl (one_newg _ _ (by simp) _ _ rfl) HL1.out (by simp; omega) ?_)
  intro v1 w1 hb1 hk1
  obtain ⟨x1, hx1⟩ : ∃ x, l ++ [11] = x := ⟨_, rfl⟩
  rw [hx1] at hb1
  have HX1 := Lib.hid hx1
  have n1 : x1.length ≤ l.length + 1 := by rw [← hx1]; simp
  have HB1 := Lib.hid hb1
  have hk1a := hk1.of_alloc
  have HK1 := Lib.hid hk1a
  have k1 := hk1a.ownc (by decide)
  have l1 := hk1a.lt
  have s1 := hk1a.of_alloc.size
  obtain ⟨ad1, c1, rfl⟩ := HB1.out.shape
  clear hb1 hk1 hk1a hx1
  go_wp2_with fail
  go_ret
  exact ⟨_, rfl, by rw [← HR.out, HX1.out]; exact HB1.out, HK1.out.of_alloc⟩
set_option maxRecDepth 20000 in
set_option maxHeartbeats 2000000 in
theorem kapp_k3 (i : Int) (s : ByteArray) (lt : List Tr) (ns : List ByteArray) (ds : List Tr) (la da : Option Addr) (lc dc : Nat) (b : Value) (l : List UInt8) (base : Nat) (W0 w : World) (hE : Ext W0 w) (hb0 : W0.heap.size ≤ base) (hbase : base ≤ w.heap.size) (hB : Buf w base b l) (hI : I64 i) (hlen : l.length ≤ 90000000000) :
    Calls Tryd.prog 22 #[b, .agg #[.int .i64 3, .int .i64 i, .string s, .slice la lt.length lc, .slice da ds.length dc]] w (BufPost base w (l ++ ([3] ++ num8 (uOf i)))) := by
  obtain ⟨rr, hrr⟩ : ∃ x, l ++ ([3] ++ num8 (uOf i)) = x := ⟨_, rfl⟩
  rw [hrr]
  have HR := Lib.hid hrr
  clear hrr
  have HB := Lib.hid hB
  obtain ⟨ad, c, rfl⟩ := hB.shape
  clear hB
  have HL1 : Hid (l.length + [(3 : UInt8)].length ≤ 140737488355328) := by
    show _ ≤ _
    simp; omega
  obtain ⟨u, hu⟩ : ∃ u, uOf i = u := ⟨_, rfl⟩
  have hX := xor63 i hI
  have hU := uOf_lt i hI
  rw [hu] at hX hU HR
  have HXr := Lib.hid hX
  clear hX hu hI
  go_enter Tryd.func22, Tryd.ntmps22
  go_wp2_with (at_builtin; refine wpList_append_buf _ rfl _ _ rfl base _ _ rfl ((HB.out.alloc _).alloc _) ⟨w.heap.size + 1, 0, none⟩ 1 1 [3] rfl rfl (one_newg _ _ (by simp) _ _ rfl) HL1.out (by simp; omega) ?_)
  intro v1 w1 hb1 hk1
  obtain ⟨x1, hx1⟩ : ∃ x, l ++ [3] = x := ⟨_, rfl⟩
  rw [hx1] at hb1
  have HX1 := Lib.hid hx1
  have n1 : x1.length ≤ l.length + 1 := by rw [← hx1]; simp
  have HB1 := Lib.hid hb1
  have hk1a := hk1.of_alloc
  have HK1 := Lib.hid hk1a
  have k1 := hk1a.ownc (by decide)
  have l1 := hk1a.lt
  have s1 := hk1a.of_alloc.size
  obtain ⟨ad1, c1, rfl⟩ := HB1.out.shape
  clear hb1 hk1 hk1a hx1
  go_wp2_with fail
  simp only [HXr.out]
  go_loopw [0, 6] (fun b x wr => ∃ (j : Nat), j ≤ 8 ∧ x = .int .i64 (56 - 8 * j) ∧ Hid (Buf wr base b (x1 ++ (num8 u).take j)) ∧ Hid (Keep base (w.alloc (.cells #[.int .i64 3, .int .i64 i, .string s, .slice la lt.length lc, .slice da ds.length dc] 41)) wr)) (fun _ x _ => (intOf x + 8).toNat)
  case atStart => exact ⟨0, by omega, rfl, by simpa using HB1, HK1⟩
  case round =>
    obtain ⟨j, hj, rfl, HB3, HK3⟩ := hrel
    obtain ⟨cur, hcur⟩ : ∃ x, x1 ++ (num8 u).take j = x := ⟨_, rfl⟩
    rw [hcur] at HB3
    have hcl : cur.length ≤ x1.length + 8 := by rw [← hcur]; simp [num8]; omega
    have HC := Lib.hid hcur
    clear hcur HXr
    obtain ⟨ad3, c3, rfl⟩ := HB3.out.shape
    have s3 := HK3.out.of_alloc.size
    have HL2 : Hid (cur.length + [(0 : UInt8)].length ≤ 140737488355328) := by
      show _ ≤ _
      simp; omega
    have hj9 : j = 0 ∨ j = 1 ∨ j = 2 ∨ j = 3 ∨ j = 4 ∨ j = 5 ∨ j = 6 ∨ j = 7 ∨ j = 8 := by omega
    clear hj
    rcases hj9 with rfl | rfl | rfl | rfl | rfl | rfl | rfl | rfl | rfl
    · go_wp2_with (at_builtin; refine wpList_append_buf _ rfl _ _ rfl base _ _ rfl (HB3.out.alloc _) ⟨wr.heap.size, 0, none⟩ 1 1 [UInt8.ofNat (u / 72057594037927936)] rfl rfl (one_new _ _ _ (u8_atT u hU)) HL2.out (by simp; omega) ?_)
      intro v4 w4 hb4 hk4
      have hb5 : Buf w4 base v4 (x1 ++ (num8 u).take 1) := by
        rw [← HC.out] at hb4; simpa [num8] using hb4
      have HB4 := Lib.hid hb5
      have HK4 := Lib.hid ((HK3.out.alloc _).trans hk4)
      clear hb4 hb5 hk4
      obtain ⟨x5, hx5⟩ : ∃ x, x1 ++ (num8 u).take 1 = x := ⟨_, rfl⟩
      rw [hx5] at HB4
      have HX5 := Lib.hid hx5
      clear hx5
      obtain ⟨ad4, c4, rfl⟩ := HB4.out.shape
      go_wp2_with fail
      exact ⟨⟨1, by omega, by simp, by rw [HX5.out]; exact HB4, HK4⟩, by simp [intOf]⟩
    · go_wp2_with (at_builtin; refine wpList_append_buf _ rfl _ _ rfl base _ _ rfl (HB3.out.alloc _) ⟨wr.heap.size, 0, none⟩ 1 1 [UInt8.ofNat (u / 281474976710656)] rfl rfl (one_new _ _ _ (u8_at u 281474976710656)) HL2.out (by simp; omega) ?_)
      intro v4 w4 hb4 hk4
      have hb5 : Buf w4 base v4 (x1 ++ (num8 u).take 2) := by
        rw [← HC.out] at hb4; simpa [num8] using hb4
      have HB4 := Lib.hid hb5
      have HK4 := Lib.hid ((HK3.out.alloc _).trans hk4)
      clear hb4 hb5 hk4
      obtain ⟨x5, hx5⟩ : ∃ x, x1 ++ (num8 u).take 2 = x := ⟨_, rfl⟩
      rw [hx5] at HB4
      have HX5 := Lib.hid hx5
      clear hx5
      obtain ⟨ad4, c4, rfl⟩ := HB4.out.shape
      go_wp2_with fail
      exact ⟨⟨2, by omega, by simp, by rw [HX5.out]; exact HB4, HK4⟩, by simp [intOf]⟩
    · go_wp2_with (at_builtin; refine wpList_append_buf _ rfl _ _ rfl base _ _ rfl (HB3.out.alloc _) ⟨wr.heap.size, 0, none⟩ 1 1 [UInt8.ofNat (u / 1099511627776)] rfl rfl (one_new _ _ _ (u8_at u 1099511627776)) HL2.out (by simp; omega) ?_)
      intro v4 w4 hb4 hk4
      have hb5 : Buf w4 base v4 (x1 ++ (num8 u).take 3) := by
        rw [← HC.out] at hb4; simpa [num8] using hb4
      have HB4 := Lib.hid hb5
      have HK4 := Lib.hid ((HK3.out.alloc _).trans hk4)
      clear hb4 hb5 hk4
      obtain ⟨x5, hx5⟩ : ∃ x, x1 ++ (num8 u).take 3 = x := ⟨_, rfl⟩
      rw [hx5] at HB4
      have HX5 := Lib.hid hx5
      clear hx5
      obtain ⟨ad4, c4, rfl⟩ := HB4.out.shape
      go_wp2_with fail
      exact ⟨⟨3, by omega, by simp, by rw [HX5.out]; exact HB4, HK4⟩, by simp [intOf]⟩
    · go_wp2_with (at_builtin; refine wpList_append_buf _ rfl _ _ rfl base _ _ rfl (HB3.out.alloc _) ⟨wr.heap.size, 0, none⟩ 1 1 [UInt8.ofNat (u / 4294967296)] rfl rfl (one_new _ _ _ (u8_at u 4294967296)) HL2.out (by simp; omega) ?_)
      intro v4 w4 hb4 hk4
      have hb5 : Buf w4 base v4 (x1 ++ (num8 u).take 4) := by
        rw [← HC.out] at hb4; simpa [num8] using hb4
      have HB4 := Lib.hid hb5
      have HK4 := Lib.hid ((HK3.out.alloc _).trans hk4)
      clear hb4 hb5 hk4
      obtain ⟨x5, hx5⟩ : ∃ x, x1 ++ (num8 u).take 4 = x := ⟨_, rfl⟩
      rw [hx5] at HB4
      have HX5 := Lib.hid hx5
      clear hx5
      obtain ⟨ad4, c4, rfl⟩ := HB4.out.shape
      go_wp2_with fail
      exact ⟨⟨4, by omega, by simp, by rw [HX5.out]; exact HB4, HK4⟩, by simp [intOf]⟩
    · go_wp2_with (at_builtin; refine wpList_append_buf _ rfl _ _ rfl base _ _ rfl (HB3.out.alloc _) ⟨wr.heap.size, 0, none⟩ 1 1 [UInt8.ofNat (u / 16777216)] rfl rfl (one_new _ _ _ (u8_at u 16777216)) HL2.out (by simp; omega) ?_)
      intro v4 w4 hb4 hk4
      have hb5 : Buf w4 base v4 (x1 ++ (num8 u).take 5) := by
        rw [← HC.out] at hb4; simpa [num8] using hb4
      have HB4 := Lib.hid hb5
      have HK4 := Lib.hid ((HK3.out.alloc _).trans hk4)
      clear hb4 hb5 hk4
      obtain ⟨x5, hx5⟩ : ∃ x, x1 ++ (num8 u).take 5 = x := ⟨_, rfl⟩
      rw [hx5] at HB4
      have HX5 := Lib.hid hx5
      clear hx5
      obtain ⟨ad4, c4, rfl⟩ := HB4.out.shape
      go_wp2_with fail
      exact ⟨⟨5, by omega, by simp, by rw [HX5.out]; exact HB4, HK4⟩, by simp [intOf]⟩
    · go_wp2_with (at_builtin; refine wpList_append_buf _ rfl _ _ rfl base _ _ rfl (HB3.out.alloc _) ⟨wr.heap.size, 0, none⟩ 1 1 [UInt8.ofNat (u / 65536)] rfl rfl (one_new _ _ _ (u8_at u 65536)) HL2.out (by simp; omega) ?_)
      intro v4 w4 hb4 hk4
      have hb5 : Buf w4 base v4 (x1 ++ (num8 u).take 6) := by
        rw [← HC.out] at hb4; simpa [num8] using hb4
      have HB4 := Lib.hid hb5
      have HK4 := Lib.hid ((HK3.out.alloc _).trans hk4)
      clear hb4 hb5 hk4
      obtain ⟨x5, hx5⟩ : ∃ x, x1 ++ (num8 u).take 6 = x := ⟨_, rfl⟩
      rw [hx5] at HB4
      have HX5 := Lib.hid hx5
      clear hx5
      obtain ⟨ad4, c4, rfl⟩ := HB4.out.shape
      go_wp2_with fail
      exact ⟨⟨6, by omega, by simp, by rw [HX5.out]; exact HB4, HK4⟩, by simp [intOf]⟩
    · go_wp2_with (at_builtin; refine wpList_append_buf _ rfl _ _ rfl base _ _ rfl (HB3.out.alloc _) ⟨wr.heap.size, 0, none⟩ 1 1 [UInt8.ofNat (u / 256)] rfl rfl (one_new _ _ _ (u8_at u 256)) HL2.out (by simp; omega) ?_)
      intro v4 w4 hb4 hk4
      have hb5 : Buf w4 base v4 (x1 ++ (num8 u).take 7) := by
        rw [← HC.out] at hb4; simpa [num8] using hb4
      have HB4 := Lib.hid hb5
      have HK4 := Lib.hid ((HK3.out.alloc _).trans hk4)
      clear hb4 hb5 hk4
      obtain ⟨x5, hx5⟩ : ∃ x, x1 ++ (num8 u).take 7 = x := ⟨_, rfl⟩
      rw [hx5] at HB4
      have HX5 := Lib.hid hx5
      clear hx5
      obtain ⟨ad4, c4, rfl⟩ := HB4.out.shape
      go_wp2_with fail
      exact ⟨⟨7, by omega, by simp, by rw [HX5.out]; exact HB4, HK4⟩, by simp [intOf]⟩
    · go_wp2_with (at_builtin; refine wpList_append_buf _ rfl _ _ rfl base _ _ rfl (HB3.out.alloc _) ⟨wr.heap.size, 0, none⟩ 1 1 [UInt8.ofNat u] rfl rfl (one_new _ _ _ (u8_at0 u)) HL2.out (by simp; omega) ?_)
      intro v4 w4 hb4 hk4
      have hb5 : Buf w4 base v4 (x1 ++ (num8 u).take 8) := by
        rw [← HC.out] at hb4; simpa [num8] using hb4
      have HB4 := Lib.hid hb5
      have HK4 := Lib.hid ((HK3.out.alloc _).trans hk4)
      clear hb4 hb5 hk4
      obtain ⟨x5, hx5⟩ : ∃ x, x1 ++ (num8 u).take 8 = x := ⟨_, rfl⟩
      rw [hx5] at HB4
      have HX5 := Lib.hid hx5
      clear hx5
      obtain ⟨ad4, c4, rfl⟩ := HB4.out.shape
      go_wp2_with fail
      exact ⟨⟨8, by omega, by simp, by rw [HX5.out]; exact HB4, HK4⟩, by simp [intOf]⟩
    · have hlf : cur = rr := by rw [← HC.out, ← HR.out, ← HX1.out]; simp [num8]
      have HLF := Lib.hid hlf
      clear hlf
      go_wp2_with fail
      go_ret
      exact ⟨_, rfl, by rw [← HLF.out]; exact HB3.out, HK3.out.of_alloc⟩
set_option maxRecDepth 20000 in
set_option maxHeartbeats 2000000 in
theorem kapp_k9 (i : Int) (s : ByteArray) (lt : List Tr) (ns : List ByteArray) (ds : List Tr) (la da : Option Addr) (lc dc : Nat) (b : Value) (l : List UInt8) (base : Nat) (W0 w : World) (hE : Ext W0 w) (hb0 : W0.heap.size ≤ base) (hbase : base ≤ w.heap.size) (hB : Buf w base b l) (hI : I64 i) (hlen : l.length ≤ 90000000000) :
    Calls Tryd.prog 22 #[b, .agg #[.int .i64 9, .int .i64 i, .string s, .slice la lt.length lc, .slice da ds.length dc]] w (BufPost base w (l ++ ([9] ++ num8 (uOf i)))) := by
  obtain ⟨rr, hrr⟩ : ∃ x, l ++ ([9] ++ num8 (uOf i)) = x := ⟨_, rfl⟩
  rw [hrr]
  have HR := Lib.hid hrr
  clear hrr
  have HB := Lib.hid hB
  obtain ⟨ad, c, rfl⟩ := hB.shape
  clear hB
  have HL1 : Hid (l.length + [(9 : UInt8)].length ≤ 140737488355328) := by
    show _ ≤ _
    simp; omega
  obtain ⟨u, hu⟩ : ∃ u, uOf i = u := ⟨_, rfl⟩
  have hX := xor63 i hI
  have hU := uOf_lt i hI
  rw [hu] at hX hU HR
  have HXr := Lib.hid hX
  clear hX hu hI
  go_enter Tryd.func22, Tryd.ntmps22
  go_wp2_with (at_builtin; refine wpList_append_buf _ rfl _ _ rfl base _ _ rfl ((HB.out.alloc _).alloc _) ⟨w.heap.size + 1, 0, none⟩ 1 1 [9] rfl rfl (one_newg _ _ (by simp) _ _ rfl) HL1.out (by simp; omega) ?_)
  intro v1 w1 hb1 hk1
  obtain ⟨x1, hx1⟩ : ∃ x, l ++ [9] = x := ⟨_, rfl⟩
  rw [hx1] at hb1
  have HX1 := Lib.hid hx1
  have n1 : x1.length ≤ l.length + 1 := by rw [← hx1]; simp
  have HB1 := Lib.hid hb1
  have hk1a := hk1.of_alloc
  have HK1 := Lib.hid hk1a
  have k1 := hk1a.ownc (by decide)
  have l1 := hk1a.lt
  have s1 := hk1a.of_alloc.size
  obtain ⟨ad1, c1, rfl⟩ := HB1.out.shape
  clear hb1 hk1 hk1a hx1
  go_wp2_with fail
  simp only [HXr.out]
  go_loopw [0, 6] (fun b x wr => ∃ (j : Nat), j ≤ 8 ∧ x = .int .i64 (56 - 8 * j) ∧ Hid (Buf wr base b (x1 ++ (num8 u).take j)) ∧ Hid (Keep base (w.alloc (.cells #[.int .i64 9, .int .i64 i, .string s, .slice la lt.length lc, .slice da ds.length dc] 41)) wr)) (fun _ x _ => (intOf x + 8).toNat)
  case atStart => exact ⟨0, by omega, rfl, by simpa using HB1, HK1⟩
  case round =>
    obtain ⟨j, hj, rfl, HB3, HK3⟩ := hrel
    obtain ⟨cur, hcur⟩ : ∃ x, x1 ++ (num8 u).take j = x := ⟨_, rfl⟩
    rw [hcur] at HB3
    have hcl : cur.length ≤ x1.length + 8 := by rw [← hcur]; simp [num8]; omega
    have HC := Lib.hid hcur
    clear hcur HXr
    obtain ⟨ad3, c3, rfl⟩ := HB3.out.shape
    have s3 := HK3.out.of_alloc.size
    have HL2 : Hid (cur.length + [(0 : UInt8)].length ≤ 140737488355328) := by
      show _ ≤ _
      simp; omega
    have hj9 : j = 0 ∨ j = 1 ∨ j = 2 ∨ j = 3 ∨ j = 4 ∨ j = 5 ∨ j = 6 ∨ j = 7 ∨ j = 8 := by omega
    clear hj
    rcases hj9 with rfl | rfl | rfl | rfl | rfl | rfl | rfl | rfl | rfl
    · go_wp2_with (at_builtin; refine wpList_append_buf _ rfl _ _ rfl base _ _ rfl (HB3.out.alloc _) ⟨wr.heap.size, 0, none⟩ 1 1 [UInt8.ofNat (u / 72057594037927936)] rfl rfl (one_new _ _ _ (u8_atT u hU)) HL2.out (by simp; omega) ?_)
      intro v4 w4 hb4 hk4
      have hb5 : Buf w4 base v4 (x1 ++ (num8 u).take 1) := by
        rw [← HC.out] at hb4; simpa [num8] using hb4
      have HB4 := Lib.hid hb5
      have HK4 := Lib.hid ((HK3.out.alloc _).trans hk4)
      clear hb4 hb5 hk4
      obtain ⟨x5, hx5⟩ : ∃ x, x1 ++ (num8 u).take 1 = x := ⟨_, rfl⟩
      rw [hx5] at HB4
      have HX5 := Lib.hid hx5
      clear hx5
      obtain ⟨ad4, c4, rfl⟩ := HB4.out.shape
      go_wp2_with fail
      exact ⟨⟨1, by omega, by simp, by rw [HX5.out]; exact HB4, HK4⟩, by simp [intOf]⟩
    · go_wp2_with (at_builtin; refine wpList_append_buf _ rfl _ _ rfl base _ _ rfl (HB3.out.alloc _) ⟨wr.heap.size, 0, none⟩ 1 1 [UInt8.ofNat (u / 281474976710656)] rfl rfl (one_new _ _ _ (u8_at u 281474976710656)) HL2.out (by simp; omega) ?_)
      intro v4 w4 hb4 hk4
      have hb5 : Buf w4 base v4 (x1 ++ (num8 u).take 2) := by
        rw [← HC.out] at hb4; simpa [num8] using hb4
      have HB4 := Lib.hid hb5
      have HK4 := Lib.hid ((HK3.out.alloc _).trans hk4)
      clear hb4 hb5 hk4
      obtain ⟨x5, hx5⟩ : ∃ x, x1 ++ (num8 u).take 2 = x := ⟨_, rfl⟩
      rw [hx5] at HB4
      have HX5 := Lib.hid hx5
      clear hx5
      obtain ⟨ad4, c4, rfl⟩ := HB4.out.shape
      go_wp2_with fail
      exact ⟨⟨2, by omega, by simp, by rw [HX5.out]; exact HB4, HK4⟩, by simp [intOf]⟩
    · go_wp2_with (at_builtin; refine wpList_append_buf _ rfl _ _ rfl base _ _ rfl (HB3.out.alloc _) ⟨wr.heap.size, 0, none⟩ 1 1 [UInt8.ofNat (u / 1099511627776)] rfl rfl (one_new _ _ _ (u8_at u 1099511627776)) HL2.out (by simp; omega) ?_)
      intro v4 w4 hb4 hk4
      have hb5 : Buf w4 base v4 (x1 ++ (num8 u).take 3) := by
        rw [← HC.out] at hb4; simpa [num8] using hb4
      have HB4 := Lib.hid hb5
      have HK4 := Lib.hid ((HK3.out.alloc _).trans hk4)
      clear hb4 hb5 hk4
      obtain ⟨x5, hx5⟩ : ∃ x, x1 ++ (num8 u).take 3 = x := ⟨_, rfl⟩
      rw [hx5] at HB4
      have HX5 := Lib.hid hx5
      clear hx5
      obtain ⟨ad4, c4, rfl⟩ := HB4.out.shape
      go_wp2_with fail
      exact ⟨⟨3, by omega, by simp, by rw [HX5.out]; exact HB4, HK4⟩, by simp [intOf]⟩
    · go_wp2_with (at_builtin; refine wpList_append_buf _ rfl _ _ rfl base _ _ rfl (HB3.out.alloc _) ⟨wr.heap.size, 0, none⟩ 1 1 [UInt8.ofNat (u / 4294967296)] rfl rfl (one_new _ _ _ (u8_at u 4294967296)) HL2.out (by simp; omega) ?_)
      intro v4 w4 hb4 hk4
      have hb5 : Buf w4 base v4 (x1 ++ (num8 u).take 4) := by
        rw [← HC.out] at hb4; simpa [num8] using hb4
      have HB4 := Lib.hid hb5
      have HK4 := Lib.hid ((HK3.out.alloc _).trans hk4)
      clear hb4 hb5 hk4
      obtain ⟨x5, hx5⟩ : ∃ x, x1 ++ (num8 u).take 4 = x := ⟨_, rfl⟩
      rw [hx5] at HB4
      have HX5 := Lib.hid hx5
      clear hx5
      obtain ⟨ad4, c4, rfl⟩ := HB4.out.shape
      go_wp2_with fail
      exact ⟨⟨4, by omega, by simp, by rw [HX5.out]; exact HB4, HK4⟩, by simp [intOf]⟩
    · go_wp2_with (at_builtin; refine wpList_append_buf _ rfl _ _ rfl base _ _ rfl (HB3.out.alloc _) ⟨wr.heap.size, 0, none⟩ 1 1 [UInt8.ofNat (u / 16777216)] rfl rfl (one_new _ _ _ (u8_at u 16777216)) HL2.out (by simp; omega) ?_)
      intro v4 w4 hb4 hk4
      have hb5 : Buf w4 base v4 (x1 ++ (num8 u).take 5) := by
        rw [← HC.out] at hb4; simpa [num8] using hb4
      have HB4 := Lib.hid hb5
      have HK4 := Lib.hid ((HK3.out.alloc _).trans hk4)
      clear hb4 hb5 hk4
      obtain ⟨x5, hx5⟩ : ∃ x, x1 ++ (num8 u).take 5 = x := ⟨_, rfl⟩
      rw [hx5] at HB4
      have HX5 := Lib.hid hx5
      clear hx5
      obtain ⟨ad4, c4, rfl⟩ := HB4.out.shape
      go_wp2_with fail
      exact ⟨⟨5, by omega, by simp, by rw [HX5.out]; exact HB4, HK4⟩, by simp [intOf]⟩
    · go_wp2_with (at_builtin; refine wpList_append_buf _ rfl _ _ rfl base _ _ rfl (HB3.out.alloc _) ⟨wr.heap.size, 0, none⟩ 1 1 [UInt8.ofNat (u / 65536)] rfl rfl (one_new _ _ _ (u8_at u 65536)) HL2.out (by simp; omega) ?_)
      intro v4 w4 hb4 hk4
      have hb5 : Buf w4 base v4 (x1 ++ (num8 u).take 6) := by
        rw [← HC.out] at hb4; simpa [num8] using hb4
      have HB4 := Lib.hid hb5
      have HK4 := Lib.hid ((HK3.out.alloc _).trans hk4)
      clear hb4 hb5 hk4
      obtain ⟨x5, hx5⟩ : ∃ x, x1 ++ (num8 u).take 6 = x := ⟨_, rfl⟩
      rw [hx5] at HB4
      have HX5 := Lib.hid hx5
      clear hx5
      obtain ⟨ad4, c4, rfl⟩ := HB4.out.shape
      go_wp2_with fail
      exact ⟨⟨6, by omega, by simp, by rw [HX5.out]; exact HB4, HK4⟩, by simp [intOf]⟩
    · go_wp2_with (at_builtin; refine wpList_append_buf _ rfl _ _ rfl base _ _ rfl (HB3.out.alloc _) ⟨wr.heap.size, 0, none⟩ 1 1 [UInt8.ofNat (u / 256)] rfl rfl (one_new _ _ _ (u8_at u 256)) HL2.out (by simp; omega) ?_)
      intro v4 w4 hb4 hk4
      have hb5 : Buf w4 base v4 (x1 ++ (num8 u).take 7) := by
        rw [← HC.out] at hb4; simpa [num8] using hb4
      have HB4 := Lib.hid hb5
      have HK4 := Lib.hid ((HK3.out.alloc _).trans hk4)
      clear hb4 hb5 hk4
      obtain ⟨x5, hx5⟩ : ∃ x, x1 ++ (num8 u).take 7 = x := ⟨_, rfl⟩
      rw [hx5] at HB4
      have HX5 := Lib.hid hx5
      clear hx5
      obtain ⟨ad4, c4, rfl⟩ := HB4.out.shape
      go_wp2_with fail
      exact ⟨⟨7, by omega, by simp, by rw [HX5.out]; exact HB4, HK4⟩, by simp [intOf]⟩
    · go_wp2_with (at_builtin; refine wpList_append_buf _ rfl _ _ rfl base _ _ rfl (HB3.out.alloc _) ⟨wr.heap.size, 0, none⟩ 1 1 [UInt8.ofNat u] rfl rfl (one_new _ _ _ (u8_at0 u)) HL2.out (by simp; omega) ?_)
      intro v4 w4 hb4 hk4
      have hb5 : Buf w4 base v4 (x1 ++ (num8 u).take 8) := by
        rw [← HC.out] at hb4; simpa [num8] using hb4
      have HB4 := Lib.hid hb5
      have HK4 := Lib.hid ((HK3.out.alloc _).trans hk4)
      clear hb4 hb5 hk4
      obtain ⟨x5, hx5⟩ : ∃ x, x1 ++ (num8 u).take 8 = x := ⟨_, rfl⟩
      rw [hx5] at HB4
      have HX5 := Lib.hid hx5
      clear hx5
      obtain ⟨ad4, c4, rfl⟩ := HB4.out.shape
      go_wp2_with fail
      exact ⟨⟨8, by omega, by simp, by rw [HX5.out]; exact HB4, HK4⟩, by simp [intOf]⟩
    · have hlf : cur = rr := by rw [← HC.out, ← HR.out, ← HX1.out]; simp [num8]
      have HLF := Lib.hid hlf
      clear hlf
      go_wp2_with fail
      go_ret
      exact ⟨_, rfl, by rw [← HLF.out]; exact HB3.out, HK3.out.of_alloc⟩
set_option maxRecDepth 20000 in
set_option maxHeartbeats 2000000 in
theorem kapp_k10 (i : Int) (s : ByteArray) (lt : List Tr) (ns : List ByteArray) (ds : List Tr) (la da : Option Addr) (lc dc : Nat) (b : Value) (l : List UInt8) (base : Nat) (W0 w : World) (hE : Ext W0 w) (hb0 : W0.heap.size ≤ base) (hbase : base ≤ w.heap.size) (hB : Buf w base b l) (hI : I64 i) (hlen : l.length ≤ 90000000000) :
    Calls Tryd.prog 22 #[b, .agg #[.int .i64 10, .int .i64 i, .string s, .slice la lt.length lc, .slice da ds.length dc]] w (BufPost base w (l ++ ([10] ++ num8 (uOf i)))) := by
  obtain ⟨rr, hrr⟩ : ∃ x, l ++ ([10] ++ num8 (uOf i)) = x := ⟨_, rfl⟩
  rw [hrr]
  have HR := Lib.hid hrr
  clear hrr
  have HB := Lib.hid hB
  obtain ⟨ad, c, rfl⟩ := hB.shape
  clear hB
  have HL1 : Hid (l.length + [(10 : UInt8)].length ≤ 140737488355328) := by
    show _ ≤ _
    simp; omega
  obtain ⟨u, hu⟩ : ∃ u, uOf i = u := ⟨_, rfl⟩
  have hX := xor63 i hI
  have hU := uOf_lt i hI
  rw [hu] at hX hU HR
  have HXr := Lib.hid hX
  clear hX hu hI
  go_enter Tryd.func22, Tryd.ntmps22
  go_wp2_with (at_builtin; refine wpList_append_buf _ rfl _ _ rfl base _ _ rfl ((HB.out.alloc _).alloc _) ⟨w.heap.size + 1, 0, none⟩ 1 1 [10] rfl rfl (one_newg _ _ (by simp) _ _ rfl) HL1.out (by simp; omega) ?_)
  intro v1 w1 hb1 hk1
  obtain ⟨x1, hx1⟩ : ∃ x, l ++ [10] = x := ⟨_, rfl⟩
  rw [hx1] at hb1
  have HX1 := Lib.hid hx1
  have n1 : x1.length ≤ l.length + 1 := by rw [← hx1]; simp
  have HB1 := Lib.hid hb1
  have hk1a := hk1.of_alloc
  have HK1 := Lib.hid hk1a
  have k1 := hk1a.ownc (by decide)
  have l1 := hk1a.lt
  have s1 := hk1a.of_alloc.size
  obtain ⟨ad1, c1, rfl⟩ := HB1.out.shape
  clear hb1 hk1 hk1a hx1
  go_wp2_with fail
  simp only [HXr.out]
  go_loopw [0, 6] (fun b x wr => ∃ (j : Nat), j ≤ 8 ∧ x = .int .i64 (56 - 8 * j) ∧ Hid (Buf wr base b (x1 ++ (num8 u).take j)) ∧ Hid (Keep base (w.alloc (.cells #[.int .i64 10, .int .i64 i, .string s, .slice la lt.length lc, .slice da ds.length dc] 41)) wr)) (fun _ x _ => (intOf x + 8).toNat)
  case atStart => exact ⟨0, by omega, rfl, by simpa using HB1, HK1⟩
  case round =>
    obtain ⟨j, hj, rfl, HB3, HK3⟩ := hrel
    obtain ⟨cur, hcur⟩ : ∃ x, x1 ++ (num8 u).take j = x := ⟨_, rfl⟩
    rw [hcur] at HB3
    have hcl : cur.length ≤ x1.length + 8 := by rw [← hcur]; simp [num8]; omega
    have HC := Lib.hid hcur
    clear hcur HXr
    obtain ⟨ad3, c3, rfl⟩ := HB3.out.shape
    have s3 := HK3.out.of_alloc.size
    have HL2 : Hid (cur.length + [(0 : UInt8)].length ≤ 140737488355328) := by
      show _ ≤ _
      simp; omega
    have hj9 : j = 0 ∨ j = 1 ∨ j = 2 ∨ j = 3 ∨ j = 4 ∨ j = 5 ∨ j = 6 ∨ j = 7 ∨ j = 8 := by omega
    clear hj
    rcases hj9 with rfl | rfl | rfl | rfl | rfl | rfl | rfl | rfl | rfl
    · go_wp2_with (at_builtin; refine wpList_append_buf _ rfl _ _ rfl base _ _ rfl (HB3.out.alloc _) ⟨wr.heap.size, 0, none⟩ 1 1 [UInt8.ofNat (u / 72057594037927936)] rfl rfl (one_new _ _ _ (u8_atT u hU)) HL2.out (by simp; omega) ?_)
      intro v4 w4 hb4 hk4
      have hb5 : Buf w4 base v4 (x1 ++ (num8 u).take 1) := by
        rw [← HC.out] at hb4; simpa [num8] using hb4
      have HB4 := Lib.hid hb5
      have HK4 := Lib.hid ((HK3.out.alloc _).trans hk4)
      clear hb4 hb5 hk4
      obtain ⟨x5, hx5⟩ : ∃ x, x1 ++ (num8 u).take 1 = x := ⟨_, rfl⟩
      rw [hx5] at HB4
      have HX5 := Lib.hid hx5
      clear hx5
      obtain ⟨ad4, c4, rfl⟩ := HB4.out.shape
      go_wp2_with fail
      exact ⟨⟨1, by omega, by simp, by rw [HX5.out]; exact HB4, HK4⟩, by simp [intOf]⟩
    · go_wp2_with (at_builtin; refine wpList_append_buf _ rfl _ _ rfl base _ _ rfl (HB3.out.alloc _) ⟨wr.heap.size, 0, none⟩ 1 1 [UInt8.ofNat (u / 281474976710656)] rfl rfl (one_new _ _ _ (u8_at u 281474976710656)) HL2.out (by simp; omega) ?_)
      intro v4 w4 hb4 hk4
      have hb5 : Buf w4 base v4 (x1 ++ (num8 u).take 2) := by
        rw [← HC.out] at hb4; simpa [num8] using hb4
      have HB4 := Lib.hid hb5
      have HK4 := Lib.hid ((HK3.out.alloc _).trans hk4)
      clear hb4 hb5 hk4
      obtain ⟨x5, hx5⟩ : ∃ x, x1 ++ (num8 u).take 2 = x := ⟨_, rfl⟩
      rw [hx5] at HB4
      have HX5 := Lib.hid hx5
      clear hx5
      obtain ⟨ad4, c4, rfl⟩ := HB4.out.shape
      go_wp2_with fail
      exact ⟨⟨2, by omega, by simp, by rw [HX5.out]; exact HB4, HK4⟩, by simp [intOf]⟩
    · go_wp2_with (at_builtin; refine wpList_append_buf _ rfl _ _ rfl base _ _ rfl (HB3.out.alloc _) ⟨wr.heap.size, 0, none⟩ 1 1 [UInt8.ofNat (u / 1099511627776)] rfl rfl (one_new _ _ _ (u8_at u 1099511627776)) HL2.out (by simp; omega) ?_)
      intro v4 w4 hb4 hk4
      have hb5 : Buf w4 base v4 (x1 ++ (num8 u).take 3) := by
        rw [← HC.out] at hb4; simpa [num8] using hb4
      have HB4 := Lib.hid hb5
      have HK4 := Lib.hid ((HK3.out.alloc _).trans hk4)
      clear hb4 hb5 hk4
      obtain ⟨x5, hx5⟩ : ∃ x, x1 ++ (num8 u).take 3 = x := ⟨_, rfl⟩
      rw [hx5] at HB4
      have HX5 := Lib.hid hx5
      clear hx5
      obtain ⟨ad4, c4, rfl⟩ := HB4.out.shape
      go_wp2_with fail
      exact ⟨⟨3, by omega, by simp, by rw [HX5.out]; exact HB4, HK4⟩, by simp [intOf]⟩
    · go_wp2_with (at_builtin; refine wpList_append_buf _ rfl _ _ rfl base _ _ rfl (HB3.out.alloc _) ⟨wr.heap.size, 0, none⟩ 1 1 [UInt8.ofNat (u / 4294967296)] rfl rfl (one_new _ _ _ (u8_at u 4294967296)) HL2.out (by simp; omega) ?_)
      intro v4 w4 hb4 hk4
      have hb5 : Buf w4 base v4 (x1 ++ (num8 u).take 4) := by
        rw [← HC.out] at hb4; simpa [num8] using hb4
      have HB4 := Lib.hid hb5
      have HK4 := Lib.hid ((HK3.out.alloc _).trans hk4)
      clear hb4 hb5 hk4
      obtain ⟨x5, hx5⟩ : ∃ x, x1 ++ (num8 u).take 4 = x := ⟨_, rfl⟩
      rw [hx5] at HB4
      have HX5 := Lib.hid hx5
      clear hx5
      obtain ⟨ad4, c4, rfl⟩ := HB4.out.shape
      go_wp2_with fail
      exact ⟨⟨4, by omega, by simp, by rw [HX5.out]; exact HB4, HK4⟩, by simp [intOf]⟩
    · go_wp2_with (at_builtin; refine wpList_append_buf _ rfl _ _ rfl base _ _ rfl (HB3.out.alloc _) ⟨wr.heap.size, 0, none⟩ 1 1 [UInt8.ofNat (u / 16777216)] rfl rfl (one_new _ _ _ (u8_at u 16777216)) HL2.out (by simp; omega) ?_)
      intro v4 w4 hb4 hk4
      have hb5 : Buf w4 base v4 (x1 ++ (num8 u).take 5) := by
        rw [← HC.out] at hb4; simpa [num8] using hb4
      have HB4 := Lib.hid hb5
      have HK4 := Lib.hid ((HK3.out.alloc _).trans hk4)
      clear hb4 hb5 hk4
      obtain ⟨x5, hx5⟩ : ∃ x, x1 ++ (num8 u).take 5 = x := ⟨_, rfl⟩
      rw [hx5] at HB4
      have HX5 := Lib.hid hx5
      clear hx5
      obtain ⟨ad4, c4, rfl⟩ := HB4.out.shape
      go_wp2_with fail
      exact ⟨⟨5, by omega, by simp, by rw [HX5.out]; exact HB4, HK4⟩, by simp [intOf]⟩
    · go_wp2_with (at_builtin; refine wpList_append_buf _ rfl _ _ rfl base _ _ rfl (HB3.out.alloc _) ⟨wr.heap.size, 0, none⟩ 1 1 [UInt8.ofNat (u / 65536)] rfl rfl (one_new _ _ _ (u8_at u 65536)) HL2.out (by simp; omega) ?_)
      intro v4 w4 hb4 hk4
      have hb5 : Buf w4 base v4 (x1 ++ (num8 u).take 6) := by
        rw [← HC.out] at hb4; simpa [num8] using hb4
      have HB4 := Lib.hid hb5
      have HK4 := Lib.hid ((HK3.out.alloc _).trans hk4)
      clear hb4 hb5 hk4
      obtain ⟨x5, hx5⟩ : ∃ x, x1 ++ (num8 u).take 6 = x := ⟨_, rfl⟩
      rw [hx5] at HB4
      have HX5 := Lib.hid hx5
      clear hx5
      obtain ⟨ad4, c4, rfl⟩ := HB4.out.shape
      go_wp2_with fail
      exact ⟨⟨6, by omega, by simp, by rw [HX5.out]; exact HB4, HK4⟩, by simp [intOf]⟩
    · go_wp2_with (at_builtin; refine wpList_append_buf _ rfl _ _ rfl base _ _ rfl (HB3.out.alloc _) ⟨wr.heap.size, 0, none⟩ 1 1 [UInt8.ofNat (u / 256)] rfl rfl (one_new _ _ _ (u8_at u 256)) HL2.out (by simp; omega) ?_)
      intro v4 w4 hb4 hk4
      have hb5 : Buf w4 base v4 (x1 ++ (num8 u).take 7) := by
        rw [← HC.out] at hb4; simpa [num8] using hb4
      have HB4 := Lib.hid hb5
      have HK4 := Lib.hid ((HK3.out.alloc _).trans hk4)
      clear hb4 hb5 hk4
      obtain ⟨x5, hx5⟩ : ∃ x, x1 ++ (num8 u).take 7 = x := ⟨_, rfl⟩
      rw [hx5] at HB4
      have HX5 := Lib.hid hx5
      clear hx5
      obtain ⟨ad4, c4, rfl⟩ := HB4.out.shape
      go_wp2_with fail
      exact ⟨⟨7, by omega, by simp, by rw [HX5.out]; exact HB4, HK4⟩, by simp [intOf]⟩
    · go_wp2_with (at_builtin; refine wpList_append_buf _ rfl _ _ rfl base _ _ rfl (HB3.out.alloc _) ⟨wr.heap.size, 0, none⟩ 1 1 [UInt8.ofNat u] rfl rfl (one_new _ _ _ (u8_at0 u)) HL2.out (by simp; omega) ?_)
      intro v4 w4 hb4 hk4
      have hb5 : Buf w4 base v4 (x1 ++ (num8 u).take 8) := by
        rw [← HC.out] at hb4; simpa [num8] using hb4
      have HB4 := Lib.hid hb5
      have HK4 := Lib.hid ((HK3.out.alloc _).trans hk4)
      clear hb4 hb5 hk4
      obtain ⟨x5, hx5⟩ : ∃ x, x1 ++ (num8 u).take 8 = x := ⟨_, rfl⟩
      rw [hx5] at HB4
      have HX5 := Lib.hid hx5
      clear hx5
      obtain ⟨ad4, c4, rfl⟩ := HB4.out.shape
      go_wp2_with fail
      exact ⟨⟨8, by omega, by simp, by rw [HX5.out]; exact HB4, HK4⟩, by simp [intOf]⟩
    · have hlf : cur = rr := by rw [← HC.out, ← HR.out, ← HX1.out]; simp [num8]
      have HLF := Lib.hid hlf
      clear hlf
      go_wp2_with fail
      go_ret
      exact ⟨_, rfl, by rw [← HLF.out]; exact HB3.out, HK3.out.of_alloc⟩
set_option maxRecDepth 20000 in
set_option maxHeartbeats 2000000 in
theorem kapp_k4 (i : Int) (s : ByteArray) (lt : List Tr) (ns : List ByteArray) (ds : List Tr) (la da : Option Addr) (lc dc : Nat) (b : Value) (l : List UInt8) (base : Nat) (W0 w : World) (hE : Ext W0 w) (hb0 : W0.heap.size ≤ base) (hbase : base ≤ w.heap.size) (hB : Buf w base b l) (hs : s.size ≤ 4096) (hlen : l.length ≤ 90000000000) :
    Calls Tryd.prog 22 #[b, .agg #[.int .i64 4, .int .i64 i, .string s, .slice la lt.length lc, .slice da ds.length dc]] w (BufPost base w (l ++ ([4] ++ (esc s.data.toList ++ [0, 0])))) := by
  obtain ⟨rr, hrr⟩ : ∃ x, l ++ ([4] ++ (esc s.data.toList ++ [0, 0])) = x := ⟨_, rfl⟩
  rw [hrr]
  have HR := Lib.hid hrr
  clear hrr
  have HB := Lib.hid hB
  obtain ⟨ad, c, rfl⟩ := hB.shape
  clear hB
  have HL1 : Hid (l.length + [(4 : UInt8)].length ≤ 140737488355328) := by
    show _ ≤ _
    simp; omega
  go_enter Tryd.func22, Tryd.ntmps22
  go_wp2_with (at_builtin; refine wpList_append_buf _ rfl _ _ rfl base _ _ rfl ((HB.out.alloc _).alloc _) ⟨w.heap.size + 1, 0, none⟩ 1 1 [4] rfl rfl (one_newg _ _ (by simp) _ _ rfl) HL1.out (by simp; omega) ?_)
  intro v1 w1 hb1 hk1
  obtain ⟨x1, hx1⟩ : ∃ x, l ++ [4] = x := ⟨_, rfl⟩
  rw [hx1] at hb1
  have HX1 := Lib.hid hx1
  have n1 : x1.length ≤ l.length + 1 := by rw [← hx1]; simp
  have HB1 := Lib.hid hb1
  have hk1a := hk1.of_alloc
  have HK1 := Lib.hid hk1a
  have k1 := hk1a.ownc (by decide)
  have l1 := hk1a.lt
  have s1 := hk1a.of_alloc.size
  obtain ⟨ad1, c1, rfl⟩ := HB1.out.shape
  clear hb1 hk1 hk1a hx1
  go_wp2_with fail
  go_loopw [0, 46] (fun b x wr => ∃ (j : Nat), j ≤ s.size ∧ x = .int .i64 j ∧ Hid (Buf wr base b (x1 ++ esc (s.data.toList.take j))) ∧ Hid (Keep base (w.alloc (.cells #[.int .i64 4, .int .i64 i, .string s, .slice la lt.length lc, .slice da ds.length dc] 41)) wr)) (fun _ x _ => s.size - (intOf x).toNat)
  case atStart => exact ⟨0, by omega, rfl, by simpa [esc] using HB1, HK1⟩
  case round =>
    obtain ⟨j, hj, rfl, HB3, HK3⟩ := hrel
    obtain ⟨cur, hcur⟩ : ∃ x, x1 ++ esc (s.data.toList.take j) = x := ⟨_, rfl⟩
    rw [hcur] at HB3
    have hcl : cur.length ≤ x1.length + 2 * s.size := by
      rw [← hcur]; have := esc_le (s.data.toList.take j); simp only [List.length_append]; simp at this; omega
    have HC := Lib.hid hcur
    clear hcur k1
    obtain ⟨ad3, c3, rfl⟩ := HB3.out.shape
    have k3 := HK3.out.ownc (by decide)
    have l3 := HK3.out.lt
    have s3 := HK3.out.of_alloc.size
    have HL2 : Hid (cur.length + [(0 : UInt8)].length ≤ 140737488355328) := by
      show _ ≤ _
      simp; omega
    by_cases hlt : j < s.size
    · have htk : s.data.toList.take (j + 1) = s.data.toList.take j ++ [s[j]] := by rw [List.take_succ_eq_append_getElem (by simpa using hlt)]; rfl
      have hsn : esc (s.data.toList.take (j + 1)) = esc (s.data.toList.take j) ++ escC s[j] := by rw [htk, esc_snoc]
      obtain ⟨cc, hcc⟩ : ∃ c, s[j] = c := ⟨_, rfl⟩
      rw [hcc] at hsn
      have HSN := Lib.hid hsn
      clear hsn htk
      go_wp2_with (at_builtin; refine wpList_append_buf _ rfl _ _ rfl base _ _ rfl (HB3.out.alloc _) ⟨wr.heap.size, 0, none⟩ 1 1 [cc] rfl rfl (one_new _ _ _ rfl) HL2.out (by simp; omega) ?_)
      intro v4 w4 hb4 hk4
      have HK4 := Lib.hid ((HK3.out.alloc _).trans hk4)
      have k4 := HK4.out.ownc (by decide)
      have l4 := HK4.out.lt
      have s4 := HK4.out.of_alloc.size
      clear hk4 k3
      obtain ⟨x4, hx4⟩ : ∃ x, cur ++ [cc] = x := ⟨_, rfl⟩
      rw [hx4] at hb4
      have hx4l : x4.length ≤ cur.length + 1 := by rw [← hx4]; simp
      have HX4 := Lib.hid hx4
      have HB4 := Lib.hid hb4
      clear hx4 hb4
      obtain ⟨ad4, c4, rfl⟩ := HB4.out.shape
      by_cases hz : cc = 0
      · have d : ((cc.toNat : Int) == 0) = true := by rw [hz]; rfl
        have HL3 : Hid (x4.length + [(0 : UInt8)].length ≤ 140737488355328) := by
          show _ ≤ _
          simp; omega
        have hz2 : cc.toNat = 0 := by rw [hz]; rfl
        have HZ := Lib.hid hz
        clear hz
        go_wp2_with (at_builtin; refine wpList_append_buf _ rfl _ _ rfl base _ _ rfl (HB4.out.alloc _) ⟨w4.heap.size, 0, none⟩ 1 1 [255] rfl rfl (one_new _ _ _ rfl) HL3.out (by simp; omega) ?_)
        intro v5 w5 hb5 hk5
        have hb6 : Buf w5 base v5 (x1 ++ esc (s.data.toList.take (j + 1))) := by
          rw [HSN.out]; rw [← HX4.out, ← HC.out, HZ.out] at hb5; rw [HZ.out]; simpa [escC] using hb5
        have HK5 := Lib.hid ((HK4.out.alloc _).trans hk5)
        obtain ⟨x6, hx6⟩ : ∃ x, x1 ++ esc (s.data.toList.take (j + 1)) = x := ⟨_, rfl⟩
        rw [hx6] at hb6
        have HX6 := Lib.hid hx6
        have HB6 := Lib.hid hb6
        clear hb5 hk5 hb6 hx6 k4
        obtain ⟨ad6, c6, rfl⟩ := HB6.out.shape
        go_wp2_with fail
        exact ⟨⟨j + 1, by omega, by go_num, by rw [HX6.out]; exact HB6, HK5⟩, by simp [intOf]; omega⟩
      · have d : ((cc.toNat : Int) == 0) = false := by
          rw [beq_eq_false_iff_ne]; intro e; exact hz (UInt8.toNat_inj.1 (by simpa using e))
        have hb6 : Buf w4 base (.slice ad4 x4.length c4) (x1 ++ esc (s.data.toList.take (j + 1))) := by
          have h := HB4.out
          rw [HSN.out]; rw [← HX4.out, ← HC.out] at h ⊢; simpa [escC, hz] using h
        have hx6 : x4 = x1 ++ esc (s.data.toList.take (j + 1)) := by
          rw [HSN.out, ← HX4.out, ← HC.out]; simp [escC, hz]
        have HX6 := Lib.hid hx6
        clear hb6 hx6 hz
        go_wp2_with fail
        exact ⟨⟨j + 1, by omega, by go_num, by rw [← HX6.out]; exact HB4, HK4⟩, by simp [intOf]; omega⟩
    · have hj2 : j = s.size := by omega
      subst hj2
      have HL3 : Hid (cur.length + [(0 : UInt8), 0].length ≤ 140737488355328) := by
        show _ ≤ _
        simp; omega
      go_wp2_with (at_builtin; refine wpList_append_buf _ rfl _ _ rfl base _ _ rfl (HB3.out.alloc _) ⟨wr.heap.size, 0, none⟩ 2 2 [0, 0] rfl rfl (two_newg _ _ rfl) HL3.out (by simp; omega) ?_)
      intro v4 w4 hb4 hk4
      have hb6 : Buf w4 base v4 rr := by
        rw [← HC.out, List.take_of_length_le (by simp)] at hb4
        rw [← HR.out, ← List.append_assoc, HX1.out, ← List.append_assoc]; exact hb4
      have HB6 := Lib.hid hb6
      have HK4 := Lib.hid ((HK3.out.alloc _).trans hk4)
      clear hb4 hb6 hk4
      obtain ⟨ad4, c4, rfl⟩ := HB6.out.shape
      go_wp2_with fail
      go_ret
      exact ⟨_, rfl, HB6.out, HK4.out.of_alloc⟩
set_option maxRecDepth 20000 in
set_option maxHeartbeats 2000000 in
theorem kapp_k7 (i : Int) (s : ByteArray) (lt : List Tr) (ns : List ByteArray) (ds : List Tr) (la da : Option Addr) (lc dc : Nat) (b : Value) (l : List UInt8) (base : Nat) (W0 w : World) (hE : Ext W0 w) (hb0 : W0.heap.size ≤ base) (hbase : base ≤ w.heap.size) (hB : Buf w base b l) (hs : s.size ≤ 4096) (hlen : l.length ≤ 90000000000) :
    Calls Tryd.prog 22 #[b, .agg #[.int .i64 7, .int .i64 i, .string s, .slice la lt.length lc, .slice da ds.length dc]] w (BufPost base w (l ++ ([7] ++ (esc s.data.toList ++ [0, 0])))) := by
  obtain ⟨rr, hrr⟩ : ∃ x, l ++ ([7] ++ (esc s.data.toList ++ [0, 0])) = x := ⟨_, rfl⟩
  rw [hrr]
  have HR := Lib.hid hrr
  clear hrr
  have HB := Lib.hid hB
  obtain ⟨ad, c, rfl⟩ := hB.shape
  clear hB
  have HL1 : Hid (l.length + [(7 : UInt8)].length ≤ 140737488355328) := by
    show _ ≤ _
    simp; omega
  go_enter Tryd.func22, Tryd.ntmps22
  go_wp2_with (at_builtin; refine wpList_append_buf _ rfl _ _ rfl base _ _ rfl ((HB.out.alloc _).alloc _) ⟨w.heap.size + 1, 0, none⟩ 1 1 [7] rfl rfl (one_newg _ _ (by simp) _ _ rfl) HL1.out (by simp; omega) ?_)
  intro v1 w1 hb1 hk1
  obtain ⟨x1, hx1⟩ : ∃ x, l ++ [7] = x := ⟨_, rfl⟩
  rw [hx1] at hb1
  have HX1 := Lib.hid hx1
  have n1 : x1.length ≤ l.length + 1 := by rw [← hx1]; simp
  have HB1 := Lib.hid hb1
  have hk1a := hk1.of_alloc
  have HK1 := Lib.hid hk1a
  have k1 := hk1a.ownc (by decide)
  have l1 := hk1a.lt
  have s1 := hk1a.of_alloc.size
  obtain ⟨ad1, c1, rfl⟩ := HB1.out.shape
  clear hb1 hk1 hk1a hx1
  go_wp2_with fail
  go_loopw [0, 46] (fun b x wr => ∃ (j : Nat), j ≤ s.size ∧ x = .int .i64 j ∧ Hid (Buf wr base b (x1 ++ esc (s.data.toList.take j))) ∧ Hid (Keep base (w.alloc (.cells #[.int .i64 7, .int .i64 i, .string s, .slice la lt.length lc, .slice da ds.length dc] 41)) wr)) (fun _ x _ => s.size - (intOf x).toNat)
  case atStart => exact ⟨0, by omega, rfl, by simpa [esc] using HB1, HK1⟩
  case round =>
    obtain ⟨j, hj, rfl, HB3, HK3⟩ := hrel
    obtain ⟨cur, hcur⟩ : ∃ x, x1 ++ esc (s.data.toList.take j) = x := ⟨_, rfl⟩
    rw [hcur] at HB3
    have hcl : cur.length ≤ x1.length + 2 * s.size := by
      rw [← hcur]; have := esc_le (s.data.toList.take j); simp only [List.length_append]; simp at this; omega
    have HC := Lib.hid hcur
    clear hcur k1
    obtain ⟨ad3, c3, rfl⟩ := HB3.out.shape
    have k3 := HK3.out.ownc (by decide)
    have l3 := HK3.out.lt
    have s3 := HK3.out.of_alloc.size
    have HL2 : Hid (cur.length + [(0 : UInt8)].length ≤ 140737488355328) := by
      show _ ≤ _
      simp; omega
    by_cases hlt : j < s.size
    · have htk : s.data.toList.take (j + 1) = s.data.toList.take j ++ [s[j]] := by rw [List.take_succ_eq_append_getElem (by simpa using hlt)]; rfl
      have hsn : esc (s.data.toList.take (j + 1)) = esc (s.data.toList.take j) ++ escC s[j] := by rw [htk, esc_snoc]
      obtain ⟨cc, hcc⟩ : ∃ c, s[j] = c := ⟨_, rfl⟩
      rw [hcc] at hsn
      have HSN := Lib.hid hsn
      clear hsn htk
      go_wp2_with (at_builtin; refine wpList_append_buf _ rfl _ _ rfl base _ _ rfl (HB3.out.alloc _) ⟨wr.heap.size, 0, none⟩ 1 1 [cc] rfl rfl (one_new _ _ _ rfl) HL2.out (by simp; omega) ?_)
      intro v4 w4 hb4 hk4
      have HK4 := Lib.hid ((HK3.out.alloc _).trans hk4)
      have k4 := HK4.out.ownc (by decide)
      have l4 := HK4.out.lt
      have s4 := HK4.out.of_alloc.size
      clear hk4 k3
      obtain ⟨x4, hx4⟩ : ∃ x, cur ++ [cc] = x := ⟨_, rfl⟩
      rw [hx4] at hb4
      have hx4l : x4.length ≤ cur.length + 1 := by rw [← hx4]; simp
      have HX4 := Lib.hid hx4
      have HB4 := Lib.hid hb4
      clear hx4 hb4
      obtain ⟨ad4, c4, rfl⟩ := HB4.out.shape
      by_cases hz : cc = 0
      · have d : ((cc.toNat : Int) == 0) = true := by rw [hz]; rfl
        have HL3 : Hid (x4.length + [(0 : UInt8)].length ≤ 140737488355328) := by
          show _ ≤ _
          simp; omega
        have hz2 : cc.toNat = 0 := by rw [hz]; rfl
        have HZ := Lib.hid hz
        clear hz
        go_wp2_with (at_builtin; refine wpList_append_buf _ rfl _ _ rfl base _ _ rfl (HB4.out.alloc _) ⟨w4.heap.size, 0, none⟩ 1 1 [255] rfl rfl (one_new _ _ _ rfl) HL3.out (by simp; omega) ?_)
        intro v5 w5 hb5 hk5
        have hb6 : Buf w5 base v5 (x1 ++ esc (s.data.toList.take (j + 1))) := by
          rw [HSN.out]; rw [← HX4.out, ← HC.out, HZ.out] at hb5; rw [HZ.out]; simpa [escC] using hb5
        have HK5 := Lib.hid ((HK4.out.alloc _).trans hk5)
        obtain ⟨x6, hx6⟩ : ∃ x, x1 ++ esc (s.data.toList.take (j + 1)) = x := ⟨_, rfl⟩
        rw [hx6] at hb6
        have HX6 := Lib.hid hx6
        have HB6 := Lib.hid hb6
        clear hb5 hk5 hb6 hx6 k4
        obtain ⟨ad6, c6, rfl⟩ := HB6.out.shape
        go_wp2_with fail
        exact ⟨⟨j + 1, by omega, by go_num, by rw [HX6.out]; exact HB6, HK5⟩, by simp [intOf]; omega⟩
      · have d : ((cc.toNat : Int) == 0) = false := by
          rw [beq_eq_false_iff_ne]; intro e; exact hz (UInt8.toNat_inj.1 (by simpa using e))
        have hb6 : Buf w4 base (.slice ad4 x4.length c4) (x1 ++ esc (s.data.toList.take (j + 1))) := by
          have h := HB4.out
          rw [HSN.out]; rw [← HX4.out, ← HC.out] at h ⊢; simpa [escC, hz] using h
        have hx6 : x4 = x1 ++ esc (s.data.toList.take (j + 1)) := by
          rw [HSN.out, ← HX4.out, ← HC.out]; simp [escC, hz]
        have HX6 := Lib.hid hx6
        clear hb6 hx6 hz
        go_wp2_with fail
        exact ⟨⟨j + 1, by omega, by go_num, by rw [← HX6.out]; exact HB4, HK4⟩, by simp [intOf]; omega⟩
    · have hj2 : j = s.size := by omega
      subst hj2
      have HL3 : Hid (cur.length + [(0 : UInt8), 0].length ≤ 140737488355328) := by
        show _ ≤ _
        simp; omega
      go_wp2_with (at_builtin; refine wpList_append_buf _ rfl _ _ rfl base _ _ rfl (HB3.out.alloc _) ⟨wr.heap.size, 0, none⟩ 2 2 [0, 0] rfl rfl (two_newg _ _ rfl) HL3.out (by simp; omega) ?_)
      intro v4 w4 hb4 hk4
      have hb6 : Buf w4 base v4 rr := by
        rw [← HC.out, List.take_of_length_le (by simp)] at hb4
        rw [← HR.out, ← List.append_assoc, HX1.out, ← List.append_assoc]; exact hb4
      have HB6 := Lib.hid hb6
      have HK4 := Lib.hid ((HK3.out.alloc _).trans hk4)
      clear hb4 hb6 hk4
      obtain ⟨ad4, c4, rfl⟩ := HB6.out.shape
      go_wp2_with fail
      go_ret
      exact ⟨_, rfl, HB6.out, HK4.out.of_alloc⟩
set_option maxRecDepth 20000 in
set_option maxHeartbeats 2000000 in
theorem kapp_k8 (i : Int) (s : ByteArray) (lt : List Tr) (ns : List ByteArray) (ds : List Tr) (la da : Option Addr) (lc dc : Nat) (b : Value) (l : List UInt8) (base : Nat) (W0 w : World) (hE : Ext W0 w) (hb0 : W0.heap.size ≤ base) (hbase : base ≤ w.heap.size) (hB : Buf w base b l) (hs : s.size ≤ 4096) (hlen : l.length ≤ 90000000000) :
    Calls Tryd.prog 22 #[b, .agg #[.int .i64 8, .int .i64 i, .string s, .slice la lt.length lc, .slice da ds.length dc]] w (BufPost base w (l ++ ([8] ++ (esc s.data.toList ++ [0, 0])))) := by
  obtain ⟨rr, hrr⟩ : ∃ x, l ++ ([8] ++ (esc s.data.toList ++ [0, 0])) = x := ⟨_, rfl⟩
  rw [hrr]
  have HR := Lib.hid hrr
  clear hrr
  have HB := Lib.hid hB
  obtain ⟨ad, c, rfl⟩ := hB.shape
  clear hB
  have HL1 : Hid (l.length + [(8 : UInt8)].length ≤ 140737488355328) := by
    show _ ≤ _
    simp; omega
  go_enter Tryd.func22, Tryd.ntmps22
  go_wp2_with (at_builtin; refine wpList_append_buf _ rfl _ _ rfl base _ _ rfl ((HB.out.alloc _).alloc _) ⟨w.heap.size + 1, 0, none⟩ 1 1 [8] rfl rfl (one_newg _ _ (by simp) _ _ rfl) HL1.out (by simp; omega) ?_)
  intro v1 w1 hb1 hk1
  obtain ⟨x1, hx1⟩ : ∃ x, l ++ [8] = x := ⟨_, rfl⟩
  rw [hx1] at hb1
  have HX1 := Lib.hid hx1
  have n1 : x1.length ≤ l.length + 1 := by rw [← hx1]; simp
  have HB1 := Lib.hid hb1
  have hk1a := hk1.of_alloc
  have HK1 := Lib.hid hk1a
  have k1 := hk1a.ownc (by decide)
  have l1 := hk1a.lt
  have s1 := hk1a.of_alloc.size
  obtain ⟨ad1, c1, rfl⟩ := HB1.out.shape
  clear hb1 hk1 hk1a hx1
  go_wp2_with fail
  go_loopw [0, 46] (fun b x wr => ∃ (j : Nat), j ≤ s.size ∧ x = .int .i64 j ∧ Hid (Buf wr base b (x1 ++ esc (s.data.toList.take j))) ∧ Hid (Keep base (w.alloc (.cells #[.int .i64 8, .int .i64 i, .string s, .slice la lt.length lc, .slice da ds.length dc] 41)) wr)) (fun _ x _ => s.size - (intOf x).toNat)
  case atStart => exact ⟨0, by omega, rfl, by simpa [esc] using HB1, HK1⟩
  case round =>
    obtain ⟨j, hj, rfl, HB3, HK3⟩ := hrel
    obtain ⟨cur, hcur⟩ : ∃ x, x1 ++ esc (s.data.toList.take j) = x := ⟨_, rfl⟩
    rw [hcur] at HB3
    have hcl : cur.length ≤ x1.length + 2 * s.size := by
      rw [← hcur]; have := esc_le (s.data.toList.take j); simp only [List.length_append]; simp at this; omega
    have HC := Lib.hid hcur
    clear hcur k1
    obtain ⟨ad3, c3, rfl⟩ := HB3.out.shape
    have k3 := HK3.out.ownc (by decide)
    have l3 := HK3.out.lt
    have s3 := HK3.out.of_alloc.size
    have HL2 : Hid (cur.length + [(0 : UInt8)].length ≤ 140737488355328) := by
      show _ ≤ _
      simp; omega
    by_cases hlt : j < s.size
    · have htk : s.data.toList.take (j + 1) = s.data.toList.take j ++ [s[j]] := by rw [List.take_succ_eq_append_getElem (by simpa using hlt)]; rfl
      have hsn : esc (s.data.toList.take (j + 1)) = esc (s.data.toList.take j) ++ escC s[j] := by rw [htk, esc_snoc]
      obtain ⟨cc, hcc⟩ : ∃ c, s[j] = c := ⟨_, rfl⟩
      rw [hcc] at hsn
      have HSN := Lib.hid hsn
      clear hsn htk
      go_wp2_with (at_builtin; refine wpList_append_buf _ rfl _ _ rfl base _ _ rfl (HB3.out.alloc _) ⟨wr.heap.size, 0, none⟩ 1 1 [cc] rfl rfl (one_new _ _ _ rfl) HL2.out (by simp; omega) ?_)
      intro v4 w4 hb4 hk4
      have HK4 := Lib.hid ((HK3.out.alloc _).trans hk4)
      have k4 := HK4.out.ownc (by decide)
      have l4 := HK4.out.lt
      have s4 := HK4.out.of_alloc.size
      clear hk4 k3
      obtain ⟨x4, hx4⟩ : ∃ x, cur ++ [cc] = x := ⟨_, rfl⟩
      rw [hx4] at hb4
      have hx4l : x4.length ≤ cur.length + 1 := by rw [← hx4]; simp
      have HX4 := Lib.hid hx4
      have HB4 := Lib.hid hb4
      clear hx4 hb4
      obtain ⟨ad4, c4, rfl⟩ := HB4.out.shape
      by_cases hz : cc = 0
      · have d : ((cc.toNat : Int) == 0) = true := by rw [hz]; rfl
        have HL3 : Hid (x4.length + [(0 : UInt8)].length ≤ 140737488355328) := by
          show _ ≤ _
          simp; omega
        have hz2 : cc.toNat = 0 := by rw [hz]; rfl
        have HZ := Lib.hid hz
        clear hz
        go_wp2_with (at_builtin; refine wpList_append_buf _ rfl _ _ rfl base _ _ rfl (HB4.out.alloc _) ⟨w4.heap.size, 0, none⟩ 1 1 [255] rfl rfl (one_new _ _ _ rfl) HL3.out (by simp; omega) ?_)
        intro v5 w5 hb5 hk5
        have hb6 : Buf w5 base v5 (x1 ++ esc (s.data.toList.take (j + 1))) := by
          rw [HSN.out]; rw [← HX4.out, ← HC.out, HZ.out] at hb5; rw [HZ.out]; simpa [escC] using hb5
        have HK5 := Lib.hid ((HK4.out.alloc _).trans hk5)
        obtain ⟨x6, hx6⟩ : ∃ x, x1 ++ esc (s.data.toList.take (j + 1)) = x := ⟨_, rfl⟩
        rw [hx6] at hb6
        have HX6 := Lib.hid hx6
        have HB6 := Lib.hid hb6
        clear hb5 hk5 hb6 hx6 k4
        obtain ⟨ad6, c6, rfl⟩ := HB6.out.shape
        go_wp2_with fail
        exact ⟨⟨j + 1, by omega, by go_num, by rw [HX6.out]; exact HB6, HK5⟩, by simp [intOf]; omega⟩
      · have d : ((cc.toNat : Int) == 0) = false := by
          rw [beq_eq_false_iff_ne]; intro e; exact hz (UInt8.toNat_inj.1 (by simpa using e))
        have hb6 : Buf w4 base (.slice ad4 x4.length c4) (x1 ++ esc (s.data.toList.take (j + 1))) := by
          have h := HB4.out
          rw [HSN.out]; rw [← HX4.out, ← HC.out] at h ⊢; simpa [escC, hz] using h
        have hx6 : x4 = x1 ++ esc (s.data.toList.take (j + 1)) := by
          rw [HSN.out, ← HX4.out, ← HC.out]; simp [escC, hz]
        have HX6 := Lib.hid hx6
        clear hb6 hx6 hz
        go_wp2_with fail
        exact ⟨⟨j + 1, by omega, by go_num, by rw [← HX6.out]; exact HB4, HK4⟩, by simp [intOf]; omega⟩
    · have hj2 : j = s.size := by omega
      subst hj2
      have HL3 : Hid (cur.length + [(0 : UInt8), 0].length ≤ 140737488355328) := by
        show _ ≤ _
        simp; omega
      go_wp2_with (at_builtin; refine wpList_append_buf _ rfl _ _ rfl base _ _ rfl (HB3.out.alloc _) ⟨wr.heap.size, 0, none⟩ 2 2 [0, 0] rfl rfl (two_newg _ _ rfl) HL3.out (by simp; omega) ?_)
      intro v4 w4 hb4 hk4
      have hb6 : Buf w4 base v4 rr := by
        rw [← HC.out, List.take_of_length_le (by simp)] at hb4
        rw [← HR.out, ← List.append_assoc, HX1.out, ← List.append_assoc]; exact hb4
      have HB6 := Lib.hid hb6
      have HK4 := Lib.hid ((HK3.out.alloc _).trans hk4)
      clear hb4 hb6 hk4
      obtain ⟨ad4, c4, rfl⟩ := HB6.out.shape
      go_wp2_with fail
      go_ret
      exact ⟨_, rfl, HB6.out, HK4.out.of_alloc⟩
set_option maxRecDepth 20000 in
set_option maxHeartbeats 2000000 in
theorem kapp_k6 (i : Int) (s : ByteArray) (lt : List Tr) (ns : List ByteArray) (ds : List Tr) (la da : Option Addr) (lc dc : Nat) (b : Value) (l : List UInt8) (base : Nat) (W0 w : World) (hE : Ext W0 w) (hb0 : W0.heap.size ≤ base) (hbase : base ≤ w.heap.size) (hB : Buf w base b l) (hc1 : lt.length ≤ lc) (hc2 : lc ≤ maxLen) (hc3 : lt.length ≤ 90000000000) (hL : LRep W0 la 0 lt) (hsl : ∀ t ∈ lt, snd t = true) (ih : ∀ t ∈ lt, KAppOk t) (hlen : l.length + ([6] ++ (kencL lt ++ [0])).length ≤ 90000000000) :
    Calls Tryd.prog 22 #[b, .agg #[.int .i64 6, .int .i64 i, .string s, .slice la lt.length lc, .slice da ds.length dc]] w (BufPost base w (l ++ ([6] ++ (kencL lt ++ [0])))) := by
  obtain ⟨rr, hrr⟩ : ∃ x, l ++ ([6] ++ (kencL lt ++ [0])) = x := ⟨_, rfl⟩
  rw [hrr]
  have HR := Lib.hid hrr
  clear hrr
  have HB := Lib.hid hB
  obtain ⟨ad, c, rfl⟩ := hB.shape
  clear hB
  have HL1 : Hid (l.length + [(6 : UInt8)].length ≤ 140737488355328) := by
    show _ ≤ _
    simp; omega
  have HL := Lib.hid hL
  have HIH := Lib.hid ih
  have HSL := Lib.hid hsl
  clear hL ih hsl
  go_enter Tryd.func22, Tryd.ntmps22
  go_wp2_with (at_builtin; refine wpList_append_buf _ rfl _ _ rfl base _ _ rfl ((HB.out.alloc _).alloc _) ⟨w.heap.size + 1, 0, none⟩ 1 1 [6] rfl rfl (one_newg _ _ (by simp) _ _ rfl) HL1.out (by simp; omega) ?_)
  intro v1 w1 hb1 hk1
  obtain ⟨x1, hx1⟩ : ∃ x, l ++ [6] = x := ⟨_, rfl⟩
  rw [hx1] at hb1
  have HX1 := Lib.hid hx1
  have n1 : x1.length ≤ l.length + 1 := by rw [← hx1]; simp
  have HB1 := Lib.hid hb1
  have hk1a := hk1.of_alloc
  have HK1 := Lib.hid hk1a
  have k1 := hk1a.ownc (by decide)
  have l1 := hk1a.lt
  have s1 := hk1a.of_alloc.size
  obtain ⟨ad1, c1, rfl⟩ := HB1.out.shape
  clear hb1 hk1 hk1a hx1
  have hpl : x1.length + (kencL lt).length ≤ 90000000000 := by
    rw [← HX1.out]; have := hlen; simp only [List.length_append] at this ⊢; omega
  go_wp2_with fail
  go_loopw [0, 73] (fun b c wr => ∃ j : Nat, j ≤ lt.length ∧ c = .int .i64 j ∧ Hid (Buf wr base b (x1 ++ kencL (lt.take j))) ∧ Hid (Keep base (w.alloc (.cells #[.int .i64 6, .int .i64 i, .string s, .slice la lt.length lc, .slice da ds.length dc] 41)) wr)) (fun _ c _ => lt.length - (intOf c).toNat)
  case atStart => exact ⟨0, by omega, rfl, by simpa [kencL] using HB1, HK1⟩
  case round =>
    obtain ⟨j, hj, rfl, HB3, HK3⟩ := hrel
    obtain ⟨cur, hcur⟩ : ∃ x, x1 ++ kencL (lt.take j) = x := ⟨_, rfl⟩
    rw [hcur] at HB3
    have hcl : cur.length ≤ 90000000000 := by
      rw [← hcur]; have := kencL_take_le lt j; simp only [List.length_append] at this ⊢; omega
    have HC := Lib.hid hcur
    clear hcur
    obtain ⟨ad3, c3, rfl⟩ := HB3.out.shape
    have l3 := HK3.out.lt
    have s3 := HK3.out.of_alloc.size
    by_cases hlt : j < lt.length
    · obtain ⟨bb, off, c0, c1, c2, c3', c4, rfl, e0, e1, e2, e3, e4, hv⟩ := LRep.at_ lt 0 j lt[j] HL.out (List.getElem?_eq_getElem hlt)
      obtain ⟨k', i', s', la', ln', lc', da', dn', dc', rfl, rfl, rfl, rfl, rfl⟩ := hv.shape5
      have hEr := HK3.out.of_alloc.ext hE hb0
      have q0 := hEr.keep e0
      have q1 := hEr.keep e1
      have q2 := hEr.keep e2
      have q3 := hEr.keep e3
      have q4 := hEr.keep e4
      rw [Nat.zero_add] at q0 q1 q2 q3 q4
      have HV := Lib.hid hv
      have HEr := Lib.hid hEr
      clear e0 e1 e2 e3 e4 hv hEr
      have hsn := kencL_snoc (lt.take j) lt[j]
      rw [← List.take_succ_eq_append_getElem hlt] at hsn
      have hle := kencL_take_le lt (j + 1)
      obtain ⟨p, hp⟩ : ∃ p, lt[j] = p := ⟨_, rfl⟩
      have hmem : p ∈ lt := by rw [← hp]; exact List.getElem_mem hlt
      rw [hp] at HV hsn
      have hlp : (cur ++ [1]).length + (kenc p).length ≤ 90000000000 := by
        rw [← HC.out]; rw [hsn] at hle; simp only [List.length_append] at hle ⊢; omega
      have HLp := Lib.hid hlp
      have HSn := Lib.hid hsn
      have HL2 : Hid (cur.length + [(1 : UInt8)].length ≤ 140737488355328) := by
        show _ ≤ _
        simp; omega
      clear hp hsn hle hlp
      go_wp2_with fail
      refine wp_region_mix (Keep base (wr.alloc (.cells #[.int .i64 k', .int .i64 i', .string s', .slice la' ln' lc', .slice da' dn' dc'] 41))) [(true, 0), (true, 3), (false, 1), (false, 2), (false, 4), (true, 5)] (by kernel_rfl) (by kernel_rfl) (by kernel_rfl) (by kernel_rfl) ?hS ?_
      case hS => exact (Keep.refl _ _).drew
      repeat (first | (refine wpMix_q (v := ?_) rfl rfl ?_ ?_; rotate_left; (· intro wq hSq; have cq := Keep.ownc hSq (by decide); go_simp; try (with_reducible rfl)); simp only [Act.put, List.setIfInBounds_toArray, List.set_cons_zero, List.set_cons_succ, List.getElem_toArray, List.getElem_cons_zero, List.getElem_cons_succ]) | (refine wpMix_u rfl rfl ?_; simp only [Act.put, List.setIfInBounds_toArray, List.set_cons_zero, List.set_cons_succ, List.getElem_toArray, List.getElem_cons_zero, List.getElem_cons_succ]))
      refine wpMix_l rfl rfl (fun K hK => ?_)
      go_simp
      refine hK _ _ ((Keep.refl _ _).alloc _).drew ?_
      clear hK K
      refine wpMix_l rfl rfl (fun K hK => ?_)
      refine wp_append_buf _ _ _ rfl base _ cur rfl ((HB3.out.alloc _).alloc _).drew ⟨wr.heap.size + 1, 0, none⟩ 1 1 [1] rfl rfl (one_newg (wr.alloc (.cells #[.int .i64 k', .int .i64 i', .string s', .slice la' ln' lc', .slice da' dn' dc'] 41)) _ (by simp) _ _ rfl) HL2.out (by simp; omega) ?_
      intro v4 w4 hb4 hk4
      obtain ⟨mid, hmid⟩ : ∃ x, cur ++ [1] = x := ⟨_, rfl⟩
      rw [hmid] at hb4 HLp
      have HMid := Lib.hid hmid
      clear hmid
      have HB4 := Lib.hid hb4
      obtain ⟨ad4, c4', rfl⟩ := hb4.shape
      clear hb4
      have HK4 := Lib.hid (((Keep.refl base (wr.alloc (.cells #[.int .i64 k', .int .i64 i', .string s', .slice la' ln' lc', .slice da' dn' dc'] 41))).alloc (.cells #[.int .u8 1] 5)).drew.trans hk4)
      refine hK _ _ HK4.out ?_
      clear hK K hk4
      have s4 := HK4.out.of_alloc.size
      (try simp only [Act.put, List.setIfInBounds_toArray, List.set_cons_zero, List.set_cons_succ, List.getElem_toArray, List.getElem_cons_zero, List.getElem_cons_succ])
      refine wpMix_l rfl rfl (fun K hK => ?_)
      go_simp
      refine (HIH.out p hmem _ _ _ base W0 _ (HSL.out p hmem) HV.out (HK4.out.of_alloc.ext HEr.out hb0) hb0 (by omega) HB4.out HLp.out).mono ?_
      rintro e w5 ⟨v5, rfl, hb5, hk5⟩
      have hb6 : Buf w5 base v5 (x1 ++ kencL (lt.take (j + 1))) := by
        rw [HSn.out]; rw [← HMid.out, ← HC.out] at hb5; simp only [List.append_assoc] at hb5 ⊢; exact hb5
      obtain ⟨nx, hnx⟩ : ∃ x, x1 ++ kencL (lt.take (j + 1)) = x := ⟨_, rfl⟩
      rw [hnx] at hb6
      have HNx := Lib.hid hnx
      clear hnx
      have HB5 := Lib.hid hb6
      obtain ⟨ad5, c5', rfl⟩ := hb6.shape
      have HK5 := Lib.hid (HK4.out.trans hk5)
      refine hK _ _ HK5.out ?_
      clear hK K hk5 hb5 hb6
      repeat (first | (refine wpMix_q (v := ?_) rfl rfl ?_ ?_; rotate_left; (· intro wq hSq; have cq := Keep.ownc hSq (by decide); go_simp; try (with_reducible rfl)); simp only [Act.put, List.setIfInBounds_toArray, List.set_cons_zero, List.set_cons_succ, List.getElem_toArray, List.getElem_cons_zero, List.getElem_cons_succ]) | (refine wpMix_u rfl rfl ?_; simp only [Act.put, List.setIfInBounds_toArray, List.set_cons_zero, List.set_cons_succ, List.getElem_toArray, List.getElem_cons_zero, List.getElem_cons_succ]))
      refine wpMix_nil ?_
      have HK6 := Lib.hid (HK3.out.trans HK5.out.of_alloc)
      go_wp2_with fail
      exact ⟨⟨j + 1, by omega, by go_num, by rw [HNx.out]; exact HB5, HK6⟩, by simp [intOf]; omega⟩
    · have hj2 : j = lt.length := by omega
      subst hj2
      have hlf2 : cur ++ [0] = rr := by
        rw [← HC.out, List.take_length, ← HX1.out, ← HR.out]; simp only [List.append_assoc]
      have HLF := Lib.hid hlf2
      clear hlf2
      have HL3 : Hid (cur.length + [(0 : UInt8)].length ≤ 140737488355328) := by
        show _ ≤ _
        simp; omega
      go_wp2_with (at_builtin; refine wpList_append_buf _ rfl _ _ rfl base _ _ rfl (HB3.out.alloc _) ⟨wr.heap.size, 0, none⟩ 1 1 [0] rfl rfl (one_new _ _ _ rfl) HL3.out (by simp; omega) ?_)
      intro v4 w4 hb4 hk4
      have hb6 : Buf w4 base v4 rr := by
        rw [← HLF.out]; exact hb4
      have HB6 := Lib.hid hb6
      have HK4 := Lib.hid ((HK3.out.alloc _).trans hk4)
      clear hb4 hb6 hk4
      obtain ⟨ad4, c4, rfl⟩ := HB6.out.shape
      go_wp2_with fail
      go_ret
      exact ⟨_, rfl, HB6.out, HK4.out.of_alloc⟩
set_option maxRecDepth 20000 in
set_option maxHeartbeats 2000000 in
theorem kapp_k5 (i : Int) (s : ByteArray) (lt : List Tr) (ns : List ByteArray) (ds : List Tr) (la da : Option Addr) (lc dc : Nat) (b : Value) (l : List UInt8) (base : Nat) (W0 w : World) (hE : Ext W0 w) (hb0 : W0.heap.size ≤ base) (hbase : base ≤ w.heap.size) (hB : Buf w base b l) (hln : ns.length = ds.length) (hc1 : ds.length ≤ dc) (hc2 : dc ≤ maxLen) (hc3 : ds.length ≤ 90000000000) (hL : DRep W0 da 0 ns ds) (hnm : ∀ n ∈ ns, n.size ≤ 32) (hsl : ∀ t ∈ ds, snd t = true) (ih : ∀ t ∈ ds, KAppOk t) (hlen : l.length + ([5] ++ (kencF ns ds ++ [0])).length ≤ 90000000000) :
    Calls Tryd.prog 22 #[b, .agg #[.int .i64 5, .int .i64 i, .string s, .slice la lt.length lc, .slice da ds.length dc]] w (BufPost base w (l ++ ([5] ++ (kencF ns ds ++ [0])))) := by
  obtain ⟨rr, hrr⟩ : ∃ x, l ++ ([5] ++ (kencF ns ds ++ [0])) = x := ⟨_, rfl⟩
  rw [hrr]
  have HR := Lib.hid hrr
  clear hrr
  have HB := Lib.hid hB
  obtain ⟨ad, c, rfl⟩ := hB.shape
  clear hB
  have HL1 : Hid (l.length + [(5 : UInt8)].length ≤ 140737488355328) := by
    show _ ≤ _
    simp; omega
  have HL := Lib.hid hL
  have HIH := Lib.hid ih
  have HSL := Lib.hid hsl
  clear hL ih hsl
  have HNM := Lib.hid hnm
  clear hnm
  go_enter Tryd.func22, Tryd.ntmps22
  go_wp2_with (at_builtin; refine wpList_append_buf _ rfl _ _ rfl base _ _ rfl ((HB.out.alloc _).alloc _) ⟨w.heap.size + 1, 0, none⟩ 1 1 [5] rfl rfl (one_newg _ _ (by simp) _ _ rfl) HL1.out (by simp; omega) ?_)
  intro v1 w1 hb1 hk1
  obtain ⟨x1, hx1⟩ : ∃ x, l ++ [5] = x := ⟨_, rfl⟩
  rw [hx1] at hb1
  have HX1 := Lib.hid hx1
  have n1 : x1.length ≤ l.length + 1 := by rw [← hx1]; simp
  have HB1 := Lib.hid hb1
  have hk1a := hk1.of_alloc
  have HK1 := Lib.hid hk1a
  have k1 := hk1a.ownc (by decide)
  have l1 := hk1a.lt
  have s1 := hk1a.of_alloc.size
  obtain ⟨ad1, c1, rfl⟩ := HB1.out.shape
  clear hb1 hk1 hk1a hx1
  have hpl : x1.length + (kencF ns ds).length ≤ 90000000000 := by
    rw [← HX1.out]; have := hlen; simp only [List.length_append] at this ⊢; omega
  go_wp2_with fail
  go_loopw [0, 91] (fun b c wr => ∃ j : Nat, j ≤ ds.length ∧ c = .int .i64 j ∧ Hid (Buf wr base b (x1 ++ kencF (ns.take j) (ds.take j))) ∧ Hid (Keep base (w.alloc (.cells #[.int .i64 5, .int .i64 i, .string s, .slice la lt.length lc, .slice da ds.length dc] 41)) wr)) (fun _ c _ => ds.length - (intOf c).toNat)
  case atStart => exact ⟨0, by omega, rfl, by simpa [kencF] using HB1, HK1⟩
  case round =>
    obtain ⟨j, hj, rfl, HB3, HK3⟩ := hrel
    obtain ⟨cur, hcur⟩ : ∃ x, x1 ++ kencF (ns.take j) (ds.take j) = x := ⟨_, rfl⟩
    rw [hcur] at HB3
    have hcl : cur.length ≤ 90000000000 := by
      rw [← hcur]; have := kencF_take_le ns ds j; simp only [List.length_append] at this ⊢; omega
    have HC := Lib.hid hcur
    clear hcur
    obtain ⟨ad3, c3, rfl⟩ := HB3.out.shape
    have l3 := HK3.out.lt
    have s3 := HK3.out.of_alloc.size
    by_cases hlt : j < ds.length
    · obtain ⟨bb, off, c0, c1, c2, c3', c4, rfl, hnm, en, e0, e1, e2, e3, e4, hv⟩ := DRep.at_ ns ds 0 j (ns[j]'(by omega)) ds[j] HL.out (List.getElem?_eq_getElem (by omega)) (List.getElem?_eq_getElem hlt)
      obtain ⟨k', i', s', la', ln', lc', da', dn', dc', rfl, rfl, rfl, rfl, rfl⟩ := hv.shape5
      have hEr := HK3.out.of_alloc.ext hE hb0
      have qn := hEr.keep en
      have q0 := hEr.keep e0
      have q1 := hEr.keep e1
      have q2 := hEr.keep e2
      have q3 := hEr.keep e3
      have q4 := hEr.keep e4
      rw [Nat.zero_add] at qn q0 q1 q2 q3 q4
      have HV := Lib.hid hv
      have HEr := Lib.hid hEr
      clear en e0 e1 e2 e3 e4 hv hEr
      have hsn := kencF_snoc (ns.take j) (ds.take j) (ns[j]'(by omega)) ds[j] (by simp; omega)
      rw [← List.take_succ_eq_append_getElem hlt, ← List.take_succ_eq_append_getElem (by omega)] at hsn
      have hle := kencF_take_le ns ds (j + 1)
      obtain ⟨p, hp⟩ : ∃ p, ds[j] = p := ⟨_, rfl⟩
      obtain ⟨nm, hn⟩ : ∃ n, ns[j]'(by omega) = n := ⟨_, rfl⟩
      have hmem : p ∈ ds := by rw [← hp]; exact List.getElem_mem hlt
      have hmn : nm ∈ ns := by rw [← hn]; exact List.getElem_mem (by omega)
      have h32 : nm.size ≤ 32 := HNM.out nm hmn
      rw [hp] at HV hsn
      rw [hn] at qn hsn hnm
      have hlp : (cur ++ [1] ++ nm.data.toList ++ [0]).length + (kenc p).length ≤ 90000000000 := by
        rw [← HC.out]; rw [hsn] at hle; simp only [List.length_append] at hle ⊢; omega
      have HLp := Lib.hid hlp
      have HSn := Lib.hid hsn
      have HL2 : Hid (cur.length + [(1 : UInt8)].length ≤ 140737488355328) := by
        show _ ≤ _
        simp; omega
      clear hp hn hsn hle hlp
      go_wp2_with (at_builtin; refine wpList_append_buf _ rfl _ _ rfl base _ _ rfl ((HB3.out.alloc _).alloc _) ⟨wr.heap.size + 1, 0, none⟩ 1 1 [1] rfl rfl (one_newg _ _ (by simp) _ _ rfl) HL2.out (by simp; omega) ?_)
      intro v4 w4 hb4 hk4
      obtain ⟨m1, hm1⟩ : ∃ x, cur ++ [1] = x := ⟨_, rfl⟩
      rw [hm1] at hb4 HLp
      have hm1l : m1.length ≤ cur.length + 1 := by rw [← hm1]; simp
      have HM1 := Lib.hid hm1
      clear hm1
      have HB4 := Lib.hid hb4
      obtain ⟨ad4, c4', rfl⟩ := hb4.shape
      have hk4a := hk4.of_alloc
      have HK4 := Lib.hid hk4a
      have k4 := hk4a.ownc (by decide)
      have l4 := hk4a.lt
      have s4 := hk4a.of_alloc.size
      have HL3 : Hid (m1.length + nm.size ≤ 140737488355328) := by
        show _ ≤ _
        omega
      clear hb4 hk4 hk4a
      go_wp2_with (at_builtin; refine wpList_append_bufS _ rfl _ _ rfl base _ _ rfl HB4.out nm rfl HL3.out (by omega) ?_)
      intro v5 w5 hb5 hk5
      obtain ⟨m2, hm2⟩ : ∃ x, m1 ++ nm.data.toList = x := ⟨_, rfl⟩
      rw [hm2] at hb5 HLp
      have hm2l : m2.length ≤ m1.length + 32 := by rw [← hm2]; simp; omega
      have HM2 := Lib.hid hm2
      clear hm2
      have HB5 := Lib.hid hb5
      obtain ⟨ad5, c5', rfl⟩ := hb5.shape
      have HK5 := Lib.hid (HK4.out.trans hk5)
      have l5 := HK5.out.lt
      have s5 := HK5.out.of_alloc.size
      have HL4 : Hid (m2.length + [(0 : UInt8)].length ≤ 140737488355328) := by
        show _ ≤ _
        simp; omega
      clear hb5 hk5 k4
      go_wp2_with fail
      refine wp_region_mix (Keep base (wr.alloc (.cells #[.string nm, .int .i64 k', .int .i64 i', .string s', .slice la' ln' lc', .slice da' dn' dc'] 58))) [(true, 0), (true, 3), (true, 4), (false, 1), (false, 2), (false, 5), (true, 6)] (by kernel_rfl) (by kernel_rfl) (by kernel_rfl) (by kernel_rfl) ?hS ?_
      case hS => exact HK5.out.drew
      repeat (first | (refine wpMix_q (v := ?_) rfl rfl ?_ ?_; rotate_left; (· intro wq hSq; have cq := Keep.ownc hSq (by decide); go_simp; try (with_reducible rfl)); simp only [Act.put, List.setIfInBounds_toArray, List.set_cons_zero, List.set_cons_succ, List.getElem_toArray, List.getElem_cons_zero, List.getElem_cons_succ]) | (refine wpMix_u rfl rfl ?_; simp only [Act.put, List.setIfInBounds_toArray, List.set_cons_zero, List.set_cons_succ, List.getElem_toArray, List.getElem_cons_zero, List.getElem_cons_succ]))
      refine wpMix_l rfl rfl (fun K hK => ?_)
      go_simp
      refine hK _ _ (HK5.out.alloc _).drew ?_
      clear hK K
      refine wpMix_l rfl rfl (fun K hK => ?_)
      refine wp_append_buf _ _ _ rfl base _ m2 rfl (HB5.out.alloc _).drew ⟨w5.heap.size, 0, none⟩ 1 1 [0] rfl rfl (one_new w5 _ _ rfl) HL4.out (by simp; omega) ?_
      intro v6 w6 hb6 hk6
      obtain ⟨m3, hm3⟩ : ∃ x, m2 ++ [0] = x := ⟨_, rfl⟩
      rw [hm3] at hb6 HLp
      have HM3 := Lib.hid hm3
      clear hm3
      have HB6 := Lib.hid hb6
      obtain ⟨ad6, c6', rfl⟩ := hb6.shape
      clear hb6
      have HK6 := Lib.hid ((HK5.out.alloc (.cells #[.int .u8 0] 5)).drew.trans hk6)
      refine hK _ _ HK6.out ?_
      clear hK K hk6
      have s6 := HK6.out.of_alloc.size
      (try simp only [Act.put, List.setIfInBounds_toArray, List.set_cons_zero, List.set_cons_succ, List.getElem_toArray, List.getElem_cons_zero, List.getElem_cons_succ])
      refine wpMix_l rfl rfl (fun K hK => ?_)
      go_simp
      refine (HIH.out p hmem _ _ _ base W0 _ (HSL.out p hmem) HV.out (HK6.out.of_alloc.ext HEr.out hb0) hb0 (by omega) HB6.out HLp.out).mono ?_
      rintro e w7 ⟨v7, rfl, hb7, hk7⟩
      have hb8 : Buf w7 base v7 (x1 ++ kencF (ns.take (j + 1)) (ds.take (j + 1))) := by
        rw [HSn.out]; rw [← HM3.out, ← HM2.out, ← HM1.out, ← HC.out] at hb7; simp only [List.append_assoc] at hb7 ⊢; exact hb7
      obtain ⟨nx, hnx⟩ : ∃ x, x1 ++ kencF (ns.take (j + 1)) (ds.take (j + 1)) = x := ⟨_, rfl⟩
      rw [hnx] at hb8
      have HNx := Lib.hid hnx
      clear hnx
      have HB8 := Lib.hid hb8
      obtain ⟨ad8, c8', rfl⟩ := hb8.shape
      have HK8 := Lib.hid (HK6.out.trans hk7)
      refine hK _ _ HK8.out ?_
      clear hK K hk7 hb7 hb8
      repeat (first | (refine wpMix_q (v := ?_) rfl rfl ?_ ?_; rotate_left; (· intro wq hSq; have cq := Keep.ownc hSq (by decide); go_simp; try (with_reducible rfl)); simp only [Act.put, List.setIfInBounds_toArray, List.set_cons_zero, List.set_cons_succ, List.getElem_toArray, List.getElem_cons_zero, List.getElem_cons_succ]) | (refine wpMix_u rfl rfl ?_; simp only [Act.put, List.setIfInBounds_toArray, List.set_cons_zero, List.set_cons_succ, List.getElem_toArray, List.getElem_cons_zero, List.getElem_cons_succ]))
      refine wpMix_nil ?_
      have HK9 := Lib.hid (HK3.out.trans HK8.out.of_alloc)
      go_wp2_with fail
      exact ⟨⟨j + 1, by omega, by go_num, by rw [HNx.out]; exact HB8, HK9⟩, by simp [intOf]; omega⟩
    · have hj2 : j = ds.length := by omega
      subst hj2
      have hlf2 : cur ++ [0] = rr := by
        rw [← HC.out, List.take_length, List.take_of_length_le (by omega), ← HX1.out, ← HR.out]; simp only [List.append_assoc]
      have HLF := Lib.hid hlf2
      clear hlf2
      have HL3 : Hid (cur.length + [(0 : UInt8)].length ≤ 140737488355328) := by
        show _ ≤ _
        simp; omega
      go_wp2_with (at_builtin; refine wpList_append_buf _ rfl _ _ rfl base _ _ rfl (HB3.out.alloc _) ⟨wr.heap.size, 0, none⟩ 1 1 [0] rfl rfl (one_new _ _ _ rfl) HL3.out (by simp; omega) ?_)
      intro v4 w4 hb4 hk4
      have hb6 : Buf w4 base v4 rr := by
        rw [← HLF.out]; exact hb4
      have HB6 := Lib.hid hb6
      have HK4 := Lib.hid ((HK3.out.alloc _).trans hk4)
      clear hb4 hb6 hk4
      obtain ⟨ad4, c4, rfl⟩ := HB6.out.shape
      go_wp2_with fail
      go_ret
      exact ⟨_, rfl, HB6.out, HK4.out.of_alloc⟩
theorem kapp_step (t : Tr) (ih : ∀ p, p.sz < t.sz → KAppOk p) : KAppOk t := by
  intro v b l base W0 w hsd hV hE hb0 hbase hB hlen
  obtain ⟨k, i, s, lt, ns, ds⟩ := t
  unfold VRep at hV
  obtain ⟨la, lc, da, dc, rfl, ⟨hs, hk, hi⟩, hl1, hl2, hd1, hd2, hnd, hL, hD⟩ := hV
  obtain ⟨h1, h2, h3, h4⟩ := snd_list hsd
  have ih2 : ∀ t, t ∈ lt ∨ t ∈ ds → KAppOk t := fun t ht => ih t (by rcases ht with h | h; exact Tr.sz_list h; exact Tr.sz_docs h)
  clear ih
  have hep := kenc_pos (.mk k i s lt ns ds)
  by_cases k1 : k = 1
  · subst k1; exact kapp_k1 i s lt ns ds la da lc dc b l base W0 w hE hb0 hbase hB (by omega)
  by_cases k2 : k = 2
  · subst k2; exact kapp_k2 i s lt ns ds la da lc dc b l base W0 w hE hb0 hbase hB (by omega)
  by_cases k11 : k = 11
  · subst k11; exact kapp_k11 i s lt ns ds la da lc dc b l base W0 w hE hb0 hbase hB (by omega)
  by_cases k3 : k = 3
  · subst k3; exact kapp_k3 i s lt ns ds la da lc dc b l base W0 w hE hb0 hbase hB hi (by omega)
  by_cases k9 : k = 9
  · subst k9; exact kapp_k9 i s lt ns ds la da lc dc b l base W0 w hE hb0 hbase hB hi (by omega)
  by_cases k10 : k = 10
  · subst k10; exact kapp_k10 i s lt ns ds la da lc dc b l base W0 w hE hb0 hbase hB hi (by omega)
  by_cases k4 : k = 4
  · subst k4; exact kapp_k4 i s lt ns ds la da lc dc b l base W0 w hE hb0 hbase hB (by simp [leafOk] at h2; exact h2.1) (by omega)
  by_cases k7 : k = 7
  · subst k7; exact kapp_k7 i s lt ns ds la da lc dc b l base W0 w hE hb0 hbase hB (by simpa [leafOk] using h2) (by omega)
  by_cases k8 : k = 8
  · subst k8; exact kapp_k8 i s lt ns ds la da lc dc b l base W0 w hE hb0 hbase hB (by simp [leafOk] at h2; omega) (by omega)
  by_cases k5 : k = 5
  · subst k5
    have e : kenc (.mk 5 i s lt ns ds) = [5] ++ (kencF ns ds ++ [0]) := by simp [kenc]
    rw [e] at hlen ⊢
    have := kencF_len ns ds hnd
    exact kapp_k5 i s lt ns ds la da lc dc b l base W0 w hE hb0 hbase hB hnd hd1.1 hd2 (by simp only [List.length_append] at hlen; omega) hD (fun n hn => nameB_le (sndF_names h4 hnd n hn)) (fun t ht => sndF_mem h4 t ht) (fun t ht => ih2 t (.inr ht)) hlen
  by_cases k6 : k = 6
  · subst k6
    have e : kenc (.mk 6 i s lt ns ds) = [6] ++ (kencL lt ++ [0]) := by simp [kenc]
    rw [e] at hlen ⊢
    have := kencL_len lt
    exact kapp_k6 i s lt ns ds la da lc dc b l base W0 w hE hb0 hbase hB hl1.1 hl2 (by simp only [List.length_append] at hlen; omega) hL (fun t ht => sndL_mem h3 t ht) (fun t ht => ih2 t (.inl ht)) hlen
  exfalso
  simp [leafOk, k1, k2, k3, k4, k5, k6, k7, k8, k9, k10, k11] at h2
theorem kapp_ok (t : Tr) : KAppOk t := by
  have : ∀ n (t : Tr), t.sz = n → KAppOk t := by
    intro n
    induction n using Nat.strongRecOn with
    | _ n ih => intro t ht; exact kapp_step t (fun p hp => ih p.sz (by rw [← ht]; exact hp) p rfl)
  exact this _ t rfl
end Go.Proofs.YtipphlhaaienpaaDoor
set_option linter.unusedSimpArgs false
set_option linter.unusedVariables false
namespace Go.Proofs.YtipphlhaaienpaaDoor
open Go.RowKit
theorem kbyte_at' (s : ByteArray) (p : Nat) (h : p < s.size) : s[p] = s.data.toList.getD p 0 := by
  rw [List.getD_eq_getElem?_getD, List.getElem?_eq_getElem (by simpa using h)]
  rfl
theorem zeroB_eq (k i : Int) (s : ByteArray) (l : List Tr) (ns : List ByteArray) (ds : List Tr) : zeroB (.mk k i s l ns ds) = (decide (i = 0) && decide (s.size = 0) && decide (l.length = 0) && decide (ds.length = 0)) := rfl
set_option maxRecDepth 20000 in
set_option maxHeartbeats 2000000 in
theorem allowed_ok (t : Tr) (v : Value) (w : World) (hV : VRep w t v) (hT : Tabs w) : Calls Tryd.prog 21 #[v] w fun e w' => e = .returned (.bool (allowB t)) ∧ Ext w w' := by
  obtain ⟨k, i, s, l, ns, ds⟩ := t
  have HV := Lib.hid hV
  have HT := Lib.hid hT
  unfold VRep at hV
  obtain ⟨la, lc, da, dc, rfl, ⟨hs, hk, hi⟩, ⟨hl1, _⟩, hl2, ⟨hd1, _⟩, hd2, hnd, _, _⟩ := hV
  clear hT
  obtain ⟨r, hr⟩ : ∃ r, allowB (.mk k i s l ns ds) = r := ⟨_, rfl⟩
  rw [hr]
  by_cases hk0 : k = 0
  · subst hk0
    unfold allowB at hr
    rw [if_pos (by rfl), zeroB_eq] at hr
    by_cases hi0 : i = 0
    case neg =>
      have hf : r = false := by rw [← hr]; simp [hi0]
      subst hf
      have d0 : (i == 0) = false := beq_eq_false_iff_ne.2 hi0
      clear hr hi0
      go_enter Tryd.func21, Tryd.ntmps21
      go_wp2_with fail
      go_ret
      exact ⟨rfl, by repeat (first | with_reducible assumption | with_reducible exact Ext.refl _ | with_reducible refine Ext.drew ?_ | with_reducible refine Ext.alloc ?_ _ | ((with_reducible refine Ext.setCell ?_ ?_ _); rotate_left; (· first | exact Nat.le_refl _ | (simp; done) | omega | (simp; omega))))⟩
    subst hi0
    by_cases hz0 : s.size = 0
    case neg =>
      have hf : r = false := by rw [← hr]; simp [hz0]
      subst hf
      have d0 := bytes_some hz0
      clear hr hz0
      go_enter Tryd.func21, Tryd.ntmps21
      go_wp2_with fail
      go_ret
      exact ⟨rfl, by repeat (first | with_reducible assumption | with_reducible exact Ext.refl _ | with_reducible refine Ext.drew ?_ | with_reducible refine Ext.alloc ?_ _ | ((with_reducible refine Ext.setCell ?_ ?_ _); rotate_left; (· first | exact Nat.le_refl _ | (simp; done) | omega | (simp; omega))))⟩
    obtain rfl := bytes_nil hz0
    by_cases hl0 : l.length = 0
    case neg =>
      have hf : r = false := by rw [← hr]; simp [hl0]
      subst hf
      have d0 : ((l.length : Int) == 0) = false := beq_eq_false_iff_ne.2 (by omega)
      clear hr hl0
      go_enter Tryd.func21, Tryd.ntmps21
      go_wp2_with fail
      go_ret
      exact ⟨rfl, by repeat (first | with_reducible assumption | with_reducible exact Ext.refl _ | with_reducible refine Ext.drew ?_ | with_reducible refine Ext.alloc ?_ _ | ((with_reducible refine Ext.setCell ?_ ?_ _); rotate_left; (· first | exact Nat.le_refl _ | (simp; done) | omega | (simp; omega))))⟩
    by_cases hd0 : ds.length = 0
    case neg =>
      have hf : r = false := by rw [← hr]; simp [hd0]
      subst hf
      have d0 : ((ds.length : Int) == 0) = false := beq_eq_false_iff_ne.2 (by omega)
      clear hr hd0
      go_enter Tryd.func21, Tryd.ntmps21
      go_wp2_with fail
      go_ret
      exact ⟨rfl, by repeat (first | with_reducible assumption | with_reducible exact Ext.refl _ | with_reducible refine Ext.drew ?_ | with_reducible refine Ext.alloc ?_ _ | ((with_reducible refine Ext.setCell ?_ ?_ _); rotate_left; (· first | exact Nat.le_refl _ | (simp; done) | omega | (simp; omega))))⟩
    have hf : r = true := by rw [← hr]; simp [hl0, hd0, bytes_e]
    subst hf
    obtain rfl : l = [] := List.eq_nil_of_length_eq_zero hl0
    obtain rfl : ds = [] := List.eq_nil_of_length_eq_zero hd0
    clear hr hl0 hd0
    go_enter Tryd.func21, Tryd.ntmps21
    go_wp2_with fail
    go_ret
    exact ⟨rfl, by repeat (first | with_reducible assumption | with_reducible exact Ext.refl _ | with_reducible refine Ext.drew ?_ | with_reducible refine Ext.alloc ?_ _ | ((with_reducible refine Ext.setCell ?_ ?_ _); rotate_left; (· first | exact Nat.le_refl _ | (simp; done) | omega | (simp; omega))))⟩
  · unfold allowB at hr
    rw [if_neg (by exact hk0)] at hr
    have HR := Lib.hid hr
    have d : (k == 0) = false := beq_eq_false_iff_ne.2 hk0
    clear hr hk0
    go_enter Tryd.func21, Tryd.ntmps21
    go_wp2_with fail
    refine (Valid_ok _ _ _ (VRep.ext ((Ext.refl w).alloc _) _ _ HV.out) (HT.out.ext ((Ext.refl w).alloc _))).mono ?_
    rintro e w1 ⟨rfl, h1⟩
    rw [HR.out]
    go_wp2_with fail
    go_ret
    exact ⟨rfl, h1.of_alloc⟩
set_option maxRecDepth 20000 in
set_option maxHeartbeats 2000000 in
theorem missing_ok (t : Tr) (v : Value) (w : World) (hV : VRep w t v) : Calls Tryd.prog 23 #[v] w fun e w' => e = .returned (.bool (decide (t.kind = 0) && zeroB t)) ∧ Ext w w' := by
  obtain ⟨k, i, s, l, ns, ds⟩ := t
  unfold VRep at hV
  obtain ⟨la, lc, da, dc, rfl, ⟨hs, hk, hi⟩, ⟨hl1, _⟩, hl2, ⟨hd1, _⟩, hd2, hnd, _, _⟩ := hV
  rw [zeroB_eq]
  show Calls _ _ _ _ fun e w' => e = .returned (.bool (decide (k = 0) && _)) ∧ Ext w w'
  obtain ⟨r, hr⟩ : ∃ r, (decide (k = 0) && (decide (i = 0) && decide (s.size = 0) && decide (l.length = 0) && decide (ds.length = 0))) = r := ⟨_, rfl⟩
  rw [hr]
  by_cases hk0 : k = 0
  case neg =>
    have hf : r = false := by rw [← hr]; simp [hk0]
    subst hf
    have d : (k == 0) = false := beq_eq_false_iff_ne.2 hk0
    clear hr hk0
    go_enter Tryd.func23, Tryd.ntmps23
    go_wp2_with fail
    go_ret
    exact ⟨rfl, by repeat (first | with_reducible assumption | with_reducible exact Ext.refl _ | with_reducible refine Ext.drew ?_ | with_reducible refine Ext.alloc ?_ _ | ((with_reducible refine Ext.setCell ?_ ?_ _); rotate_left; (· first | exact Nat.le_refl _ | (simp; done) | omega | (simp; omega))))⟩
  subst hk0
  by_cases hi0 : i = 0
  case neg =>
    have hf : r = false := by rw [← hr]; simp [hi0]
    subst hf
    have d0 : (i == 0) = false := beq_eq_false_iff_ne.2 hi0
    clear hr hi0
    go_enter Tryd.func23, Tryd.ntmps23
    go_wp2_with fail
    go_ret
    exact ⟨rfl, by repeat (first | with_reducible assumption | with_reducible exact Ext.refl _ | with_reducible refine Ext.drew ?_ | with_reducible refine Ext.alloc ?_ _ | ((with_reducible refine Ext.setCell ?_ ?_ _); rotate_left; (· first | exact Nat.le_refl _ | (simp; done) | omega | (simp; omega))))⟩
  subst hi0
  by_cases hz0 : s.size = 0
  case neg =>
    have hf : r = false := by rw [← hr]; simp [hz0]
    subst hf
    have d0 := bytes_some hz0
    clear hr hz0
    go_enter Tryd.func23, Tryd.ntmps23
    go_wp2_with fail
    go_ret
    exact ⟨rfl, by repeat (first | with_reducible assumption | with_reducible exact Ext.refl _ | with_reducible refine Ext.drew ?_ | with_reducible refine Ext.alloc ?_ _ | ((with_reducible refine Ext.setCell ?_ ?_ _); rotate_left; (· first | exact Nat.le_refl _ | (simp; done) | omega | (simp; omega))))⟩
  obtain rfl := bytes_nil hz0
  by_cases hl0 : l.length = 0
  case neg =>
    have hf : r = false := by rw [← hr]; simp [hl0]
    subst hf
    have d0 : ((l.length : Int) == 0) = false := beq_eq_false_iff_ne.2 (by omega)
    clear hr hl0
    go_enter Tryd.func23, Tryd.ntmps23
    go_wp2_with fail
    go_ret
    exact ⟨rfl, by repeat (first | with_reducible assumption | with_reducible exact Ext.refl _ | with_reducible refine Ext.drew ?_ | with_reducible refine Ext.alloc ?_ _ | ((with_reducible refine Ext.setCell ?_ ?_ _); rotate_left; (· first | exact Nat.le_refl _ | (simp; done) | omega | (simp; omega))))⟩
  by_cases hd0 : ds.length = 0
  case neg =>
    have hf : r = false := by rw [← hr]; simp [hd0]
    subst hf
    have d0 : ((ds.length : Int) == 0) = false := beq_eq_false_iff_ne.2 (by omega)
    clear hr hd0
    go_enter Tryd.func23, Tryd.ntmps23
    go_wp2_with fail
    go_ret
    exact ⟨rfl, by repeat (first | with_reducible assumption | with_reducible exact Ext.refl _ | with_reducible refine Ext.drew ?_ | with_reducible refine Ext.alloc ?_ _ | ((with_reducible refine Ext.setCell ?_ ?_ _); rotate_left; (· first | exact Nat.le_refl _ | (simp; done) | omega | (simp; omega))))⟩
  have hf : r = true := by rw [← hr]; simp [hl0, hd0, bytes_e]
  subst hf
  obtain rfl : l = [] := List.eq_nil_of_length_eq_zero hl0
  obtain rfl : ds = [] := List.eq_nil_of_length_eq_zero hd0
  clear hr hl0 hd0
  go_enter Tryd.func23, Tryd.ntmps23
  go_wp2_with fail
  go_ret
  exact ⟨rfl, by repeat (first | with_reducible assumption | with_reducible exact Ext.refl _ | with_reducible refine Ext.drew ?_ | with_reducible refine Ext.alloc ?_ _ | ((with_reducible refine Ext.setCell ?_ ?_ _); rotate_left; (· first | exact Nat.le_refl _ | (simp; done) | omega | (simp; omega))))⟩
/-- After, plain: the length of what is kept, with the last byte raised -/
def aftN (s : ByteArray) : Nat → Nat
  | 0 => 0
  | n + 1 => if s.data.toList.getD n 0 = 255 then aftN s n else n + 1
def aftR (s : ByteArray) : ByteArray × Bool := if aftN s s.size = 0 then (⟨#[]⟩, false) else (⟨(s.data.toList.take (aftN s s.size - 1) ++ [s.data.toList.getD (aftN s s.size - 1) 0 + 1]).toArray⟩, true)
theorem aftN_le (s : ByteArray) (n : Nat) : aftN s n ≤ n := by
  induction n with
  | zero => exact Nat.le_refl _
  | succ n ih => unfold aftN; split <;> omega
theorem aftN_ne (s : ByteArray) (n : Nat) (h : aftN s n ≠ 0) : s.data.toList.getD (aftN s n - 1) 0 ≠ 255 := by
  induction n with
  | zero => exact absurd rfl h
  | succ n ih =>
    unfold aftN at h ⊢
    split
    · rw [if_pos (by assumption)] at h; exact ih h
    · rename_i hx; exact hx
theorem ret_sb {a b : ByteArray} {c d : Bool} (h : (a, c) = (b, d)) : Ending.returned (.tuple #[.string a, .bool c]) = .returned (.tuple #[.string b, .bool d]) := by injection h with h1 h2; rw [h1, h2]
set_option maxRecDepth 20000 in
set_option maxHeartbeats 2000000 in
theorem After_ok (s : ByteArray) (w : World) (hs : s.size ≤ 140737488355327) : Calls Tryd.prog 17 #[.string s] w fun e w' => e = .returned (.tuple #[.string (aftR s).1, .bool (aftR s).2]) ∧ Ext w w' := by
  obtain ⟨r, hr⟩ : ∃ r, aftR s = r := ⟨_, rfl⟩
  rw [hr]
  have HR := Lib.hid hr
  clear hr
  go_enter Tryd.func17, Tryd.ntmps17
  go_wp2_with fail
  go_loopw [4] (fun x wr => ∃ n : Nat, n ≤ s.size ∧ x = .int .i64 n ∧ Hid (aftN s n = aftN s s.size) ∧ wr = w) (fun x _ => (intOf x).toNat)
  case atStart => exact ⟨s.size, Nat.le_refl _, rfl, Lib.hid rfl, rfl⟩
  case round =>
    obtain ⟨n, hn, rfl, HN, rfl⟩ := hrel
    cases n with
    | zero =>
      have e := HR.out
      unfold aftR at e
      have h0 : aftN s s.size = 0 := by rw [← HN.out]; rfl
      rw [if_pos h0] at e
      have HE := Lib.hid e
      clear e h0
      go_wp2_with fail
      go_ret2
      exact ⟨by rw [← HE.out]; rfl, Ext.refl _⟩
    | succ m =>
      have hb := kbyte_at' s m (by omega)
      obtain ⟨b, hb2⟩ : ∃ b, s.data.toList.getD m 0 = b := ⟨_, rfl⟩
      rw [hb2] at hb
      have hbl := b.toNat_lt
      by_cases h255 : b = 255
      · have HN2 : Hid (aftN s m = aftN s s.size) := by
          show _ = _
          rw [← HN.out, aftN, hb2, if_pos h255]
        have d : ((b.toNat : Int) == 255) = true := by rw [h255]; rfl
        have dz : b.toNat = 255 := by rw [h255]; rfl
        have HB2 := Lib.hid hb2
        clear hb2 h255
        go_wp2_with fail
        exact ⟨⟨m, by omega, by go_num, HN2, trivial⟩, by simp [intOf]⟩
      · have hN : aftN s s.size = m + 1 := by rw [← HN.out, aftN, hb2, if_neg h255]
        have d : ((b.toNat : Int) == 255) = false := by
          rw [beq_eq_false_iff_ne]; intro e; exact h255 (UInt8.toNat_inj.1 (by show b.toNat = 255; omega))
        have e := HR.out
        unfold aftR at e
        rw [hN, if_neg (by omega), show m + 1 - 1 = m from rfl, hb2] at e
        have HE := Lib.hid e
        have hne : b.toNat ≠ 255 := fun e => h255 (UInt8.toNat_inj.1 e)
        have hb1 : ((b + 1).toNat : Int) = (b.toNat : Int) + 1 := by rw [UInt8.toNat_add]; have : (1 : UInt8).toNat = 1 := rfl; omega
        have HB1 := Lib.hid hb1
        clear e hN hb2 h255 hb1
        go_wp2_with fail
        have hw1 := wrap_i64_val (m : Int) (by omega) (by omega)
        have hml : m < s.size := by omega
        refine wp_region_mix (fun _ => True) [(true, 0), (true, 1), (true, 2), (true, 3), (true, 4), (true, 5), (true, 6), (true, 7), (true, 8), (false, 9), (false, 10), (true, 11), (true, 12), (true, 13)] (by kernel_rfl) (by kernel_rfl) (by kernel_rfl) (by kernel_rfl) ?hS ?_
        case hS => trivial
        repeat (first | (refine wpMix_q (v := ?_) rfl rfl ?_ ?_; rotate_left; (· intro wq hSq; go_simp; try (with_reducible rfl)); simp only [Act.put, List.setIfInBounds_toArray, List.set_cons_zero, List.set_cons_succ, List.getElem_toArray, List.getElem_cons_zero, List.getElem_cons_succ]) | (refine wpMix_u rfl rfl ?_; simp only [Act.put, List.setIfInBounds_toArray, List.set_cons_zero, List.set_cons_succ, List.getElem_toArray, List.getElem_cons_zero, List.getElem_cons_succ]))
        obtain ⟨x, hx⟩ : ∃ x, s.extract 0 m = x := ⟨_, rfl⟩
        have hxl : x.size ≤ m := by rw [← hx]; simp; omega
        have HXx := Lib.hid hx
        clear hx
        refine wpMix_q (v := .string x) rfl rfl ?_ ?_
        · intro wq hSq
          rw [← HXx.out]
          go_simp
          exact fun h => absurd h (by omega)
        (try simp only [Act.put, List.setIfInBounds_toArray, List.set_cons_zero, List.set_cons_succ, List.getElem_toArray, List.getElem_cons_zero, List.getElem_cons_succ])
        have hw8 : IntKind.u8.wrap ((b.toNat : Int) + 1) = (b.toNat : Int) + 1 := by simp [IntKind.wrap, IntKind.bits, IntKind.signed]; omega
        repeat (first | (refine wpMix_q (v := ?_) rfl rfl ?_ ?_; rotate_left; (· intro wq hSq; go_simp; try (with_reducible rfl)); simp only [Act.put, List.setIfInBounds_toArray, List.set_cons_zero, List.set_cons_succ, List.getElem_toArray, List.getElem_cons_zero, List.getElem_cons_succ]) | (refine wpMix_u rfl rfl ?_; simp only [Act.put, List.setIfInBounds_toArray, List.set_cons_zero, List.set_cons_succ, List.getElem_toArray, List.getElem_cons_zero, List.getElem_cons_succ]))
        refine wpMix_l rfl rfl (fun K hK => ?_)
        go_simp
        refine hK _ _ trivial ?_
        clear hK K
        have hcv := conv_blk (wr.alloc (.cells #[.int .u8 ((b.toNat : Int) + 1)] 5)).drew wr.heap.size (b + 1) ((b.toNat : Int) + 1) HB1.out.symm (by show (wr.heap.push _)[wr.heap.size]? = _; simp)
        obtain ⟨y, hy⟩ : ∃ y, (⟨#[b + 1]⟩ : ByteArray) = y := ⟨_, rfl⟩
        have hyl : y.size ≤ 1 := by rw [← hy]; exact Nat.le_refl _
        rw [hy] at hcv
        have HY := Lib.hid hy
        clear hy
        refine wpMix_l rfl rfl (fun K hK => ?_)
        go_simp
        refine hK _ _ trivial ?_
        clear hK K hcv
        have hz1 : ¬ 9223372036854775807 < x.size + y.size := by omega
        repeat (first | (refine wpMix_q (v := ?_) rfl rfl ?_ ?_; rotate_left; (· intro wq hSq; go_simp; try (with_reducible rfl)); simp only [Act.put, List.setIfInBounds_toArray, List.set_cons_zero, List.set_cons_succ, List.getElem_toArray, List.getElem_cons_zero, List.getElem_cons_succ]) | (refine wpMix_u rfl rfl ?_; simp only [Act.put, List.setIfInBounds_toArray, List.set_cons_zero, List.set_cons_succ, List.getElem_toArray, List.getElem_cons_zero, List.getElem_cons_succ]))
        refine wpMix_nil ?_
        clear hz1
        go_wp2_with fail
        go_ret2
        refine ⟨?_, ((Ext.refl _).alloc _).drew⟩
        rw [← HE.out]
        refine ret_sb ?_
        congr 1
        apply bytes_ext
        rw [cat_list, ← HXx.out, ← HY.out]
        show _ = s.data.toList.take m ++ [b + 1]
        congr 1
        simp
/-- what Encode makes of one value -/
def kone (d : Bool) (t : Tr) : List UInt8 := if d then (kenc t).map (fun c => 255 - c) else kenc t
def kencs : List Tr → List Bool → List UInt8
  | t :: r, d :: e => kone d t ++ kencs r e
  | _, _ => []
def kencE (ts : List Tr) (ds : List Bool) : ByteArray × Int := if ts.length ≠ ds.length then (⟨#[]⟩, 1) else if ts.all allowB then (⟨(kencs ts ds).toArray⟩, 0) else (⟨#[]⟩, 8)
end Go.Proofs.YtipphlhaaienpaaDoor
set_option linter.unusedSimpArgs false
set_option linter.unusedVariables false
namespace Go.Proofs.YtipphlhaaienpaaDoor
open Go.RowKit
/-- how long keys are -/
theorem kencL_le (l : List Tr) (h : ∀ t ∈ l, (kenc t).length + 40 ≤ 8400 * t.cnt) : (kencL l).length ≤ 8400 * Tr.cntL l := by
  induction l with
  | nil => simp [kencL]
  | cons x r ih =>
    simp only [kencL, Tr.cntL, List.length_append, List.length_singleton]
    have := h x (by simp)
    have := ih (fun t ht => h t (by simp [ht]))
    omega
theorem kencF_le : ∀ (ds : List Tr) (ns seen : List ByteArray), sndF seen ns ds = true → (∀ t ∈ ds, (kenc t).length + 40 ≤ 8400 * t.cnt) → (kencF ns ds).length ≤ 8400 * Tr.cntL ds
  | [], ns, _, _, _ => by cases ns <;> simp [kencF]
  | x :: r, [], _, _, _ => by simp [kencF]
  | x :: r, n :: nr, seen, hs, h => by
    simp only [sndF, Bool.and_eq_true] at hs
    simp only [kencF, Tr.cntL, List.length_append, List.length_singleton]
    have h1 := h x (by simp)
    have h2 := kencF_le r nr _ hs.2 (fun t ht => h t (by simp [ht]))
    have h3 := nameB_le hs.1.1.1
    have h5 : n.data.toList.length = n.size := by simp
    omega
theorem kenc_le : ∀ (m : Nat) (t : Tr), t.sz = m → snd t = true → (kenc t).length + 40 ≤ 8400 * t.cnt := by
  intro m
  induction m using Nat.strongRecOn with
  | _ m ih =>
    intro t hm hsd
    obtain ⟨k, i, s, lt, ns, ds⟩ := t
    have hsz : ∀ t, t ∈ lt ∨ t ∈ ds → t.sz < m := fun t ht => by
      rw [← hm]; rcases ht with h | h; exact Tr.sz_list h; exact Tr.sz_docs h
    obtain ⟨h1, h2, h3, h4⟩ := snd_list hsd
    have hLv : ∀ t ∈ lt, (kenc t).length + 40 ≤ 8400 * t.cnt := fun t ht => ih _ (hsz _ (.inl ht)) _ rfl (sndL_mem h3 _ ht)
    have hDv : ∀ t ∈ ds, (kenc t).length + 40 ≤ 8400 * t.cnt := fun t ht => ih _ (hsz _ (.inr ht)) _ rfl (sndF_mem h4 _ ht)
    have hsl : s.data.toList.length = s.size := by simp
    have hes := esc_le s.data.toList
    simp only [kenc, Tr.cnt, List.length_append, List.length_singleton]
    by_cases k3 : k = 3 ∨ k = 9 ∨ k = 10
    · rw [if_pos k3]; simp [num8]; omega
    rw [if_neg k3]
    by_cases k4 : k = 4 ∨ k = 7 ∨ k = 8
    · rw [if_pos k4]
      have : s.size ≤ 4096 := by
        rcases k4 with rfl | rfl | rfl
        · simp [leafOk] at h2; exact h2.1
        · simpa [leafOk] using h2
        · simp [leafOk] at h2; omega
      simp only [List.length_append, List.length_cons, List.length_nil]; omega
    rw [if_neg k4]
    by_cases k6 : k = 6
    · rw [if_pos k6, if_pos k6]
      have := kencL_le lt hLv
      simp only [List.length_append, List.length_cons, List.length_nil]; omega
    rw [if_neg k6, if_neg k6]
    by_cases k5 : k = 5
    · rw [if_pos k5, if_pos k5]
      have := kencF_le ds ns _ h4 hDv
      simp only [List.length_append, List.length_cons, List.length_nil]; omega
    rw [if_neg k5, if_neg k5]
    simp
theorem kenc_small {t : Tr} (h : allowB t = true) : (kenc t).length ≤ 8601600 := by
  unfold allowB at h
  split at h
  · rename_i hk
    cases t with
    | mk k i s l ns ds =>
      have hk' : k = 0 := hk
      subst hk'
      simp [kenc]
  · simp only [validB, Bool.and_eq_true, decide_eq_true_eq] at h
    have := kenc_le _ t rfl h.2
    omega
/-- booleans in memory -/
def BRep (w : World) (a : Option Addr) (ds : List Bool) : Prop := ∀ j d, ds[j]? = some d → ∃ b off, a = some ⟨b, off, none⟩ ∧ w.cell? ⟨b, off + j, none⟩ = some (.bool d)
theorem BRep.ext {w w' : World} {a : Option Addr} {ds : List Bool} (h : BRep w a ds) (he : Ext w w') : BRep w' a ds := fun j d hj => by
  obtain ⟨b, off, h1, h2⟩ := h j d hj
  exact ⟨b, off, h1, he.keep h2⟩
/-- appendValue of whatever is allowed -/
theorem kappA (t : Tr) (v b : Value) (l : List UInt8) (base : Nat) (W0 w : World) (ha : allowB t = true) (hV : VRep W0 t v) (hE : Ext W0 w) (hb0 : W0.heap.size ≤ base) (hbase : base ≤ w.heap.size) (hB : Buf w base b l) (hl : l.length + (kenc t).length ≤ 90000000000) :
    Calls Tryd.prog 22 #[b, v] w (BufPost base w (l ++ kenc t)) := by
  by_cases hk : t.kind = 0
  · unfold allowB at ha
    rw [if_pos hk] at ha
    cases t with
    | mk k i s lt ns ds =>
      have hk' : k = 0 := hk
      subst hk'
      unfold VRep at hV
      obtain ⟨la, lc, da, dc, rfl, _⟩ := hV
      have e : kenc (.mk 0 i s lt ns ds) = [0] := by simp [kenc]
      rw [e]
      exact kapp_k0 i s lt ns ds la da lc dc b l base W0 w hE hb0 hbase hB (by omega)
  · unfold allowB at ha
    rw [if_neg hk] at ha
    simp only [validB, Bool.and_eq_true] at ha
    exact kapp_ok t v b l base W0 w ha.2 hV hE hb0 hbase hB hl
def flipC (c : UInt8) : UInt8 := 255 - c
theorem flipC_nat (c : UInt8) : ((flipC c).toNat : Int) = 255 - (c.toNat : Int) := by
  have := c.toNat_lt
  unfold flipC
  rw [UInt8.toNat_sub_of_le _ _ (by rw [UInt8.le_iff_toNat_le]; show c.toNat ≤ 255; omega)]
  show ((255 - c.toNat : Nat) : Int) = _
  omega
/-- the bytes of X, the first i turned -/
def turned (X : List UInt8) (i : Nat) : List UInt8 := (X.take i).map flipC ++ X.drop i
theorem turned_set (cur X : List UInt8) (i : Nat) (h : i < X.length) : (cur ++ turned X i).set (cur.length + i) (flipC X[i]) = cur ++ turned X (i + 1) := by
  unfold turned
  rw [List.set_append_right _ _ (by omega), Nat.add_sub_cancel_left, List.set_append_right _ _ (by simp; omega)]
  congr 1
  rw [List.take_succ_eq_append_getElem h, List.map_append, List.append_assoc]
  congr 1
  rw [List.length_map, List.length_take, Nat.min_eq_left (Nat.le_of_lt h), Nat.sub_self]
  conv => lhs; rw [List.drop_eq_getElem_cons h]
  rfl
theorem turned_get (cur X : List UInt8) (i : Nat) (h : i < X.length) : (cur ++ turned X i)[cur.length + i]? = some X[i] := by
  unfold turned
  rw [List.getElem?_append_right (by omega), Nat.add_sub_cancel_left, List.getElem?_append_right (by simp; omega)]
  simp [Nat.min_eq_left (Nat.le_of_lt h), h]
theorem turned_all (X : List UInt8) : turned X X.length = X.map flipC := by unfold turned; simp
theorem kencs_snoc : ∀ (ts : List Tr) (ds : List Bool) (t : Tr) (d : Bool), ts.length = ds.length → kencs (ts ++ [t]) (ds ++ [d]) = kencs ts ds ++ kone d t
  | [], [], t, d, _ => by simp [kencs]
  | x :: r, y :: e, t, d, h => by simp only [List.cons_append, kencs, kencs_snoc r e t d (by simpa using h), List.append_assoc]
  | [], _ :: _, _, _, h => by simp at h
  | _ :: _, [], _, _, h => by simp at h
theorem kone_len (d : Bool) (t : Tr) : (kone d t).length = (kenc t).length := by unfold kone; cases d <;> simp
theorem kencs_le (ts : List Tr) (ds : List Bool) (h : ∀ t ∈ ts, allowB t = true) : (kencs ts ds).length ≤ 8601600 * ts.length := by
  induction ts generalizing ds with
  | nil => simp [kencs]
  | cons x r ih =>
    cases ds with
    | nil => simp [kencs]
    | cons d e =>
      simp only [kencs, List.length_append, kone_len, List.length_cons]
      have h1 := kenc_small (h x (by simp))
      have h2 := ih e (fun t ht => h t (by simp [ht]))
      omega
theorem Buf.cellAt {w : World} {base g n cap : Nat} {l : List UInt8} (h : Buf w base (.slice (some ⟨g, 0, none⟩) n cap) l) (hn : n = l.length) (j : Nat) (c : UInt8) (hj : l[j]? = some c) : w.cell? ⟨g, j, none⟩ = some (.int .u8 (c.toNat : Int)) ∧ w.frozen? ⟨g, j, none⟩ = false ∧ g < w.heap.size ∧ base ≤ g := by
  subst hn
  have hlt := (List.getElem?_eq_some_iff.1 hj).1
  refine ⟨?_, World.ownsRow.frozenAt h j, (World.ownsRow.lt h g rfl).2, (World.ownsRow.lt h g rfl).1⟩
  rw [World.ownsRow.cellAt h j (by omega), List.getElem?_map, hj]; rfl
theorem Buf.stored {w : World} {base g n cap : Nat} {l : List UInt8} (h : Buf w base (.slice (some ⟨g, 0, none⟩) n cap) l) (hn : n = l.length) (j : Nat) (c : UInt8) : Buf (w.setCell ⟨g, j, none⟩ (.int .u8 (c.toNat : Int))) base (.slice (some ⟨g, 0, none⟩) n cap) (l.set j c) := by
  subst hn
  have := (World.ownsRow.stored h j (bv c)).1
  unfold Buf
  rw [List.length_set, List.map_set]; exact this
end Go.Proofs.YtipphlhaaienpaaDoor
set_option linter.unusedSimpArgs false
set_option linter.unusedVariables false
namespace Go.Proofs.YtipphlhaaienpaaDoor
open Go.RowKit
set_option maxRecDepth 20000 in
set_option maxHeartbeats 4000000 in
theorem Encode_ok (ts : List Tr) (ds : List Bool) (la da : Option Addr) (lc dc : Nat) (w : World) (hL : LRep w la 0 ts) (hl1 : ts.length ≤ lc) (hl2 : lc ≤ maxLen) (hD : BRep w da ds) (hd1 : ds.length ≤ dc) (hd2 : dc ≤ maxLen) (h40 : ts.length ≤ 40) (hT : Tabs w) :
    Calls Tryd.prog 11 #[.slice la ts.length lc, .slice da ds.length dc] w fun e w' => e = .returned (.tuple #[.string (kencE ts ds).1, .int .i64 (kencE ts ds).2]) ∧ Ext w w' := by
  have HL := Lib.hid hL
  have HD := Lib.hid hD
  have HT := Lib.hid hT
  clear hL hD hT
  unfold maxLen at hl2 hd2
  obtain ⟨r, hr⟩ : ∃ r, kencE ts ds = r := ⟨_, rfl⟩
  rw [hr]
  unfold kencE at hr
  by_cases hlen : ts.length = ds.length
  case neg =>
    rw [if_pos hlen] at hr
    have HR := Lib.hid hr
    have d : ((ts.length : Int) != (ds.length : Int)) = true := by simp; omega
    have d' : (ts.length != ds.length) = true := by simpa using hlen
    clear hr
    go_enter Tryd.func11, Tryd.ntmps11
    go_wp2_with fail
    go_ret2
    exact ⟨by rw [← HR.out]; rfl, Ext.refl _⟩
  rw [if_neg (by simpa using hlen)] at hr
  have HR := Lib.hid hr
  have d : ((ts.length : Int) != (ds.length : Int)) = false := by simp; omega
  have d' : (ts.length != ds.length) = false := by simpa using hlen
  have HLen := Lib.hid hlen
  have hle : ts.length ≤ ds.length := by omega
  clear hr hlen
  go_enter Tryd.func11, Tryd.ntmps11
  go_wp2_with fail
  clear d d'
  go_loopw [6, 18] (fun b x wr => ∃ j : Nat, j ≤ ts.length ∧ x = .int .i64 j ∧ Hid (∀ t ∈ ts.take j, allowB t = true) ∧ Hid (Buf wr w.heap.size b (kencs (ts.take j) (ds.take j))) ∧ Hid (Ext w wr)) (fun _ x _ => ts.length - (intOf x).toNat)
  case atStart => exact ⟨0, by omega, rfl, by intro t ht; simp at ht, Buf.nil _ _, Ext.refl _⟩
  case round =>
    obtain ⟨j, hj, rfl, HA, HB, HE⟩ := hrel
    obtain ⟨cur, hcur⟩ : ∃ x, kencs (ts.take j) (ds.take j) = x := ⟨_, rfl⟩
    have hcl : cur.length ≤ 8601600 * 40 := by
      rw [← hcur]; have := kencs_le (ts.take j) (ds.take j) HA.out; have : (ts.take j).length ≤ 40 := by simp; omega
      omega
    rw [hcur] at HB
    have HC := Lib.hid hcur
    clear hcur
    obtain ⟨ad, ca, rfl⟩ := HB.out.shape
    have hsz := HE.out.size
    by_cases hlt : j < ts.length
    · obtain ⟨bb, off, c0, c1, c2, c3, c4, rfl, e0, e1, e2, e3, e4, hv⟩ := LRep.at_ ts 0 j ts[j] HL.out (List.getElem?_eq_getElem hlt)
      obtain ⟨k', i', s', la', ln', lc', da', dn', dc', rfl, rfl, rfl, rfl, rfl⟩ := hv.shape5
      have hEr := HE.out
      have q0 := hEr.keep e0
      have q1 := hEr.keep e1
      have q2 := hEr.keep e2
      have q3 := hEr.keep e3
      have q4 := hEr.keep e4
      rw [Nat.zero_add] at q0 q1 q2 q3 q4
      have HV := Lib.hid hv
      clear e0 e1 e2 e3 e4 hEr hv
      obtain ⟨p, hp⟩ : ∃ p, ts[j] = p := ⟨_, rfl⟩
      obtain ⟨dd, hdd⟩ : ∃ d, ds[j]'(by omega) = d := ⟨_, rfl⟩
      have hmem : p ∈ ts := by rw [← hp]; exact List.getElem_mem hlt
      obtain ⟨db, doff, rfl, hdc⟩ := HD.out j dd (by rw [← hdd]; exact List.getElem?_eq_getElem (by omega))
      have htk : ts.take (j + 1) = ts.take j ++ [p] := by rw [List.take_succ_eq_append_getElem hlt, hp]
      have hdk : ds.take (j + 1) = ds.take j ++ [dd] := by rw [List.take_succ_eq_append_getElem (by omega), hdd]
      have hsn : kencs (ts.take (j + 1)) (ds.take (j + 1)) = cur ++ kone dd p := by rw [htk, hdk, kencs_snoc _ _ _ _ (by simp; omega), HC.out]
      rw [hp] at HV
      have HSn := Lib.hid hsn
      have HTk := Lib.hid htk
      clear hp hdd htk hdk hsn
      have hdb := World.block_lt_of_cell? _ _ hdc
      go_wp2_with fail
      refine (allowed_ok p _ _ (VRep.ext (HE.out.alloc _) _ _ HV.out) (HT.out.ext (HE.out.alloc _))).mono ?_
      rintro e w1 ⟨rfl, h1⟩
      have HE1 := Lib.hid (HE.out.trans h1.of_alloc)
      have k1 := h1.ownc
      have l1 := h1.lt
      have HB1 := Lib.hid (HB.out.ext h1.of_alloc)
      have HX1 := Lib.hid h1
      clear h1 q0 q1 q2 q3 q4
      cases hal : allowB p
      · have hf : ts.all allowB = false := by
          rw [List.all_eq_false]; exact ⟨p, hmem, by simp [hal]⟩
        have e := HR.out
        rw [hf] at e
        have HR2 := Lib.hid e
        clear hal hf e
        go_wp2_with fail
        go_ret2
        exact ⟨by rw [← HR2.out]; rfl, HE1.out⟩
      have hks := kenc_small hal
      have HAl := Lib.hid hal
      clear hal
      go_wp2_with fail
      refine (kappA p _ _ cur w.heap.size w _ HAl.out HV.out HE1.out (Nat.le_refl _) (by have := HE1.out.size; omega) HB1.out (by omega)).mono ?_
      rintro e w2 ⟨v2, rfl, hb2, hk2⟩
      obtain ⟨x2, hx2⟩ : ∃ x, cur ++ kenc p = x := ⟨_, rfl⟩
      rw [hx2] at hb2
      have hx2l : x2.length = cur.length + (kenc p).length := by rw [← hx2]; simp
      have hkp := kenc_pos p
      have HX2 := Lib.hid hx2
      have HB2 := Lib.hid hb2
      have HE2 := Lib.hid (hk2.ext HE1.out (Nat.le_refl _))
      have s2 : w1.heap.size ≤ w2.heap.size := hk2.size
      obtain ⟨ad2, c2, rfl⟩ := HB2.out.shape
      have hdc2 := HE2.out.keep hdc
      have hdb2 : db < w2.heap.size := by have := HE2.out.size; omega
      clear hb2 hk2 hx2 hdc k1 HX1
      have hal2 : ∀ t ∈ ts.take (j + 1), allowB t = true := by
        rw [HTk.out]; intro t ht
        rcases List.mem_append.1 ht with h | h
        · exact HA.out t h
        · rw [List.mem_singleton.1 h]; exact HAl.out
      have HA2 := Lib.hid hal2
      have hjd : j < ds.length := by omega
      clear hal2
      cases dd
      · have hfin : x2 = kencs (ts.take (j + 1)) (ds.take (j + 1)) := by rw [HSn.out, ← HX2.out]; rfl
        have HFin := Lib.hid hfin
        have HL2 := Lib.hid hx2l
        clear hfin hx2l
        go_wp2_with fail
        exact ⟨⟨j + 1, by omega, by go_num, HA2, by rw [← HFin.out]; exact HB2, HE2⟩, by simp [intOf]; omega⟩
      · obtain ⟨g, rfl⟩ : ∃ g, ad2 = some ⟨g, 0, none⟩ := by
          rcases HB2.out.2 with ⟨h, h'⟩ | ⟨g, cap, cu, h, _⟩
          · exact absurd h' (by omega)
          · injection h with h _ _; exact ⟨g, h⟩
        obtain ⟨X, hX⟩ : ∃ X, kenc p = X := ⟨_, rfl⟩
        rw [hX] at hx2l hkp hks
        have hfin : kencs (ts.take (j + 1)) (ds.take (j + 1)) = cur ++ turned X X.length := by rw [HSn.out, turned_all, ← hX]; rfl
        have HFin := Lib.hid hfin
        have hb0 : Buf w2 w.heap.size (.slice (some ⟨g, 0, none⟩) x2.length c2) (cur ++ turned X 0) := by
          have h := HB2.out
          have e : x2 = cur ++ turned X 0 := by rw [← HX2.out, hX]; simp [turned]
          rw [← e]; exact h
        have HB3 := Lib.hid hb0
        have HLn := Lib.hid hx2l
        have hn2 : x2.length ≤ 1000000000 := by omega
        clear hfin hb0 hX hx2l
        obtain ⟨wo, rfl⟩ : ∃ wo : World, wo = wr := ⟨_, rfl⟩
        go_wp2_with fail
        go_loopw [10] (fun x wr => ∃ i : Nat, i ≤ X.length ∧ x = .int .i64 ((cur.length + i : Nat) : Int) ∧ Hid (Buf wr w.heap.size (.slice (some ⟨g, 0, none⟩) x2.length c2) (cur ++ turned X i)) ∧ Hid (Ext w wr)) (fun x _ => x2.length - (intOf x).toNat)
        case atStart => exact ⟨0, by omega, rfl, HB3, HE2⟩
        case round =>
          obtain ⟨i, hi, rfl, HB4, HE4⟩ := hrel
          have hLn := HLn.out
          clear hdc2 hdb2
          by_cases hlt2 : i < X.length
          · obtain ⟨f1, f2, f3, f4⟩ := HB4.out.cellAt (by rw [hLn]; simp [turned]; omega) (cur.length + i) X[i] (turned_get cur X i hlt2)
            have hst := HB4.out.stored (by rw [hLn]; simp [turned]; omega) (cur.length + i) (flipC X[i])
            rw [turned_set cur X i hlt2, flipC_nat] at hst
            obtain ⟨cc, hcc⟩ : ∃ c, X[i] = c := ⟨_, rfl⟩
            rw [hcc] at f1 hst
            have hcb := cc.toNat_lt
            have HSt := Lib.hid hst
            have dlt : cur.length + i < x2.length := by omega
            have HE5 := Lib.hid (HE4.out.setCell (p := ⟨g, cur.length + i, none⟩) f4 (.int .u8 (255 - (cc.toNat : Int))))
            clear hst hcc hLn HB3
            go_wp2_with fail
            exact ⟨⟨i + 1, by omega, by go_num, HSt, HE5⟩, by simp [intOf]; omega⟩
          · obtain rfl : i = X.length := by omega
            have hLn2 : x2.length = cur.length + X.length := hLn
            clear hLn HB3
            have dlt : ¬ cur.length + X.length < x2.length := by omega
            go_wp2_with fail
            exact ⟨⟨j + 1, by omega, by go_num, HA2, by rw [HFin.out]; exact HB4, HE4⟩, by simp [intOf]; omega⟩
    · have hj2 : j = ts.length := by omega
      subst hj2
      have hall : ts.all allowB = true := by
        rw [List.all_eq_true]; have := HA.out; rw [List.take_length] at this; exact this
      have e := HR.out
      rw [hall, if_pos rfl] at e
      have hc2 : kencs ts ds = cur := by have := HC.out; rw [List.take_length, List.take_of_length_le (by have := HLen.out; omega)] at this; exact this
      rw [hc2] at e
      have HR2 := Lib.hid e
      have hcv := HB.out.str
      clear hall e hc2
      go_wp2_with fail
      go_ret2
      exact ⟨by rw [← HR2.out]; rfl, HE.out⟩
end Go.Proofs.YtipphlhaaienpaaDoor
set_option linter.unusedSimpArgs false
set_option linter.unusedVariables false
namespace Go.Proofs.YtipphlhaaienpaaDoor
open Go.RowKit
theorem bl_nil_r (x : List UInt8) : Op.bytesLess x [] = false := by cases x <;> rfl
theorem bl_nil_l (y : UInt8) (b : List UInt8) : Op.bytesLess [] (y :: b) = true := rfl
theorem bl_same (y : UInt8) (a b : List UInt8) : Op.bytesLess (y :: a) (y :: b) = Op.bytesLess a b := by simp [Op.bytesLess]
theorem bl_lt {x y : UInt8} (h : x.toNat < y.toNat) (a b : List UInt8) : Op.bytesLess (x :: a) (y :: b) = true := by
  have : x < y := UInt8.lt_iff_toNat_lt.2 h
  simp [Op.bytesLess, this]
theorem bl_gt {x y : UInt8} (h : y.toNat < x.toNat) (a b : List UInt8) : Op.bytesLess (x :: a) (y :: b) = false := by
  have h1 : ¬ x < y := fun h2 => by have := UInt8.lt_iff_toNat_lt.1 h2; omega
  have h2 : x ≠ y := fun e => by subst e; omega
  simp [Op.bytesLess, h1, h2]
theorem u8_ne {x y : UInt8} (h : x ≠ y) : x.toNat < y.toNat ∨ y.toNat < x.toNat := by
  have : x.toNat ≠ y.toNat := fun e => h (UInt8.toNat_inj.1 e)
  omega
theorem ip_cons_ne {x y : UInt8} (h : x ≠ y) (a b : List UInt8) : (x :: a).isPrefixOf (y :: b) = false := by simp [List.isPrefixOf, h]
theorem ip_cons (x : UInt8) (a b : List UInt8) : (x :: a).isPrefixOf (x :: b) = a.isPrefixOf b := by simp [List.isPrefixOf]
theorem ip_255 (r : List UInt8) (h : ∀ c ∈ r, c = 255) : ∀ x : List UInt8, r.isPrefixOf x = !Op.bytesLess x r := by
  induction r with
  | nil => intro x; rw [bl_nil_r]; simp
  | cons c r ih =>
    intro x
    have hc : c = 255 := h c (by simp)
    subst hc
    cases x with
    | nil => rfl
    | cons y x =>
      by_cases hy : y = 255
      · subst hy; rw [ip_cons, bl_same]; exact ih (fun c hc => h c (by simp [hc])) x
      · have : y.toNat < (255 : UInt8).toNat := by
          rcases u8_ne hy with h | h
          · exact h
          · have := y.toNat_lt; have h5 : (255 : UInt8).toNat = 255 := rfl; omega
        rw [ip_cons_ne (Ne.symm hy), bl_lt this]; rfl
theorem aft_range (b : UInt8) (hb : b ≠ 255) (r : List UInt8) (hr : ∀ c ∈ r, c = 255) : ∀ (u x : List UInt8), (u ++ b :: r).isPrefixOf x = (!Op.bytesLess x (u ++ b :: r) && Op.bytesLess x (u ++ [b + 1])) := by
  have hb1 : (b + 1).toNat = b.toNat + 1 := by
    have h1 : b.toNat ≠ 255 := fun e => hb (UInt8.toNat_inj.1 e)
    have := b.toNat_lt
    rw [UInt8.toNat_add]; have : (1 : UInt8).toNat = 1 := rfl; omega
  intro u
  induction u with
  | nil =>
    intro x
    cases x with
    | nil => rfl
    | cons y x =>
      simp only [List.nil_append]
      by_cases hy : y = b
      · subst hy
        rw [ip_cons, bl_same, bl_lt (by omega), ip_255 r hr]; simp
      · rw [ip_cons_ne (Ne.symm hy)]
        rcases u8_ne hy with h | h
        · rw [bl_lt h]; rfl
        · rw [bl_gt h]
          by_cases hy1 : y = b + 1
          · subst hy1; rw [bl_same, bl_nil_r]; rfl
          · rw [bl_gt (by rcases u8_ne hy1 with h2 | h2 <;> omega)]; rfl
  | cons z u ih =>
    intro x
    cases x with
    | nil => rfl
    | cons y x =>
      simp only [List.cons_append]
      by_cases hy : y = z
      · subst hy; rw [ip_cons, bl_same, bl_same]; exact ih x
      · rw [ip_cons_ne (Ne.symm hy)]
        rcases u8_ne hy with h | h
        · rw [bl_lt h]; rfl
        · rw [bl_gt h, bl_gt h]; rfl
theorem aft_more (b : UInt8) (hb : b ≠ 255) (r : List UInt8) (u : List UInt8) : Op.bytesLess (u ++ [b + 1]) (u ++ b :: r) = false ∧ u ++ [b + 1] ≠ u ++ b :: r := by
  have hb1 : (b + 1).toNat = b.toNat + 1 := by
    have h1 : b.toNat ≠ 255 := fun e => hb (UInt8.toNat_inj.1 e)
    have := b.toNat_lt
    rw [UInt8.toNat_add]; have : (1 : UInt8).toNat = 1 := rfl; omega
  refine ⟨?_, fun e => ?_⟩
  · induction u with
    | nil => exact bl_gt (by omega) _ _
    | cons z u ih => simp only [List.cons_append]; rw [bl_same]; exact ih
  · have := List.append_cancel_left e
    injection this with h1 _
    rw [h1] at hb1; omega
theorem aftN_tail (s : ByteArray) : ∀ n i, aftN s n ≤ i → i < n → s.data.toList.getD i 0 = 255 := by
  intro n
  induction n with
  | zero => intro i _ h; omega
  | succ n ih =>
    intro i h1 h2
    unfold aftN at h1
    split at h1
    · by_cases hi : i = n
      · subst hi; assumption
      · exact ih i h1 (by omega)
    · omega
theorem aft_split {s : ByteArray} {a : ByteArray} (h : aftR s = (a, true)) : ∃ u b r, b ≠ 255 ∧ (∀ c ∈ r, c = 255) ∧ s.data.toList = u ++ b :: r ∧ a.data.toList = u ++ [b + 1] := by
  unfold aftR at h
  split at h
  · injection h with _ h; cases h
  · rename_i hn
    have hle := aftN_le s s.size
    have hne := aftN_ne s s.size hn
    have htl := aftN_tail s s.size
    obtain ⟨n, hn'⟩ : ∃ n, aftN s s.size = n + 1 := ⟨aftN s s.size - 1, by omega⟩
    rw [hn'] at h hle hne htl
    simp only [Nat.add_sub_cancel] at h hne
    have hlen : s.data.toList.length = s.size := by simp
    refine ⟨s.data.toList.take n, s.data.toList.getD n 0, s.data.toList.drop (n + 1), hne, ?_, ?_, ?_⟩
    · intro c hc
      obtain ⟨i, hi, rfl⟩ := List.mem_iff_getElem.1 hc
      have := htl (n + 1 + i) (by omega) (by simp at hi; omega)
      rw [List.getElem_drop]
      rw [List.getD_eq_getElem?_getD, List.getElem?_eq_getElem (by simp at hi ⊢; omega)] at this
      simpa using this
    · have h1 : s.data.toList.getD n 0 = s.data.toList[n]'(by omega) := by rw [List.getD_eq_getElem?_getD, List.getElem?_eq_getElem (by omega)]; rfl
      rw [h1, ← List.drop_eq_getElem_cons (by omega), List.take_append_drop]
    · injection h with h _; rw [← h]
theorem aft_none {s : ByteArray} {a : ByteArray} (h : aftR s = (a, false)) : a = ⟨#[]⟩ ∧ ∀ i, i < s.size → s.data.toList.getD i 0 = 255 := by
  unfold aftR at h
  split at h
  · rename_i hn
    injection h with h _
    exact ⟨h.symm, fun i hi => aftN_tail s s.size i (by omega) hi⟩
  · injection h with _ h; cases h
end Go.Proofs.YtipphlhaaienpaaDoor
