/- Keys of values, plain. -/
import Derived.Test.YtipphlhaaienpaaDoorEncP
import Derived.Test.YtipphlhaaienpaaDoorBuf
set_option linter.unusedSimpArgs false
set_option linter.unusedVariables false
namespace Go.Proofs.YtipphlhaaienpaaDoor
open Go.RowKit
/-- the eight bytes of a number -/
def num8 (u : Nat) : List UInt8 := [UInt8.ofNat (u / 72057594037927936), UInt8.ofNat (u / 281474976710656), UInt8.ofNat (u / 1099511627776), UInt8.ofNat (u / 4294967296), UInt8.ofNat (u / 16777216), UInt8.ofNat (u / 65536), UInt8.ofNat (u / 256), UInt8.ofNat u]
/-- the number of an int -/
def uOf (i : Int) : Nat := (i + 9223372036854775808).toNat
def escC (c : UInt8) : List UInt8 := if c = 0 then [0, 255] else [c]
def esc : List UInt8 → List UInt8 | [] => [] | c :: r => escC c ++ esc r
mutual
def kenc : Tr → List UInt8
  | .mk k i s l ns ds => [UInt8.ofNat k.toNat] ++
    (if k = 3 ∨ k = 9 ∨ k = 10 then num8 (uOf i) else if k = 4 ∨ k = 7 ∨ k = 8 then esc s.data.toList ++ [0, 0]
     else if k = 6 then kencL l ++ [0] else if k = 5 then kencF ns ds ++ [0] else [])
def kencL : List Tr → List UInt8 | [] => [] | t :: r => ([1] ++ kenc t) ++ kencL r
def kencF : List ByteArray → List Tr → List UInt8
  | n :: nr, t :: r => ([1] ++ n.data.toList ++ [0] ++ kenc t) ++ kencF nr r
  | _, _ => []
end
theorem esc_snoc (l : List UInt8) (c : UInt8) : esc (l ++ [c]) = esc l ++ escC c := by
  induction l with
  | nil => simp [esc]
  | cons x r ih => simp only [List.cons_append, esc, ih, List.append_assoc]
theorem esc_le (l : List UInt8) : (esc l).length ≤ 2 * l.length := by
  induction l with
  | nil => simp [esc]
  | cons x r ih => simp only [esc, List.length_append, List.length_cons, escC]; split <;> simp <;> omega
theorem esc_take_le (l : List UInt8) (j : Nat) : (esc (l.take j)).length ≤ (esc l).length := by
  induction l generalizing j with
  | nil => simp [esc]
  | cons x r ih => cases j with
    | zero => simp [esc]
    | succ j => simp only [List.take_succ_cons, esc, List.length_append]; have := ih j; omega
theorem kencL_snoc (l : List Tr) (t : Tr) : kencL (l ++ [t]) = kencL l ++ ([1] ++ kenc t) := by
  induction l with
  | nil => simp [kencL]
  | cons x r ih => simp only [List.cons_append, kencL, ih, List.append_assoc]
theorem kencF_snoc (ns : List ByteArray) (ds : List Tr) (n : ByteArray) (t : Tr) (h : ns.length = ds.length) : kencF (ns ++ [n]) (ds ++ [t]) = kencF ns ds ++ ([1] ++ n.data.toList ++ [0] ++ kenc t) := by
  induction ns generalizing ds with
  | nil => cases ds with
    | nil => simp [kencF]
    | cons x r => simp at h
  | cons m nr ih =>
    cases ds with
    | nil => simp at h
    | cons x r => simp only [List.cons_append, kencF, ih r (by simpa using h), List.append_assoc]
theorem kencL_take_le (l : List Tr) (j : Nat) : (kencL (l.take j)).length ≤ (kencL l).length := by
  induction l generalizing j with
  | nil => simp [kencL]
  | cons x r ih => cases j with
    | zero => simp [kencL]
    | succ j => simp only [List.take_succ_cons, kencL, List.length_append]; have := ih j; omega
theorem kencF_take_le (ns : List ByteArray) (ds : List Tr) (j : Nat) : (kencF (ns.take j) (ds.take j)).length ≤ (kencF ns ds).length := by
  induction ns generalizing ds j with
  | nil => simp [kencF]
  | cons m nr ih => cases j with
    | zero => simp [kencF]
    | succ j => cases ds with
      | nil => simp [kencF]
      | cons x r => simp only [List.take_succ_cons, kencF, List.length_append]; have := ih r j; omega
theorem kenc_pos (t : Tr) : 1 ≤ (kenc t).length := by cases t; simp [kenc]
theorem kencL_len (l : List Tr) : l.length ≤ (kencL l).length := by
  induction l with
  | nil => simp [kencL]
  | cons x r ih => simp only [kencL, List.length_append, List.length_cons]; have := kenc_pos x; omega
theorem kencF_len (ns : List ByteArray) (ds : List Tr) (h : ns.length = ds.length) : ds.length ≤ (kencF ns ds).length := by
  induction ns generalizing ds with
  | nil => cases ds with
    | nil => simp
    | cons x r => simp at h
  | cons m nr ih => cases ds with
    | nil => simp
    | cons x r => simp only [kencF, List.length_append, List.length_cons]; have := ih r (by simpa using h); have := kenc_pos x; omega
theorem one_new (w : World) (c : UInt8) (x : Int) (hx : x = c.toNat) : ∀ j u, ([c].map bv)[j]? = some u → (w.alloc (.cells #[.int .u8 x] 5)).cell? ((⟨w.heap.size, 0, none⟩ : Addr).add j) = some u := by
  subst hx; exact cells_new w [bv c] 5
theorem one_newg (w : World) (g : Nat) (hg : g = w.heap.size) (c : UInt8) (x : Int) (hx : x = c.toNat) : ∀ j u, ([c].map bv)[j]? = some u → (w.alloc (.cells #[.int .u8 x] 5)).cell? ((⟨g, 0, none⟩ : Addr).add j) = some u := by
  subst hg; exact one_new w c x hx
theorem two_newg (w : World) (g : Nat) (hg : g = w.heap.size) : ∀ j u, ([0, 0].map bv)[j]? = some u → (w.alloc (.cells #[.int .u8 0, .int .u8 0] 5)).cell? ((⟨g, 0, none⟩ : Addr).add j) = some u := by
  subst hg; exact cells_new w [bv 0, bv 0] 5
/-- e is a row of bytes, l -/
def BufPost (base : Nat) (w : World) (l : List UInt8) (e : Ending) (w' : World) : Prop := ∃ v, e = .returned v ∧ Buf w' base v l ∧ Keep base w w'
/-- what may be encoded: a valid value, or none -/
def zeroB (t : Tr) : Bool := decide (t.int = 0) && decide (t.text.size = 0) && decide (t.list.length = 0) && decide (t.docs.length = 0)
def allowB (t : Tr) : Bool := if t.kind = 0 then zeroB t else validB t
theorem xor63 (i : Int) (h : I64 i) : bits .xor .u64 (IntKind.u64.wrap i) 9223372036854775808 = (uOf i : Int) := by
  unfold I64 at h
  have h1 : IntKind.u64.wrap i = (((i % 18446744073709551616).toNat : Nat) : Int) := by rw [wrap_u64_eq]; omega
  rw [h1, show (9223372036854775808 : Int) = ((9223372036854775808 : Nat) : Int) from rfl, bits_xor_u64_nat _ _ (by omega) (by omega)]
  unfold uOf
  congr 1
  have h2 : ∀ x : Nat, x < 9223372036854775808 → x ^^^ 9223372036854775808 = x + 9223372036854775808 := fun x hx => by
    have := Nat.two_pow_add_eq_or_of_lt (i := 63) (b := x) (by simpa using hx) 1
    rw [Nat.xor_comm]
    have e : (9223372036854775808 : Nat) = 2 ^ 63 := by decide
    rw [e] at hx ⊢
    rw [Nat.mul_one] at this
    rw [Nat.add_comm x, this]
    apply Nat.eq_of_testBit_eq
    intro j
    rw [Nat.testBit_xor, Nat.testBit_or, Nat.testBit_two_pow]
    by_cases hj : 63 = j
    · subst hj; rw [Nat.testBit_lt_two_pow hx]; simp
    · simp [hj]
  rcases Int.lt_or_le i 0 with hi | hi
  · have e : (i % 18446744073709551616).toNat = (i + 9223372036854775808).toNat + 9223372036854775808 := by omega
    rw [e, ← h2 _ (by omega), Nat.xor_assoc, Nat.xor_self, Nat.xor_zero]
  · rw [h2 _ (by omega)]; omega
theorem uOf_lt (i : Int) (h : I64 i) : uOf i < 18446744073709551616 := by unfold I64 at h; unfold uOf; omega
theorem u8_at (u d : Nat) : (u : Int) / (d : Int) % 256 = ((UInt8.ofNat (u / d)).toNat : Int) := by
  rw [UInt8.toNat_ofNat']; omega
theorem u8_atT (u : Nat) (h : u < 18446744073709551616) : (u : Int) / 72057594037927936 = ((UInt8.ofNat (u / 72057594037927936)).toNat : Int) := by
  rw [UInt8.toNat_ofNat']; omega
theorem u8_at0 (u : Nat) : (u : Int) % 256 = ((UInt8.ofNat u).toNat : Int) := by
  rw [UInt8.toNat_ofNat']; omega
end Go.Proofs.YtipphlhaaienpaaDoor
