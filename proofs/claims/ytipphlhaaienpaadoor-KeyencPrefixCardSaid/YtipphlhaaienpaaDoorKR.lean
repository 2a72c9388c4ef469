/- keyenc.Decode. -/
import Derived.Test.YtipphlhaaienpaaDoorKE
import Derived.Test.YtipphlhaaienpaaDoorMix
import Derived.Test.YtipphlhaaienpaaDoorMixZ
import Derived.Test.YtipphlhaaienpaaDoorNodes2
import Derived.Test.YtipphlhaaienpaaDoorAcc
set_option linter.unusedSimpArgs false
set_option linter.unusedVariables false
namespace Go.Proofs.YtipphlhaaienpaaDoor
open Go.RowKit
section
variable (s : ByteArray) (fl : UInt8)
def kbyte (p : Nat) : UInt8 := s.data.toList.getD p 0
def nextE (p : Nat) : Except Int (UInt8 × Nat) := if p < s.size then .ok (kbyte s p ^^^ fl, p + 1) else .error 5
def moreK : Except Int (UInt8 × Nat) → Except Int (Bool × Nat)
  | .error e => .error e
  | .ok (b, q) => if 1 < b.toNat then .error 4 else .ok (decide (b.toNat = 1), q)
def moreE (p : Nat) : Except Int (Bool × Nat) := moreK (nextE s fl p)
def numN : Nat → Nat → Nat → Except Int (Nat × Nat)
  | 0, p, u => .ok (u, p)
  | n + 1, p, u => match nextE s fl p with
    | .error e => .error e
    | .ok (b, q) => numN n q (u * 256 + b.toNat)
def textE : Nat → Nat → List UInt8 → Except Int (List UInt8 × Nat)
  | 0, _, _ => .error 5
  | n + 1, p, acc => match nextE s fl p with
    | .error e => .error e
    | .ok (c, q) => if c ≠ 0 then textE n q (acc ++ [c]) else match nextE s fl q with
      | .error e => .error e
      | .ok (c2, q2) => if c2 = 0 then .ok (acc, q2) else if c2 ≠ 255 then .error 4 else textE n q2 (acc ++ [0])
def nameE : Nat → Nat → List UInt8 → Except Int (List UInt8 × Nat)
  | 0, _, _ => .error 5
  | n + 1, p, acc => match nextE s fl p with
    | .error e => .error e
    | .ok (c, q) => if c = 0 then .ok (acc, q) else nameE n q (acc ++ [c])
def klistE (f : Nat → Except Int (Tr × Nat)) : Nat → Nat → List Tr → Except Int (List Tr × Nat)
  | 0, _, _ => .error 5
  | n + 1, p, acc => match moreE s fl p with
    | .error e => .error e
    | .ok (false, q) => .ok (acc, q)
    | .ok (true, q) => match f q with
      | .error e => .error e
      | .ok (t, q2) => klistE f n q2 (acc ++ [t])
def kdocE (f : Nat → Except Int (Tr × Nat)) : Nat → Nat → List ByteArray → List Tr → Except Int ((List ByteArray × List Tr) × Nat)
  | 0, _, _, _ => .error 5
  | n + 1, p, ns, ds => match moreE s fl p with
    | .error e => .error e
    | .ok (false, q) => .ok ((ns, ds), q)
    | .ok (true, q) => match nameE s fl (s.size + 1) q [] with
      | .error e => .error e
      | .ok (nm, q1) => match f q1 with
        | .error e => .error e
        | .ok (t, q2) => kdocE f n q2 (ns ++ [⟨nm.toArray⟩]) (ds ++ [t])
def kLeaf (k : Nat) (i : Int) (t : ByteArray) : Tr := .mk k i t [] [] []
def numT (k : Nat) : Except Int (Nat × Nat) → Except Int (Tr × Nat)
  | .error e => .error e
  | .ok (u, q) => .ok (kLeaf k ((u : Int) - 9223372036854775808) ⟨#[]⟩, q)
def textT (k : Nat) : Except Int (List UInt8 × Nat) → Except Int (Tr × Nat)
  | .error e => .error e
  | .ok (l, q) => .ok (kLeaf k 0 ⟨l.toArray⟩, q)
def listT : Except Int (List Tr × Nat) → Except Int (Tr × Nat)
  | .error e => .error e
  | .ok (l, q) => .ok (.mk 6 0 ⟨#[]⟩ l [] [], q)
def docT : Except Int ((List ByteArray × List Tr) × Nat) → Except Int (Tr × Nat)
  | .error e => .error e
  | .ok ((ns, ds), q) => .ok (.mk 5 0 ⟨#[]⟩ [] ns ds, q)
/-- behind the kind -/
def kvK (f : Nat → Except Int (Tr × Nat)) (top : Bool) (k q : Nat) : Except Int (Tr × Nat) :=
  if 11 < k ∨ (k = 0 ∧ top = false) then .error 4
  else if k = 3 ∨ k = 9 ∨ k = 10 then numT k (numN s fl 8 q 0)
  else if k = 4 ∨ k = 7 ∨ k = 8 then textT k (textE s fl (s.size + 1) q [])
  else if k = 6 then listT (klistE s fl f (s.size + 1) q [])
  else if k = 5 then docT (kdocE s fl f (s.size + 1) q [] [])
  else .ok (kLeaf k 0 ⟨#[]⟩, q)
def kvE : Nat → Nat → Except Int (Tr × Nat)
  | 0, p => match nextE s fl p with
    | .error e => .error e
    | .ok _ => .error 4
  | d + 1, p => match nextE s fl p with
    | .error e => .error e
    | .ok (b, q) => kvK s fl (kvE d) (decide (d = 15)) b.toNat q
end
/-- the values of a key -/
def kdsE (s : ByteArray) : List Bool → Nat → List Tr → Except Int (List Tr × Nat)
  | [], p, acc => .ok (acc, p)
  | d :: r, p, acc => match kvE s (if d then 255 else 0) 16 p with
    | .error e => .error e
    | .ok (t, q) => if allowB t then kdsE s r q (acc ++ [t]) else .error 4
def kdecE (s : ByteArray) (ds : List Bool) : Except Int (List Tr) :=
  match kdsE s ds 0 [] with
  | .error e => .error e
  | .ok (l, q) => if q < s.size then .error 6 else .ok l
theorem nextE_ok {s : ByteArray} {fl : UInt8} {p : Nat} {b : UInt8} {q : Nat} (h : nextE s fl p = .ok (b, q)) : p < s.size ∧ q = p + 1 ∧ b = kbyte s p ^^^ fl := by
  unfold nextE at h
  split at h
  · injection h with h; injection h with h1 h2; exact ⟨by assumption, h2.symm, h1.symm⟩
  · cases h
theorem nextE_err {s : ByteArray} {fl : UInt8} {p : Nat} {e : Int} (h : nextE s fl p = .error e) : e = 5 ∧ s.size ≤ p := by
  unfold nextE at h
  split at h
  · cases h
  · injection h with h; exact ⟨h.symm, by omega⟩
/-- what is left: c = 0 and the result, or the error -/
def Out {α : Type} (x : Except Int (α × Nat)) (n : α) (q : Nat) (c : Int) : Prop :=
  match x with
  | .ok (n', q') => n' = n ∧ q' = q ∧ c = 0
  | .error e => c = e ∧ c ≠ 0
theorem kbyte_at (s : ByteArray) (p : Nat) (h : p < s.size) : s[p] = kbyte s p := by
  unfold kbyte
  rw [List.getD_eq_getElem?_getD, List.getElem?_eq_getElem (by simpa using h)]
  rfl
end Go.Proofs.YtipphlhaaienpaaDoor
set_option linter.unusedSimpArgs false
set_option linter.unusedVariables false
namespace Go.Proofs.YtipphlhaaienpaaDoor
open Go.RowKit
/-- the cells of a reader -/
def KrCells (s : ByteArray) (p : Nat) (fl : UInt8) (c : Int) : Obj := .cells #[.string s, .int .i64 (p : Int), .int .u8 (fl.toNat : Int), .int .i64 c] 49 (0, 0)
def NxPost (rb : Nat) (s : ByteArray) (fl : UInt8) (p : Nat) (w : World) (x : Except Int (UInt8 × Nat)) (e : Ending) (w' : World) : Prop :=
  ∃ (b : UInt8) (q : Nat) (c : Int), (p ≤ q ∧ q ≤ s.size) ∧ e = .returned (.int .u8 (b.toNat : Int)) ∧ w'.heap[rb]? = some (KrCells s q fl c) ∧ w.grownBy w' (some rb) ∧ Out x b q c ∧ (c ≠ 0 → b = 0)
theorem kr_set1 {w : World} {rb : Nat} {s : ByteArray} {p p' : Nat} {fl : UInt8} {c : Int} (h : w.heap[rb]? = some (KrCells s p fl c)) (x : Int) (hx : x = p') : (w.setCell ⟨rb, 1, none⟩ (.int .i64 x)).heap[rb]? = some (KrCells s p' fl c) := by
  subst hx; exact blk_set h 1 _
theorem kr_set3 {w : World} {rb : Nat} {s : ByteArray} {p : Nat} {fl : UInt8} {c : Int} (h : w.heap[rb]? = some (KrCells s p fl c)) (x : Int) : (w.setCell ⟨rb, 3, none⟩ (.int .i64 x)).heap[rb]? = some (KrCells s p fl x) := blk_set h 3 _
theorem xor_u8 (a b : UInt8) : bits .xor .u8 (a.toNat : Int) (b.toNat : Int) = ((a ^^^ b).toNat : Int) := by
  show IntKind.u8.wrap ((BitVec.ofInt 8 (a.toNat : Int) ^^^ BitVec.ofInt 8 (b.toNat : Int)).toNat : Int) = _
  rw [BitVec.toNat_xor, UInt8.toNat_xor]
  have h : ∀ x : UInt8, (BitVec.ofInt 8 (x.toNat : Int)).toNat = x.toNat := fun x => by
    rw [BitVec.toNat_ofInt]; have := x.toNat_lt; omega
  rw [h, h]
  have h1 : a.toNat ^^^ b.toNat < 2 ^ 8 := Nat.xor_lt_two_pow a.toNat_lt b.toNat_lt
  simp [IntKind.wrap, IntKind.bits, IntKind.signed]
  omega
set_option maxRecDepth 20000 in
set_option maxHeartbeats 2000000 in
theorem next_err (s : ByteArray) (rb p : Nat) (fl : UInt8) (c : Int) (hc : c ≠ 0) (w : World) (h : w.heap[rb]? = some (KrCells s p fl c)) :
    Calls Tryd.prog 40 #[.pointer (some ⟨rb, 0, none⟩)] w fun e w' => e = .returned (.int .u8 0) ∧ w = w' := by
  have ck := blk_cell h
  have hrb := blk_lt h
  have d : (c != 0) = true := by simpa using hc
  clear h hc
  go_enter Tryd.func40, Tryd.ntmps40
  go_wp2_with fail
  go_ret
  exact ⟨rfl, rfl⟩
set_option maxRecDepth 20000 in
set_option maxHeartbeats 2000000 in
theorem next_ok (s : ByteArray) (rb p : Nat) (fl : UInt8) (w : World) (hs : s.size ≤ 1000000000) (hp : p ≤ s.size) (h : w.heap[rb]? = some (KrCells s p fl 0)) :
    Calls Tryd.prog 40 #[.pointer (some ⟨rb, 0, none⟩)] w (NxPost rb s fl p w (nextE s fl p)) := by
  have ck := blk_cell h
  have cf := blk_free h
  have hrb := blk_lt h
  have H := Lib.hid h
  clear h
  by_cases hlt : p < s.size
  · have hR : nextE s fl p = .ok (kbyte s p ^^^ fl, p + 1) := by unfold nextE; rw [if_pos hlt]
    rw [hR]
    clear hR
    have d1 : ((p : Int) == (s.size : Int)) = false := beq_eq_false_iff_ne.2 (by omega)
    have HX := Lib.hid (xor_u8 (kbyte s p) fl)
    have hb := kbyte_at s p hlt
    obtain ⟨b, hb2⟩ : ∃ b, kbyte s p = b := ⟨_, rfl⟩
    rw [hb2] at hb HX ⊢
    go_enter Tryd.func40, Tryd.ntmps40
    go_wp2_with fail
    refine wp_region_mix (Ext w) [(true, 0), (true, 1), (true, 2), (true, 3), (true, 4), (true, 5), (true, 6), (true, 7), (true, 8), (true, 9)] (by kernel_rfl) (by kernel_rfl) (by kernel_rfl) (by kernel_rfl) ?hS ?_
    case hS => exact (Ext.refl _).drew
    repeat (first | (refine wpMix_q (v := ?_) rfl rfl ?_ ?_; rotate_left; (· intro wq hSq; have cq := hSq.cells; go_simp; try (with_reducible rfl)); simp only [Act.put, List.setIfInBounds_toArray, List.set_cons_zero, List.set_cons_succ, List.getElem_toArray, List.getElem_cons_zero, List.getElem_cons_succ]) | (refine wpMix_u rfl rfl ?_; simp only [Act.put, List.setIfInBounds_toArray, List.set_cons_zero, List.set_cons_succ, List.getElem_toArray, List.getElem_cons_zero, List.getElem_cons_succ]))
    refine wpMix_nil ?_
    go_wp2_with fail
    have HB2 := Lib.hid (kr_set1 H.out ((p : Int) + 1) (p' := p + 1) (by omega))
    have hw1 := wrap_i64_val (p : Int) (by omega) (by omega)
    refine wp_region_mix (fun W => W.heap[rb]? = some (.cells #[.string s, .int .i64 ((p : Int) + 1), .int .u8 (fl.toNat : Int), .int .i64 0] 49 (0, 0))) [(true, 0), (true, 1), (true, 2), (true, 3), (true, 4), (true, 5), (true, 6), (true, 7), (true, 8), (true, 9), (true, 10), (true, 11), (true, 12), (true, 13), (true, 14), (true, 15)] (by kernel_rfl) (by kernel_rfl) (by kernel_rfl) (by kernel_rfl) ?hS ?_
    case hS => exact kr_set1 H.out ((p : Int) + 1) rfl
    repeat (first | (refine wpMix_q (v := ?_) rfl rfl ?_ ?_; rotate_left; (· intro wq hSq; have cq := blk_cell hSq; go_simp; try (with_reducible rfl)); simp only [Act.put, List.setIfInBounds_toArray, List.set_cons_zero, List.set_cons_succ, List.getElem_toArray, List.getElem_cons_zero, List.getElem_cons_succ]) | (refine wpMix_u rfl rfl ?_; simp only [Act.put, List.setIfInBounds_toArray, List.set_cons_zero, List.set_cons_succ, List.getElem_toArray, List.getElem_cons_zero, List.getElem_cons_succ]))
    refine wpMix_nil ?_
    go_wp2_with fail
    go_ret
    refine ⟨b ^^^ fl, p + 1, 0, ⟨by omega, by omega⟩, ret_int HX.out, HB2.out, ?_, ⟨rfl, rfl, rfl⟩, fun h => absurd rfl h⟩
    repeat (first | with_reducible exact World.grownBy.refl _ _ | with_reducible refine only_drew ?_ | with_reducible refine only_setCell ?_ (.inl rfl) _)
  · have hR : nextE s fl p = .error 5 := by unfold nextE; rw [if_neg hlt]
    rw [hR]
    clear hR
    obtain rfl : p = s.size := by omega
    have d1 : ((s.size : Int) == (s.size : Int)) = true := by simp
    go_enter Tryd.func40, Tryd.ntmps40
    go_wp2_with fail
    refine wp_region_mix (Ext w) [(true, 0), (true, 1), (true, 2), (true, 3), (true, 4), (true, 5), (true, 6), (true, 7), (true, 8), (true, 9)] (by kernel_rfl) (by kernel_rfl) (by kernel_rfl) (by kernel_rfl) ?hS ?_
    case hS => exact (Ext.refl _).drew
    repeat (first | (refine wpMix_q (v := ?_) rfl rfl ?_ ?_; rotate_left; (· intro wq hSq; have cq := hSq.cells; go_simp; try (with_reducible rfl)); simp only [Act.put, List.setIfInBounds_toArray, List.set_cons_zero, List.set_cons_succ, List.getElem_toArray, List.getElem_cons_zero, List.getElem_cons_succ]) | (refine wpMix_u rfl rfl ?_; simp only [Act.put, List.setIfInBounds_toArray, List.set_cons_zero, List.set_cons_succ, List.getElem_toArray, List.getElem_cons_zero, List.getElem_cons_succ]))
    refine wpMix_nil ?_
    go_wp2_with fail
    go_ret
    refine ⟨0, s.size, 5, ⟨Nat.le_refl _, Nat.le_refl _⟩, rfl, kr_set3 H.out _, ?_, ⟨rfl, by omega⟩, fun _ => rfl⟩
    repeat (first | with_reducible exact World.grownBy.refl _ _ | with_reducible refine only_drew ?_ | with_reducible refine only_setCell ?_ (.inl rfl) _)
def MrPost (rb : Nat) (s : ByteArray) (fl : UInt8) (p : Nat) (w : World) (x : Except Int (Bool × Nat)) (e : Ending) (w' : World) : Prop :=
  ∃ (b : Bool) (q : Nat) (c : Int), (p ≤ q ∧ q ≤ s.size) ∧ e = .returned (.bool b) ∧ w'.heap[rb]? = some (KrCells s q fl c) ∧ w.grownBy w' (some rb) ∧ Out x b q c ∧ (c ≠ 0 → b = false)
set_option maxRecDepth 20000 in
set_option maxHeartbeats 2000000 in
theorem more_err (s : ByteArray) (rb p : Nat) (fl : UInt8) (c : Int) (hc : c ≠ 0) (w : World) (h : w.heap[rb]? = some (KrCells s p fl c)) :
    Calls Tryd.prog 42 #[.pointer (some ⟨rb, 0, none⟩)] w fun e w' => e = .returned (.bool false) ∧ w = w' := by
  have H := Lib.hid h
  have HC := Lib.hid hc
  clear h hc
  go_enter Tryd.func42, Tryd.ntmps42
  go_wp2_with fail
  refine (next_err s rb p fl c HC.out _ H.out).mono ?_
  rintro e w1 ⟨rfl, rfl⟩
  go_wp2_with fail
  go_ret
  exact ⟨rfl, rfl⟩
set_option maxRecDepth 20000 in
set_option maxHeartbeats 2000000 in
theorem more_ok (s : ByteArray) (rb p : Nat) (fl : UInt8) (w : World) (hs : s.size ≤ 1000000000) (hp : p ≤ s.size) (h : w.heap[rb]? = some (KrCells s p fl 0)) :
    Calls Tryd.prog 42 #[.pointer (some ⟨rb, 0, none⟩)] w (MrPost rb s fl p w (moreE s fl p)) := by
  have H := Lib.hid h
  clear h
  obtain ⟨x, hx⟩ : ∃ x, nextE s fl p = x := ⟨_, rfl⟩
  have hR : moreE s fl p = moreK x := by unfold moreE; rw [hx]
  rw [hR]
  clear hR
  have HX := Lib.hid hx
  clear hx
  go_enter Tryd.func42, Tryd.ntmps42
  go_wp2_with fail
  refine (next_ok s rb p fl _ hs hp H.out).mono ?_
  rw [HX.out]
  rintro e w1 ⟨b, q, c, hq, rfl, h1, g1, ho, hz⟩
  have ck := blk_cell h1
  have cf := blk_free h1
  have hrb1 := blk_lt h1
  have H1 := Lib.hid h1
  have HG1 := Lib.hid g1
  clear h1 g1
  cases x with
  | error e0 =>
    obtain ⟨rfl, hc⟩ := ho
    obtain rfl := hz hc
    have HC := Lib.hid hc
    clear hc hz
    go_wp2_with fail
    go_ret
    exact ⟨false, q, c, hq, rfl, H1.out, HG1.out, ⟨rfl, HC.out⟩, fun _ => rfl⟩
  | ok y =>
    obtain ⟨b', q'⟩ := y
    obtain ⟨rfl, rfl, rfl⟩ := ho
    clear hz
    have hb := b'.toNat_lt
    by_cases h1 : 1 < b'.toNat
    · have d : decide (1 < (b'.toNat : Int)) = true := by simp; omega
      have d2 : ((b'.toNat : Int) == 1) = false := beq_eq_false_iff_ne.2 (by omega)
      have HM : Hid (moreK (.ok (b', q')) = .error 4) := by show _ = _; simp only [moreK, if_pos h1]
      go_wp2_with fail
      go_ret
      exact ⟨false, q', 4, hq, rfl, kr_set3 H1.out _, only_setCell HG1.out (.inl rfl) _, by rw [HM.out]; exact ⟨rfl, by omega⟩, fun _ => rfl⟩
    · have d : decide (1 < (b'.toNat : Int)) = false := by simp; omega
      have d2 : ((b'.toNat : Int) == 1) = decide (b'.toNat = 1) := by
        by_cases h : b'.toNat = 1
        · rw [h]; rfl
        · rw [decide_eq_false h]; exact beq_eq_false_iff_ne.2 (by omega)
      obtain ⟨bb, hbb⟩ : ∃ x, decide (b'.toNat = 1) = x := ⟨_, rfl⟩
      have HM : Hid (moreK (.ok (b', q')) = .ok (bb, q')) := by show _ = _; simp only [moreK, if_neg h1]; rw [hbb]
      rw [hbb] at d2
      clear hbb
      go_wp2_with fail
      go_ret
      exact ⟨bb, q', 0, hq, rfl, H1.out, HG1.out, by rw [HM.out]; exact ⟨rfl, rfl, rfl⟩, fun h => absurd rfl h⟩
end Go.Proofs.YtipphlhaaienpaaDoor
set_option linter.unusedSimpArgs false
set_option linter.unusedVariables false
namespace Go.Proofs.YtipphlhaaienpaaDoor
open Go.RowKit
def StPost (rb : Nat) (s : ByteArray) (fl : UInt8) (p : Nat) (w : World) (x : Except Int (List UInt8 × Nat)) (e : Ending) (w' : World) : Prop :=
  ∃ (l : List UInt8) (q : Nat) (c : Int), l.length ≤ s.size ∧ (p ≤ q ∧ q ≤ s.size) ∧ e = .returned (.string ⟨l.toArray⟩) ∧ w'.heap[rb]? = some (KrCells s q fl c) ∧ w.grownBy w' (some rb) ∧ Out x l q c
/-- where the reader stands -/
def posOf (rb : Nat) (w : World) : Nat := (intOf ((w.cell? ⟨rb, 1, none⟩).getD undef)).toNat
theorem posOf_kr {rb : Nat} {w : World} {s : ByteArray} {p : Nat} {fl : UInt8} {c : Int} (h : w.heap[rb]? = some (KrCells s p fl c)) : posOf rb w = p := by
  unfold posOf; rw [blk_cell h 1]; simp [intOf]
theorem Buf.only {w w' : World} {base : Nat} {v : Value} {l : List UInt8} {rb : Nat} (h : Buf w base v l) (g : w.grownBy w' (some rb)) (hr : rb < base) : Buf w' base v l := by
  refine World.ownsRow.kept h g ?_
  rcases h.2 with ⟨rfl, _⟩ | ⟨g', cap, cur, rfl, hb, _⟩
  · right; simp [Value.ownBlock]
  · right; simp only [Value.ownBlock, ne_eq, Option.some.injEq]; omega
theorem Keep.only {base rb : Nat} {a w w' : World} (k : Keep base w w') (g : a.grownBy w (some rb)) (h : a.heap.size ≤ base) : a.grownBy w' (some rb) :=
  ⟨k.os.trans g.os, k.tape.trans g.tape, k.output.trans g.output, Nat.le_trans g.size k.size, fun i hi hn => (k.block i (Nat.lt_of_lt_of_le hi g.size) (.inl (by omega))).trans (g.block i hi hn)⟩
theorem Keep.kr {base rb : Nat} {w w' : World} {s : ByteArray} {p : Nat} {fl : UInt8} {c : Int} (k : Keep base w w') (h : w.heap[rb]? = some (KrCells s p fl c)) : w'.heap[rb]? = some (KrCells s p fl c) := k.blk h (by decide)
theorem ret_str {a b : ByteArray} (h : a = b) : Ending.returned (.string a) = .returned (.string b) := by rw [h]
set_option maxRecDepth 20000 in
set_option maxHeartbeats 4000000 in
theorem name_ok (s : ByteArray) (rb p : Nat) (fl : UInt8) (w : World) (hs : s.size ≤ 1000000000) (hp : p ≤ s.size) (h : w.heap[rb]? = some (KrCells s p fl 0)) :
    Calls Tryd.prog 43 #[.pointer (some ⟨rb, 0, none⟩)] w (StPost rb s fl p w (nameE s fl (s.size + 1) p [])) := by
  have hrb := blk_lt h
  have H := Lib.hid h
  clear h
  obtain ⟨r, hr⟩ : ∃ r, nameE s fl (s.size + 1) p [] = r := ⟨_, rfl⟩
  rw [hr]
  have HR := Lib.hid hr
  clear hr
  go_enter Tryd.func43, Tryd.ntmps43
  go_wp2_with fail
  go_loopw [3] (fun b wr => ∃ (n q : Nat) (acc : List UInt8), p ≤ q ∧ q ≤ s.size ∧ s.size + 1 ≤ n + q ∧ acc.length ≤ q ∧ Hid (nameE s fl n q acc = r) ∧ Hid (wr.heap[rb]? = some (KrCells s q fl 0)) ∧ Hid (Buf wr w.heap.size b acc) ∧ Hid (w.grownBy wr (some rb))) (fun _ wr => s.size + 1 - posOf rb wr)
  case atStart => exact ⟨s.size + 1, p, [], Nat.le_refl _, hp, by omega, by simp, HR, H, Buf.nil _ _, World.grownBy.refl _ _⟩
  case round =>
    obtain ⟨n, q, acc, hpq, hq, hn, ha, HF, HBr, HBf, HGr⟩ := hrel
    obtain ⟨ad, ca, rfl⟩ := HBf.out.shape
    have HP := Lib.hid (posOf_kr HBr.out)
    obtain ⟨m, rfl⟩ : ∃ m, n = m + 1 := ⟨n - 1, by omega⟩
    have hF := HF.out
    simp only [nameE] at hF
    obtain ⟨x, hx⟩ : ∃ x, nextE s fl q = x := ⟨_, rfl⟩
    rw [hx] at hF
    have HX := Lib.hid hx
    have HF2 := Lib.hid hF
    have HQ := Lib.hid (fun b q' (he : x = .ok (b, q')) => nextE_ok (hx.trans he))
    have sr : w.heap.size ≤ wr.heap.size := HGr.out.size
    clear hF HF hx
    go_wp2_with fail
    refine (next_ok s rb q fl _ hs hq HBr.out).mono ?_
    rw [HX.out]
    rintro e w1 ⟨b, q1, c, ⟨hq0, hq1⟩, rfl, h1, g1, ho, hz⟩
    have ck := blk_cell h1
    have hrb1 := blk_lt h1
    have H1 := Lib.hid h1
    have HG1 := Lib.hid (only_trans HGr.out g1)
    have HBf1 := Lib.hid (HBf.out.only g1 hrb)
    have s1 : wr.heap.size ≤ w1.heap.size := g1.size
    clear h1 g1
    cases x with
    | error e0 =>
      obtain ⟨rfl, hc⟩ := ho
      have e := HF2.out
      simp only at e
      subst e
      have d : (c != 0) = true := by simpa using hc
      have HC := Lib.hid hc
      clear hc
      go_wp2_with fail
      go_ret
      exact ⟨[], q1, c, by simp, ⟨by omega, hq1⟩, rfl, H1.out, HG1.out, rfl, HC.out⟩
    | ok y =>
      obtain ⟨b', q'⟩ := y
      obtain ⟨rfl, rfl, rfl⟩ := ho
      obtain ⟨hq2, rfl, -⟩ := HQ.out b' q' rfl
      have hF := HF2.out
      simp only at hF
      clear hz HQ
      have hb := b'.toNat_lt
      by_cases h0 : b' = 0
      · rw [if_pos h0] at hF
        subst hF
        have d : ((b'.toNat : Int) == 0) = true := by rw [h0]; rfl
        have dz : b'.toNat = 0 := by rw [h0]; rfl
        have hcv := HBf1.out.str
        clear h0
        go_wp2_with fail
        go_ret
        exact ⟨acc, q + 1, 0, by omega, ⟨by omega, hq1⟩, rfl, H1.out, HG1.out, rfl, rfl, rfl⟩
      · rw [if_neg h0] at hF
        have HF3 := Lib.hid hF
        have d : ((b'.toNat : Int) == 0) = false := by
          rw [beq_eq_false_iff_ne]; intro e; exact h0 (UInt8.toNat_inj.1 (by simpa using e))
        have HL2 : Hid (acc.length + [b'].length ≤ 140737488355328) := by
          show _ ≤ _
          simp; omega
        clear h0 hF
        go_wp2_with (at_builtin; refine wpList_append_buf _ rfl _ _ rfl w.heap.size _ _ rfl (HBf1.out.alloc _) ⟨w1.heap.size, 0, none⟩ 1 1 [b'] rfl rfl (one_new _ _ _ rfl) HL2.out (by simp; omega) ?_)
        intro v4 w4 hb4 hk4
        obtain ⟨a4, ha4⟩ : ∃ x, acc ++ [b'] = x := ⟨_, rfl⟩
        rw [ha4] at hb4 HF3
        have hl4 : a4.length ≤ q + 1 := by rw [← ha4]; simp; omega
        have HB4 := Lib.hid hb4
        have H4 := Lib.hid (hk4.kr (blk_alloc H1.out _))
        have HG4 := Lib.hid (hk4.only (only_alloc HG1.out _) (Nat.le_refl _))
        clear ha4 hb4 hk4 ck
        obtain ⟨ad4, c4, rfl⟩ := HB4.out.shape
        go_wp2_with fail
        exact ⟨⟨m, q + 1, a4, by omega, hq1, by omega, hl4, HF3, H4, HB4, HG4⟩, by rw [posOf_kr H4.out, HP.out]; omega⟩
set_option maxRecDepth 20000 in
set_option maxHeartbeats 4000000 in
theorem text_ok (s : ByteArray) (rb p : Nat) (fl : UInt8) (w : World) (hs : s.size ≤ 1000000000) (hp : p ≤ s.size) (h : w.heap[rb]? = some (KrCells s p fl 0)) :
    Calls Tryd.prog 41 #[.pointer (some ⟨rb, 0, none⟩)] w (StPost rb s fl p w (textE s fl (s.size + 1) p [])) := by
  have hrb := blk_lt h
  have H := Lib.hid h
  clear h
  obtain ⟨r, hr⟩ : ∃ r, textE s fl (s.size + 1) p [] = r := ⟨_, rfl⟩
  rw [hr]
  have HR := Lib.hid hr
  clear hr
  go_enter Tryd.func41, Tryd.ntmps41
  go_wp2_with fail
  go_loopw [3] (fun b wr => ∃ (n q : Nat) (acc : List UInt8) (c : Int), p ≤ q ∧ q ≤ s.size ∧ s.size + 1 ≤ n + q ∧ acc.length ≤ q ∧ Hid ((c = 0 ∧ textE s fl n q acc = r) ∨ (c ≠ 0 ∧ r = .error c)) ∧ Hid (wr.heap[rb]? = some (KrCells s q fl c)) ∧ Hid (Buf wr w.heap.size b acc) ∧ Hid (w.grownBy wr (some rb))) (fun _ wr => s.size + 1 - posOf rb wr)
  case atStart => exact ⟨s.size + 1, p, [], 0, Nat.le_refl _, hp, by omega, by simp, Or.inl ⟨rfl, HR.out⟩, H, Buf.nil _ _, World.grownBy.refl _ _⟩
  case round =>
    obtain ⟨n, q, acc, c, hpq, hq, hn, ha, HF, HBr, HBf, HGr⟩ := hrel
    obtain ⟨ad, ca, rfl⟩ := HBf.out.shape
    have HP := Lib.hid (posOf_kr HBr.out)
    have ck := blk_cell HBr.out
    have hrbr := blk_lt HBr.out
    by_cases hc : c = 0
    case neg =>
      have hr : r = .error c := by
        rcases HF.out with ⟨h, _⟩ | ⟨_, h⟩
        · exact absurd h hc
        · exact h
      subst hr
      have d : (c == 0) = false := beq_eq_false_iff_ne.2 hc
      have HC := Lib.hid hc
      clear hc
      go_wp2_with fail
      go_ret
      exact ⟨[], q, c, by simp, ⟨hpq, hq⟩, rfl, HBr.out, HGr.out, rfl, HC.out⟩
    subst hc
    have hF0 : textE s fl n q acc = r := by
      rcases HF.out with ⟨_, h⟩ | ⟨h, _⟩
      · exact h
      · exact absurd rfl h
    obtain ⟨m, rfl⟩ : ∃ m, n = m + 1 := ⟨n - 1, by omega⟩
    simp only [textE] at hF0
    obtain ⟨x, hx⟩ : ∃ x, nextE s fl q = x := ⟨_, rfl⟩
    rw [hx] at hF0
    have HX := Lib.hid hx
    have HF2 := Lib.hid hF0
    have HQ := Lib.hid (fun b q' (he : x = .ok (b, q')) => nextE_ok (hx.trans he))
    have sr : w.heap.size ≤ wr.heap.size := HGr.out.size
    clear hF0 HF hx
    go_wp2_with fail
    clear ck
    refine (next_ok s rb q fl _ hs hq HBr.out).mono ?_
    rw [HX.out]
    rintro e w1 ⟨b, q1, c, ⟨hq0, hq1⟩, rfl, h1, g1, ho, hz⟩
    have ck := blk_cell h1
    have hrb1 := blk_lt h1
    have H1 := Lib.hid h1
    have HG1 := Lib.hid (only_trans HGr.out g1)
    have HBf1 := Lib.hid (HBf.out.only g1 hrb)
    have s1 : wr.heap.size ≤ w1.heap.size := g1.size
    clear h1 g1
    cases x with
    | error e0 =>
      obtain ⟨rfl, hc⟩ := ho
      have e := HF2.out
      simp only at e
      subst e
      have d : (c != 0) = true := by simpa using hc
      have HC := Lib.hid hc
      clear hc
      go_wp2_with fail
      go_ret
      exact ⟨[], q1, c, by simp, ⟨by omega, hq1⟩, rfl, H1.out, HG1.out, rfl, HC.out⟩
    | ok y =>
      obtain ⟨b', q'⟩ := y
      obtain ⟨rfl, rfl, rfl⟩ := ho
      obtain ⟨hq2, rfl, -⟩ := HQ.out b' q' rfl
      have hF := HF2.out
      simp only at hF
      clear hz HQ
      have hb := b'.toNat_lt
      by_cases h0 : b' = 0
      case neg =>
        rw [if_pos h0] at hF
        have HF3 := Lib.hid hF
        have d : ((b'.toNat : Int) != 0) = true := by
          rw [bne_iff_ne]; intro e; exact h0 (UInt8.toNat_inj.1 (by simpa using e))
        have HL2 : Hid (acc.length + [b'].length ≤ 140737488355328) := by
          show _ ≤ _
          simp; omega
        clear h0 hF
        go_wp2_with (at_builtin; refine wpList_append_buf _ rfl _ _ rfl w.heap.size _ _ rfl (HBf1.out.alloc _) ⟨w1.heap.size, 0, none⟩ 1 1 [b'] rfl rfl (one_new _ _ _ rfl) HL2.out (by simp; omega) ?_)
        intro v4 w4 hb4 hk4
        obtain ⟨a4, ha4⟩ : ∃ x, acc ++ [b'] = x := ⟨_, rfl⟩
        rw [ha4] at hb4 HF3
        have hl4 : a4.length ≤ q + 1 := by rw [← ha4]; simp; omega
        have HB4 := Lib.hid hb4
        have H4 := Lib.hid (hk4.kr (blk_alloc H1.out _))
        have HG4 := Lib.hid (hk4.only (only_alloc HG1.out _) (Nat.le_refl _))
        clear ha4 hb4 hk4 ck
        obtain ⟨ad4, c4, rfl⟩ := HB4.out.shape
        go_wp2_with fail
        exact ⟨⟨m, q + 1, a4, 0, by omega, hq1, by omega, hl4, Or.inl ⟨rfl, HF3.out⟩, H4, HB4, HG4⟩, by rw [posOf_kr H4.out, HP.out]; omega⟩
      rw [if_neg (by simpa using h0)] at hF
      obtain ⟨x2, hx2⟩ : ∃ x, nextE s fl (q + 1) = x := ⟨_, rfl⟩
      rw [hx2] at hF
      have HX2 := Lib.hid hx2
      have HF3 := Lib.hid hF
      have HQ2 := Lib.hid (fun b q' (he : x2 = .ok (b, q')) => nextE_ok (hx2.trans he))
      have d : ((b'.toNat : Int) != 0) = false := by rw [h0]; rfl
      have dz : b'.toNat = 0 := by rw [h0]; rfl
      clear hF hx2 h0
      go_wp2_with fail
      clear ck
      refine (next_ok s rb (q + 1) fl _ hs hq1 H1.out).mono ?_
      rw [HX2.out]
      rintro e w2 ⟨b2, q2, c2, ⟨hq20, hq2'⟩, rfl, h2, g2, ho2, hz2⟩
      have ck := blk_cell h2
      have cf := blk_free h2
      have hrb2 := blk_lt h2
      have H2 := Lib.hid h2
      have HG2 := Lib.hid (only_trans HG1.out g2)
      have HBf2 := Lib.hid (HBf1.out.only g2 hrb)
      have s2 : w1.heap.size ≤ w2.heap.size := g2.size
      clear h2 g2
      cases x2 with
      | error e0 =>
        obtain ⟨rfl, hc⟩ := ho2
        have e := HF3.out
        simp only at e
        subst e
        have d : (c2 != 0) = true := by simpa using hc
        have HC := Lib.hid hc
        clear hc
        go_wp2_with fail
        go_ret
        exact ⟨[], q2, c2, by simp, ⟨by omega, hq2'⟩, rfl, H2.out, HG2.out, rfl, HC.out⟩
      | ok y2 =>
        obtain ⟨b3, q3⟩ := y2
        obtain ⟨rfl, rfl, rfl⟩ := ho2
        obtain ⟨hq3, rfl, -⟩ := HQ2.out b3 q3 rfl
        have hF := HF3.out
        simp only at hF
        clear hz2 HQ2
        have hb3 := b3.toNat_lt
        by_cases h3 : b3 = 0
        · rw [if_pos h3] at hF
          subst hF
          have d : ((b3.toNat : Int) == 0) = true := by rw [h3]; rfl
          have dz3 : b3.toNat = 0 := by rw [h3]; rfl
          have hcv := HBf2.out.str
          clear h3
          go_wp2_with fail
          go_ret
          exact ⟨acc, q + 1 + 1, 0, by omega, ⟨by omega, hq2'⟩, rfl, H2.out, HG2.out, rfl, rfl, rfl⟩
        rw [if_neg h3] at hF
        have d : ((b3.toNat : Int) == 0) = false := by
          rw [beq_eq_false_iff_ne]; intro e; exact h3 (UInt8.toNat_inj.1 (by simpa using e))
        have HL2 : Hid (acc.length + [(0 : UInt8)].length ≤ 140737488355328) := by
          show _ ≤ _
          simp; omega
        by_cases h4 : b3 = 255
        · rw [if_neg (by simpa using h4)] at hF
          have HF4 := Lib.hid hF
          have d2 : ((b3.toNat : Int) != 255) = false := by rw [h4]; rfl
          have dz3 : b3.toNat = 255 := by rw [h4]; rfl
          clear h3 h4 hF
          go_wp2_with (at_builtin; refine wpList_append_buf _ rfl _ _ rfl w.heap.size _ _ rfl (HBf2.out.alloc _) ⟨w2.heap.size, 0, none⟩ 1 1 [0] rfl rfl (one_new _ _ _ rfl) HL2.out (by simp; omega) ?_)
          intro v4 w4 hb4 hk4
          obtain ⟨a4, ha4⟩ : ∃ x, acc ++ [0] = x := ⟨_, rfl⟩
          rw [ha4] at hb4 HF4
          have hl4 : a4.length ≤ q + 1 + 1 := by rw [← ha4]; simp; omega
          have HB4 := Lib.hid hb4
          have H4 := Lib.hid (hk4.kr (blk_alloc H2.out _))
          have HG4 := Lib.hid (hk4.only (only_alloc HG2.out _) (Nat.le_refl _))
          clear ha4 hb4 hk4 ck cf
          obtain ⟨ad4, c4, rfl⟩ := HB4.out.shape
          go_wp2_with fail
          exact ⟨⟨m, q + 1 + 1, a4, 0, by omega, hq2', by omega, hl4, Or.inl ⟨rfl, HF4.out⟩, H4, HB4, HG4⟩, by rw [posOf_kr H4.out, HP.out]; omega⟩
        · rw [if_pos h4] at hF
          subst hF
          have d2 : ((b3.toNat : Int) != 255) = true := by
            rw [bne_iff_ne]; intro e; exact h4 (UInt8.toNat_inj.1 (by show b3.toNat = 255; omega))
          have HBf3 := Lib.hid (HBf2.out.far (p := ⟨rb, 3, none⟩) H2.out (by decide) (.int .i64 4))
          have H3 := Lib.hid (kr_set3 H2.out 4)
          have HG3 := Lib.hid (only_setCell HG2.out (p := ⟨rb, 3, none⟩) (.inl rfl) (.int .i64 4))
          clear h3 h4
          go_wp2_with (at_builtin; refine wpList_append_buf _ rfl _ _ rfl w.heap.size _ _ rfl (HBf3.out.alloc _) ⟨w2.heap.size, 0, none⟩ 1 1 [0] rfl rfl (one_newg _ _ (by simp [World.setCell]) _ _ rfl) HL2.out (by simp [World.setCell]; omega) ?_)
          intro v4 w4 hb4 hk4
          obtain ⟨a4, ha4⟩ : ∃ x, acc ++ [0] = x := ⟨_, rfl⟩
          rw [ha4] at hb4
          have hl4 : a4.length ≤ q + 1 + 1 := by rw [← ha4]; simp; omega
          have HB4 := Lib.hid hb4
          have H4 := Lib.hid (hk4.kr (blk_alloc H3.out _))
          have HG4 := Lib.hid (hk4.only (only_alloc HG3.out _) (Nat.le_refl _))
          clear ha4 hb4 hk4 ck cf
          obtain ⟨ad4, c4, rfl⟩ := HB4.out.shape
          go_wp2_with fail
          exact ⟨⟨m, q + 1 + 1, a4, 4, by omega, hq2', by omega, hl4, Or.inr ⟨by omega, rfl⟩, H4, HB4, HG4⟩, by rw [posOf_kr H4.out, HP.out]; omega⟩
end Go.Proofs.YtipphlhaaienpaaDoor
set_option linter.unusedSimpArgs false
set_option linter.unusedVariables false
namespace Go.Proofs.YtipphlhaaienpaaDoor
open Go.RowKit
def KvPost (rb : Nat) (s : ByteArray) (fl : UInt8) (p : Nat) (w : World) (x : Except Int (Tr × Nat)) (e : Ending) (w' : World) : Prop :=
  ∃ (t : Tr) (v : Value) (q : Nat) (c : Int), e = .returned v ∧ VNew w.heap.size w'.heap.size w' t v ∧ (p ≤ q ∧ q ≤ s.size) ∧ w'.heap[rb]? = some (KrCells s q fl c) ∧ w.grownBy w' (some rb) ∧ Out x t q c
def KvOk (s : ByteArray) (fl : UInt8) (d : Nat) : Prop := ∀ (rb p : Nat) (c : Int) (lv : Int) (w : World), lv = 17 - d → p ≤ s.size → w.heap[rb]? = some (KrCells s p fl c) →
  Calls Tryd.prog 27 #[.pointer (some ⟨rb, 0, none⟩), .int .i64 lv] w (KvPost rb s fl p w (if c = 0 then kvE s fl d p else .error c))
theorem Same.refl (lo : Nat) (w : World) : Same lo w w := fun _ _ _ => rfl
theorem Same.setCell {lo : Nat} {a w : World} (h : Same lo a w) {p : Addr} (hp : p.block < lo) (u : Value) : Same lo a (w.setCell p u) := fun i hi hl => (Below.heap_setCell w p u i (by rintro rfl; omega)).trans (h i hi hl)
theorem Same.drew {lo : Nat} {a w : World} (h : Same lo a w) : Same lo a w.drew := h
theorem Same.only {lo : Nat} {a w w' : World} {g : Nat} (h : Same lo a w) (hs : a.heap.size ≤ w.heap.size) (k : w.grownBy w' (some g)) (hg : g < lo) : Same lo a w' := fun i hi hl => (k.block i (by omega) (by intro e; injection e with e; omega)).trans (h i hi hl)
theorem VAcc.value {lo w0 hi : Nat} {w w' : World} {x : Value} {ts : List Tr} (h : VAcc lo w x ts) (hk : Same lo w w') (h0 : w0 ≤ lo) (hh : w.heap.size ≤ hi) (hl : ts.length * 80 ≤ 140737488351232) :
    VNew w0 hi w' (.mk 6 0 ⟨#[]⟩ ts [] []) (.agg #[.int .i64 6, .int .i64 0, .string ⟨#[]⟩, x, .slice none 0 0]) := by
  obtain ⟨a, c, rfl, h1, h2, h3⟩ := h.lrep hh
  unfold VNew VRep
  refine ⟨a, c, none, 0, rfl, ⟨by unfold maxLen; decide, by unfold I64; omega, by unfold I64; omega⟩, ⟨h1, hl⟩, h2, ⟨Nat.le_refl _, by simp⟩, by unfold maxLen; omega, rfl, ?_, by unfold DRep; trivial⟩
  exact LRep.sub (sub_win (fun i hF hi => ⟨⟨by omega, hF.2⟩, hk i hF.1 hi⟩)) _ _ _ h3
theorem FAcc.value {lo w0 hi : Nat} {w w' : World} {x : Value} {ns : List ByteArray} {ts : List Tr} (h : FAcc lo w x ns ts) (hk : Same lo w w') (h0 : w0 ≤ lo) (hh : w.heap.size ≤ hi) (hl : ts.length * 96 ≤ 140737488351232) :
    VNew w0 hi w' (.mk 5 0 ⟨#[]⟩ [] ns ts) (.agg #[.int .i64 5, .int .i64 0, .string ⟨#[]⟩, .slice none 0 0, x]) := by
  have hln : ns.length = ts.length := by obtain ⟨cs, _, h2⟩ := h; exact FCells.len _ _ _ h2
  obtain ⟨a, c, rfl, h1, h2, h3⟩ := h.drep hh
  unfold VNew VRep
  refine ⟨none, 0, a, c, rfl, ⟨by unfold maxLen; decide, by unfold I64; omega, by unfold I64; omega⟩, ⟨Nat.le_refl _, by simp⟩, by unfold maxLen; omega, ⟨h1, hl⟩, h2, hln, by unfold LRep; trivial, ?_⟩
  exact DRep.sub (sub_win (fun i hF hi => ⟨⟨by omega, hF.2⟩, hk i hF.1 hi⟩)) _ _ _ _ h3
theorem or_u64 (y : Nat) (b : UInt8) (h : y < 72057594037927936) : bits .or .u64 ((y : Int) * 256) (b.toNat : Int) = ((y * 256 + b.toNat : Nat) : Int) := by
  have hb := b.toNat_lt
  show IntKind.u64.wrap ((BitVec.ofInt 64 ((y : Int) * 256) ||| BitVec.ofInt 64 (b.toNat : Int)).toNat : Int) = _
  rw [BitVec.toNat_or]
  have h1 : (BitVec.ofInt 64 ((y : Int) * 256)).toNat = y * 256 := by rw [BitVec.toNat_ofInt]; omega
  have h2 : (BitVec.ofInt 64 (b.toNat : Int)).toNat = b.toNat := by rw [BitVec.toNat_ofInt]; omega
  rw [h1, h2, Nat.mul_comm y 256, show (256 : Nat) = 2 ^ 8 from rfl, ← Nat.two_pow_add_eq_or_of_lt (by omega)]
  simp [IntKind.wrap, IntKind.bits, IntKind.signed]
  omega
theorem or_u64w (y : Nat) (b : UInt8) (h : y < 72057594037927936) : bits .or .u64 ((y : Int) * 256) (IntKind.u64.wrap (b.toNat : Int)) = ((y * 256 + b.toNat : Nat) : Int) := by
  rw [show IntKind.u64.wrap (b.toNat : Int) = (b.toNat : Int) by rw [wrap_u64_eq]; have := b.toNat_lt; omega]; exact or_u64 y b h
theorem unx63 (y : Nat) (h : y < 18446744073709551616) : IntKind.i64.wrap (bits .xor .u64 (y : Int) 9223372036854775808) = (y : Int) - 9223372036854775808 := by
  have h2 : ∀ x : Nat, x < 9223372036854775808 → x ^^^ 9223372036854775808 = x + 9223372036854775808 := fun x hx => by
    have hI : I64 (x : Int) := by unfold I64; omega
    have := xor63 (x : Int) hI
    rw [show IntKind.u64.wrap (x : Int) = (x : Int) by rw [wrap_u64_eq]; omega, show (9223372036854775808 : Int) = ((9223372036854775808 : Nat) : Int) from rfl, bits_xor_u64_nat _ _ (by omega) (by omega)] at this
    have e : uOf (x : Int) = x + 9223372036854775808 := by unfold uOf; omega
    rw [e] at this
    exact_mod_cast this
  rw [show (9223372036854775808 : Int) = ((9223372036854775808 : Nat) : Int) from rfl, bits_xor_u64_nat _ _ (by omega) (by omega)]
  have hw : ∀ z : Nat, z < 18446744073709551616 → IntKind.i64.wrap (z : Int) = if z < 9223372036854775808 then (z : Int) else (z : Int) - 18446744073709551616 := fun z hz => by
    simp [IntKind.wrap, IntKind.bits, IntKind.signed]
    split <;> omega
  by_cases hy : y < 9223372036854775808
  · rw [h2 y hy, hw _ (by omega), if_neg (by omega)]; omega
  · have e : y = (y - 9223372036854775808) + 9223372036854775808 := by omega
    have e2 : y ^^^ 9223372036854775808 = y - 9223372036854775808 := by
      have e3 : (y - 9223372036854775808) ^^^ 9223372036854775808 = y := by rw [h2 _ (by omega)]; omega
      have e4 : ((y - 9223372036854775808) ^^^ 9223372036854775808) ^^^ 9223372036854775808 = y - 9223372036854775808 := by rw [Nat.xor_assoc, Nat.xor_self, Nat.xor_zero]
      rw [e3] at e4
      exact e4
    rw [e2, hw _ (by omega), if_pos (by omega)]; omega
theorem out_num {k : Nat} {x : Except Int (Nat × Nat)} {y q : Nat} {c : Int} (h : Out x y q c) : Out (numT k x) (kLeaf k ((y : Int) - 9223372036854775808) ⟨#[]⟩) q c := by
  cases x with
  | error e => exact h
  | ok z => obtain ⟨a, b⟩ := z; obtain ⟨rfl, rfl, rfl⟩ := h; exact ⟨rfl, rfl, rfl⟩
theorem out_txt {k : Nat} {x : Except Int (List UInt8 × Nat)} {l : List UInt8} {q : Nat} {c : Int} (h : Out x l q c) : Out (textT k x) (kLeaf k 0 ⟨l.toArray⟩) q c := by
  cases x with
  | error e => exact h
  | ok z => obtain ⟨a, b⟩ := z; obtain ⟨rfl, rfl, rfl⟩ := h; exact ⟨rfl, rfl, rfl⟩
def NRel (s : ByteArray) (fl : UInt8) (r : Except Int (Nat × Nat)) (n q y : Nat) (c : Int) : Prop := (c = 0 ∧ numN s fl n q y = r) ∨ (c ≠ 0 ∧ r = .error c)
theorem NRel.step {s : ByteArray} {fl : UInt8} {r : Except Int (Nat × Nat)} {n q y : Nat} (h : NRel s fl r (n + 1) q y 0) {b : UInt8} {q' : Nat} {c : Int} (ho : Out (nextE s fl q) b q' c) : NRel s fl r n q' (y * 256 + b.toNat) c := by
  rcases h with ⟨_, h⟩ | ⟨h, _⟩
  · simp only [numN] at h
    cases hx : nextE s fl q with
    | error e => rw [hx] at h ho; obtain ⟨rfl, hc⟩ := ho; exact .inr ⟨hc, h.symm⟩
    | ok z => obtain ⟨a, b⟩ := z; rw [hx] at h ho; obtain ⟨rfl, rfl, rfl⟩ := ho; exact .inl ⟨rfl, h⟩
  · exact absurd rfl h
theorem NRel.err {s : ByteArray} {fl : UInt8} {r : Except Int (Nat × Nat)} {n q y : Nat} {c : Int} (h : NRel s fl r n q y c) (hc : c ≠ 0) (n' q' y' : Nat) : NRel s fl r n' q' y' c := by
  rcases h with ⟨h, _⟩ | h
  · exact absurd h hc
  · exact .inr h
theorem NRel.done {s : ByteArray} {fl : UInt8} {r : Except Int (Nat × Nat)} {q y : Nat} {c : Int} (h : NRel s fl r 0 q y c) : Out r y q c := by
  rcases h with ⟨rfl, h⟩ | ⟨hc, rfl⟩
  · rw [← h]; exact ⟨rfl, rfl, rfl⟩
  · exact ⟨rfl, hc⟩
def LRelK (s : ByteArray) (fl : UInt8) (f : Nat → Except Int (Tr × Nat)) (r : Except Int (Tr × Nat)) (n q : Nat) (ts : List Tr) (c : Int) : Prop := (c = 0 ∧ listT (klistE s fl f n q ts) = r) ∨ (c ≠ 0 ∧ r = .error c)
def DRelK (s : ByteArray) (fl : UInt8) (f : Nat → Except Int (Tr × Nat)) (r : Except Int (Tr × Nat)) (n q : Nat) (ns : List ByteArray) (ts : List Tr) (c : Int) : Prop := (c = 0 ∧ docT (kdocE s fl f n q ns ts) = r) ∨ (c ≠ 0 ∧ r = .error c)
theorem moreE_ok {s : ByteArray} {fl : UInt8} {p : Nat} {b : Bool} {q : Nat} (h : moreE s fl p = .ok (b, q)) : q = p + 1 := by
  unfold moreE at h
  cases hx : nextE s fl p with
  | error e => rw [hx] at h; cases h
  | ok z =>
    obtain ⟨a, q'⟩ := z
    rw [hx] at h
    simp only [moreK] at h
    split at h
    · cases h
    · injection h with h; injection h with h1 h2; rw [← h2]; exact (nextE_ok hx).2.1
section
variable {s : ByteArray} {fl : UInt8} {f : Nat → Except Int (Tr × Nat)} {r : Except Int (Tr × Nat)}
theorem LRelK.stop {n q : Nat} {ts : List Tr} (h : LRelK s fl f r (n + 1) q ts 0) {q' : Nat} {c : Int} (ho : Out (moreE s fl q) false q' c) : Out r (.mk 6 0 ⟨#[]⟩ ts [] []) q' c := by
  rcases h with ⟨_, h⟩ | ⟨h, _⟩
  · simp only [klistE] at h
    cases hx : moreE s fl q with
    | error e => rw [hx] at h ho; rw [← h]; exact ho
    | ok z => obtain ⟨a, b⟩ := z; rw [hx] at h ho; obtain ⟨rfl, rfl, rfl⟩ := ho; rw [← h]; exact ⟨rfl, rfl, rfl⟩
  · exact absurd rfl h
theorem LRelK.bad {n q : Nat} {ts : List Tr} {c : Int} (h : LRelK s fl f r n q ts c) (hc : c ≠ 0) (t : Tr) : Out r t q c := by
  rcases h with ⟨h, _⟩ | ⟨_, rfl⟩
  · exact absurd h hc
  · exact ⟨rfl, hc⟩
theorem LRelK.go {n q : Nat} {ts : List Tr} (h : LRelK s fl f r (n + 1) q ts 0) {q' : Nat} {c : Int} (ho : Out (moreE s fl q) true q' c) (hb : c ≠ 0 → true = false) {t : Tr} {q5 : Nat} {c5 : Int} (h5 : Out (f q') t q5 c5) : c = 0 ∧ q' = q + 1 ∧ LRelK s fl f r n q5 (ts ++ [t]) c5 := by
  rcases h with ⟨_, h⟩ | ⟨h, _⟩
  · simp only [klistE] at h
    cases hx : moreE s fl q with
    | error e => rw [hx] at ho; exact absurd (hb ho.2) (by simp)
    | ok z =>
      obtain ⟨a, b⟩ := z
      rw [hx] at h ho
      obtain ⟨rfl, rfl, rfl⟩ := ho
      refine ⟨rfl, moreE_ok hx, ?_⟩
      simp only at h
      cases hy : f b with
      | error e => rw [hy] at h h5; obtain ⟨rfl, hc⟩ := h5; exact .inr ⟨hc, h.symm⟩
      | ok z => obtain ⟨t', q''⟩ := z; rw [hy] at h h5; obtain ⟨rfl, rfl, rfl⟩ := h5; exact .inl ⟨rfl, h⟩
  · exact absurd rfl h
theorem DRelK.stop {n q : Nat} {ns : List ByteArray} {ts : List Tr} (h : DRelK s fl f r (n + 1) q ns ts 0) {q' : Nat} {c : Int} (ho : Out (moreE s fl q) false q' c) : Out r (.mk 5 0 ⟨#[]⟩ [] ns ts) q' c := by
  rcases h with ⟨_, h⟩ | ⟨h, _⟩
  · simp only [kdocE] at h
    cases hx : moreE s fl q with
    | error e => rw [hx] at h ho; rw [← h]; exact ho
    | ok z => obtain ⟨a, b⟩ := z; rw [hx] at h ho; obtain ⟨rfl, rfl, rfl⟩ := ho; rw [← h]; exact ⟨rfl, rfl, rfl⟩
  · exact absurd rfl h
theorem DRelK.bad {n q : Nat} {ns : List ByteArray} {ts : List Tr} {c : Int} (h : DRelK s fl f r n q ns ts c) (hc : c ≠ 0) (t : Tr) : Out r t q c := by
  rcases h with ⟨h, _⟩ | ⟨_, rfl⟩
  · exact absurd h hc
  · exact ⟨rfl, hc⟩
theorem DRelK.go {n q : Nat} {ns : List ByteArray} {ts : List Tr} (h : DRelK s fl f r (n + 1) q ns ts 0) {q' : Nat} (ho : Out (moreE s fl q) true q' 0) {l : List UInt8} {q1 : Nat} {c1 : Int} (hn : Out (nameE s fl (s.size + 1) q' []) l q1 c1) {t : Tr} {q5 : Nat} {c5 : Int} (h5 : Out (if c1 = 0 then f q1 else .error c1) t q5 c5) : DRelK s fl f r n q5 (ns ++ [⟨l.toArray⟩]) (ts ++ [t]) c5 := by
  rcases h with ⟨_, h⟩ | ⟨h, _⟩
  · simp only [kdocE] at h
    cases hx : moreE s fl q with
    | error e => rw [hx] at ho; exact absurd rfl ho.2
    | ok z =>
      obtain ⟨a, b⟩ := z
      rw [hx] at h ho
      obtain ⟨rfl, rfl, _⟩ := ho
      simp only at h
      cases hy : nameE s fl (s.size + 1) b [] with
      | error e =>
        rw [hy] at h hn
        obtain ⟨rfl, hc⟩ := hn
        rw [if_neg hc] at h5
        obtain ⟨rfl, hc⟩ := h5
        exact .inr ⟨hc, h.symm⟩
      | ok z =>
        obtain ⟨l', q2⟩ := z
        rw [hy] at h hn
        obtain ⟨rfl, rfl, rfl⟩ := hn
        rw [if_pos rfl] at h5
        simp only at h
        cases hv : f q2 with
        | error e => rw [hv] at h h5; obtain ⟨rfl, hc⟩ := h5; exact .inr ⟨hc, h.symm⟩
        | ok z => obtain ⟨t', q''⟩ := z; rw [hv] at h h5; obtain ⟨rfl, rfl, rfl⟩ := h5; exact .inl ⟨rfl, h⟩
  · exact absurd rfl h
end
set_option maxRecDepth 20000 in
set_option maxHeartbeats 4000000 in
theorem kv_err (s : ByteArray) (fl : UInt8) (rb p : Nat) (c lv : Int) (w : World) (hc : c ≠ 0) (hp : p ≤ s.size) (h : w.heap[rb]? = some (KrCells s p fl c)) :
    Calls Tryd.prog 27 #[.pointer (some ⟨rb, 0, none⟩), .int .i64 lv] w (KvPost rb s fl p w (.error c)) := by
  have hrb := blk_lt h
  have H := Lib.hid h
  have HC := Lib.hid hc
  have hne : rb ≠ w.heap.size := by omega
  have d1 : (c != 0) = true := by simpa using hc
  have ck := blk_cell h
  clear h hc
  go_enter Tryd.func27, Tryd.ntmps27
  go_wp2_with fail
  refine (next_err s rb p fl c HC.out _ (blk_alloc H.out _)).mono ?_
  rintro e w3 ⟨rfl, rfl⟩
  go_wp2_with fail
  refine bodyPost_ret (v := .agg #[.int .i64 0, .int .i64 0, .string ⟨#[]⟩, .slice none 0 0, .slice none 0 0]) (by simp only [results, Tryd.results27]; go_simp) rfl ⟨_, _, p, c, rfl, VNew.leaf _ _ _ _ _ _ (by first | assumption | (unfold I64; omega)) (by first | assumption | (unfold I64; omega)) (by first | assumption | (unfold maxLen; decide)), ⟨Nat.le_refl _, hp⟩, ?_, ?_, ⟨rfl, HC.out⟩⟩
  · exact (by repeat (first | with_reducible exact H.out |  with_reducible refine blk_alloc ?_ _ | ((with_reducible refine blk_far ?_ ?_ _); rotate_left; (· first | (simp; done) | (simp; omega) | omega))))
  · exact (by repeat (first | with_reducible exact World.grownBy.refl _ _ | with_reducible refine only_drew ?_ | with_reducible refine only_alloc ?_ _ | with_reducible refine only_setCell ?_ (.inl rfl) _ | ((with_reducible refine only_setCell ?_ (.inr ?_) _); rotate_left; (· first | exact Nat.le_refl _ | omega | (simp; done) | (simp; omega)))))
set_option maxRecDepth 20000 in
set_option maxHeartbeats 4000000 in
theorem kv_short (s : ByteArray) (fl : UInt8) (d rb p : Nat) (lv : Int) (w : World) (hs : s.size ≤ 1000000000) (hlv : lv = 17 - d) (hd : d ≤ 16) (hp : p ≤ s.size) (h : w.heap[rb]? = some (KrCells s p fl 0)) (e0 : Int) (hx : nextE s fl p = .error e0) :
    Calls Tryd.prog 27 #[.pointer (some ⟨rb, 0, none⟩), .int .i64 lv] w (KvPost rb s fl p w (.error e0)) := by
  have HX := Lib.hid hx
  clear hx
  have hrb := blk_lt h
  have H := Lib.hid h
  have hne : rb ≠ w.heap.size := by omega
  have HLV := Lib.hid hlv
  have hlv1 : 0 ≤ lv ∧ lv ≤ 17 := by omega
  clear hlv h
  go_enter Tryd.func27, Tryd.ntmps27
  go_wp2_with fail
  have HG2 : Hid (w.grownBy (w.alloc (.cells #[.int .i64 0, .int .i64 0, .string ⟨#[]⟩, .slice none 0 0, .slice none 0 0] 41)) (some rb)) := only_alloc (World.grownBy.refl _ _) _
  have HA2 := Lib.hid (blk_at0 w (.cells #[.int .i64 0, .int .i64 0, .string ⟨#[]⟩, .slice none 0 0, .slice none 0 0] 41))
  refine (next_ok s rb p fl _ hs hp (blk_alloc H.out _)).mono ?_
  rw [HX.out]
  rintro e w3 ⟨b1, q1, c1, ⟨hq0, hq1⟩, rfl, hb3, g3, ho, hz⟩
  obtain ⟨rfl, hc⟩ := ho
  have d1 : (c1 != 0) = true := by simpa using hc
  have HC := Lib.hid hc
  clear hc hz
  have HB3 := Lib.hid hb3
  have HG3 := Lib.hid (only_trans HG2.out g3)
  have HA3 := Lib.hid (blk_only HA2.out g3 hne.symm)
  have s3 : w.heap.size < w3.heap.size := by have := g3.size; simp at this; omega
  have r3 : rb < w3.heap.size := by omega
  clear hb3 g3 HG2 HA2 H
  have ck := blk_cell HB3.out
  have cf := blk_free HB3.out
  have ca := blk_cell HA3.out
  have fa := blk_free HA3.out
  go_wp2_with fail
  refine bodyPost_ret (v := .agg #[.int .i64 0, .int .i64 0, .string ⟨#[]⟩, .slice none 0 0, .slice none 0 0]) (by simp only [results, Tryd.results27]; go_simp) rfl ⟨_, _, q1, c1, rfl, VNew.leaf _ _ _ _ _ _ (by first | assumption | (unfold I64; omega)) (by first | assumption | (unfold I64; omega)) (by first | assumption | (unfold maxLen; decide)), ⟨hq0, hq1⟩, ?_, ?_, ⟨rfl, HC.out⟩⟩
  · exact (by repeat (first | with_reducible exact HB3.out |  with_reducible refine blk_alloc ?_ _ | ((with_reducible refine blk_far ?_ ?_ _); rotate_left; (· first | (simp; done) | (simp; omega) | omega))))
  · exact (by repeat (first | with_reducible exact HG3.out | with_reducible refine only_drew ?_ | with_reducible refine only_alloc ?_ _ | with_reducible refine only_setCell ?_ (.inl rfl) _ | ((with_reducible refine only_setCell ?_ (.inr ?_) _); rotate_left; (· first | exact Nat.le_refl _ | omega | (simp; done) | (simp; omega)))))
set_option maxRecDepth 20000 in
set_option maxHeartbeats 4000000 in
theorem kv_deep (s : ByteArray) (fl : UInt8) (d rb p : Nat) (lv : Int) (w : World) (hs : s.size ≤ 1000000000) (hlv : lv = 17 - d) (hd : d ≤ 16) (hp : p ≤ s.size) (h : w.heap[rb]? = some (KrCells s p fl 0)) (b : UInt8) (hx : nextE s fl p = .ok (b, p + 1)) (hd0 : d = 0) :
    Calls Tryd.prog 27 #[.pointer (some ⟨rb, 0, none⟩), .int .i64 lv] w (KvPost rb s fl p w (.error 4)) := by
  have HX := Lib.hid hx
  clear hx
  subst hd0
  have hrb := blk_lt h
  have H := Lib.hid h
  have hne : rb ≠ w.heap.size := by omega
  have d0 : decide (16 < lv) = true := by simp; omega
  have HLV := Lib.hid hlv
  have hlv1 : 0 ≤ lv ∧ lv ≤ 17 := by omega
  clear hlv h
  go_enter Tryd.func27, Tryd.ntmps27
  go_wp2_with fail
  have HG2 : Hid (w.grownBy (w.alloc (.cells #[.int .i64 0, .int .i64 0, .string ⟨#[]⟩, .slice none 0 0, .slice none 0 0] 41)) (some rb)) := only_alloc (World.grownBy.refl _ _) _
  have HA2 := Lib.hid (blk_at0 w (.cells #[.int .i64 0, .int .i64 0, .string ⟨#[]⟩, .slice none 0 0, .slice none 0 0] 41))
  refine (next_ok s rb p fl _ hs hp (blk_alloc H.out _)).mono ?_
  rw [HX.out]
  rintro e w3 ⟨b1, q1, c1, ⟨hq0, hq1⟩, rfl, hb3, g3, ho, hz⟩
  obtain ⟨rfl, rfl, rfl⟩ := ho
  clear hz hq0
  have hbb := b.toNat_lt
  have HB3 := Lib.hid hb3
  have HG3 := Lib.hid (only_trans HG2.out g3)
  have HA3 := Lib.hid (blk_only HA2.out g3 hne.symm)
  have s3 : w.heap.size < w3.heap.size := by have := g3.size; simp at this; omega
  have r3 : rb < w3.heap.size := by omega
  clear hb3 g3 HG2 HA2 H
  have ck := blk_cell HB3.out
  have cf := blk_free HB3.out
  have ca := blk_cell HA3.out
  have fa := blk_free HA3.out
  go_wp2_with fail
  refine bodyPost_ret (v := .agg #[.int .i64 0, .int .i64 0, .string ⟨#[]⟩, .slice none 0 0, .slice none 0 0]) (by simp only [results, Tryd.results27]; go_simp) rfl ⟨_, _, (p + 1), 4, rfl, VNew.leaf _ _ _ _ _ _ (by first | assumption | (unfold I64; omega)) (by first | assumption | (unfold I64; omega)) (by first | assumption | (unfold maxLen; decide)), ⟨by omega, by omega⟩, ?_, ?_, ⟨rfl, by omega⟩⟩
  · exact (by repeat (first | with_reducible exact kr_set3 HB3.out _ |  with_reducible refine blk_alloc ?_ _ | ((with_reducible refine blk_far ?_ ?_ _); rotate_left; (· first | (simp; done) | (simp; omega) | omega))))
  · exact (by repeat (first | with_reducible exact HG3.out | with_reducible refine only_drew ?_ | with_reducible refine only_alloc ?_ _ | with_reducible refine only_setCell ?_ (.inl rfl) _ | ((with_reducible refine only_setCell ?_ (.inr ?_) _); rotate_left; (· first | exact Nat.le_refl _ | omega | (simp; done) | (simp; omega)))))
set_option maxRecDepth 20000 in
set_option maxHeartbeats 4000000 in
theorem kv_big (s : ByteArray) (fl : UInt8) (d rb p : Nat) (lv : Int) (w : World) (hs : s.size ≤ 1000000000) (hlv : lv = 17 - d) (hd : d ≤ 16) (hp : p ≤ s.size) (h : w.heap[rb]? = some (KrCells s p fl 0)) (b : UInt8) (hx : nextE s fl p = .ok (b, p + 1)) (hd0 : 1 ≤ d) (hk : 11 < b.toNat) :
    Calls Tryd.prog 27 #[.pointer (some ⟨rb, 0, none⟩), .int .i64 lv] w (KvPost rb s fl p w (.error 4)) := by
  have HX := Lib.hid hx
  clear hx
  have dk : decide (11 < (b.toNat : Int)) = true := by simp; omega
  have hrb := blk_lt h
  have H := Lib.hid h
  have hne : rb ≠ w.heap.size := by omega
  have d0 : decide (16 < lv) = false := by simp; omega
  have HLV := Lib.hid hlv
  have hlv1 : 0 ≤ lv ∧ lv ≤ 17 := by omega
  clear hlv h
  go_enter Tryd.func27, Tryd.ntmps27
  go_wp2_with fail
  have HG2 : Hid (w.grownBy (w.alloc (.cells #[.int .i64 0, .int .i64 0, .string ⟨#[]⟩, .slice none 0 0, .slice none 0 0] 41)) (some rb)) := only_alloc (World.grownBy.refl _ _) _
  have HA2 := Lib.hid (blk_at0 w (.cells #[.int .i64 0, .int .i64 0, .string ⟨#[]⟩, .slice none 0 0, .slice none 0 0] 41))
  refine (next_ok s rb p fl _ hs hp (blk_alloc H.out _)).mono ?_
  rw [HX.out]
  rintro e w3 ⟨b1, q1, c1, ⟨hq0, hq1⟩, rfl, hb3, g3, ho, hz⟩
  obtain ⟨rfl, rfl, rfl⟩ := ho
  clear hz hq0
  have hbb := b.toNat_lt
  have HB3 := Lib.hid hb3
  have HG3 := Lib.hid (only_trans HG2.out g3)
  have HA3 := Lib.hid (blk_only HA2.out g3 hne.symm)
  have s3 : w.heap.size < w3.heap.size := by have := g3.size; simp at this; omega
  have r3 : rb < w3.heap.size := by omega
  clear hb3 g3 HG2 HA2 H
  have ck := blk_cell HB3.out
  have cf := blk_free HB3.out
  have ca := blk_cell HA3.out
  have fa := blk_free HA3.out
  go_wp2_with fail
  refine bodyPost_ret (v := .agg #[.int .i64 0, .int .i64 0, .string ⟨#[]⟩, .slice none 0 0, .slice none 0 0]) (by simp only [results, Tryd.results27]; go_simp) rfl ⟨_, _, (p + 1), 4, rfl, VNew.leaf _ _ _ _ _ _ (by first | assumption | (unfold I64; omega)) (by first | assumption | (unfold I64; omega)) (by first | assumption | (unfold maxLen; decide)), ⟨by omega, by omega⟩, ?_, ?_, ⟨rfl, by omega⟩⟩
  · exact (by repeat (first | with_reducible exact kr_set3 HB3.out _ |  with_reducible refine blk_alloc ?_ _ | ((with_reducible refine blk_far ?_ ?_ _); rotate_left; (· first | (simp; done) | (simp; omega) | omega))))
  · exact (by repeat (first | with_reducible exact HG3.out | with_reducible refine only_drew ?_ | with_reducible refine only_alloc ?_ _ | with_reducible refine only_setCell ?_ (.inl rfl) _ | ((with_reducible refine only_setCell ?_ (.inr ?_) _); rotate_left; (· first | exact Nat.le_refl _ | omega | (simp; done) | (simp; omega)))))
set_option maxRecDepth 20000 in
set_option maxHeartbeats 4000000 in
theorem kv_none (s : ByteArray) (fl : UInt8) (d rb p : Nat) (lv : Int) (w : World) (hs : s.size ≤ 1000000000) (hlv : lv = 17 - d) (hd : d ≤ 16) (hp : p ≤ s.size) (h : w.heap[rb]? = some (KrCells s p fl 0)) (b : UInt8) (hx : nextE s fl p = .ok (b, p + 1)) (hd0 : 1 ≤ d) (hd1 : d < 16) (hk : b.toNat = 0) :
    Calls Tryd.prog 27 #[.pointer (some ⟨rb, 0, none⟩), .int .i64 lv] w (KvPost rb s fl p w (.error 4)) := by
  have HX := Lib.hid hx
  clear hx
  have d2 : decide (1 < lv) = true := by simp; omega
  have hrb := blk_lt h
  have H := Lib.hid h
  have hne : rb ≠ w.heap.size := by omega
  have d0 : decide (16 < lv) = false := by simp; omega
  have HLV := Lib.hid hlv
  have hlv1 : 0 ≤ lv ∧ lv ≤ 17 := by omega
  clear hlv h
  go_enter Tryd.func27, Tryd.ntmps27
  go_wp2_with fail
  have HG2 : Hid (w.grownBy (w.alloc (.cells #[.int .i64 0, .int .i64 0, .string ⟨#[]⟩, .slice none 0 0, .slice none 0 0] 41)) (some rb)) := only_alloc (World.grownBy.refl _ _) _
  have HA2 := Lib.hid (blk_at0 w (.cells #[.int .i64 0, .int .i64 0, .string ⟨#[]⟩, .slice none 0 0, .slice none 0 0] 41))
  refine (next_ok s rb p fl _ hs hp (blk_alloc H.out _)).mono ?_
  rw [HX.out]
  rintro e w3 ⟨b1, q1, c1, ⟨hq0, hq1⟩, rfl, hb3, g3, ho, hz⟩
  obtain ⟨rfl, rfl, rfl⟩ := ho
  clear hz hq0
  have hbb := b.toNat_lt
  have HB3 := Lib.hid hb3
  have HG3 := Lib.hid (only_trans HG2.out g3)
  have HA3 := Lib.hid (blk_only HA2.out g3 hne.symm)
  have s3 : w.heap.size < w3.heap.size := by have := g3.size; simp at this; omega
  have r3 : rb < w3.heap.size := by omega
  clear hb3 g3 HG2 HA2 H
  have ck := blk_cell HB3.out
  have cf := blk_free HB3.out
  have ca := blk_cell HA3.out
  have fa := blk_free HA3.out
  go_wp2_with fail
  refine bodyPost_ret (v := .agg #[.int .i64 0, .int .i64 0, .string ⟨#[]⟩, .slice none 0 0, .slice none 0 0]) (by simp only [results, Tryd.results27]; go_simp) rfl ⟨_, _, (p + 1), 4, rfl, VNew.leaf _ _ _ _ _ _ (by first | assumption | (unfold I64; omega)) (by first | assumption | (unfold I64; omega)) (by first | assumption | (unfold maxLen; decide)), ⟨by omega, by omega⟩, ?_, ?_, ⟨rfl, by omega⟩⟩
  · exact (by repeat (first | with_reducible exact kr_set3 HB3.out _ |  with_reducible refine blk_alloc ?_ _ | ((with_reducible refine blk_far ?_ ?_ _); rotate_left; (· first | (simp; done) | (simp; omega) | omega))))
  · exact (by repeat (first | with_reducible exact HG3.out | with_reducible refine only_drew ?_ | with_reducible refine only_alloc ?_ _ | with_reducible refine only_setCell ?_ (.inl rfl) _ | ((with_reducible refine only_setCell ?_ (.inr ?_) _); rotate_left; (· first | exact Nat.le_refl _ | omega | (simp; done) | (simp; omega)))))
set_option maxRecDepth 20000 in
set_option maxHeartbeats 4000000 in
theorem kv_k0 (s : ByteArray) (fl : UInt8) (d rb p : Nat) (lv : Int) (w : World) (hs : s.size ≤ 1000000000) (hlv : lv = 17 - d) (hd : d ≤ 16) (hp : p ≤ s.size) (h : w.heap[rb]? = some (KrCells s p fl 0)) (b : UInt8) (hx : nextE s fl p = .ok (b, p + 1)) (hd0 : 1 ≤ d) (hk : b.toNat = 0) (hd1 : d = 16) :
    Calls Tryd.prog 27 #[.pointer (some ⟨rb, 0, none⟩), .int .i64 lv] w (KvPost rb s fl p w (.ok (kLeaf 0 0 ⟨#[]⟩, p + 1))) := by
  have d2 : decide (1 < lv) = false := by simp; omega
  have HX := Lib.hid hx
  clear hx
  have hrb := blk_lt h
  have H := Lib.hid h
  have hne : rb ≠ w.heap.size := by omega
  have d0 : decide (16 < lv) = false := by simp; omega
  have HLV := Lib.hid hlv
  have hlv1 : 0 ≤ lv ∧ lv ≤ 17 := by omega
  clear hlv h
  go_enter Tryd.func27, Tryd.ntmps27
  go_wp2_with fail
  have HG2 : Hid (w.grownBy (w.alloc (.cells #[.int .i64 0, .int .i64 0, .string ⟨#[]⟩, .slice none 0 0, .slice none 0 0] 41)) (some rb)) := only_alloc (World.grownBy.refl _ _) _
  have HA2 := Lib.hid (blk_at0 w (.cells #[.int .i64 0, .int .i64 0, .string ⟨#[]⟩, .slice none 0 0, .slice none 0 0] 41))
  refine (next_ok s rb p fl _ hs hp (blk_alloc H.out _)).mono ?_
  rw [HX.out]
  rintro e w3 ⟨b1, q1, c1, ⟨hq0, hq1⟩, rfl, hb3, g3, ho, hz⟩
  obtain ⟨rfl, rfl, rfl⟩ := ho
  clear hz hq0
  have hbb := b.toNat_lt
  have HB3 := Lib.hid hb3
  have HG3 := Lib.hid (only_trans HG2.out g3)
  have HA3 := Lib.hid (blk_only HA2.out g3 hne.symm)
  have s3 : w.heap.size < w3.heap.size := by have := g3.size; simp at this; omega
  have r3 : rb < w3.heap.size := by omega
  clear hb3 g3 HG2 HA2 H
  have ck := blk_cell HB3.out
  have cf := blk_free HB3.out
  have ca := blk_cell HA3.out
  have fa := blk_free HA3.out
  have HVB := Lib.hid (blk_at0 w3 (.cells #[.int .i64 0, .int .i64 0, .string ⟨#[]⟩, .slice none 0 0, .slice none 0 0] 41))
  have HG4 : Hid (w.grownBy (w3.alloc (.cells #[.int .i64 0, .int .i64 0, .string ⟨#[]⟩, .slice none 0 0, .slice none 0 0] 41)) (some rb)) := only_alloc HG3.out _
  go_wp2_with fail
  refine bodyPost_ret (v := .agg #[.int .i64 0, .int .i64 0, .string ⟨#[]⟩, .slice none 0 0, .slice none 0 0]) (by simp only [results, Tryd.results27]; go_simp) rfl ⟨_, _, (p + 1), 0, rfl, VNew.leaf _ _ _ _ _ _ (by first | assumption | (unfold I64; omega)) (by first | assumption | (unfold I64; omega)) (by first | assumption | (unfold maxLen; decide)), ⟨by omega, by omega⟩, ?_, ?_, ⟨rfl, rfl, rfl⟩⟩
  · exact (by repeat (first | with_reducible exact HB3.out |  with_reducible refine blk_alloc ?_ _ | ((with_reducible refine blk_far ?_ ?_ _); rotate_left; (· first | (simp; done) | (simp; omega) | omega))))
  · exact (by repeat (first | with_reducible exact HG3.out | with_reducible refine only_drew ?_ | with_reducible refine only_alloc ?_ _ | with_reducible refine only_setCell ?_ (.inl rfl) _ | ((with_reducible refine only_setCell ?_ (.inr ?_) _); rotate_left; (· first | exact Nat.le_refl _ | omega | (simp; done) | (simp; omega)))))
set_option maxRecDepth 20000 in
set_option maxHeartbeats 4000000 in
theorem kv_k1 (s : ByteArray) (fl : UInt8) (d rb p : Nat) (lv : Int) (w : World) (hs : s.size ≤ 1000000000) (hlv : lv = 17 - d) (hd : d ≤ 16) (hp : p ≤ s.size) (h : w.heap[rb]? = some (KrCells s p fl 0)) (b : UInt8) (hx : nextE s fl p = .ok (b, p + 1)) (hd0 : 1 ≤ d) (hk : b.toNat = 1) :
    Calls Tryd.prog 27 #[.pointer (some ⟨rb, 0, none⟩), .int .i64 lv] w (KvPost rb s fl p w (.ok (kLeaf 1 0 ⟨#[]⟩, p + 1))) := by
  have HX := Lib.hid hx
  clear hx
  have hrb := blk_lt h
  have H := Lib.hid h
  have hne : rb ≠ w.heap.size := by omega
  have d0 : decide (16 < lv) = false := by simp; omega
  have HLV := Lib.hid hlv
  have hlv1 : 0 ≤ lv ∧ lv ≤ 17 := by omega
  clear hlv h
  go_enter Tryd.func27, Tryd.ntmps27
  go_wp2_with fail
  have HG2 : Hid (w.grownBy (w.alloc (.cells #[.int .i64 0, .int .i64 0, .string ⟨#[]⟩, .slice none 0 0, .slice none 0 0] 41)) (some rb)) := only_alloc (World.grownBy.refl _ _) _
  have HA2 := Lib.hid (blk_at0 w (.cells #[.int .i64 0, .int .i64 0, .string ⟨#[]⟩, .slice none 0 0, .slice none 0 0] 41))
  refine (next_ok s rb p fl _ hs hp (blk_alloc H.out _)).mono ?_
  rw [HX.out]
  rintro e w3 ⟨b1, q1, c1, ⟨hq0, hq1⟩, rfl, hb3, g3, ho, hz⟩
  obtain ⟨rfl, rfl, rfl⟩ := ho
  clear hz hq0
  have hbb := b.toNat_lt
  have HB3 := Lib.hid hb3
  have HG3 := Lib.hid (only_trans HG2.out g3)
  have HA3 := Lib.hid (blk_only HA2.out g3 hne.symm)
  have s3 : w.heap.size < w3.heap.size := by have := g3.size; simp at this; omega
  have r3 : rb < w3.heap.size := by omega
  clear hb3 g3 HG2 HA2 H
  have ck := blk_cell HB3.out
  have cf := blk_free HB3.out
  have ca := blk_cell HA3.out
  have fa := blk_free HA3.out
  have HVB := Lib.hid (blk_at0 w3 (.cells #[.int .i64 1, .int .i64 0, .string ⟨#[]⟩, .slice none 0 0, .slice none 0 0] 41))
  have HG4 : Hid (w.grownBy (w3.alloc (.cells #[.int .i64 1, .int .i64 0, .string ⟨#[]⟩, .slice none 0 0, .slice none 0 0] 41)) (some rb)) := only_alloc HG3.out _
  go_wp2_with fail
  refine bodyPost_ret (v := .agg #[.int .i64 1, .int .i64 0, .string ⟨#[]⟩, .slice none 0 0, .slice none 0 0]) (by simp only [results, Tryd.results27]; go_simp) rfl ⟨_, _, (p + 1), 0, rfl, VNew.leaf _ _ _ _ _ _ (by first | assumption | (unfold I64; omega)) (by first | assumption | (unfold I64; omega)) (by first | assumption | (unfold maxLen; decide)), ⟨by omega, by omega⟩, ?_, ?_, ⟨rfl, rfl, rfl⟩⟩
  · exact (by repeat (first | with_reducible exact HB3.out |  with_reducible refine blk_alloc ?_ _ | ((with_reducible refine blk_far ?_ ?_ _); rotate_left; (· first | (simp; done) | (simp; omega) | omega))))
  · exact (by repeat (first | with_reducible exact HG3.out | with_reducible refine only_drew ?_ | with_reducible refine only_alloc ?_ _ | with_reducible refine only_setCell ?_ (.inl rfl) _ | ((with_reducible refine only_setCell ?_ (.inr ?_) _); rotate_left; (· first | exact Nat.le_refl _ | omega | (simp; done) | (simp; omega)))))
set_option maxRecDepth 20000 in
set_option maxHeartbeats 4000000 in
theorem kv_k2 (s : ByteArray) (fl : UInt8) (d rb p : Nat) (lv : Int) (w : World) (hs : s.size ≤ 1000000000) (hlv : lv = 17 - d) (hd : d ≤ 16) (hp : p ≤ s.size) (h : w.heap[rb]? = some (KrCells s p fl 0)) (b : UInt8) (hx : nextE s fl p = .ok (b, p + 1)) (hd0 : 1 ≤ d) (hk : b.toNat = 2) :
    Calls Tryd.prog 27 #[.pointer (some ⟨rb, 0, none⟩), .int .i64 lv] w (KvPost rb s fl p w (.ok (kLeaf 2 0 ⟨#[]⟩, p + 1))) := by
  have HX := Lib.hid hx
  clear hx
  have hrb := blk_lt h
  have H := Lib.hid h
  have hne : rb ≠ w.heap.size := by omega
  have d0 : decide (16 < lv) = false := by simp; omega
  have HLV := Lib.hid hlv
  have hlv1 : 0 ≤ lv ∧ lv ≤ 17 := by omega
  clear hlv h
  go_enter Tryd.func27, Tryd.ntmps27
  go_wp2_with fail
  have HG2 : Hid (w.grownBy (w.alloc (.cells #[.int .i64 0, .int .i64 0, .string ⟨#[]⟩, .slice none 0 0, .slice none 0 0] 41)) (some rb)) := only_alloc (World.grownBy.refl _ _) _
  have HA2 := Lib.hid (blk_at0 w (.cells #[.int .i64 0, .int .i64 0, .string ⟨#[]⟩, .slice none 0 0, .slice none 0 0] 41))
  refine (next_ok s rb p fl _ hs hp (blk_alloc H.out _)).mono ?_
  rw [HX.out]
  rintro e w3 ⟨b1, q1, c1, ⟨hq0, hq1⟩, rfl, hb3, g3, ho, hz⟩
  obtain ⟨rfl, rfl, rfl⟩ := ho
  clear hz hq0
  have hbb := b.toNat_lt
  have HB3 := Lib.hid hb3
  have HG3 := Lib.hid (only_trans HG2.out g3)
  have HA3 := Lib.hid (blk_only HA2.out g3 hne.symm)
  have s3 : w.heap.size < w3.heap.size := by have := g3.size; simp at this; omega
  have r3 : rb < w3.heap.size := by omega
  clear hb3 g3 HG2 HA2 H
  have ck := blk_cell HB3.out
  have cf := blk_free HB3.out
  have ca := blk_cell HA3.out
  have fa := blk_free HA3.out
  have HVB := Lib.hid (blk_at0 w3 (.cells #[.int .i64 2, .int .i64 0, .string ⟨#[]⟩, .slice none 0 0, .slice none 0 0] 41))
  have HG4 : Hid (w.grownBy (w3.alloc (.cells #[.int .i64 2, .int .i64 0, .string ⟨#[]⟩, .slice none 0 0, .slice none 0 0] 41)) (some rb)) := only_alloc HG3.out _
  go_wp2_with fail
  refine bodyPost_ret (v := .agg #[.int .i64 2, .int .i64 0, .string ⟨#[]⟩, .slice none 0 0, .slice none 0 0]) (by simp only [results, Tryd.results27]; go_simp) rfl ⟨_, _, (p + 1), 0, rfl, VNew.leaf _ _ _ _ _ _ (by first | assumption | (unfold I64; omega)) (by first | assumption | (unfold I64; omega)) (by first | assumption | (unfold maxLen; decide)), ⟨by omega, by omega⟩, ?_, ?_, ⟨rfl, rfl, rfl⟩⟩
  · exact (by repeat (first | with_reducible exact HB3.out |  with_reducible refine blk_alloc ?_ _ | ((with_reducible refine blk_far ?_ ?_ _); rotate_left; (· first | (simp; done) | (simp; omega) | omega))))
  · exact (by repeat (first | with_reducible exact HG3.out | with_reducible refine only_drew ?_ | with_reducible refine only_alloc ?_ _ | with_reducible refine only_setCell ?_ (.inl rfl) _ | ((with_reducible refine only_setCell ?_ (.inr ?_) _); rotate_left; (· first | exact Nat.le_refl _ | omega | (simp; done) | (simp; omega)))))
set_option maxRecDepth 20000 in
set_option maxHeartbeats 4000000 in
theorem kv_k11 (s : ByteArray) (fl : UInt8) (d rb p : Nat) (lv : Int) (w : World) (hs : s.size ≤ 1000000000) (hlv : lv = 17 - d) (hd : d ≤ 16) (hp : p ≤ s.size) (h : w.heap[rb]? = some (KrCells s p fl 0)) (b : UInt8) (hx : nextE s fl p = .ok (b, p + 1)) (hd0 : 1 ≤ d) (hk : b.toNat = 11) :
    Calls Tryd.prog 27 #[.pointer (some ⟨rb, 0, none⟩), .int .i64 lv] w (KvPost rb s fl p w (.ok (kLeaf 11 0 ⟨#[]⟩, p + 1))) := by
  have HX := Lib.hid hx
  clear hx
  have hrb := blk_lt h
  have H := Lib.hid h
  have hne : rb ≠ w.heap.size := by omega
  have d0 : decide (16 < lv) = false := by simp; omega
  have HLV := Lib.hid hlv
  have hlv1 : 0 ≤ lv ∧ lv ≤ 17 := by omega
  clear hlv h
  go_enter Tryd.func27, Tryd.ntmps27
  go_wp2_with fail
  have HG2 : Hid (w.grownBy (w.alloc (.cells #[.int .i64 0, .int .i64 0, .string ⟨#[]⟩, .slice none 0 0, .slice none 0 0] 41)) (some rb)) := only_alloc (World.grownBy.refl _ _) _
  have HA2 := Lib.hid (blk_at0 w (.cells #[.int .i64 0, .int .i64 0, .string ⟨#[]⟩, .slice none 0 0, .slice none 0 0] 41))
  refine (next_ok s rb p fl _ hs hp (blk_alloc H.out _)).mono ?_
  rw [HX.out]
  rintro e w3 ⟨b1, q1, c1, ⟨hq0, hq1⟩, rfl, hb3, g3, ho, hz⟩
  obtain ⟨rfl, rfl, rfl⟩ := ho
  clear hz hq0
  have hbb := b.toNat_lt
  have HB3 := Lib.hid hb3
  have HG3 := Lib.hid (only_trans HG2.out g3)
  have HA3 := Lib.hid (blk_only HA2.out g3 hne.symm)
  have s3 : w.heap.size < w3.heap.size := by have := g3.size; simp at this; omega
  have r3 : rb < w3.heap.size := by omega
  clear hb3 g3 HG2 HA2 H
  have ck := blk_cell HB3.out
  have cf := blk_free HB3.out
  have ca := blk_cell HA3.out
  have fa := blk_free HA3.out
  have HVB := Lib.hid (blk_at0 w3 (.cells #[.int .i64 11, .int .i64 0, .string ⟨#[]⟩, .slice none 0 0, .slice none 0 0] 41))
  have HG4 : Hid (w.grownBy (w3.alloc (.cells #[.int .i64 11, .int .i64 0, .string ⟨#[]⟩, .slice none 0 0, .slice none 0 0] 41)) (some rb)) := only_alloc HG3.out _
  go_wp2_with fail
  refine bodyPost_ret (v := .agg #[.int .i64 11, .int .i64 0, .string ⟨#[]⟩, .slice none 0 0, .slice none 0 0]) (by simp only [results, Tryd.results27]; go_simp) rfl ⟨_, _, (p + 1), 0, rfl, VNew.leaf _ _ _ _ _ _ (by first | assumption | (unfold I64; omega)) (by first | assumption | (unfold I64; omega)) (by first | assumption | (unfold maxLen; decide)), ⟨by omega, by omega⟩, ?_, ?_, ⟨rfl, rfl, rfl⟩⟩
  · exact (by repeat (first | with_reducible exact HB3.out |  with_reducible refine blk_alloc ?_ _ | ((with_reducible refine blk_far ?_ ?_ _); rotate_left; (· first | (simp; done) | (simp; omega) | omega))))
  · exact (by repeat (first | with_reducible exact HG3.out | with_reducible refine only_drew ?_ | with_reducible refine only_alloc ?_ _ | with_reducible refine only_setCell ?_ (.inl rfl) _ | ((with_reducible refine only_setCell ?_ (.inr ?_) _); rotate_left; (· first | exact Nat.le_refl _ | omega | (simp; done) | (simp; omega)))))
set_option maxRecDepth 20000 in
set_option maxHeartbeats 4000000 in
theorem kv_k4 (s : ByteArray) (fl : UInt8) (d rb p : Nat) (lv : Int) (w : World) (hs : s.size ≤ 1000000000) (hlv : lv = 17 - d) (hd : d ≤ 16) (hp : p ≤ s.size) (h : w.heap[rb]? = some (KrCells s p fl 0)) (b : UInt8) (hx : nextE s fl p = .ok (b, p + 1)) (hd0 : 1 ≤ d) (hk : b.toNat = 4) :
    Calls Tryd.prog 27 #[.pointer (some ⟨rb, 0, none⟩), .int .i64 lv] w (KvPost rb s fl p w (textT 4 (textE s fl (s.size + 1) (p + 1) []))) := by
  have HX := Lib.hid hx
  clear hx
  have hrb := blk_lt h
  have H := Lib.hid h
  have hne : rb ≠ w.heap.size := by omega
  have d0 : decide (16 < lv) = false := by simp; omega
  have HLV := Lib.hid hlv
  have hlv1 : 0 ≤ lv ∧ lv ≤ 17 := by omega
  clear hlv h
  go_enter Tryd.func27, Tryd.ntmps27
  go_wp2_with fail
  have HG2 : Hid (w.grownBy (w.alloc (.cells #[.int .i64 0, .int .i64 0, .string ⟨#[]⟩, .slice none 0 0, .slice none 0 0] 41)) (some rb)) := only_alloc (World.grownBy.refl _ _) _
  have HA2 := Lib.hid (blk_at0 w (.cells #[.int .i64 0, .int .i64 0, .string ⟨#[]⟩, .slice none 0 0, .slice none 0 0] 41))
  refine (next_ok s rb p fl _ hs hp (blk_alloc H.out _)).mono ?_
  rw [HX.out]
  rintro e w3 ⟨b1, q1, c1, ⟨hq0, hq1⟩, rfl, hb3, g3, ho, hz⟩
  obtain ⟨rfl, rfl, rfl⟩ := ho
  clear hz hq0
  have hbb := b.toNat_lt
  have HB3 := Lib.hid hb3
  have HG3 := Lib.hid (only_trans HG2.out g3)
  have HA3 := Lib.hid (blk_only HA2.out g3 hne.symm)
  have s3 : w.heap.size < w3.heap.size := by have := g3.size; simp at this; omega
  have r3 : rb < w3.heap.size := by omega
  clear hb3 g3 HG2 HA2 H
  have ck := blk_cell HB3.out
  have cf := blk_free HB3.out
  have ca := blk_cell HA3.out
  have fa := blk_free HA3.out
  have HVB := Lib.hid (blk_at0 w3 (.cells #[.int .i64 4, .int .i64 0, .string ⟨#[]⟩, .slice none 0 0, .slice none 0 0] 41))
  have HG4 : Hid (w.grownBy (w3.alloc (.cells #[.int .i64 4, .int .i64 0, .string ⟨#[]⟩, .slice none 0 0, .slice none 0 0] 41)) (some rb)) := only_alloc HG3.out _
  go_wp2_with fail
  refine (text_ok s rb (p + 1) fl _ hs hq1 (blk_alloc HB3.out _)).mono ?_
  rintro e w4 ⟨l4, q4, c4, hl4, ⟨hq40, hq4⟩, rfl, hb4, g4, ho4⟩
  have HB4 := Lib.hid hb4
  have HG5 := Lib.hid (only_trans HG4.out g4)
  have HA4 := Lib.hid (blk_only (blk_alloc HA3.out (.cells #[.int .i64 4, .int .i64 0, .string ⟨#[]⟩, .slice none 0 0, .slice none 0 0] 41)) g4 hne.symm)
  have HV4 := Lib.hid (blk_only HVB.out g4 (by omega))
  have s4 : w3.heap.size < w4.heap.size := by have := g4.size; simp at this; omega
  have hnv : ¬ w.heap.size = w3.heap.size := by omega
  clear ck cf ca fa hb4 g4 HG4 HVB HB3 HG3 HA3
  have ck := blk_cell HB4.out
  have cf := blk_free HB4.out
  have ca := blk_cell HA4.out
  have fa := blk_free HA4.out
  have cv := blk_cell HV4.out
  have fv := blk_free HV4.out
  have hrb4 := blk_lt HB4.out
  have HO := Lib.hid (out_txt (k := 4) ho4)
  clear ho4
  have hm4 : (⟨l4.toArray⟩ : ByteArray).size ≤ maxLen := by unfold maxLen; show l4.toArray.size ≤ _; simp; omega
  go_wp2_with fail
  refine bodyPost_ret (v := .agg #[.int .i64 4, .int .i64 0, .string ⟨l4.toArray⟩, .slice none 0 0, .slice none 0 0]) (by simp only [results, Tryd.results27]; go_simp) rfl ⟨_, _, q4, c4, rfl, VNew.leaf _ _ _ _ _ _ (by unfold I64; omega) (by unfold I64; omega) hm4, ⟨by omega, by omega⟩, ?_, ?_, HO.out⟩
  · exact (by repeat (first | with_reducible exact HB4.out |  with_reducible refine blk_alloc ?_ _ | ((with_reducible refine blk_far ?_ ?_ _); rotate_left; (· first | (simp; done) | (simp; omega) | omega))))
  · exact (by repeat (first | with_reducible exact HG5.out | with_reducible refine only_drew ?_ | with_reducible refine only_alloc ?_ _ | with_reducible refine only_setCell ?_ (.inl rfl) _ | ((with_reducible refine only_setCell ?_ (.inr ?_) _); rotate_left; (· first | exact Nat.le_refl _ | omega | (simp; done) | (simp; omega)))))
set_option maxRecDepth 20000 in
set_option maxHeartbeats 4000000 in
theorem kv_k7 (s : ByteArray) (fl : UInt8) (d rb p : Nat) (lv : Int) (w : World) (hs : s.size ≤ 1000000000) (hlv : lv = 17 - d) (hd : d ≤ 16) (hp : p ≤ s.size) (h : w.heap[rb]? = some (KrCells s p fl 0)) (b : UInt8) (hx : nextE s fl p = .ok (b, p + 1)) (hd0 : 1 ≤ d) (hk : b.toNat = 7) :
    Calls Tryd.prog 27 #[.pointer (some ⟨rb, 0, none⟩), .int .i64 lv] w (KvPost rb s fl p w (textT 7 (textE s fl (s.size + 1) (p + 1) []))) := by
  have HX := Lib.hid hx
  clear hx
  have hrb := blk_lt h
  have H := Lib.hid h
  have hne : rb ≠ w.heap.size := by omega
  have d0 : decide (16 < lv) = false := by simp; omega
  have HLV := Lib.hid hlv
  have hlv1 : 0 ≤ lv ∧ lv ≤ 17 := by omega
  clear hlv h
  go_enter Tryd.func27, Tryd.ntmps27
  go_wp2_with fail
  have HG2 : Hid (w.grownBy (w.alloc (.cells #[.int .i64 0, .int .i64 0, .string ⟨#[]⟩, .slice none 0 0, .slice none 0 0] 41)) (some rb)) := only_alloc (World.grownBy.refl _ _) _
  have HA2 := Lib.hid (blk_at0 w (.cells #[.int .i64 0, .int .i64 0, .string ⟨#[]⟩, .slice none 0 0, .slice none 0 0] 41))
  refine (next_ok s rb p fl _ hs hp (blk_alloc H.out _)).mono ?_
  rw [HX.out]
  rintro e w3 ⟨b1, q1, c1, ⟨hq0, hq1⟩, rfl, hb3, g3, ho, hz⟩
  obtain ⟨rfl, rfl, rfl⟩ := ho
  clear hz hq0
  have hbb := b.toNat_lt
  have HB3 := Lib.hid hb3
  have HG3 := Lib.hid (only_trans HG2.out g3)
  have HA3 := Lib.hid (blk_only HA2.out g3 hne.symm)
  have s3 : w.heap.size < w3.heap.size := by have := g3.size; simp at this; omega
  have r3 : rb < w3.heap.size := by omega
  clear hb3 g3 HG2 HA2 H
  have ck := blk_cell HB3.out
  have cf := blk_free HB3.out
  have ca := blk_cell HA3.out
  have fa := blk_free HA3.out
  have HVB := Lib.hid (blk_at0 w3 (.cells #[.int .i64 7, .int .i64 0, .string ⟨#[]⟩, .slice none 0 0, .slice none 0 0] 41))
  have HG4 : Hid (w.grownBy (w3.alloc (.cells #[.int .i64 7, .int .i64 0, .string ⟨#[]⟩, .slice none 0 0, .slice none 0 0] 41)) (some rb)) := only_alloc HG3.out _
  go_wp2_with fail
  refine (text_ok s rb (p + 1) fl _ hs hq1 (blk_alloc HB3.out _)).mono ?_
  rintro e w4 ⟨l4, q4, c4, hl4, ⟨hq40, hq4⟩, rfl, hb4, g4, ho4⟩
  have HB4 := Lib.hid hb4
  have HG5 := Lib.hid (only_trans HG4.out g4)
  have HA4 := Lib.hid (blk_only (blk_alloc HA3.out (.cells #[.int .i64 7, .int .i64 0, .string ⟨#[]⟩, .slice none 0 0, .slice none 0 0] 41)) g4 hne.symm)
  have HV4 := Lib.hid (blk_only HVB.out g4 (by omega))
  have s4 : w3.heap.size < w4.heap.size := by have := g4.size; simp at this; omega
  have hnv : ¬ w.heap.size = w3.heap.size := by omega
  clear ck cf ca fa hb4 g4 HG4 HVB HB3 HG3 HA3
  have ck := blk_cell HB4.out
  have cf := blk_free HB4.out
  have ca := blk_cell HA4.out
  have fa := blk_free HA4.out
  have cv := blk_cell HV4.out
  have fv := blk_free HV4.out
  have hrb4 := blk_lt HB4.out
  have HO := Lib.hid (out_txt (k := 7) ho4)
  clear ho4
  have hm4 : (⟨l4.toArray⟩ : ByteArray).size ≤ maxLen := by unfold maxLen; show l4.toArray.size ≤ _; simp; omega
  go_wp2_with fail
  refine bodyPost_ret (v := .agg #[.int .i64 7, .int .i64 0, .string ⟨l4.toArray⟩, .slice none 0 0, .slice none 0 0]) (by simp only [results, Tryd.results27]; go_simp) rfl ⟨_, _, q4, c4, rfl, VNew.leaf _ _ _ _ _ _ (by unfold I64; omega) (by unfold I64; omega) hm4, ⟨by omega, by omega⟩, ?_, ?_, HO.out⟩
  · exact (by repeat (first | with_reducible exact HB4.out |  with_reducible refine blk_alloc ?_ _ | ((with_reducible refine blk_far ?_ ?_ _); rotate_left; (· first | (simp; done) | (simp; omega) | omega))))
  · exact (by repeat (first | with_reducible exact HG5.out | with_reducible refine only_drew ?_ | with_reducible refine only_alloc ?_ _ | with_reducible refine only_setCell ?_ (.inl rfl) _ | ((with_reducible refine only_setCell ?_ (.inr ?_) _); rotate_left; (· first | exact Nat.le_refl _ | omega | (simp; done) | (simp; omega)))))
set_option maxRecDepth 20000 in
set_option maxHeartbeats 4000000 in
theorem kv_k8 (s : ByteArray) (fl : UInt8) (d rb p : Nat) (lv : Int) (w : World) (hs : s.size ≤ 1000000000) (hlv : lv = 17 - d) (hd : d ≤ 16) (hp : p ≤ s.size) (h : w.heap[rb]? = some (KrCells s p fl 0)) (b : UInt8) (hx : nextE s fl p = .ok (b, p + 1)) (hd0 : 1 ≤ d) (hk : b.toNat = 8) :
    Calls Tryd.prog 27 #[.pointer (some ⟨rb, 0, none⟩), .int .i64 lv] w (KvPost rb s fl p w (textT 8 (textE s fl (s.size + 1) (p + 1) []))) := by
  have HX := Lib.hid hx
  clear hx
  have hrb := blk_lt h
  have H := Lib.hid h
  have hne : rb ≠ w.heap.size := by omega
  have d0 : decide (16 < lv) = false := by simp; omega
  have HLV := Lib.hid hlv
  have hlv1 : 0 ≤ lv ∧ lv ≤ 17 := by omega
  clear hlv h
  go_enter Tryd.func27, Tryd.ntmps27
  go_wp2_with fail
  have HG2 : Hid (w.grownBy (w.alloc (.cells #[.int .i64 0, .int .i64 0, .string ⟨#[]⟩, .slice none 0 0, .slice none 0 0] 41)) (some rb)) := only_alloc (World.grownBy.refl _ _) _
  have HA2 := Lib.hid (blk_at0 w (.cells #[.int .i64 0, .int .i64 0, .string ⟨#[]⟩, .slice none 0 0, .slice none 0 0] 41))
  refine (next_ok s rb p fl _ hs hp (blk_alloc H.out _)).mono ?_
  rw [HX.out]
  rintro e w3 ⟨b1, q1, c1, ⟨hq0, hq1⟩, rfl, hb3, g3, ho, hz⟩
  obtain ⟨rfl, rfl, rfl⟩ := ho
  clear hz hq0
  have hbb := b.toNat_lt
  have HB3 := Lib.hid hb3
  have HG3 := Lib.hid (only_trans HG2.out g3)
  have HA3 := Lib.hid (blk_only HA2.out g3 hne.symm)
  have s3 : w.heap.size < w3.heap.size := by have := g3.size; simp at this; omega
  have r3 : rb < w3.heap.size := by omega
  clear hb3 g3 HG2 HA2 H
  have ck := blk_cell HB3.out
  have cf := blk_free HB3.out
  have ca := blk_cell HA3.out
  have fa := blk_free HA3.out
  have HVB := Lib.hid (blk_at0 w3 (.cells #[.int .i64 8, .int .i64 0, .string ⟨#[]⟩, .slice none 0 0, .slice none 0 0] 41))
  have HG4 : Hid (w.grownBy (w3.alloc (.cells #[.int .i64 8, .int .i64 0, .string ⟨#[]⟩, .slice none 0 0, .slice none 0 0] 41)) (some rb)) := only_alloc HG3.out _
  go_wp2_with fail
  refine (text_ok s rb (p + 1) fl _ hs hq1 (blk_alloc HB3.out _)).mono ?_
  rintro e w4 ⟨l4, q4, c4, hl4, ⟨hq40, hq4⟩, rfl, hb4, g4, ho4⟩
  have HB4 := Lib.hid hb4
  have HG5 := Lib.hid (only_trans HG4.out g4)
  have HA4 := Lib.hid (blk_only (blk_alloc HA3.out (.cells #[.int .i64 8, .int .i64 0, .string ⟨#[]⟩, .slice none 0 0, .slice none 0 0] 41)) g4 hne.symm)
  have HV4 := Lib.hid (blk_only HVB.out g4 (by omega))
  have s4 : w3.heap.size < w4.heap.size := by have := g4.size; simp at this; omega
  have hnv : ¬ w.heap.size = w3.heap.size := by omega
  clear ck cf ca fa hb4 g4 HG4 HVB HB3 HG3 HA3
  have ck := blk_cell HB4.out
  have cf := blk_free HB4.out
  have ca := blk_cell HA4.out
  have fa := blk_free HA4.out
  have cv := blk_cell HV4.out
  have fv := blk_free HV4.out
  have hrb4 := blk_lt HB4.out
  have HO := Lib.hid (out_txt (k := 8) ho4)
  clear ho4
  have hm4 : (⟨l4.toArray⟩ : ByteArray).size ≤ maxLen := by unfold maxLen; show l4.toArray.size ≤ _; simp; omega
  go_wp2_with fail
  refine bodyPost_ret (v := .agg #[.int .i64 8, .int .i64 0, .string ⟨l4.toArray⟩, .slice none 0 0, .slice none 0 0]) (by simp only [results, Tryd.results27]; go_simp) rfl ⟨_, _, q4, c4, rfl, VNew.leaf _ _ _ _ _ _ (by unfold I64; omega) (by unfold I64; omega) hm4, ⟨by omega, by omega⟩, ?_, ?_, HO.out⟩
  · exact (by repeat (first | with_reducible exact HB4.out |  with_reducible refine blk_alloc ?_ _ | ((with_reducible refine blk_far ?_ ?_ _); rotate_left; (· first | (simp; done) | (simp; omega) | omega))))
  · exact (by repeat (first | with_reducible exact HG5.out | with_reducible refine only_drew ?_ | with_reducible refine only_alloc ?_ _ | with_reducible refine only_setCell ?_ (.inl rfl) _ | ((with_reducible refine only_setCell ?_ (.inr ?_) _); rotate_left; (· first | exact Nat.le_refl _ | omega | (simp; done) | (simp; omega)))))
set_option maxRecDepth 20000 in
set_option maxHeartbeats 4000000 in
theorem kv_k3 (s : ByteArray) (fl : UInt8) (d rb p : Nat) (lv : Int) (w : World) (hs : s.size ≤ 1000000000) (hlv : lv = 17 - d) (hd : d ≤ 16) (hp : p ≤ s.size) (h : w.heap[rb]? = some (KrCells s p fl 0)) (b : UInt8) (hx : nextE s fl p = .ok (b, p + 1)) (hd0 : 1 ≤ d) (hk : b.toNat = 3) :
    Calls Tryd.prog 27 #[.pointer (some ⟨rb, 0, none⟩), .int .i64 lv] w (KvPost rb s fl p w (numT 3 (numN s fl 8 (p + 1) 0))) := by
  obtain ⟨r, hr⟩ : ∃ r, numN s fl 8 (p + 1) 0 = r := ⟨_, rfl⟩
  rw [hr]
  have HR := Lib.hid hr
  clear hr
  have HX := Lib.hid hx
  clear hx
  have hrb := blk_lt h
  have H := Lib.hid h
  have hne : rb ≠ w.heap.size := by omega
  have d0 : decide (16 < lv) = false := by simp; omega
  have HLV := Lib.hid hlv
  have hlv1 : 0 ≤ lv ∧ lv ≤ 17 := by omega
  clear hlv h
  go_enter Tryd.func27, Tryd.ntmps27
  go_wp2_with fail
  have HG2 : Hid (w.grownBy (w.alloc (.cells #[.int .i64 0, .int .i64 0, .string ⟨#[]⟩, .slice none 0 0, .slice none 0 0] 41)) (some rb)) := only_alloc (World.grownBy.refl _ _) _
  have HA2 := Lib.hid (blk_at0 w (.cells #[.int .i64 0, .int .i64 0, .string ⟨#[]⟩, .slice none 0 0, .slice none 0 0] 41))
  refine (next_ok s rb p fl _ hs hp (blk_alloc H.out _)).mono ?_
  rw [HX.out]
  rintro e w3 ⟨b1, q1, c1, ⟨hq0, hq1⟩, rfl, hb3, g3, ho, hz⟩
  obtain ⟨rfl, rfl, rfl⟩ := ho
  clear hz hq0
  have hbb := b.toNat_lt
  have HB3 := Lib.hid hb3
  have HG3 := Lib.hid (only_trans HG2.out g3)
  have HA3 := Lib.hid (blk_only HA2.out g3 hne.symm)
  have s3 : w.heap.size < w3.heap.size := by have := g3.size; simp at this; omega
  have r3 : rb < w3.heap.size := by omega
  clear hb3 g3 HG2 HA2 H
  have ck := blk_cell HB3.out
  have cf := blk_free HB3.out
  have ca := blk_cell HA3.out
  have fa := blk_free HA3.out
  have HVB := Lib.hid (blk_at0 w3 (.cells #[.int .i64 3, .int .i64 0, .string ⟨#[]⟩, .slice none 0 0, .slice none 0 0] 41))
  have HG4 : Hid (w.grownBy (w3.alloc (.cells #[.int .i64 3, .int .i64 0, .string ⟨#[]⟩, .slice none 0 0, .slice none 0 0] 41)) (some rb)) := only_alloc HG3.out _
  go_wp2_with fail
  go_loopw [7, 43] (fun u i wr => ∃ (n y q : Nat) (c : Int), n ≤ 8 ∧ i = .int .i64 n ∧ u = .int .u64 y ∧ y < 256 ^ n ∧ p ≤ q ∧ q ≤ s.size ∧ Hid (NRel s fl r (8 - n) q y c) ∧ Hid (wr.heap[rb]? = some (KrCells s q fl c)) ∧ Hid (wr.heap[w3.heap.size]? = some (.cells #[.int .i64 3, .int .i64 0, .string ⟨#[]⟩, .slice none 0 0, .slice none 0 0] 41 (0, 0))) ∧ Hid (wr.heap[w.heap.size]? = some (.cells #[.int .i64 0, .int .i64 0, .string ⟨#[]⟩, .slice none 0 0, .slice none 0 0] 41 (0, 0))) ∧ Hid (w.grownBy wr (some rb)) ∧ w3.heap.size < wr.heap.size) (fun _ i _ => 8 - (intOf i).toNat)
  case atStart => exact ⟨0, 0, p + 1, 0, by omega, rfl, rfl, by simp, by omega, hq1, Or.inl ⟨rfl, HR.out⟩, blk_alloc HB3.out _, HVB, blk_alloc HA3.out _, HG4, by simp⟩
  case round =>
    obtain ⟨n, y, q, c, hn, rfl, rfl, hy, hpq, hq, HF, HBr, HVr, HAr, HGr, hsr⟩ := hrel
    clear ck cf ca fa
    by_cases hlt : n < 8
    · have hy56 : y < 72057594037927936 := Nat.lt_of_lt_of_le hy (Nat.le_trans (Nat.pow_le_pow_right (by omega) (show n ≤ 7 by omega)) (by decide))
      have hy2 : ∀ b : UInt8, y * 256 + b.toNat < 256 ^ (n + 1) := fun b => by have := b.toNat_lt; rw [Nat.pow_succ]; omega
      have HY2 := Lib.hid hy2
      have HOR := Lib.hid (fun b => or_u64 y b hy56)
      have HORw := Lib.hid (fun b => or_u64w y b hy56)
      clear hy hy2
      by_cases hc : c = 0
      · subst hc
        have hF := HF.out
        rw [show 8 - n = (8 - (n + 1)) + 1 by omega] at hF
        have HF2 := Lib.hid hF
        clear hF HF
        go_wp2_with fail
        refine (next_ok s rb q fl _ hs hq HBr.out).mono ?_
        rintro e w5 ⟨b5, q5, c5, ⟨hq50, hq5⟩, rfl, hb5, g5, ho5, hz5⟩
        have HF3 := Lib.hid (HF2.out.step ho5)
        have HB5 := Lib.hid hb5
        have HG5 := Lib.hid (only_trans HGr.out g5)
        have HV5 := Lib.hid (blk_only HVr.out g5 (by omega))
        have HA5 := Lib.hid (blk_only HAr.out g5 hne.symm)
        have s5 : wr.heap.size ≤ w5.heap.size := g5.size
        clear hb5 g5 ho5 hz5 HF2
        go_wp2_with fail
        refine ⟨⟨n + 1, y * 256 + b5.toNat, q5, c5, by omega, by go_num, ?_, HY2.out b5, by omega, hq5, HF3, HB5, HV5, HA5, HG5, by omega⟩, by simp [intOf]; omega⟩
        exact congrArg (Value.int .u64) (HORw.out b5)
      · have hF := HF.out.err hc (8 - (n + 1)) q (y * 256 + (0 : UInt8).toNat)
        have HF2 := Lib.hid hF
        have HC := Lib.hid hc
        clear hF HF hc
        go_wp2_with fail
        refine (next_err s rb q fl c HC.out _ HBr.out).mono ?_
        rintro e w5 ⟨rfl, rfl⟩
        go_wp2_with fail
        refine ⟨⟨n + 1, y * 256 + (0 : UInt8).toNat, q, c, by omega, by go_num, ?_, HY2.out 0, hpq, hq, HF2, HBr, HVr, HAr, HGr, hsr⟩, by simp [intOf]; omega⟩
        exact congrArg (Value.int .u64) (HOR.out 0)
    · obtain rfl : n = 8 := by omega
      have hy64 : y < 18446744073709551616 := Nat.lt_of_lt_of_le hy (by decide)
      have HUX := Lib.hid ((IntWalk.i64_left _).symm.trans (unx63 y hy64))
      have HO := Lib.hid (out_num (k := 3) HF.out.done)
      have ca := blk_cell HAr.out
      have fa := blk_free HAr.out
      have cv := blk_cell HVr.out
      have fv := blk_free HVr.out
      have hnv : ¬ w.heap.size = w3.heap.size := by omega
      have hav : w.heap.size < wr.heap.size := by omega
      clear hy
      go_wp2_with fail
      simp only [HUX.out]
      refine bodyPost_ret (v := .agg #[.int .i64 3, .int .i64 ((y : Int) - 9223372036854775808), .string ⟨#[]⟩, .slice none 0 0, .slice none 0 0]) (by simp only [results, Tryd.results27]; go_simp) rfl ⟨_, _, q, c, rfl, VNew.leaf _ _ _ _ _ _ (by unfold I64; omega) (by unfold I64; omega) (by unfold maxLen; decide), ⟨by omega, by omega⟩, ?_, ?_, HO.out⟩
      · exact (by repeat (first | with_reducible exact HBr.out |  with_reducible refine blk_alloc ?_ _ | ((with_reducible refine blk_far ?_ ?_ _); rotate_left; (· first | (simp; done) | (simp; omega) | omega))))
      · exact (by repeat (first | with_reducible exact HGr.out | with_reducible refine only_drew ?_ | with_reducible refine only_alloc ?_ _ | with_reducible refine only_setCell ?_ (.inl rfl) _ | ((with_reducible refine only_setCell ?_ (.inr ?_) _); rotate_left; (· first | exact Nat.le_refl _ | omega | (simp; done) | (simp; omega)))))
set_option maxRecDepth 20000 in
set_option maxHeartbeats 4000000 in
theorem kv_k9 (s : ByteArray) (fl : UInt8) (d rb p : Nat) (lv : Int) (w : World) (hs : s.size ≤ 1000000000) (hlv : lv = 17 - d) (hd : d ≤ 16) (hp : p ≤ s.size) (h : w.heap[rb]? = some (KrCells s p fl 0)) (b : UInt8) (hx : nextE s fl p = .ok (b, p + 1)) (hd0 : 1 ≤ d) (hk : b.toNat = 9) :
    Calls Tryd.prog 27 #[.pointer (some ⟨rb, 0, none⟩), .int .i64 lv] w (KvPost rb s fl p w (numT 9 (numN s fl 8 (p + 1) 0))) := by
  obtain ⟨r, hr⟩ : ∃ r, numN s fl 8 (p + 1) 0 = r := ⟨_, rfl⟩
  rw [hr]
  have HR := Lib.hid hr
  clear hr
  have HX := Lib.hid hx
  clear hx
  have hrb := blk_lt h
  have H := Lib.hid h
  have hne : rb ≠ w.heap.size := by omega
  have d0 : decide (16 < lv) = false := by simp; omega
  have HLV := Lib.hid hlv
  have hlv1 : 0 ≤ lv ∧ lv ≤ 17 := by omega
  clear hlv h
  go_enter Tryd.func27, Tryd.ntmps27
  go_wp2_with fail
  have HG2 : Hid (w.grownBy (w.alloc (.cells #[.int .i64 0, .int .i64 0, .string ⟨#[]⟩, .slice none 0 0, .slice none 0 0] 41)) (some rb)) := only_alloc (World.grownBy.refl _ _) _
  have HA2 := Lib.hid (blk_at0 w (.cells #[.int .i64 0, .int .i64 0, .string ⟨#[]⟩, .slice none 0 0, .slice none 0 0] 41))
  refine (next_ok s rb p fl _ hs hp (blk_alloc H.out _)).mono ?_
  rw [HX.out]
  rintro e w3 ⟨b1, q1, c1, ⟨hq0, hq1⟩, rfl, hb3, g3, ho, hz⟩
  obtain ⟨rfl, rfl, rfl⟩ := ho
  clear hz hq0
  have hbb := b.toNat_lt
  have HB3 := Lib.hid hb3
  have HG3 := Lib.hid (only_trans HG2.out g3)
  have HA3 := Lib.hid (blk_only HA2.out g3 hne.symm)
  have s3 : w.heap.size < w3.heap.size := by have := g3.size; simp at this; omega
  have r3 : rb < w3.heap.size := by omega
  clear hb3 g3 HG2 HA2 H
  have ck := blk_cell HB3.out
  have cf := blk_free HB3.out
  have ca := blk_cell HA3.out
  have fa := blk_free HA3.out
  have HVB := Lib.hid (blk_at0 w3 (.cells #[.int .i64 9, .int .i64 0, .string ⟨#[]⟩, .slice none 0 0, .slice none 0 0] 41))
  have HG4 : Hid (w.grownBy (w3.alloc (.cells #[.int .i64 9, .int .i64 0, .string ⟨#[]⟩, .slice none 0 0, .slice none 0 0] 41)) (some rb)) := only_alloc HG3.out _
  go_wp2_with fail
  go_loopw [7, 43] (fun u i wr => ∃ (n y q : Nat) (c : Int), n ≤ 8 ∧ i = .int .i64 n ∧ u = .int .u64 y ∧ y < 256 ^ n ∧ p ≤ q ∧ q ≤ s.size ∧ Hid (NRel s fl r (8 - n) q y c) ∧ Hid (wr.heap[rb]? = some (KrCells s q fl c)) ∧ Hid (wr.heap[w3.heap.size]? = some (.cells #[.int .i64 9, .int .i64 0, .string ⟨#[]⟩, .slice none 0 0, .slice none 0 0] 41 (0, 0))) ∧ Hid (wr.heap[w.heap.size]? = some (.cells #[.int .i64 0, .int .i64 0, .string ⟨#[]⟩, .slice none 0 0, .slice none 0 0] 41 (0, 0))) ∧ Hid (w.grownBy wr (some rb)) ∧ w3.heap.size < wr.heap.size) (fun _ i _ => 8 - (intOf i).toNat)
  case atStart => exact ⟨0, 0, p + 1, 0, by omega, rfl, rfl, by simp, by omega, hq1, Or.inl ⟨rfl, HR.out⟩, blk_alloc HB3.out _, HVB, blk_alloc HA3.out _, HG4, by simp⟩
  case round =>
    obtain ⟨n, y, q, c, hn, rfl, rfl, hy, hpq, hq, HF, HBr, HVr, HAr, HGr, hsr⟩ := hrel
    clear ck cf ca fa
    by_cases hlt : n < 8
    · have hy56 : y < 72057594037927936 := Nat.lt_of_lt_of_le hy (Nat.le_trans (Nat.pow_le_pow_right (by omega) (show n ≤ 7 by omega)) (by decide))
      have hy2 : ∀ b : UInt8, y * 256 + b.toNat < 256 ^ (n + 1) := fun b => by have := b.toNat_lt; rw [Nat.pow_succ]; omega
      have HY2 := Lib.hid hy2
      have HOR := Lib.hid (fun b => or_u64 y b hy56)
      have HORw := Lib.hid (fun b => or_u64w y b hy56)
      clear hy hy2
      by_cases hc : c = 0
      · subst hc
        have hF := HF.out
        rw [show 8 - n = (8 - (n + 1)) + 1 by omega] at hF
        have HF2 := Lib.hid hF
        clear hF HF
        go_wp2_with fail
        refine (next_ok s rb q fl _ hs hq HBr.out).mono ?_
        rintro e w5 ⟨b5, q5, c5, ⟨hq50, hq5⟩, rfl, hb5, g5, ho5, hz5⟩
        have HF3 := Lib.hid (HF2.out.step ho5)
        have HB5 := Lib.hid hb5
        have HG5 := Lib.hid (only_trans HGr.out g5)
        have HV5 := Lib.hid (blk_only HVr.out g5 (by omega))
        have HA5 := Lib.hid (blk_only HAr.out g5 hne.symm)
        have s5 : wr.heap.size ≤ w5.heap.size := g5.size
        clear hb5 g5 ho5 hz5 HF2
        go_wp2_with fail
        refine ⟨⟨n + 1, y * 256 + b5.toNat, q5, c5, by omega, by go_num, ?_, HY2.out b5, by omega, hq5, HF3, HB5, HV5, HA5, HG5, by omega⟩, by simp [intOf]; omega⟩
        exact congrArg (Value.int .u64) (HORw.out b5)
      · have hF := HF.out.err hc (8 - (n + 1)) q (y * 256 + (0 : UInt8).toNat)
        have HF2 := Lib.hid hF
        have HC := Lib.hid hc
        clear hF HF hc
        go_wp2_with fail
        refine (next_err s rb q fl c HC.out _ HBr.out).mono ?_
        rintro e w5 ⟨rfl, rfl⟩
        go_wp2_with fail
        refine ⟨⟨n + 1, y * 256 + (0 : UInt8).toNat, q, c, by omega, by go_num, ?_, HY2.out 0, hpq, hq, HF2, HBr, HVr, HAr, HGr, hsr⟩, by simp [intOf]; omega⟩
        exact congrArg (Value.int .u64) (HOR.out 0)
    · obtain rfl : n = 8 := by omega
      have hy64 : y < 18446744073709551616 := Nat.lt_of_lt_of_le hy (by decide)
      have HUX := Lib.hid ((IntWalk.i64_left _).symm.trans (unx63 y hy64))
      have HO := Lib.hid (out_num (k := 9) HF.out.done)
      have ca := blk_cell HAr.out
      have fa := blk_free HAr.out
      have cv := blk_cell HVr.out
      have fv := blk_free HVr.out
      have hnv : ¬ w.heap.size = w3.heap.size := by omega
      have hav : w.heap.size < wr.heap.size := by omega
      clear hy
      go_wp2_with fail
      simp only [HUX.out]
      refine bodyPost_ret (v := .agg #[.int .i64 9, .int .i64 ((y : Int) - 9223372036854775808), .string ⟨#[]⟩, .slice none 0 0, .slice none 0 0]) (by simp only [results, Tryd.results27]; go_simp) rfl ⟨_, _, q, c, rfl, VNew.leaf _ _ _ _ _ _ (by unfold I64; omega) (by unfold I64; omega) (by unfold maxLen; decide), ⟨by omega, by omega⟩, ?_, ?_, HO.out⟩
      · exact (by repeat (first | with_reducible exact HBr.out |  with_reducible refine blk_alloc ?_ _ | ((with_reducible refine blk_far ?_ ?_ _); rotate_left; (· first | (simp; done) | (simp; omega) | omega))))
      · exact (by repeat (first | with_reducible exact HGr.out | with_reducible refine only_drew ?_ | with_reducible refine only_alloc ?_ _ | with_reducible refine only_setCell ?_ (.inl rfl) _ | ((with_reducible refine only_setCell ?_ (.inr ?_) _); rotate_left; (· first | exact Nat.le_refl _ | omega | (simp; done) | (simp; omega)))))
set_option maxRecDepth 20000 in
set_option maxHeartbeats 4000000 in
theorem kv_k10 (s : ByteArray) (fl : UInt8) (d rb p : Nat) (lv : Int) (w : World) (hs : s.size ≤ 1000000000) (hlv : lv = 17 - d) (hd : d ≤ 16) (hp : p ≤ s.size) (h : w.heap[rb]? = some (KrCells s p fl 0)) (b : UInt8) (hx : nextE s fl p = .ok (b, p + 1)) (hd0 : 1 ≤ d) (hk : b.toNat = 10) :
    Calls Tryd.prog 27 #[.pointer (some ⟨rb, 0, none⟩), .int .i64 lv] w (KvPost rb s fl p w (numT 10 (numN s fl 8 (p + 1) 0))) := by
  obtain ⟨r, hr⟩ : ∃ r, numN s fl 8 (p + 1) 0 = r := ⟨_, rfl⟩
  rw [hr]
  have HR := Lib.hid hr
  clear hr
  have HX := Lib.hid hx
  clear hx
  have hrb := blk_lt h
  have H := Lib.hid h
  have hne : rb ≠ w.heap.size := by omega
  have d0 : decide (16 < lv) = false := by simp; omega
  have HLV := Lib.hid hlv
  have hlv1 : 0 ≤ lv ∧ lv ≤ 17 := by omega
  clear hlv h
  go_enter Tryd.func27, Tryd.ntmps27
  go_wp2_with fail
  have HG2 : Hid (w.grownBy (w.alloc (.cells #[.int .i64 0, .int .i64 0, .string ⟨#[]⟩, .slice none 0 0, .slice none 0 0] 41)) (some rb)) := only_alloc (World.grownBy.refl _ _) _
  have HA2 := Lib.hid (blk_at0 w (.cells #[.int .i64 0, .int .i64 0, .string ⟨#[]⟩, .slice none 0 0, .slice none 0 0] 41))
  refine (next_ok s rb p fl _ hs hp (blk_alloc H.out _)).mono ?_
  rw [HX.out]
  rintro e w3 ⟨b1, q1, c1, ⟨hq0, hq1⟩, rfl, hb3, g3, ho, hz⟩
  obtain ⟨rfl, rfl, rfl⟩ := ho
  clear hz hq0
  have hbb := b.toNat_lt
  have HB3 := Lib.hid hb3
  have HG3 := Lib.hid (only_trans HG2.out g3)
  have HA3 := Lib.hid (blk_only HA2.out g3 hne.symm)
  have s3 : w.heap.size < w3.heap.size := by have := g3.size; simp at this; omega
  have r3 : rb < w3.heap.size := by omega
  clear hb3 g3 HG2 HA2 H
  have ck := blk_cell HB3.out
  have cf := blk_free HB3.out
  have ca := blk_cell HA3.out
  have fa := blk_free HA3.out
  have HVB := Lib.hid (blk_at0 w3 (.cells #[.int .i64 10, .int .i64 0, .string ⟨#[]⟩, .slice none 0 0, .slice none 0 0] 41))
  have HG4 : Hid (w.grownBy (w3.alloc (.cells #[.int .i64 10, .int .i64 0, .string ⟨#[]⟩, .slice none 0 0, .slice none 0 0] 41)) (some rb)) := only_alloc HG3.out _
  go_wp2_with fail
  go_loopw [7, 43] (fun u i wr => ∃ (n y q : Nat) (c : Int), n ≤ 8 ∧ i = .int .i64 n ∧ u = .int .u64 y ∧ y < 256 ^ n ∧ p ≤ q ∧ q ≤ s.size ∧ Hid (NRel s fl r (8 - n) q y c) ∧ Hid (wr.heap[rb]? = some (KrCells s q fl c)) ∧ Hid (wr.heap[w3.heap.size]? = some (.cells #[.int .i64 10, .int .i64 0, .string ⟨#[]⟩, .slice none 0 0, .slice none 0 0] 41 (0, 0))) ∧ Hid (wr.heap[w.heap.size]? = some (.cells #[.int .i64 0, .int .i64 0, .string ⟨#[]⟩, .slice none 0 0, .slice none 0 0] 41 (0, 0))) ∧ Hid (w.grownBy wr (some rb)) ∧ w3.heap.size < wr.heap.size) (fun _ i _ => 8 - (intOf i).toNat)
  case atStart => exact ⟨0, 0, p + 1, 0, by omega, rfl, rfl, by simp, by omega, hq1, Or.inl ⟨rfl, HR.out⟩, blk_alloc HB3.out _, HVB, blk_alloc HA3.out _, HG4, by simp⟩
  case round =>
    obtain ⟨n, y, q, c, hn, rfl, rfl, hy, hpq, hq, HF, HBr, HVr, HAr, HGr, hsr⟩ := hrel
    clear ck cf ca fa
    by_cases hlt : n < 8
    · have hy56 : y < 72057594037927936 := Nat.lt_of_lt_of_le hy (Nat.le_trans (Nat.pow_le_pow_right (by omega) (show n ≤ 7 by omega)) (by decide))
      have hy2 : ∀ b : UInt8, y * 256 + b.toNat < 256 ^ (n + 1) := fun b => by have := b.toNat_lt; rw [Nat.pow_succ]; omega
      have HY2 := Lib.hid hy2
      have HOR := Lib.hid (fun b => or_u64 y b hy56)
      have HORw := Lib.hid (fun b => or_u64w y b hy56)
      clear hy hy2
      by_cases hc : c = 0
      · subst hc
        have hF := HF.out
        rw [show 8 - n = (8 - (n + 1)) + 1 by omega] at hF
        have HF2 := Lib.hid hF
        clear hF HF
        go_wp2_with fail
        refine (next_ok s rb q fl _ hs hq HBr.out).mono ?_
        rintro e w5 ⟨b5, q5, c5, ⟨hq50, hq5⟩, rfl, hb5, g5, ho5, hz5⟩
        have HF3 := Lib.hid (HF2.out.step ho5)
        have HB5 := Lib.hid hb5
        have HG5 := Lib.hid (only_trans HGr.out g5)
        have HV5 := Lib.hid (blk_only HVr.out g5 (by omega))
        have HA5 := Lib.hid (blk_only HAr.out g5 hne.symm)
        have s5 : wr.heap.size ≤ w5.heap.size := g5.size
        clear hb5 g5 ho5 hz5 HF2
        go_wp2_with fail
        refine ⟨⟨n + 1, y * 256 + b5.toNat, q5, c5, by omega, by go_num, ?_, HY2.out b5, by omega, hq5, HF3, HB5, HV5, HA5, HG5, by omega⟩, by simp [intOf]; omega⟩
        exact congrArg (Value.int .u64) (HORw.out b5)
      · have hF := HF.out.err hc (8 - (n + 1)) q (y * 256 + (0 : UInt8).toNat)
        have HF2 := Lib.hid hF
        have HC := Lib.hid hc
        clear hF HF hc
        go_wp2_with fail
        refine (next_err s rb q fl c HC.out _ HBr.out).mono ?_
        rintro e w5 ⟨rfl, rfl⟩
        go_wp2_with fail
        refine ⟨⟨n + 1, y * 256 + (0 : UInt8).toNat, q, c, by omega, by go_num, ?_, HY2.out 0, hpq, hq, HF2, HBr, HVr, HAr, HGr, hsr⟩, by simp [intOf]; omega⟩
        exact congrArg (Value.int .u64) (HOR.out 0)
    · obtain rfl : n = 8 := by omega
      have hy64 : y < 18446744073709551616 := Nat.lt_of_lt_of_le hy (by decide)
      have HUX := Lib.hid ((IntWalk.i64_left _).symm.trans (unx63 y hy64))
      have HO := Lib.hid (out_num (k := 10) HF.out.done)
      have ca := blk_cell HAr.out
      have fa := blk_free HAr.out
      have cv := blk_cell HVr.out
      have fv := blk_free HVr.out
      have hnv : ¬ w.heap.size = w3.heap.size := by omega
      have hav : w.heap.size < wr.heap.size := by omega
      clear hy
      go_wp2_with fail
      simp only [HUX.out]
      refine bodyPost_ret (v := .agg #[.int .i64 10, .int .i64 ((y : Int) - 9223372036854775808), .string ⟨#[]⟩, .slice none 0 0, .slice none 0 0]) (by simp only [results, Tryd.results27]; go_simp) rfl ⟨_, _, q, c, rfl, VNew.leaf _ _ _ _ _ _ (by unfold I64; omega) (by unfold I64; omega) (by unfold maxLen; decide), ⟨by omega, by omega⟩, ?_, ?_, HO.out⟩
      · exact (by repeat (first | with_reducible exact HBr.out |  with_reducible refine blk_alloc ?_ _ | ((with_reducible refine blk_far ?_ ?_ _); rotate_left; (· first | (simp; done) | (simp; omega) | omega))))
      · exact (by repeat (first | with_reducible exact HGr.out | with_reducible refine only_drew ?_ | with_reducible refine only_alloc ?_ _ | with_reducible refine only_setCell ?_ (.inl rfl) _ | ((with_reducible refine only_setCell ?_ (.inr ?_) _); rotate_left; (· first | exact Nat.le_refl _ | omega | (simp; done) | (simp; omega)))))
set_option maxRecDepth 20000 in
set_option maxHeartbeats 4000000 in
theorem kv_k6 (s : ByteArray) (fl : UInt8) (d rb p : Nat) (lv : Int) (w : World) (hs : s.size ≤ 1000000000) (hlv : lv = 17 - d) (hd : d ≤ 16) (hp : p ≤ s.size) (h : w.heap[rb]? = some (KrCells s p fl 0)) (b : UInt8) (hx : nextE s fl p = .ok (b, p + 1)) (hd0 : 1 ≤ d) (hk : b.toNat = 6) (d' : Nat) (hd' : d = d' + 1) (ih : KvOk s fl d') :
    Calls Tryd.prog 27 #[.pointer (some ⟨rb, 0, none⟩), .int .i64 lv] w (KvPost rb s fl p w (listT (klistE s fl (kvE s fl d') (s.size + 1) (p + 1) []))) := by
  obtain ⟨r, hr⟩ : ∃ r, listT (klistE s fl (kvE s fl d') (s.size + 1) (p + 1) []) = r := ⟨_, rfl⟩
  rw [hr]
  have HR := Lib.hid hr
  have HIH := Lib.hid ih
  clear hr ih
  have HX := Lib.hid hx
  clear hx
  have hrb := blk_lt h
  have H := Lib.hid h
  have hne : rb ≠ w.heap.size := by omega
  have d0 : decide (16 < lv) = false := by simp; omega
  have HLV := Lib.hid hlv
  have hlv1 : 0 ≤ lv ∧ lv ≤ 17 := by omega
  clear hlv h
  go_enter Tryd.func27, Tryd.ntmps27
  go_wp2_with fail
  have HG2 : Hid (w.grownBy (w.alloc (.cells #[.int .i64 0, .int .i64 0, .string ⟨#[]⟩, .slice none 0 0, .slice none 0 0] 41)) (some rb)) := only_alloc (World.grownBy.refl _ _) _
  have HA2 := Lib.hid (blk_at0 w (.cells #[.int .i64 0, .int .i64 0, .string ⟨#[]⟩, .slice none 0 0, .slice none 0 0] 41))
  refine (next_ok s rb p fl _ hs hp (blk_alloc H.out _)).mono ?_
  rw [HX.out]
  rintro e w3 ⟨b1, q1, c1, ⟨hq0, hq1⟩, rfl, hb3, g3, ho, hz⟩
  obtain ⟨rfl, rfl, rfl⟩ := ho
  clear hz hq0
  have hbb := b.toNat_lt
  have HB3 := Lib.hid hb3
  have HG3 := Lib.hid (only_trans HG2.out g3)
  have HA3 := Lib.hid (blk_only HA2.out g3 hne.symm)
  have s3 : w.heap.size < w3.heap.size := by have := g3.size; simp at this; omega
  have r3 : rb < w3.heap.size := by omega
  clear hb3 g3 HG2 HA2 H
  have ck := blk_cell HB3.out
  have cf := blk_free HB3.out
  have ca := blk_cell HA3.out
  have fa := blk_free HA3.out
  have HVB := Lib.hid (blk_at0 w3 (.cells #[.int .i64 6, .int .i64 0, .string ⟨#[]⟩, .slice none 0 0, .slice none 0 0] 41))
  have HG4 : Hid (w.grownBy (w3.alloc (.cells #[.int .i64 6, .int .i64 0, .string ⟨#[]⟩, .slice none 0 0, .slice none 0 0] 41)) (some rb)) := only_alloc HG3.out _
  have hl4 : w3.heap.size < (w3.alloc (.cells #[.int .i64 6, .int .i64 0, .string ⟨#[]⟩, .slice none 0 0, .slice none 0 0] 41)).heap.size := by simp
  obtain ⟨lo, hlo⟩ : ∃ lo, lo = w3.heap.size + 1 := ⟨_, rfl⟩
  have HLO := Lib.hid hlo
  have hlo1 : w3.heap.size < lo := by omega
  have hlo2 : lo ≤ w3.heap.size + 1 := by omega
  clear hlo hl4
  go_wp2_with fail
  go_loopw [66] (fun _ wr => ∃ (n q : Nat) (ts : List Tr) (c : Int) (x : Value), p ≤ q ∧ q ≤ s.size ∧ s.size + 1 ≤ n + q ∧ ts.length ≤ q ∧ Hid (LRelK s fl (kvE s fl d') r n q ts c) ∧ Hid (wr.heap[rb]? = some (KrCells s q fl c)) ∧ Hid (wr.heap[w3.heap.size]? = some (.cells #[.int .i64 6, .int .i64 0, .string ⟨#[]⟩, x, .slice none 0 0] 41 (0, 0))) ∧
      Hid (wr.heap[w.heap.size]? = some (.cells #[.int .i64 0, .int .i64 0, .string ⟨#[]⟩, .slice none 0 0, .slice none 0 0] 41 (0, 0))) ∧ Hid (VAcc lo wr x ts) ∧ Hid (w.grownBy wr (some rb)) ∧ lo ≤ wr.heap.size) (fun _ wr => s.size + 1 - posOf rb wr)
  case atStart => exact ⟨s.size + 1, p + 1, [], 0, _, by omega, hq1, by omega, by simp, Or.inl ⟨rfl, HR.out⟩, blk_alloc HB3.out _, HVB, blk_alloc HA3.out _, VAcc.nil _ _, HG4, by simp; omega⟩
  case round =>
    clear ck cf ca fa
    obtain ⟨n, q, ts, c, x, hpq, hq, hnq, htl, HF, HBr, HVr, HAr, HAcc, HGr, hsr⟩ := hrel
    obtain ⟨ax, cx, rfl⟩ := HAcc.out.shape
    have HP := Lib.hid (posOf_kr HBr.out)
    have sr : w3.heap.size < wr.heap.size := by omega
    have hrbr : rb < wr.heap.size := by omega
    by_cases hc : c = 0
    case neg =>
      have HO := Lib.hid (HF.out.bad hc (.mk 6 0 ⟨#[]⟩ ts [] []))
      have HC := Lib.hid hc
      clear HF hc
      go_wp2_with fail
      refine (more_err s rb q fl c HC.out _ HBr.out).mono ?_
      rintro e w5 ⟨rfl, rfl⟩
      have ca := blk_cell HAr.out
      have fa := blk_free HAr.out
      have cv := blk_cell HVr.out
      have fv := blk_free HVr.out
      have hnv : ¬ w.heap.size = w3.heap.size := by omega
      have hav : w.heap.size < wr.heap.size := by omega
      have hav3 : w3.heap.size < wr.heap.size := by omega
      go_wp2_with fail
      refine bodyPost_ret (v := .agg #[.int .i64 6, .int .i64 0, .string ⟨#[]⟩, .slice ax ts.length cx, .slice none 0 0]) (by simp only [results, Tryd.results27]; go_simp) rfl ⟨_, _, q, c, rfl, HAcc.out.value (w0 := w.heap.size) ?_ (by omega) ?_ (by omega), ⟨hpq, hq⟩, ?_, ?_, HO.out⟩
      · repeat (first | with_reducible exact Same.refl _ _ | ((with_reducible refine Same.setCell ?_ ?_ _); rotate_left; (· first | (simp; done) | (simp; omega))))
      · simp [World.setCell]
      · exact (by repeat (first | with_reducible exact HBr.out |  with_reducible refine blk_alloc ?_ _ | ((with_reducible refine blk_far ?_ ?_ _); rotate_left; (· first | (simp; done) | (simp; omega) | omega))))
      · exact (by repeat (first | with_reducible exact HGr.out | with_reducible refine only_drew ?_ | with_reducible refine only_alloc ?_ _ | with_reducible refine only_setCell ?_ (.inl rfl) _ | ((with_reducible refine only_setCell ?_ (.inr ?_) _); rotate_left; (· first | exact Nat.le_refl _ | omega | (simp; done) | (simp; omega)))))
    subst hc
    obtain ⟨m, rfl⟩ : ∃ m, n = m + 1 := ⟨n - 1, by omega⟩
    go_wp2_with fail
    refine (more_ok s rb q fl _ hs hq HBr.out).mono ?_
    rintro e w4 ⟨bm, q4, c4, ⟨hq40, hq4⟩, rfl, hk4, g4, ho4, hz4⟩
    have HB4 := Lib.hid hk4
    have HG5 := Lib.hid (only_trans HGr.out g4)
    have HV4 := Lib.hid (blk_only HVr.out g4 (by omega))
    have HA4 := Lib.hid (blk_only HAr.out g4 hne.symm)
    have s4 : wr.heap.size ≤ w4.heap.size := g4.size
    have HAcc4 := Lib.hid (HAcc.out.keep (Same.only (Same.refl _ wr) (Nat.le_refl _) g4 (by omega)))
    clear hk4 g4 HAcc HBr HVr HAr HGr
    cases bm
    case false =>
      have HO := Lib.hid (HF.out.stop ho4)
      clear HF ho4 hz4
      have ca := blk_cell HA4.out
      have fa := blk_free HA4.out
      have cv := blk_cell HV4.out
      have fv := blk_free HV4.out
      have hnv : ¬ w.heap.size = w3.heap.size := by omega
      have hav : w.heap.size < w4.heap.size := by omega
      have hav3 : w3.heap.size < w4.heap.size := by omega
      go_wp2_with fail
      refine bodyPost_ret (v := .agg #[.int .i64 6, .int .i64 0, .string ⟨#[]⟩, .slice ax ts.length cx, .slice none 0 0]) (by simp only [results, Tryd.results27]; go_simp) rfl ⟨_, _, q4, c4, rfl, HAcc4.out.value (w0 := w.heap.size) ?_ (by omega) ?_ (by omega), ⟨by omega, hq4⟩, ?_, ?_, HO.out⟩
      · repeat (first | with_reducible exact Same.refl _ _ | ((with_reducible refine Same.setCell ?_ ?_ _); rotate_left; (· first | (simp; done) | (simp; omega))))
      · simp [World.setCell]
      · exact (by repeat (first | with_reducible exact HB4.out |  with_reducible refine blk_alloc ?_ _ | ((with_reducible refine blk_far ?_ ?_ _); rotate_left; (· first | (simp; done) | (simp; omega) | omega))))
      · exact (by repeat (first | with_reducible exact HG5.out | with_reducible refine only_drew ?_ | with_reducible refine only_alloc ?_ _ | with_reducible refine only_setCell ?_ (.inl rfl) _ | ((with_reducible refine only_setCell ?_ (.inr ?_) _); rotate_left; (· first | exact Nat.le_refl _ | omega | (simp; done) | (simp; omega)))))
    have HO4 := Lib.hid ho4
    have HZ4 := Lib.hid hz4
    clear ho4 hz4
    have hc4 : c4 = 0 := Decidable.byContradiction fun h => by simpa using HZ4.out h
    subst hc4
    have hwl := wrap_i64_val (lv + 1) (by omega) (by omega)
    have cv := blk_cell HV4.out
    have fv := blk_free HV4.out
    have hvl : w3.heap.size < w4.heap.size := by omega
    go_wp2_with fail
    refine wp_region_mixz (fun W => W.heap[w3.heap.size]? = some (.cells #[.int .i64 6, .int .i64 0, .string ⟨#[]⟩, .slice ax ts.length cx, .slice none 0 0] 41 (0, 0))) 9 [(true, 0), (true, 1), (true, 2), (true, 3), (true, 4), (false, 5), (false, 6), (false, 7), (true, 8), (false, 9)] (by kernel_rfl) (by kernel_rfl) (by kernel_rfl) (by kernel_rfl) (by kernel_rfl) (by kernel_rfl) ?hS ?_
    case hS => exact HV4.out
    repeat (first | (refine wpMixZ_q (v := ?_) rfl rfl ?_ ?_; rotate_left; (· intro wq hSq; have cq := blk_cell hSq; go_simp; try (with_reducible rfl)); simp only [Act.put, List.setIfInBounds_toArray, List.set_cons_zero, List.set_cons_succ, List.getElem_toArray, List.getElem_cons_zero, List.getElem_cons_succ]) | (refine wpMixZ_u rfl rfl ?_; simp only [Act.put, List.setIfInBounds_toArray, List.set_cons_zero, List.set_cons_succ, List.getElem_toArray, List.getElem_cons_zero, List.getElem_cons_succ]))
    refine wpMixZ_l rfl rfl (fun K hK => ?_)
    go_simp
    refine (HIH.out rb q4 0 (lv + 1) w4.drew (by have := HLV.out; omega) hq4 HB4.out).mono ?_
    rintro e w5 ⟨t5, v5, q5, c5, rfl, hv5, ⟨hq50, hq5⟩, hk5, g5, ho5⟩
    rw [if_pos rfl] at ho5
    obtain ⟨-, hq4e, hgo⟩ := HF.out.go HO4.out HZ4.out ho5
    have HF3 := Lib.hid hgo
    subst hq4e
    clear hgo HF HO4 HZ4 ho5
    have HB5 := Lib.hid hk5
    have HG5' := Lib.hid (only_trans (only_drew HG5.out) g5)
    have HV5 := Lib.hid (blk_only (w := w4.drew) HV4.out g5 (by omega))
    have HA5 := Lib.hid (blk_only (w := w4.drew) HA4.out g5 hne.symm)
    have sz5 : w4.heap.size ≤ w5.heap.size := g5.size
    have HSm : Hid (Same lo w4 w5) := Same.only (w := w4.drew) (Same.refl _ w4).drew (Nat.le_refl _) g5 (by omega)
    have HAcc5 := Lib.hid (HAcc4.out.keep HSm.out)
    have HW5 : Hid (VNew w4.heap.size w5.heap.size w5 t5 v5) := hv5
    obtain ⟨k', i', s', la', ln', lc', da', dn', dc', rfl⟩ := VRep.shape (show VRep (win _ w5) t5 v5 from HW5.out)
    have hown : ∀ g, (Value.slice ax ts.length cx).ownBlock = some g → lo ≤ g ∧ g < w4.heap.size := fun g hg => by
      obtain ⟨cs, ho, _⟩ := HAcc4.out
      exact ho.lt g hg
    have HOwn := Lib.hid hown
    refine hK _ _ HV5.out ?_
    clear hK K hv5 hk5 g5 hown
    refine wpMixZ_l rfl rfl (fun K hK => ?_)
    go_simp
    refine hK _ _ (blk_alloc HV5.out _) ?_
    clear hK K
    refine wpMixZ_l rfl rfl (fun K hK => ?_)
    refine wp_append_vacc w5 _ _ rfl lo (.slice ax ts.length cx) ts rfl HAcc5.out t5 _ _ _ _ _ rfl w4.heap.size (by omega) (fun g hg => (HOwn.out g hg).2) HW5.out (by omega) (by omega) ?_
    intro v6 w6 a6 o6 g6
    obtain ⟨ts6, hts6⟩ : ∃ l, ts ++ [t5] = l := ⟨_, rfl⟩
    have hl6 : ts6.length ≤ q5 := by rw [← hts6]; simp; omega
    rw [hts6] at a6 HF3
    clear hts6
    have HAcc6 := Lib.hid a6
    have hbk : ∀ i, i < lo → w6.heap[i]? = w5.heap[i]? := fun i hi => by
      rw [g6.block i (by simp; omega) (fun e => by have := (HOwn.out i e.symm).1; omega), Below.heap_alloc w5 _ i (by omega)]
    have HB6 : Hid (w6.heap[rb]? = some (KrCells s q5 fl c5)) := (hbk rb (by omega)).trans HB5.out
    have HV6 : Hid (w6.heap[w3.heap.size]? = some (.cells #[.int .i64 6, .int .i64 0, .string ⟨#[]⟩, .slice ax ts.length cx, .slice none 0 0] 41 (0, 0))) := (hbk _ (by omega)).trans HV5.out
    have HA6 : Hid (w6.heap[w.heap.size]? = some (.cells #[.int .i64 0, .int .i64 0, .string ⟨#[]⟩, .slice none 0 0, .slice none 0 0] 41 (0, 0))) := (hbk _ (by omega)).trans HA5.out
    have sz6 : w5.heap.size < w6.heap.size := by have := g6.size; simp at this; omega
    have HG6 : Hid (w.grownBy w6 (some rb)) := by
      have g7 := only_alloc HG5'.out (.cells #[.int .i64 k', .int .i64 i', .string s', .slice la' ln' lc', .slice da' dn' dc'] 41)
      exact ⟨g6.os.trans g7.os, g6.tape.trans g7.tape, g6.output.trans g7.output, Nat.le_trans g7.size g6.size, fun i hi hn => by
        rw [g6.block i (by have := g7.size; omega) (fun e => by have := (HOwn.out i e.symm).1; omega)]
        exact g7.block i hi hn⟩
    refine hK _ _ HV6.out ?_
    clear hK K a6 g6 hbk HAcc5 HB5 HV5 HA5 HG5' cv fv
    obtain ⟨ax6, cx6, rfl⟩ := HAcc6.out.shape
    repeat (first | (refine wpMixZ_q (v := ?_) rfl rfl ?_ ?_; rotate_left; (· intro wq hSq; have cq := blk_cell hSq; go_simp; try (with_reducible rfl)); simp only [Act.put, List.setIfInBounds_toArray, List.set_cons_zero, List.set_cons_succ, List.getElem_toArray, List.getElem_cons_zero, List.getElem_cons_succ]) | (refine wpMixZ_u rfl rfl ?_; simp only [Act.put, List.setIfInBounds_toArray, List.set_cons_zero, List.set_cons_succ, List.getElem_toArray, List.getElem_cons_zero, List.getElem_cons_succ]))
    refine wpMixZ_z rfl rfl (fun K hK => ?_)
    have cv := blk_cell HV6.out
    have fv := blk_free HV6.out
    go_simp
    refine hK _ _ ?_
    clear hK K
    refine wpMixZ_nil ?_
    have HV7 := Lib.hid (blk_set HV6.out 3 (.slice ax6 ts6.length cx6))
    have HB7 := Lib.hid (blk_far HB6.out (p := ⟨w3.heap.size, 3, none⟩) (by simp; omega) (.slice ax6 ts6.length cx6))
    have HA7 := Lib.hid (blk_far HA6.out (p := ⟨w3.heap.size, 3, none⟩) (by simp; omega) (.slice ax6 ts6.length cx6))
    have HG7 := Lib.hid (only_setCell HG6.out (p := ⟨w3.heap.size, 3, none⟩) (.inr (by simp; omega)) (.slice ax6 ts6.length cx6))
    have HAcc7 := Lib.hid (HAcc6.out.keep (Same.setCell (Same.refl _ _) (p := ⟨w3.heap.size, 3, none⟩) (by simp; omega) (.slice ax6 ts6.length cx6)))
    go_wp2_with fail
    exact ⟨⟨m, q5, ts6, c5, _, by omega, hq5, by omega, hl6, HF3, HB7, HV7, HA7, HAcc7, HG7, by simp [World.setCell]; omega⟩, by rw [posOf_kr HB7.out, HP.out]; omega⟩
set_option maxRecDepth 20000 in
set_option maxHeartbeats 4000000 in
theorem kv_k5 (s : ByteArray) (fl : UInt8) (d rb p : Nat) (lv : Int) (w : World) (hs : s.size ≤ 1000000000) (hlv : lv = 17 - d) (hd : d ≤ 16) (hp : p ≤ s.size) (h : w.heap[rb]? = some (KrCells s p fl 0)) (b : UInt8) (hx : nextE s fl p = .ok (b, p + 1)) (hd0 : 1 ≤ d) (hk : b.toNat = 5) (d' : Nat) (hd' : d = d' + 1) (ih : KvOk s fl d') :
    Calls Tryd.prog 27 #[.pointer (some ⟨rb, 0, none⟩), .int .i64 lv] w (KvPost rb s fl p w (docT (kdocE s fl (kvE s fl d') (s.size + 1) (p + 1) [] []))) := by
  obtain ⟨r, hr⟩ : ∃ r, docT (kdocE s fl (kvE s fl d') (s.size + 1) (p + 1) [] []) = r := ⟨_, rfl⟩
  rw [hr]
  have HR := Lib.hid hr
  have HIH := Lib.hid ih
  clear hr ih
  have HX := Lib.hid hx
  clear hx
  have hrb := blk_lt h
  have H := Lib.hid h
  have hne : rb ≠ w.heap.size := by omega
  have d0 : decide (16 < lv) = false := by simp; omega
  have HLV := Lib.hid hlv
  have hlv1 : 0 ≤ lv ∧ lv ≤ 17 := by omega
  clear hlv h
  go_enter Tryd.func27, Tryd.ntmps27
  go_wp2_with fail
  have HG2 : Hid (w.grownBy (w.alloc (.cells #[.int .i64 0, .int .i64 0, .string ⟨#[]⟩, .slice none 0 0, .slice none 0 0] 41)) (some rb)) := only_alloc (World.grownBy.refl _ _) _
  have HA2 := Lib.hid (blk_at0 w (.cells #[.int .i64 0, .int .i64 0, .string ⟨#[]⟩, .slice none 0 0, .slice none 0 0] 41))
  refine (next_ok s rb p fl _ hs hp (blk_alloc H.out _)).mono ?_
  rw [HX.out]
  rintro e w3 ⟨b1, q1, c1, ⟨hq0, hq1⟩, rfl, hb3, g3, ho, hz⟩
  obtain ⟨rfl, rfl, rfl⟩ := ho
  clear hz hq0
  have hbb := b.toNat_lt
  have HB3 := Lib.hid hb3
  have HG3 := Lib.hid (only_trans HG2.out g3)
  have HA3 := Lib.hid (blk_only HA2.out g3 hne.symm)
  have s3 : w.heap.size < w3.heap.size := by have := g3.size; simp at this; omega
  have r3 : rb < w3.heap.size := by omega
  clear hb3 g3 HG2 HA2 H
  have ck := blk_cell HB3.out
  have cf := blk_free HB3.out
  have ca := blk_cell HA3.out
  have fa := blk_free HA3.out
  have HVB := Lib.hid (blk_at0 w3 (.cells #[.int .i64 5, .int .i64 0, .string ⟨#[]⟩, .slice none 0 0, .slice none 0 0] 41))
  have HG4 : Hid (w.grownBy (w3.alloc (.cells #[.int .i64 5, .int .i64 0, .string ⟨#[]⟩, .slice none 0 0, .slice none 0 0] 41)) (some rb)) := only_alloc HG3.out _
  have hl4 : w3.heap.size < (w3.alloc (.cells #[.int .i64 5, .int .i64 0, .string ⟨#[]⟩, .slice none 0 0, .slice none 0 0] 41)).heap.size := by simp
  obtain ⟨lo, hlo⟩ : ∃ lo, lo = w3.heap.size + 1 := ⟨_, rfl⟩
  have HLO := Lib.hid hlo
  have hlo1 : w3.heap.size < lo := by omega
  have hlo2 : lo ≤ w3.heap.size + 1 := by omega
  clear hlo hl4
  go_wp2_with fail
  go_loopw [79] (fun _ wr => ∃ (n q : Nat) (ns : List ByteArray) (ts : List Tr) (c : Int) (x : Value), p ≤ q ∧ q ≤ s.size ∧ s.size + 1 ≤ n + q ∧ ts.length ≤ q ∧ Hid (DRelK s fl (kvE s fl d') r n q ns ts c) ∧ Hid (wr.heap[rb]? = some (KrCells s q fl c)) ∧ Hid (wr.heap[w3.heap.size]? = some (.cells #[.int .i64 5, .int .i64 0, .string ⟨#[]⟩, .slice none 0 0, x] 41 (0, 0))) ∧
      Hid (wr.heap[w.heap.size]? = some (.cells #[.int .i64 0, .int .i64 0, .string ⟨#[]⟩, .slice none 0 0, .slice none 0 0] 41 (0, 0))) ∧ Hid (FAcc lo wr x ns ts) ∧ Hid (w.grownBy wr (some rb)) ∧ lo ≤ wr.heap.size) (fun _ wr => s.size + 1 - posOf rb wr)
  case atStart => exact ⟨s.size + 1, p + 1, [], [], 0, _, by omega, hq1, by omega, by simp, Or.inl ⟨rfl, HR.out⟩, blk_alloc HB3.out _, HVB, blk_alloc HA3.out _, FAcc.nil _ _, HG4, by simp; omega⟩
  case round =>
    clear ck cf ca fa
    obtain ⟨n, q, ns, ts, c, x, hpq, hq, hnq, htl, HF, HBr, HVr, HAr, HAcc, HGr, hsr⟩ := hrel
    obtain ⟨ax, cx, rfl⟩ := HAcc.out.shape
    have HP := Lib.hid (posOf_kr HBr.out)
    have sr : w3.heap.size < wr.heap.size := by omega
    have hrbr : rb < wr.heap.size := by omega
    by_cases hc : c = 0
    case neg =>
      have HO := Lib.hid (HF.out.bad hc (.mk 5 0 ⟨#[]⟩ [] ns ts))
      have HC := Lib.hid hc
      clear HF hc
      go_wp2_with fail
      refine (more_err s rb q fl c HC.out _ HBr.out).mono ?_
      rintro e w5 ⟨rfl, rfl⟩
      have ca := blk_cell HAr.out
      have fa := blk_free HAr.out
      have cv := blk_cell HVr.out
      have fv := blk_free HVr.out
      have hnv : ¬ w.heap.size = w3.heap.size := by omega
      have hav : w.heap.size < wr.heap.size := by omega
      have hav3 : w3.heap.size < wr.heap.size := by omega
      go_wp2_with fail
      refine bodyPost_ret (v := .agg #[.int .i64 5, .int .i64 0, .string ⟨#[]⟩, .slice none 0 0, .slice ax ts.length cx]) (by simp only [results, Tryd.results27]; go_simp) rfl ⟨_, _, q, c, rfl, HAcc.out.value (w0 := w.heap.size) ?_ (by omega) ?_ (by omega), ⟨hpq, hq⟩, ?_, ?_, HO.out⟩
      · repeat (first | with_reducible exact Same.refl _ _ | ((with_reducible refine Same.setCell ?_ ?_ _); rotate_left; (· first | (simp; done) | (simp; omega))))
      · simp [World.setCell]
      · exact (by repeat (first | with_reducible exact HBr.out |  with_reducible refine blk_alloc ?_ _ | ((with_reducible refine blk_far ?_ ?_ _); rotate_left; (· first | (simp; done) | (simp; omega) | omega))))
      · exact (by repeat (first | with_reducible exact HGr.out | with_reducible refine only_drew ?_ | with_reducible refine only_alloc ?_ _ | with_reducible refine only_setCell ?_ (.inl rfl) _ | ((with_reducible refine only_setCell ?_ (.inr ?_) _); rotate_left; (· first | exact Nat.le_refl _ | omega | (simp; done) | (simp; omega)))))
    subst hc
    obtain ⟨m, rfl⟩ : ∃ m, n = m + 1 := ⟨n - 1, by omega⟩
    go_wp2_with fail
    refine (more_ok s rb q fl _ hs hq HBr.out).mono ?_
    rintro e w4 ⟨bm, q4, c4, ⟨hq40, hq4⟩, rfl, hk4, g4, ho4, hz4⟩
    have HB4 := Lib.hid hk4
    have HG5 := Lib.hid (only_trans HGr.out g4)
    have HV4 := Lib.hid (blk_only HVr.out g4 (by omega))
    have HA4 := Lib.hid (blk_only HAr.out g4 hne.symm)
    have s4 : wr.heap.size ≤ w4.heap.size := g4.size
    have HAcc4 := Lib.hid (HAcc.out.keep (Same.only (Same.refl _ wr) (Nat.le_refl _) g4 (by omega)))
    clear hk4 g4 HAcc HBr HVr HAr HGr
    cases bm
    case false =>
      have HO := Lib.hid (HF.out.stop ho4)
      clear HF ho4 hz4
      have ca := blk_cell HA4.out
      have fa := blk_free HA4.out
      have cv := blk_cell HV4.out
      have fv := blk_free HV4.out
      have hnv : ¬ w.heap.size = w3.heap.size := by omega
      have hav : w.heap.size < w4.heap.size := by omega
      have hav3 : w3.heap.size < w4.heap.size := by omega
      go_wp2_with fail
      refine bodyPost_ret (v := .agg #[.int .i64 5, .int .i64 0, .string ⟨#[]⟩, .slice none 0 0, .slice ax ts.length cx]) (by simp only [results, Tryd.results27]; go_simp) rfl ⟨_, _, q4, c4, rfl, HAcc4.out.value (w0 := w.heap.size) ?_ (by omega) ?_ (by omega), ⟨by omega, hq4⟩, ?_, ?_, HO.out⟩
      · repeat (first | with_reducible exact Same.refl _ _ | ((with_reducible refine Same.setCell ?_ ?_ _); rotate_left; (· first | (simp; done) | (simp; omega))))
      · simp [World.setCell]
      · exact (by repeat (first | with_reducible exact HB4.out |  with_reducible refine blk_alloc ?_ _ | ((with_reducible refine blk_far ?_ ?_ _); rotate_left; (· first | (simp; done) | (simp; omega) | omega))))
      · exact (by repeat (first | with_reducible exact HG5.out | with_reducible refine only_drew ?_ | with_reducible refine only_alloc ?_ _ | with_reducible refine only_setCell ?_ (.inl rfl) _ | ((with_reducible refine only_setCell ?_ (.inr ?_) _); rotate_left; (· first | exact Nat.le_refl _ | omega | (simp; done) | (simp; omega)))))
    have HO4 := Lib.hid ho4
    have HZ4 := Lib.hid hz4
    clear ho4 hz4
    have hc4 : c4 = 0 := Decidable.byContradiction fun h => by simpa using HZ4.out h
    subst hc4
    have hq4e : q4 = q + 1 := by
      have h := HO4.out
      cases hx : moreE s fl q with
      | error e => rw [hx] at h; exact absurd rfl h.2
      | ok z => obtain ⟨a, b⟩ := z; rw [hx] at h; obtain ⟨rfl, rfl, _⟩ := h; exact moreE_ok hx
    subst hq4e
    have hwl := wrap_i64_val (lv + 1) (by omega) (by omega)
    go_wp2_with fail
    refine (name_ok s rb (q + 1) fl _ hs hq4 HB4.out).mono ?_
    rintro e w8 ⟨l8, q8, c8, hl8, ⟨hq80, hq8⟩, rfl, hk8, g8, ho8⟩
    have HO8 := Lib.hid ho8
    have HB8 := Lib.hid hk8
    have HG8 := Lib.hid (only_trans HG5.out g8)
    have HV8 := Lib.hid (blk_only HV4.out g8 (by omega))
    have HA8 := Lib.hid (blk_only HA4.out g8 hne.symm)
    have s8 : w4.heap.size ≤ w8.heap.size := g8.size
    have HAcc8 := Lib.hid (HAcc4.out.keep (Same.only (Same.refl _ w4) (Nat.le_refl _) g8 (by omega)))
    have hm8 : (⟨l8.toArray⟩ : ByteArray).size ≤ maxLen := by unfold maxLen; show l8.toArray.size ≤ _; simp; omega
    clear ho8 hk8 g8 HB4 HG5 HV4 HA4 HAcc4
    have cv := blk_cell HV8.out
    have fv := blk_free HV8.out
    have hvl : w3.heap.size < w8.heap.size := by omega
    go_wp2_with fail
    refine wp_region_mixz (fun W => W.heap[w3.heap.size]? = some (.cells #[.int .i64 5, .int .i64 0, .string ⟨#[]⟩, .slice none 0 0, .slice ax ts.length cx] 41 (0, 0))) 11 [(true, 0), (true, 1), (true, 2), (true, 3), (true, 4), (true, 5), (false, 6), (true, 7), (false, 8), (false, 9), (true, 10), (false, 11)] (by kernel_rfl) (by kernel_rfl) (by kernel_rfl) (by kernel_rfl) (by kernel_rfl) (by kernel_rfl) ?hS ?_
    case hS => exact HV8.out
    repeat (first | (refine wpMixZ_q (v := ?_) rfl rfl ?_ ?_; rotate_left; (· intro wq hSq; have cq := blk_cell hSq; go_simp; try (with_reducible rfl)); simp only [Act.put, List.setIfInBounds_toArray, List.set_cons_zero, List.set_cons_succ, List.getElem_toArray, List.getElem_cons_zero, List.getElem_cons_succ]) | (refine wpMixZ_u rfl rfl ?_; simp only [Act.put, List.setIfInBounds_toArray, List.set_cons_zero, List.set_cons_succ, List.getElem_toArray, List.getElem_cons_zero, List.getElem_cons_succ]))
    refine wpMixZ_l rfl rfl (fun K hK => ?_)
    go_simp
    refine (HIH.out rb q8 c8 (lv + 1) w8.drew (by have := HLV.out; omega) hq8 HB8.out).mono ?_
    rintro e w5 ⟨t5, v5, q5, c5, rfl, hv5, ⟨hq50, hq5⟩, hk5, g5, ho5⟩
    have HF3 := Lib.hid (HF.out.go HO4.out HO8.out ho5)
    clear HF HO4 HZ4 ho5
    have HB5 := Lib.hid hk5
    have HG5' := Lib.hid (only_trans (only_drew HG8.out) g5)
    have HV5 := Lib.hid (blk_only (w := w8.drew) HV8.out g5 (by omega))
    have HA5 := Lib.hid (blk_only (w := w8.drew) HA8.out g5 hne.symm)
    have sz5 : w8.heap.size ≤ w5.heap.size := g5.size
    have HSm : Hid (Same lo w8 w5) := Same.only (w := w8.drew) (Same.refl _ w8).drew (Nat.le_refl _) g5 (by omega)
    have HAcc5 := Lib.hid (HAcc8.out.keep HSm.out)
    have HW5 : Hid (VNew w8.heap.size w5.heap.size w5 t5 v5) := hv5
    obtain ⟨k', i', s', la', ln', lc', da', dn', dc', rfl⟩ := VRep.shape (show VRep (win _ w5) t5 v5 from HW5.out)
    have hown : ∀ g, (Value.slice ax ts.length cx).ownBlock = some g → lo ≤ g ∧ g < w8.heap.size := fun g hg => by
      obtain ⟨cs, ho, _⟩ := HAcc8.out
      exact ho.lt g hg
    have HOwn := Lib.hid hown
    refine hK _ _ HV5.out ?_
    clear hK K hv5 hk5 g5 hown
    repeat (first | (refine wpMixZ_q (v := ?_) rfl rfl ?_ ?_; rotate_left; (· intro wq hSq; have cq := blk_cell hSq; go_simp; try (with_reducible rfl)); simp only [Act.put, List.setIfInBounds_toArray, List.set_cons_zero, List.set_cons_succ, List.getElem_toArray, List.getElem_cons_zero, List.getElem_cons_succ]) | (refine wpMixZ_u rfl rfl ?_; simp only [Act.put, List.setIfInBounds_toArray, List.set_cons_zero, List.set_cons_succ, List.getElem_toArray, List.getElem_cons_zero, List.getElem_cons_succ]))
    refine wpMixZ_l rfl rfl (fun K hK => ?_)
    go_simp
    refine hK _ _ (blk_alloc HV5.out _) ?_
    clear hK K
    refine wpMixZ_l rfl rfl (fun K hK => ?_)
    refine wp_append_facc w5 _ _ rfl lo (.slice ax ts.length cx) ns ts rfl HAcc5.out t5 ⟨l8.toArray⟩ hm8 _ _ _ _ _ rfl w8.heap.size (by omega) (fun g hg => (HOwn.out g hg).2) HW5.out (by omega) (by omega) ?_
    intro v6 w6 a6 o6 g6
    obtain ⟨ts6, hts6⟩ : ∃ l, ts ++ [t5] = l := ⟨_, rfl⟩
    obtain ⟨ns6, hns6⟩ : ∃ l, ns ++ [(⟨l8.toArray⟩ : ByteArray)] = l := ⟨_, rfl⟩
    have hl6 : ts6.length ≤ q5 := by rw [← hts6]; simp; omega
    rw [hts6, hns6] at a6 HF3
    clear hts6 hns6
    have HAcc6 := Lib.hid a6
    have hbk : ∀ i, i < lo → w6.heap[i]? = w5.heap[i]? := fun i hi => by
      rw [g6.block i (by simp; omega) (fun e => by have := (HOwn.out i e.symm).1; omega), Below.heap_alloc w5 _ i (by omega)]
    have HB6 : Hid (w6.heap[rb]? = some (KrCells s q5 fl c5)) := (hbk rb (by omega)).trans HB5.out
    have HV6 : Hid (w6.heap[w3.heap.size]? = some (.cells #[.int .i64 5, .int .i64 0, .string ⟨#[]⟩, .slice none 0 0, .slice ax ts.length cx] 41 (0, 0))) := (hbk _ (by omega)).trans HV5.out
    have HA6 : Hid (w6.heap[w.heap.size]? = some (.cells #[.int .i64 0, .int .i64 0, .string ⟨#[]⟩, .slice none 0 0, .slice none 0 0] 41 (0, 0))) := (hbk _ (by omega)).trans HA5.out
    have sz6 : w5.heap.size < w6.heap.size := by have := g6.size; simp at this; omega
    have HG6 : Hid (w.grownBy w6 (some rb)) := by
      have g7 := only_alloc HG5'.out (.cells #[.string ⟨l8.toArray⟩, .int .i64 k', .int .i64 i', .string s', .slice la' ln' lc', .slice da' dn' dc'] 58)
      exact ⟨g6.os.trans g7.os, g6.tape.trans g7.tape, g6.output.trans g7.output, Nat.le_trans g7.size g6.size, fun i hi hn => by
        rw [g6.block i (by have := g7.size; omega) (fun e => by have := (HOwn.out i e.symm).1; omega)]
        exact g7.block i hi hn⟩
    refine hK _ _ HV6.out ?_
    clear hK K a6 g6 hbk HAcc5 HB5 HV5 HA5 HG5' cv fv
    obtain ⟨ax6, cx6, rfl⟩ := HAcc6.out.shape
    repeat (first | (refine wpMixZ_q (v := ?_) rfl rfl ?_ ?_; rotate_left; (· intro wq hSq; have cq := blk_cell hSq; go_simp; try (with_reducible rfl)); simp only [Act.put, List.setIfInBounds_toArray, List.set_cons_zero, List.set_cons_succ, List.getElem_toArray, List.getElem_cons_zero, List.getElem_cons_succ]) | (refine wpMixZ_u rfl rfl ?_; simp only [Act.put, List.setIfInBounds_toArray, List.set_cons_zero, List.set_cons_succ, List.getElem_toArray, List.getElem_cons_zero, List.getElem_cons_succ]))
    refine wpMixZ_z rfl rfl (fun K hK => ?_)
    have cv := blk_cell HV6.out
    have fv := blk_free HV6.out
    go_simp
    refine hK _ _ ?_
    clear hK K
    refine wpMixZ_nil ?_
    have HV7 := Lib.hid (blk_set HV6.out 4 (.slice ax6 ts6.length cx6))
    have HB7 := Lib.hid (blk_far HB6.out (p := ⟨w3.heap.size, 4, none⟩) (by simp; omega) (.slice ax6 ts6.length cx6))
    have HA7 := Lib.hid (blk_far HA6.out (p := ⟨w3.heap.size, 4, none⟩) (by simp; omega) (.slice ax6 ts6.length cx6))
    have HG7 := Lib.hid (only_setCell HG6.out (p := ⟨w3.heap.size, 4, none⟩) (.inr (by simp; omega)) (.slice ax6 ts6.length cx6))
    have HAcc7 := Lib.hid (HAcc6.out.keep (Same.setCell (Same.refl _ _) (p := ⟨w3.heap.size, 4, none⟩) (by simp; omega) (.slice ax6 ts6.length cx6)))
    go_wp2_with fail
    exact ⟨⟨m, q5, ns6, ts6, c5, _, by omega, hq5, by omega, hl6, HF3, HB7, HV7, HA7, HAcc7, HG7, by simp [World.setCell]; omega⟩, by rw [posOf_kr HB7.out, HP.out]; omega⟩
theorem kv_ok (s : ByteArray) (fl : UInt8) (hs : s.size ≤ 1000000000) : ∀ d, d ≤ 16 → KvOk s fl d := by
  intro d
  induction d with
  | zero =>
    intro hd rb p c lv w hlv hp h
    by_cases hc : c = 0
    case neg => rw [if_neg hc]; exact kv_err s fl rb p c lv w hc hp h
    subst hc
    rw [if_pos rfl]
    cases hx : nextE s fl p with
    | error e0 =>
      rw [show kvE s fl 0 p = .error e0 by simp only [kvE, hx]]
      exact kv_short s fl 0 rb p lv w hs hlv (by omega) hp h e0 hx
    | ok z =>
      obtain ⟨b, q⟩ := z
      obtain ⟨-, rfl, -⟩ := nextE_ok hx
      rw [show kvE s fl 0 p = .error 4 by simp only [kvE, hx]]
      exact kv_deep s fl 0 rb p lv w hs hlv (by omega) hp h b hx rfl
  | succ d' ih' =>
    intro hd rb p c lv w hlv hp h
    have ih := ih' (by omega)
    clear ih'
    obtain ⟨d, hd'⟩ : ∃ d, d = d' + 1 := ⟨_, rfl⟩
    have hlv : lv = 17 - d := by omega
    by_cases hc : c = 0
    case neg => rw [if_neg hc]; exact kv_err s fl rb p c lv w hc hp h
    subst hc
    rw [if_pos rfl]
    cases hx : nextE s fl p with
    | error e0 =>
      rw [show kvE s fl (d' + 1) p = .error e0 by simp only [kvE, hx]]
      exact kv_short s fl d rb p lv w hs hlv (by omega) hp h e0 hx
    | ok z =>
      obtain ⟨b, q⟩ := z
      obtain ⟨-, rfl, -⟩ := nextE_ok hx
      rw [show kvE s fl (d' + 1) p = kvK s fl (kvE s fl d') (decide (d' = 15)) b.toNat (p + 1) by simp only [kvE, hx]]
      have hx' := hx
      unfold kvK
      by_cases c0 : 11 < b.toNat ∨ (b.toNat = 0 ∧ decide (d' = 15) = false)
      · rw [if_pos c0]
        rcases c0 with c0 | ⟨c0, c1⟩
        · exact kv_big s fl d rb p lv w hs hlv (by omega) hp h b hx' (by omega) c0
        · exact kv_none s fl d rb p lv w hs hlv (by omega) hp h b hx' (by omega) (by simp at c1; omega) c0
      rw [if_neg c0]
      by_cases c3 : b.toNat = 3 ∨ b.toNat = 9 ∨ b.toNat = 10
      · rw [if_pos c3]
        rcases c3 with c3 | c3 | c3
        · rw [c3]; exact kv_k3 s fl d rb p lv w hs hlv (by omega) hp h b hx' (by omega) c3
        · rw [c3]; exact kv_k9 s fl d rb p lv w hs hlv (by omega) hp h b hx' (by omega) c3
        · rw [c3]; exact kv_k10 s fl d rb p lv w hs hlv (by omega) hp h b hx' (by omega) c3
      rw [if_neg c3]
      by_cases c4 : b.toNat = 4 ∨ b.toNat = 7 ∨ b.toNat = 8
      · rw [if_pos c4]
        rcases c4 with c4 | c4 | c4
        · rw [c4]; exact kv_k4 s fl d rb p lv w hs hlv (by omega) hp h b hx' (by omega) c4
        · rw [c4]; exact kv_k7 s fl d rb p lv w hs hlv (by omega) hp h b hx' (by omega) c4
        · rw [c4]; exact kv_k8 s fl d rb p lv w hs hlv (by omega) hp h b hx' (by omega) c4
      rw [if_neg c4]
      by_cases c6 : b.toNat = 6
      · rw [if_pos c6]; exact kv_k6 s fl d rb p lv w hs hlv (by omega) hp h b hx' (by omega) c6 d' hd' ih
      rw [if_neg c6]
      by_cases c5 : b.toNat = 5
      · rw [if_pos c5]; exact kv_k5 s fl d rb p lv w hs hlv (by omega) hp h b hx' (by omega) c5 d' hd' ih
      rw [if_neg c5]
      by_cases k0 : b.toNat = 0
      · rw [k0]; exact kv_k0 s fl d rb p lv w hs hlv (by omega) hp h b hx' (by omega) k0 (by simp [k0] at c0; omega)
      by_cases k1 : b.toNat = 1
      · rw [k1]; exact kv_k1 s fl d rb p lv w hs hlv (by omega) hp h b hx' (by omega) k1
      by_cases k2 : b.toNat = 2
      · rw [k2]; exact kv_k2 s fl d rb p lv w hs hlv (by omega) hp h b hx' (by omega) k2
      have k11 : b.toNat = 11 := by omega
      rw [k11]; exact kv_k11 s fl d rb p lv w hs hlv (by omega) hp h b hx' (by omega) k11
end Go.Proofs.YtipphlhaaienpaaDoor
set_option linter.unusedSimpArgs false
set_option linter.unusedVariables false
namespace Go.Proofs.YtipphlhaaienpaaDoor
open Go.RowKit
theorem wpList_append_vacc {ops : Array Oper} {rest : List Oper} {o : Oper} {a : Act} {Q : Exit → Act → World → Prop} (w : World) (hgd : o.guard = none) (s x : Operand) (ho : o.op = .call { callee := .builtin .append, args := #[s, x], argTypes := #[22, 22] })
    (lo : Nat) (v : Value) (ts : List Tr) (hs : a.eval s = v) (hR : VAcc lo w v ts) (t : Tr) (c0 c1 c2 c3 c4 : Value) (hx : a.eval x = .slice (some ⟨w.heap.size, 0, none⟩) 1 1)
    (lo' : Nat) (hlo : lo ≤ lo') (hown : ∀ g, v.ownBlock = some g → g < lo') (hV : VNew lo' w.heap.size w t (.agg #[c0, c1, c2, c3, c4])) (hlen : (ts.length + 1) * 80 ≤ 140737488355328) (hbase : lo ≤ w.heap.size)
    (h : ∀ v' w', VAcc lo w' v' (ts ++ [t]) → (∀ g, v'.ownBlock = some g → lo ≤ g ∧ g < w'.heap.size) → (w.alloc (.cells #[c0, c1, c2, c3, c4] 41)).grownBy w' v.ownBlock → wpList Tryd.prog ops Q rest (a.put o.dst v') w') :
    wpList Tryd.prog ops Q (o :: rest) a (w.alloc (.cells #[c0, c1, c2, c3, c4] 41)) :=
  wpList_plain hgd fun _ hK => wp_append_vacc w s x ho lo v ts hs hR t c0 c1 c2 c3 c4 hx lo' hlo hown hV hlen hbase fun v' w' h2 h3 h4 => hK _ _ (h v' w' h2 h3 h4)
theorem Same.of_ext {lo : Nat} {w w' : World} (k : Ext w w') : Same lo w w' := fun i _ hl => k.below.block i hl
theorem Same.trans {lo : Nat} {a b c : World} (h : Same lo a b) (hs : a.heap.size ≤ b.heap.size) (k : Same lo b c) : Same lo a c := fun i hi hl => (k i hi (by omega)).trans (h i hi hl)
theorem kr_set2 {w : World} {rb : Nat} {s : ByteArray} {p : Nat} {fl : UInt8} {c : Int} (h : w.heap[rb]? = some (KrCells s p fl c)) (fl' : UInt8) (x : Int) (hx : x = fl'.toNat) : (w.setCell ⟨rb, 2, none⟩ (.int .u8 x)).heap[rb]? = some (KrCells s p fl' c) := by
  subst hx; exact blk_set h 2 _
/-- the end of Decode -/
def KdPost (w : World) (x : Except Int (List Tr)) (e : Ending) (w' : World) : Prop :=
  match x with
  | .ok ts => ∃ a c, e = .returned (.tuple #[.slice a ts.length c, .int .i64 0]) ∧ ts.length ≤ c ∧ c ≤ maxLen ∧ LRep w' a 0 ts ∧ Ext w w'
  | .error c => e = .returned (.tuple #[.slice none 0 0, .int .i64 c]) ∧ Ext w w'
def kdK (s : ByteArray) : Except Int (List Tr × Nat) → Except Int (List Tr)
  | .error e => .error e
  | .ok (l, q) => if q < s.size then .error 6 else .ok l
theorem kdecE_eq (s : ByteArray) (ds : List Bool) : kdecE s ds = kdK s (kdsE s ds 0 []) := by
  unfold kdecE; cases kdsE s ds 0 [] <;> rfl
def fl_of (d : Bool) : UInt8 := if d then 255 else 0
set_option maxRecDepth 20000 in
set_option maxHeartbeats 4000000 in
theorem Decode_ok (s : ByteArray) (ds : List Bool) (da : Option Addr) (dc : Nat) (w : World) (hs : s.size ≤ 1000000000) (hD : BRep w da ds) (hd1 : ds.length ≤ dc) (hd2 : dc ≤ maxLen) (h40 : ds.length ≤ 40) (hT : Tabs w) :
    Calls Tryd.prog 13 #[.string s, .slice da ds.length dc] w (KdPost w (kdecE s ds)) := by
  have HD := Lib.hid hD
  have HT := Lib.hid hT
  clear hD hT
  unfold maxLen at hd2
  rw [kdecE_eq]
  obtain ⟨r, hr⟩ : ∃ r, kdK s (kdsE s ds 0 []) = r := ⟨_, rfl⟩
  rw [hr]
  have HR := Lib.hid hr
  clear hr
  obtain ⟨rb, hrb⟩ : ∃ rb, w.heap.size = rb := ⟨_, rfl⟩
  have H0 : Hid ((w.alloc (.cells #[.string s, .int .i64 0, .int .u8 0, .int .i64 0] 49)).heap[rb]? = some (KrCells s 0 0 0)) := by rw [← hrb]; exact blk_at0 w _
  go_enter Tryd.func13, Tryd.ntmps13
  go_wp2_with fail
  have HRB := Lib.hid hrb
  have hrb1 : w.heap.size ≤ rb := by omega
  clear hrb
  go_loopw [7, 15] (fun x i wr => ∃ (j q : Nat) (ts : List Tr) (fl : UInt8), j ≤ ds.length ∧ i = .int .i64 j ∧ ts.length ≤ j ∧ q ≤ s.size ∧ Hid (kdK s (kdsE s (ds.drop j) q ts) = r) ∧ Hid (wr.heap[rb]? = some (KrCells s q fl 0)) ∧ Hid (VAcc (rb + 1) wr x ts) ∧ Hid (Ext w wr)) (fun _ i _ => ds.length - (intOf i).toNat)
  case atStart => exact ⟨0, 0, [], 0, by omega, rfl, by simp, by omega, HR, H0, VAcc.nil _ _, (Ext.refl w).alloc _⟩
  case round =>
    obtain ⟨j, q, ts, fl, hj, rfl, htl, hq, HF, HB, HAcc, HE⟩ := hrel
    obtain ⟨ax, cx, rfl⟩ := HAcc.out.shape
    have ck := blk_cell HB.out
    have cf := blk_free HB.out
    have lrb := blk_lt HB.out
    by_cases hlt : j < ds.length
    · obtain ⟨dd, hdd⟩ : ∃ d, ds[j] = d := ⟨_, rfl⟩
      obtain ⟨db, doff, rfl, hdc⟩ := HD.out j dd (by rw [← hdd]; exact List.getElem?_eq_getElem hlt)
      have hdr : ds.drop j = dd :: ds.drop (j + 1) := by rw [← hdd]; exact List.drop_eq_getElem_cons hlt
      have hdc1 := HE.out.keep hdc
      have hdb1 : db < wr.heap.size := World.block_lt_of_cell? _ _ hdc1
      have hF := HF.out
      rw [hdr] at hF
      simp only [kdsE] at hF
      obtain ⟨fl2, hfl2⟩ : ∃ f : UInt8, (if dd then 255 else 0) = f := ⟨_, rfl⟩
      rw [hfl2] at hF
      obtain ⟨y, hy⟩ : ∃ y, kvE s fl2 16 q = y := ⟨_, rfl⟩
      rw [hy] at hF
      have HF1 := Lib.hid hF
      have HY := Lib.hid hy
      have HFl := Lib.hid hfl2
      clear hF hy hfl2 hdr hdd HF hdc
      have key : ∀ (W : World), W.heap[rb]? = some (KrCells s q fl2 0) → VAcc (rb + 1) W (.slice ax ts.length cx) ts → Ext w W → True := fun _ _ _ _ => trivial
      clear key
      cases dd
      · have hfl : fl2 = 0 := HFl.out.symm
        subst hfl
        go_wp2_with fail
        obtain ⟨W1, hW1⟩ : ∃ W, wr.setCell ⟨rb, 2, none⟩ (.int .u8 0) = W := ⟨_, rfl⟩
        have HB1 : Hid (W1.heap[rb]? = some (KrCells s q 0 0)) := by rw [← hW1]; exact kr_set2 HB.out _ _ rfl
        have HAcc1 : Hid (VAcc (rb + 1) W1 (.slice ax ts.length cx) ts) := by rw [← hW1]; exact HAcc.out.keep (Same.setCell (Same.refl _ _) (by simp) _)
        have HE1 : Hid (Ext w W1) := by rw [← hW1]; exact HE.out.setCell hrb1 _
        have hz1 : W1.heap.size = wr.heap.size := by rw [← hW1]; simp [World.setCell]
        rw [hW1]
        have hz2 : wr.heap.size ≤ W1.heap.size := by omega
        clear hW1 ck cf hz1 hdc1
        refine (kv_ok s 0 hs 16 (by omega) rb q 0 1 W1 (by omega) hq HB1.out).mono ?_
        rw [if_pos rfl, HY.out]
        rintro e w2 ⟨t2, v2, q2, c2, rfl, hv2, ⟨hq20, hq2⟩, hk2, g2, ho2⟩
        have HW2 : Hid (VNew W1.heap.size w2.heap.size w2 t2 v2) := hv2
        obtain ⟨k', i', s', la', ln', lc', da', dn', dc', rfl⟩ := VRep.shape (show VRep (win _ w2) t2 v2 from HW2.out)
        have HB2 := Lib.hid hk2
        have HE2 := Lib.hid (Ext.of_only HE1.out g2 hrb1)
        have HAcc2 := Lib.hid (HAcc1.out.keep (Same.only (Same.refl _ W1) (Nat.le_refl _) g2 (by omega)))
        have s2 : W1.heap.size ≤ w2.heap.size := g2.size
        have hown : ∀ g, (Value.slice ax ts.length cx).ownBlock = some g → rb + 1 ≤ g ∧ g < W1.heap.size := fun g hg => by
          obtain ⟨cs, ho, _⟩ := HAcc1.out
          exact ho.lt g hg
        have HOwn := Lib.hid hown
        clear hown hv2 hk2 g2
        have ck := blk_cell HB2.out
        have lrb2 := blk_lt HB2.out
        cases y with
        | error e0 =>
          obtain ⟨rfl, hc⟩ := ho2
          have e := HF1.out
          simp only [kdK] at e
          subst e
          have d : (c2 != 0) = true := by simpa using hc
          clear hc
          go_wp2_with fail
          refine wp_region_mix (fun W => W.heap[rb]? = some (KrCells s q2 0 c2)) [(true, 0), (true, 1), (true, 2), (true, 3)] (by kernel_rfl) (by kernel_rfl) (by kernel_rfl) (by kernel_rfl) ?hS ?_
          case hS => exact blk_alloc HB2.out _
          repeat (first | (refine wpMix_q (v := ?_) rfl rfl ?_ ?_; rotate_left; (· intro wq hSq; have cq := blk_cell hSq; go_simp; try (with_reducible rfl)); simp only [Act.put, List.setIfInBounds_toArray, List.set_cons_zero, List.set_cons_succ, List.getElem_toArray, List.getElem_cons_zero, List.getElem_cons_succ]) | (refine wpMix_u rfl rfl ?_; simp only [Act.put, List.setIfInBounds_toArray, List.set_cons_zero, List.set_cons_succ, List.getElem_toArray, List.getElem_cons_zero, List.getElem_cons_succ]))
          refine wpMix_nil ?_
          go_wp2_with fail
          go_ret2
          exact ⟨rfl, (HE2.out.alloc _).drew⟩
        | ok z =>
          obtain ⟨t', q'⟩ := z
          obtain ⟨rfl, rfl, rfl⟩ := ho2
          have hF := HF1.out
          simp only at hF
          have HF2 := Lib.hid hF
          clear hF HF1
          go_wp2_with fail
          clear ck
          refine (allowed_ok t' _ _ (VRep.ext ((Ext.refl w2).alloc _) _ _ HW2.out.rep) (HT.out.ext (HE2.out.alloc _))).mono ?_
          rintro e w3 ⟨rfl, h3⟩
          have k3 := h3.ownc
          have l3 := h3.lt
          have HB3 := Lib.hid (blk_ext (blk_alloc HB2.out _) h3)
          have HE3 := Lib.hid (HE2.out.trans h3.of_alloc)
          have HAcc3 := Lib.hid (HAcc2.out.keep (Same.of_ext h3.of_alloc))
          have HW3 := Lib.hid (HW2.out.keep (w' := w3) (Nat.le_refl _) (Nat.le_of_lt l3) (fun i h1 h2 => h3.of_alloc.below.block i h2))
          clear h3
          cases hal : allowB t'
          · have e := HF2.out
            rw [hal] at e
            simp only [Bool.false_eq_true, if_false, kdK] at e
            subst e
            clear hal
            go_wp2_with fail
            go_ret2
            exact ⟨rfl, HE3.out⟩
          have hF := HF2.out
          rw [hal, if_pos rfl] at hF
          have HF3 := Lib.hid hF
          clear hal hF HF2
          go_wp2_with (at_builtin; refine wpList_append_vacc w3 rfl _ _ rfl (rb + 1) (.slice ax ts.length cx) ts rfl HAcc3.out t' _ _ _ _ _ rfl W1.heap.size (by omega) (fun g hg => (HOwn.out g hg).2) HW3.out (by omega) (by omega) ?_)
          intro v4 w4 a4 o4 g4
          obtain ⟨ts4, hts4⟩ : ∃ l, ts ++ [t'] = l := ⟨_, rfl⟩
          have hl4 : ts4.length ≤ j + 1 := by rw [← hts4]; simp; omega
          rw [hts4] at a4 HF3
          clear hts4 k3
          have HAcc4 := Lib.hid a4
          have HB4 : Hid (w4.heap[rb]? = some (KrCells s q' 0 0)) := (g4.block rb (by simp; omega) (fun e => by have := (HOwn.out rb e.symm).1; omega)).trans ((Below.heap_alloc w3 _ rb (by omega)).trans HB3.out)
          have HE4 := Lib.hid ((HE3.out.alloc _).grown g4 (fun k hk => by have := (HOwn.out k hk).1; omega))
          clear a4 g4 o4
          obtain ⟨ax4, cx4, rfl⟩ := HAcc4.out.shape
          go_wp2_with fail
          exact ⟨⟨j + 1, q', ts4, 0, by omega, by go_num, hl4, hq2, HF3, HB4, HAcc4, HE4⟩, by simp [intOf]; omega⟩
      · have hfl : fl2 = 255 := HFl.out.symm
        subst hfl
        go_wp2_with fail
        obtain ⟨W1, hW1⟩ : ∃ W, (wr.setCell ⟨rb, 2, none⟩ (.int .u8 0)).setCell ⟨rb, 2, none⟩ (.int .u8 255) = W := ⟨_, rfl⟩
        have HB1 : Hid (W1.heap[rb]? = some (KrCells s q 255 0)) := by rw [← hW1]; exact kr_set2 (kr_set2 HB.out 0 _ rfl) _ _ rfl
        have HAcc1 : Hid (VAcc (rb + 1) W1 (.slice ax ts.length cx) ts) := by rw [← hW1]; exact HAcc.out.keep (Same.setCell (Same.setCell (Same.refl _ _) (by simp) _) (by simp) _)
        have HE1 : Hid (Ext w W1) := by rw [← hW1]; exact (HE.out.setCell hrb1 _).setCell hrb1 _
        have hz1 : W1.heap.size = wr.heap.size := by rw [← hW1]; simp [World.setCell]
        rw [hW1]
        have hz2 : wr.heap.size ≤ W1.heap.size := by omega
        clear hW1 ck cf hz1 hdc1
        refine (kv_ok s 255 hs 16 (by omega) rb q 0 1 W1 (by omega) hq HB1.out).mono ?_
        rw [if_pos rfl, HY.out]
        rintro e w2 ⟨t2, v2, q2, c2, rfl, hv2, ⟨hq20, hq2⟩, hk2, g2, ho2⟩
        have HW2 : Hid (VNew W1.heap.size w2.heap.size w2 t2 v2) := hv2
        obtain ⟨k', i', s', la', ln', lc', da', dn', dc', rfl⟩ := VRep.shape (show VRep (win _ w2) t2 v2 from HW2.out)
        have HB2 := Lib.hid hk2
        have HE2 := Lib.hid (Ext.of_only HE1.out g2 hrb1)
        have HAcc2 := Lib.hid (HAcc1.out.keep (Same.only (Same.refl _ W1) (Nat.le_refl _) g2 (by omega)))
        have s2 : W1.heap.size ≤ w2.heap.size := g2.size
        have hown : ∀ g, (Value.slice ax ts.length cx).ownBlock = some g → rb + 1 ≤ g ∧ g < W1.heap.size := fun g hg => by
          obtain ⟨cs, ho, _⟩ := HAcc1.out
          exact ho.lt g hg
        have HOwn := Lib.hid hown
        clear hown hv2 hk2 g2
        have ck := blk_cell HB2.out
        have lrb2 := blk_lt HB2.out
        cases y with
        | error e0 =>
          obtain ⟨rfl, hc⟩ := ho2
          have e := HF1.out
          simp only [kdK] at e
          subst e
          have d : (c2 != 0) = true := by simpa using hc
          clear hc
          go_wp2_with fail
          refine wp_region_mix (fun W => W.heap[rb]? = some (KrCells s q2 255 c2)) [(true, 0), (true, 1), (true, 2), (true, 3)] (by kernel_rfl) (by kernel_rfl) (by kernel_rfl) (by kernel_rfl) ?hS ?_
          case hS => exact blk_alloc HB2.out _
          repeat (first | (refine wpMix_q (v := ?_) rfl rfl ?_ ?_; rotate_left; (· intro wq hSq; have cq := blk_cell hSq; go_simp; try (with_reducible rfl)); simp only [Act.put, List.setIfInBounds_toArray, List.set_cons_zero, List.set_cons_succ, List.getElem_toArray, List.getElem_cons_zero, List.getElem_cons_succ]) | (refine wpMix_u rfl rfl ?_; simp only [Act.put, List.setIfInBounds_toArray, List.set_cons_zero, List.set_cons_succ, List.getElem_toArray, List.getElem_cons_zero, List.getElem_cons_succ]))
          refine wpMix_nil ?_
          go_wp2_with fail
          go_ret2
          exact ⟨rfl, (HE2.out.alloc _).drew⟩
        | ok z =>
          obtain ⟨t', q'⟩ := z
          obtain ⟨rfl, rfl, rfl⟩ := ho2
          have hF := HF1.out
          simp only at hF
          have HF2 := Lib.hid hF
          clear hF HF1
          go_wp2_with fail
          clear ck
          refine (allowed_ok t' _ _ (VRep.ext ((Ext.refl w2).alloc _) _ _ HW2.out.rep) (HT.out.ext (HE2.out.alloc _))).mono ?_
          rintro e w3 ⟨rfl, h3⟩
          have k3 := h3.ownc
          have l3 := h3.lt
          have HB3 := Lib.hid (blk_ext (blk_alloc HB2.out _) h3)
          have HE3 := Lib.hid (HE2.out.trans h3.of_alloc)
          have HAcc3 := Lib.hid (HAcc2.out.keep (Same.of_ext h3.of_alloc))
          have HW3 := Lib.hid (HW2.out.keep (w' := w3) (Nat.le_refl _) (Nat.le_of_lt l3) (fun i h1 h2 => h3.of_alloc.below.block i h2))
          clear h3
          cases hal : allowB t'
          · have e := HF2.out
            rw [hal] at e
            simp only [Bool.false_eq_true, if_false, kdK] at e
            subst e
            clear hal
            go_wp2_with fail
            go_ret2
            exact ⟨rfl, HE3.out⟩
          have hF := HF2.out
          rw [hal, if_pos rfl] at hF
          have HF3 := Lib.hid hF
          clear hal hF HF2
          go_wp2_with (at_builtin; refine wpList_append_vacc w3 rfl _ _ rfl (rb + 1) (.slice ax ts.length cx) ts rfl HAcc3.out t' _ _ _ _ _ rfl W1.heap.size (by omega) (fun g hg => (HOwn.out g hg).2) HW3.out (by omega) (by omega) ?_)
          intro v4 w4 a4 o4 g4
          obtain ⟨ts4, hts4⟩ : ∃ l, ts ++ [t'] = l := ⟨_, rfl⟩
          have hl4 : ts4.length ≤ j + 1 := by rw [← hts4]; simp; omega
          rw [hts4] at a4 HF3
          clear hts4 k3
          have HAcc4 := Lib.hid a4
          have HB4 : Hid (w4.heap[rb]? = some (KrCells s q' 255 0)) := (g4.block rb (by simp; omega) (fun e => by have := (HOwn.out rb e.symm).1; omega)).trans ((Below.heap_alloc w3 _ rb (by omega)).trans HB3.out)
          have HE4 := Lib.hid ((HE3.out.alloc _).grown g4 (fun k hk => by have := (HOwn.out k hk).1; omega))
          clear a4 g4 o4
          obtain ⟨ax4, cx4, rfl⟩ := HAcc4.out.shape
          go_wp2_with fail
          exact ⟨⟨j + 1, q', ts4, 255, by omega, by go_num, hl4, hq2, HF3, HB4, HAcc4, HE4⟩, by simp [intOf]; omega⟩
    · have hj2 : j = ds.length := by omega
      subst hj2
      have hF := HF.out
      rw [List.drop_length] at hF
      simp only [kdsE, kdK] at hF
      by_cases hq6 : q < s.size
      · rw [if_pos hq6] at hF
        subst hF
        have d : decide (q < s.size) = true := by simpa using hq6
        go_wp2_with fail
        go_ret2
        exact ⟨rfl, HE.out⟩
      · rw [if_neg hq6] at hF
        subst hF
        have d : decide (q < s.size) = false := by simpa using hq6
        obtain ⟨a', c', ha', h1, h2, h3⟩ := HAcc.out.lrep (Nat.le_refl _)
        injection ha' with ha1 ha2 ha3
        subst ha1 ha3
        have HLR := Lib.hid (LRep.sub (fun _ _ hc => (win_some hc).2) _ _ _ h3)
        clear h3
        go_wp2_with fail
        go_ret2
        exact ⟨ax, cx, rfl, h1, h2, HLR.out, HE.out⟩
end Go.Proofs.YtipphlhaaienpaaDoor
