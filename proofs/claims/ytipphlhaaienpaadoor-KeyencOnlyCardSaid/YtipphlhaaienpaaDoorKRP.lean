/- Reading keys, plain. -/
import Derived.Test.YtipphlhaaienpaaDoorKP
set_option linter.unusedSimpArgs false
set_option linter.unusedVariables false
namespace Go.Proofs.YtipphlhaaienpaaDoor
open Go.RowKit
section
variable (s : ByteArray) (fl : UInt8)
def kbyte (p : Nat) : UInt8 := s.data.toList.getD p 0
def nextE (p : Nat) : Except Int (UInt8 × Nat) := if p < s.size then .ok (kbyte s p ^^^ fl, p + 1) else .error 5
def moreK : Except Int (UInt8 × Nat) → Except Int (Bool × Nat)
  | .error e => .error e
  | .ok (b, q) => if 1 < b.toNat then .error 4 else .ok (decide (b.toNat = 1), q)
def moreE (p : Nat) : Except Int (Bool × Nat) := moreK (nextE s fl p)
def numN : Nat → Nat → Nat → Except Int (Nat × Nat)
  | 0, p, u => .ok (u, p)
  | n + 1, p, u => match nextE s fl p with
    | .error e => .error e
    | .ok (b, q) => numN n q (u * 256 + b.toNat)
def textE : Nat → Nat → List UInt8 → Except Int (List UInt8 × Nat)
  | 0, _, _ => .error 5
  | n + 1, p, acc => match nextE s fl p with
    | .error e => .error e
    | .ok (c, q) => if c ≠ 0 then textE n q (acc ++ [c]) else match nextE s fl q with
      | .error e => .error e
      | .ok (c2, q2) => if c2 = 0 then .ok (acc, q2) else if c2 ≠ 255 then .error 4 else textE n q2 (acc ++ [0])
def nameE : Nat → Nat → List UInt8 → Except Int (List UInt8 × Nat)
  | 0, _, _ => .error 5
  | n + 1, p, acc => match nextE s fl p with
    | .error e => .error e
    | .ok (c, q) => if c = 0 then .ok (acc, q) else nameE n q (acc ++ [c])
def klistE (f : Nat → Except Int (Tr × Nat)) : Nat → Nat → List Tr → Except Int (List Tr × Nat)
  | 0, _, _ => .error 5
  | n + 1, p, acc => match moreE s fl p with
    | .error e => .error e
    | .ok (false, q) => .ok (acc, q)
    | .ok (true, q) => match f q with
      | .error e => .error e
      | .ok (t, q2) => klistE f n q2 (acc ++ [t])
def kdocE (f : Nat → Except Int (Tr × Nat)) : Nat → Nat → List ByteArray → List Tr → Except Int ((List ByteArray × List Tr) × Nat)
  | 0, _, _, _ => .error 5
  | n + 1, p, ns, ds => match moreE s fl p with
    | .error e => .error e
    | .ok (false, q) => .ok ((ns, ds), q)
    | .ok (true, q) => match nameE s fl (s.size + 1) q [] with
      | .error e => .error e
      | .ok (nm, q1) => match f q1 with
        | .error e => .error e
        | .ok (t, q2) => kdocE f n q2 (ns ++ [⟨nm.toArray⟩]) (ds ++ [t])
def kLeaf (k : Nat) (i : Int) (t : ByteArray) : Tr := .mk k i t [] [] []
def numT (k : Nat) : Except Int (Nat × Nat) → Except Int (Tr × Nat)
  | .error e => .error e
  | .ok (u, q) => .ok (kLeaf k ((u : Int) - 9223372036854775808) ⟨#[]⟩, q)
def textT (k : Nat) : Except Int (List UInt8 × Nat) → Except Int (Tr × Nat)
  | .error e => .error e
  | .ok (l, q) => .ok (kLeaf k 0 ⟨l.toArray⟩, q)
def listT : Except Int (List Tr × Nat) → Except Int (Tr × Nat)
  | .error e => .error e
  | .ok (l, q) => .ok (.mk 6 0 ⟨#[]⟩ l [] [], q)
def docT : Except Int ((List ByteArray × List Tr) × Nat) → Except Int (Tr × Nat)
  | .error e => .error e
  | .ok ((ns, ds), q) => .ok (.mk 5 0 ⟨#[]⟩ [] ns ds, q)
/-- behind the kind -/
def kvK (f : Nat → Except Int (Tr × Nat)) (top : Bool) (k q : Nat) : Except Int (Tr × Nat) :=
  if 11 < k ∨ (k = 0 ∧ top = false) then .error 4
  else if k = 3 ∨ k = 9 ∨ k = 10 then numT k (numN s fl 8 q 0)
  else if k = 4 ∨ k = 7 ∨ k = 8 then textT k (textE s fl (s.size + 1) q [])
  else if k = 6 then listT (klistE s fl f (s.size + 1) q [])
  else if k = 5 then docT (kdocE s fl f (s.size + 1) q [] [])
  else .ok (kLeaf k 0 ⟨#[]⟩, q)
def kvE : Nat → Nat → Except Int (Tr × Nat)
  | 0, p => match nextE s fl p with
    | .error e => .error e
    | .ok _ => .error 4
  | d + 1, p => match nextE s fl p with
    | .error e => .error e
    | .ok (b, q) => kvK s fl (kvE d) (decide (d = 15)) b.toNat q
end
/-- the values of a key -/
def kdsE (s : ByteArray) : List Bool → Nat → List Tr → Except Int (List Tr × Nat)
  | [], p, acc => .ok (acc, p)
  | d :: r, p, acc => match kvE s (if d then 255 else 0) 16 p with
    | .error e => .error e
    | .ok (t, q) => if allowB t then kdsE s r q (acc ++ [t]) else .error 4
def kdecE (s : ByteArray) (ds : List Bool) : Except Int (List Tr) :=
  match kdsE s ds 0 [] with
  | .error e => .error e
  | .ok (l, q) => if q < s.size then .error 6 else .ok l
theorem nextE_ok {s : ByteArray} {fl : UInt8} {p : Nat} {b : UInt8} {q : Nat} (h : nextE s fl p = .ok (b, q)) : p < s.size ∧ q = p + 1 ∧ b = kbyte s p ^^^ fl := by
  unfold nextE at h
  split at h
  · injection h with h; injection h with h1 h2; exact ⟨by assumption, h2.symm, h1.symm⟩
  · cases h
theorem nextE_err {s : ByteArray} {fl : UInt8} {p : Nat} {e : Int} (h : nextE s fl p = .error e) : e = 5 ∧ s.size ≤ p := by
  unfold nextE at h
  split at h
  · cases h
  · injection h with h; exact ⟨h.symm, by omega⟩
/-- what is left: c = 0 and the result, or the error -/
def Out {α : Type} (x : Except Int (α × Nat)) (n : α) (q : Nat) (c : Int) : Prop :=
  match x with
  | .ok (n', q') => n' = n ∧ q' = q ∧ c = 0
  | .error e => c = e ∧ c ≠ 0
theorem kbyte_at (s : ByteArray) (p : Nat) (h : p < s.size) : s[p] = kbyte s p := by
  unfold kbyte
  rw [List.getD_eq_getElem?_getD, List.getElem?_eq_getElem (by simpa using h)]
  rfl
end Go.Proofs.YtipphlhaaienpaaDoor
