/- What a statement hands over, as rows of leaves. -/
import Derived.Test.YtplokbmdcfakbaaDoorQR1
import Derived.Test.YtplokbmdcfakbaaDoorRows
import Derived.ChangeArms
import Derived.DataReads
import Derived.Test.YtplokbmdcfakbaaDoorQR2
set_option linter.unusedSimpArgs false
set_option linter.unusedVariables false
namespace Go.Proofs.YtplokbmdcfakbaaDoor
open Go.RowKit
/-- the shape of a leaf -/
inductive Shp where
  | int (k : IntKind)
  | str
  | bool
  | rows (e : TypeId)
deriving DecidableEq
def flatF (P : Program) (g : TypeId → Option (List Shp)) (tot : Nat) : List Field → Nat → Option (List Shp)
  | [], o => if o = tot then some [] else none
  | fl :: rest, o => if fl.offset = o then (g fl.type).bind fun a => (flatF P g tot rest (o + P.cellsOf fl.type)).map (a ++ ·) else none
/-- the leaves of a type -/
def flat (P : Program) : Nat → TypeId → Option (List Shp)
  | 0, _ => none
  | f + 1, t => match P.underlying t with
    | some .bool => some [.bool]
    | some (.int k) => some [.int k]
    | some .string => some [.str]
    | some (.slice e) => some [.rows e]
    | some (.struct fs) => flatF P (flat P f) (P.cellsOf t) fs.toList 0
    | _ => none
mutual
def WTf (P : Program) : Lf → Shp → Prop
  | .int k _, s => s = .int k
  | .str _, s => s = .str
  | .bool _, s => s = .bool
  | .rows n l, s => ∃ e shs, s = .rows e ∧ flat P 12 e = some shs ∧ n = P.cellsOf e ∧ 0 < n ∧ WTq P shs l
def WTq (P : Program) (shs : List Shp) : List (List Lf) → Prop
  | [] => True
  | r :: q => WTr P r shs ∧ WTq P shs q
def WTr (P : Program) : List Lf → List Shp → Prop
  | [], shs => shs = []
  | x :: r, shs => ∃ s q, shs = s :: q ∧ WTf P x s ∧ WTr P r q
end
theorem WTq.mem {P : Program} {shs : List Shp} : ∀ {l : List (List Lf)}, WTq P shs l → ∀ r ∈ l, WTr P r shs
  | [], _, r, h => by cases h
  | x :: q, h, r, hr => by
    unfold WTq at h
    rcases List.mem_cons.1 hr with rfl | hr
    · exact h.1
    · exact WTq.mem h.2 r hr
theorem WTq.of {P : Program} {shs : List Shp} : ∀ {l : List (List Lf)}, (∀ r ∈ l, WTr P r shs) → WTq P shs l
  | [], _ => by unfold WTq; trivial
  | x :: q, h => by unfold WTq; exact ⟨h x (by simp), WTq.of (fun r hr => h r (by simp [hr]))⟩
theorem WTr.app {P : Program} : ∀ (r s : List Lf) (a b : List Shp), WTr P r a → WTr P s b → WTr P (r ++ s) (a ++ b)
  | [], s, a, b, h, k => by unfold WTr at h; rw [h]; exact k
  | x :: r, s, a, b, h, k => by
    unfold WTr at h
    obtain ⟨sh, q, rfl, h1, h2⟩ := h
    show WTr P (x :: (r ++ s)) (sh :: (q ++ b))
    unfold WTr
    exact ⟨sh, q ++ b, rfl, h1, WTr.app r s q b h2 k⟩
mutual
def Lf.bulk : Lf → Nat
  | .int _ _ => 1
  | .str s => s.size + 1
  | .bool _ => 1
  | .rows _ l => 1 + bulkR l
def bulkR : List (List Lf) → Nat
  | [] => 0
  | r :: q => bulkL r + bulkR q
def bulkL : List Lf → Nat
  | [] => 0
  | x :: r => x.bulk + bulkL r
end
theorem bulkL_app (r s : List Lf) : bulkL (r ++ s) = bulkL r + bulkL s := by
  induction r with
  | nil => simp [bulkL]
  | cons x r ih => simp only [List.cons_append, bulkL, ih]; omega
theorem Lf.bulk_pos (x : Lf) : 1 ≤ x.bulk := by cases x <;> simp [Lf.bulk]
theorem bulkL_len (r : List Lf) : r.length ≤ bulkL r := by
  induction r with
  | nil => simp
  | cons x r ih => have := x.bulk_pos; simp only [List.length_cons, bulkL]; omega
theorem bulkL_at {r : List Lf} {j : Nat} {x : Lf} (h : r[j]? = some x) : x.bulk ≤ bulkL r := by
  induction r generalizing j with
  | nil => simp at h
  | cons y r ih =>
    cases j with
    | zero => obtain rfl : y = x := by simpa using h
              simp [bulkL]
    | succ j => have := ih (by simpa using h); simp only [bulkL]; omega
theorem bulkR_at {l : List (List Lf)} {j : Nat} {r : List Lf} (h : l[j]? = some r) : bulkL r ≤ bulkR l := by
  induction l generalizing j with
  | nil => simp at h
  | cons y q ih =>
    cases j with
    | zero => obtain rfl : y = r := by simpa using h
              simp [bulkR]
    | succ j => have := ih (by simpa using h); simp only [bulkR]; omega
theorem bulkR_len {n : Nat} (hn : 0 < n) : ∀ (l : List (List Lf)), (∀ r ∈ l, r.length = n) → l.length ≤ bulkR l
  | [], _ => by simp
  | r :: q, h => by
    have h1 := bulkL_len r
    have h2 := h r (by simp)
    have h3 := bulkR_len hn q (fun r hr => h r (by simp [hr]))
    simp only [List.length_cons, bulkR]; omega
/-- all that lies in a world, as ghost -/
def I0 (w : World) : Gh := fun b o => w.cell? ⟨b, o, none⟩
theorem inv_I0 (w : World) : Inv (I0 w) w := fun _ _ _ h => h
def okT (P : Program) (tys : List TypeId) : Bool := tys.all fun t => match flat P 12 t with
  | some shs => shs.all fun
    | .rows e => tys.contains e && decide (0 < P.cellsOf e)
    | _ => true
  | none => false
theorem okT_get {P : Program} {tys : List TypeId} (h : okT P tys = true) {t : TypeId} (ht : t ∈ tys) : ∃ shs, flat P 12 t = some shs ∧ ∀ e, Shp.rows e ∈ shs → e ∈ tys ∧ 0 < P.cellsOf e := by
  have h1 := List.all_eq_true.1 h t ht
  cases hf : flat P 12 t with
  | none => rw [hf] at h1; cases h1
  | some shs =>
    rw [hf] at h1
    refine ⟨shs, rfl, fun e he => ?_⟩
    have h2 := List.all_eq_true.1 h1 _ he
    simp only [Bool.and_eq_true, List.contains_iff_mem, decide_eq_true_eq] at h2
    exact h2
theorem spot_none' {w : World} {a : Addr} {v : Value} (h : w.cell? a = some v) : a = ⟨a.block, a.off, none⟩ := by
  unfold World.cell? at h
  split at h
  · split at h
    · cases h
    · rename_i hs
      obtain ⟨b, o, s⟩ := a
      cases s
      · rfl
      · simp at hs
  · cases h
section
variable {H : Type} {enc : TypeId × Value → H} {P : Program} {w : World} {tys : List TypeId}
/-- what the reading at one level gives -/
def TrodAt (P : Program) (w : World) (enc : TypeId × Value → H) (tys : List TypeId) (fuel : Nat) : Prop :=
  ∀ (f : Nat) (t : TypeId) (cs : List Value) (x : DataW H × List MemPlace) (shs : List Shp), DataW.trod enc P w 0 (fun _ => true) true fuel t cs = some x → flat P f t = some shs → (∀ e, Shp.rows e ∈ shs → e ∈ tys ∧ 0 < P.cellsOf e) →
    ∃ r, VsRp (I0 w) r cs ∧ WTr P r shs ∧ bulkL r ≤ Rows.uptoBulk x.1
theorem trod_fields {n f tot : Nat} (ih : TrodAt P w enc tys n) (cs : List Value) : ∀ (fs : List Field) (xs : List (DataW H × List MemPlace)) (o : Nat) (shs : List Shp),
    (∀ (i : Nat) (fl : Field), fs[i]? = some fl → DataW.trod enc P w 0 (fun _ => true) true n fl.type ((cs.drop fl.offset).take (P.cellsOf fl.type)) = xs[i]?) → xs.length = fs.length → flatF P (flat P f) tot fs o = some shs → cs.length = tot →
    (∀ e, Shp.rows e ∈ shs → e ∈ tys ∧ 0 < P.cellsOf e) → ∃ r, VsRp (I0 w) r (cs.drop o) ∧ WTr P r shs ∧ bulkL r ≤ Rows.uptoBulkAll (xs.map (·.1))
  | [], xs, o, shs, _, hl, hf, hc, _ => by
    unfold flatF at hf
    split at hf
    · injection hf with hf
      refine ⟨[], ?_, by unfold WTr; exact hf.symm, by simp [bulkL]⟩
      show cs.drop o = []
      exact List.drop_of_length_le (by omega)
    · cases hf
  | fl :: rest, xs, o, shs, hx, hl, hf, hc, hs => by
    unfold flatF at hf
    split at hf
    · rename_i ho
      subst ho
      cases ha : flat P f fl.type with
      | none => rw [ha] at hf; cases hf
      | some a =>
        rw [ha, Option.bind_some] at hf
        cases hb : flatF P (flat P f) tot rest (fl.offset + P.cellsOf fl.type) with
        | none => rw [hb] at hf; cases hf
        | some b =>
          rw [hb] at hf
          injection hf with hf
          subst hf
          cases xs with
          | nil => simp at hl
          | cons y ys =>
            have h0 := hx 0 fl rfl
            rw [List.getElem?_cons_zero] at h0
            obtain ⟨r, hr1, hr2, hr3⟩ := ih f fl.type _ y a h0 ha (fun e he => hs e (by simp [he]))
            obtain ⟨q, hq1, hq2, hq3⟩ := trod_fields ih cs rest ys (fl.offset + P.cellsOf fl.type) b (fun i g hg => by simpa using hx (i + 1) g (by simpa using hg)) (by simpa using hl) hb hc (fun e he => hs e (by simp [he]))
            refine ⟨r ++ q, ?_, WTr.app _ _ _ _ hr2 hq2, ?_⟩
            · have := VsRp.app _ _ _ _ hr1 hq1
              rwa [← List.drop_drop, List.take_append_drop] at this
            · rw [bulkL_app]; simp only [List.map_cons, Rows.uptoBulkAll]; omega
    · cases hf
theorem elems_rows {b off k : Nat} {shs : List Shp} : ∀ (elems : List (DataW H × List MemPlace)) (i0 : Nat),
    (∀ j y, elems[j]? = some y → ∃ r cs, VsRp (I0 w) r cs ∧ WTr P r shs ∧ bulkL r ≤ Rows.uptoBulk y.1 ∧ cs.length = k ∧ ∀ q u, cs[q]? = some u → I0 w b (off + (i0 + j) * k + q) = some u) →
    ∃ l : List (List Lf), l.length = elems.length ∧ WTq P shs l ∧ RRp (I0 w) b k (off + i0 * k) l ∧ bulkR l ≤ Rows.uptoBulkAll (elems.map (·.1))
  | [], i0, _ => ⟨[], rfl, by unfold WTq; trivial, by unfold RRp; trivial, by simp [bulkR]⟩
  | y :: ys, i0, h => by
    obtain ⟨r, cs, h1, h2, h3, h4, h5⟩ := h 0 y rfl
    obtain ⟨l, g1, g2, g3, g4⟩ := elems_rows ys (i0 + 1) (fun j z hj => by
      obtain ⟨r, cs, h1, h2, h3, h4, h5⟩ := h (j + 1) z (by simpa using hj)
      exact ⟨r, cs, h1, h2, h3, h4, fun q u hq => by have := h5 q u hq; rwa [show i0 + (j + 1) = i0 + 1 + j by omega] at this⟩)
    refine ⟨r :: l, by simp [g1], by unfold WTq; exact ⟨h2, g2⟩, ?_, by simp only [List.map_cons, bulkR, Rows.uptoBulkAll]; omega⟩
    unfold RRp
    have hl := VsRp.len r cs h1
    refine ⟨by omega, CRp.of r _ cs h1 (fun q u hq => h5 q u hq), ?_⟩
    rwa [show off + i0 * k + k = off + (i0 + 1) * k by rw [Nat.add_mul]; omega]
theorem add_plain' (b o q : Nat) : (⟨b, o, none⟩ : Addr).add q = ⟨b, o + q, none⟩ := by unfold Addr.add; split <;> simp_all
theorem bind_some' {α β : Type} {o : Option α} {f : α → Option β} {y : β} (h : o.bind f = some y) : ∃ a, o = some a ∧ f a = some y := by
  rw [Option.bind_eq_some_iff] at h; exact h
theorem trod_rp (hok : okT P tys = true) : ∀ fuel, TrodAt P w enc tys fuel := by
  intro fuel
  induction fuel using Nat.strongRecOn with
  | _ fuel ih =>
    intro f t cs x shs h hf hs
    cases f with
    | zero => cases hf
    | succ f =>
      unfold flat at hf
      cases hu : P.underlying t with
      | none => rw [hu] at hf; cases hf
      | some d =>
        rw [hu] at hf
        cases d with
        | bool =>
          injection hf with hf
          subst hf
          obtain ⟨b, rfl, rfl⟩ := DataW.trod_bool hu h
          exact ⟨[.bool b], ⟨_, _, rfl, by unfold LRp; rfl, rfl⟩, by unfold WTr; exact ⟨_, _, rfl, by unfold WTf; rfl, by unfold WTr; rfl⟩, by simp [bulkL, Lf.bulk, Rows.uptoBulk]⟩
        | int k =>
          injection hf with hf
          subst hf
          obtain ⟨n, rfl, rfl, hwf⟩ := DataW.trod_int hu h
          exact ⟨[.int k n], ⟨_, _, rfl, by unfold LRp; exact ⟨rfl, hwf⟩, rfl⟩, by unfold WTr; exact ⟨_, _, rfl, by unfold WTf; rfl, by unfold WTr; rfl⟩, by simp [bulkL, Lf.bulk, Rows.uptoBulk]⟩
        | string =>
          injection hf with hf
          subst hf
          obtain ⟨s, rfl, rfl, hsz⟩ := DataW.trod_string hu h
          exact ⟨[.str s], ⟨_, _, rfl, by unfold LRp; exact ⟨rfl, hsz⟩, rfl⟩, by unfold WTr; exact ⟨_, _, rfl, by unfold WTf; rfl, by unfold WTr; rfl⟩, by simp [bulkL, Lf.bulk, Rows.uptoBulk]⟩
        | slice e =>
          injection hf with hf
          subst hf
          obtain ⟨he, hpos⟩ := hs e (by simp)
          obtain ⟨she, hfe, hse⟩ := okT_get hok he
          rcases DataW.trod_slice hu h with ⟨rfl, rfl⟩ | ⟨a, len, cap, elems, rest, m, rfl, rfl, rfl, -, hlc, hcm, hel, hat, -, -⟩
          · refine ⟨[.rows (P.cellsOf e) []], ⟨_, _, rfl, LRp.nil _ _, rfl⟩, ?_, by simp [bulkL, Lf.bulk, bulkR, Rows.uptoBulk]⟩
            unfold WTr
            exact ⟨_, _, rfl, by unfold WTf; exact ⟨e, she, rfl, hfe, rfl, hpos, by unfold WTq; trivial⟩, by unfold WTr; rfl⟩
          · have each : ∀ j y, elems[j]? = some y → ∃ r cs, VsRp (I0 w) r cs ∧ WTr P r she ∧ bulkL r ≤ Rows.uptoBulk y.1 ∧ cs.length = P.cellsOf e ∧ ∀ q u, cs[q]? = some u → w.cell? ((a.add (j * P.cellsOf e)).add q) = some u := by
              intro j y hj
              have hjl : j < len := by rw [← hel]; exact (List.getElem?_eq_some_iff.1 hj).1
              obtain ⟨cs', hc, hy⟩ := bind_some' ((hat j hjl).trans hj)
              obtain ⟨r, h1, h2, h3⟩ := ih m (by omega) 12 e cs' y she hy hfe hse
              obtain ⟨-, hcl, hcc⟩ := World.cells?_some hc
              exact ⟨r, cs', h1, h2, h3, hcl, fun q u hq => by rw [hcc q (by have := (List.getElem?_eq_some_iff.1 hq).1; omega), hq]⟩
            cases elems with
            | nil =>
              have hl0 : len = 0 := by rw [← hel]; rfl
              subst hl0
              refine ⟨[.rows (P.cellsOf e) []], ⟨_, _, rfl, ?_, rfl⟩, ?_, by simp [bulkL, Lf.bulk, bulkR, Rows.uptoBulk]⟩
              · unfold LRp; exact ⟨some a, cap, rfl, by simp, hcm, fun h => absurd rfl h⟩
              · unfold WTr
                exact ⟨_, _, rfl, by unfold WTf; exact ⟨e, she, rfl, hfe, rfl, hpos, by unfold WTq; trivial⟩, by unfold WTr; rfl⟩
            | cons y0 ys =>
              have ha : a = ⟨a.block, a.off, none⟩ := by
                obtain ⟨r, cs', _, _, _, hcl, hcc⟩ := each 0 y0 rfl
                have hlt : 0 < cs'.length := by omega
                have := hcc 0 cs'[0] (List.getElem?_eq_getElem hlt)
                simp only [Nat.zero_mul, Addr.add, if_true] at this
                exact spot_none' this
              obtain ⟨b, off, sp⟩ := a
              simp only [Addr.mk.injEq, true_and] at ha
              subst ha
              obtain ⟨l, l1, l2, l3, l4⟩ := elems_rows (w := w) (b := b) (off := off) (k := P.cellsOf e) (shs := she) (P := P) (y0 :: ys) 0 (fun j y hj => by
                obtain ⟨r, cs', h1, h2, h3, h4, h5⟩ := each j y hj
                refine ⟨r, cs', h1, h2, h3, h4, fun q u hq => ?_⟩
                have := h5 q u hq
                rw [add_plain', add_plain'] at this
                rw [Nat.zero_add]; exact this)
              refine ⟨[.rows (P.cellsOf e) l], ⟨_, _, rfl, ?_, rfl⟩, ?_, ?_⟩
              · unfold LRp
                exact ⟨_, cap, by rw [l1, hel], by omega, hcm, fun _ => ⟨b, off, rfl, by simpa using l3⟩⟩
              · unfold WTr
                exact ⟨_, _, rfl, by unfold WTf; exact ⟨e, she, rfl, hfe, rfl, hpos, l2⟩, by unfold WTr; rfl⟩
              · simp only [bulkL, Lf.bulk, Rows.uptoBulk]; omega
        | struct fs =>
          simp only at hf
          obtain ⟨xs, n, rfl, rfl, hl, hlen, hx⟩ := DataW.trod_struct hu h
          obtain ⟨r, h1, h2, h3⟩ := trod_fields (ih n (by omega)) cs fs.toList xs 0 shs (fun i fl hi => hx i fl (by simpa using hi)) (by simpa using hlen) hf hl hs
          exact ⟨r, by simpa using h1, h2, by simp only [Rows.uptoBulk]; omega⟩
        | _ => cases hf
end
end Go.Proofs.YtplokbmdcfakbaaDoor
set_option linter.unusedSimpArgs false
set_option linter.unusedVariables false
namespace Go.Proofs.YtplokbmdcfakbaaDoor
open Go.RowKit
theorem WTr.nil (P : Program) : WTr P [] [] := by unfold WTr; rfl
theorem WTr.cons {P : Program} {x : Lf} {s : Shp} {r : List Lf} {q : List Shp} (h : WTf P x s) (k : WTr P r q) : WTr P (x :: r) (s :: q) := by unfold WTr; exact ⟨s, q, rfl, h, k⟩
theorem WTf.int (P : Program) (k : IntKind) (n : Int) : WTf P (.int k n) (.int k) := by unfold WTf; rfl
theorem WTf.str (P : Program) (s : ByteArray) : WTf P (.str s) .str := by unfold WTf; rfl
theorem WTf.bool (P : Program) (b : Bool) : WTf P (.bool b) .bool := by unfold WTf; rfl
theorem WTf.rows {P : Program} {n : Nat} {l : List (List Lf)} {e : TypeId} {shs : List Shp} (hf : flat P 12 e = some shs) (hn : n = P.cellsOf e) (h0 : 0 < n) (h : WTq P shs l) : WTf P (.rows n l) (.rows e) := by unfold WTf; exact ⟨e, shs, rfl, hf, hn, h0, h⟩
theorem WTq.map {P : Program} {shs : List Shp} {α : Type} {f : α → List Lf} (l : List α) (h : ∀ x, WTr P (f x) shs) : WTq P shs (l.map f) := WTq.of fun r hr => by
  obtain ⟨x, _, rfl⟩ := List.mem_map.1 hr; exact h x
theorem WTq.nil (P : Program) (shs : List Shp) : WTq P shs [] := by unfold WTq; trivial
theorem WTq.cons {P : Program} {shs : List Shp} {r : List Lf} {q : List (List Lf)} (h : WTr P r shs) (k : WTq P shs q) : WTq P shs (r :: q) := by unfold WTq; exact ⟨h, k⟩
theorem WTr.cons_inv {P : Program} {r : List Lf} {s : Shp} {q : List Shp} (h : WTr P r (s :: q)) : ∃ x r', r = x :: r' ∧ WTf P x s ∧ WTr P r' q := by
  cases r with
  | nil => unfold WTr at h; cases h
  | cons x r => unfold WTr at h; obtain ⟨s', q', e, h1, h2⟩ := h; injection e with e1 e2; subst e1 e2; exact ⟨x, r, rfl, h1, h2⟩
theorem WTr.nil_inv {P : Program} {r : List Lf} (h : WTr P r []) : r = [] := by
  cases r with
  | nil => rfl
  | cons x r => unfold WTr at h; obtain ⟨s', q', e, h1, h2⟩ := h; cases e
theorem WTr.app_inv {P : Program} : ∀ {a : List Shp} {b : List Shp} {r : List Lf}, WTr P r (a ++ b) → ∃ r1 r2, r = r1 ++ r2 ∧ WTr P r1 a ∧ WTr P r2 b
  | [], b, r, h => ⟨[], r, rfl, WTr.nil P, h⟩
  | s :: a, b, r, h => by
    obtain ⟨x, r', rfl, h1, h2⟩ := WTr.cons_inv h
    obtain ⟨r1, r2, rfl, h3, h4⟩ := WTr.app_inv h2
    exact ⟨x :: r1, r2, rfl, WTr.cons h1 h3, h4⟩
theorem WTf.int_inv {P : Program} {x : Lf} {k : IntKind} (h : WTf P x (.int k)) : ∃ n, x = .int k n := by
  cases x <;> unfold WTf at h
  · rename_i k' n; injection h with h; subst h; exact ⟨n, rfl⟩
  · cases h
  · cases h
  · obtain ⟨_, _, e, _⟩ := h; cases e
theorem WTf.str_inv {P : Program} {x : Lf} (h : WTf P x .str) : ∃ s, x = .str s := by
  cases x <;> unfold WTf at h
  · cases h
  · exact ⟨_, rfl⟩
  · cases h
  · obtain ⟨_, _, e, _⟩ := h; cases e
theorem WTf.bool_inv {P : Program} {x : Lf} (h : WTf P x .bool) : ∃ s, x = .bool s := by
  cases x <;> unfold WTf at h
  · cases h
  · cases h
  · exact ⟨_, rfl⟩
  · obtain ⟨_, _, e, _⟩ := h; cases e
theorem WTf.rows_inv {P : Program} {x : Lf} {e : TypeId} {n : Nat} {shs : List Shp} (hf : flat P 12 e = some shs) (hn : P.cellsOf e = n) (h : WTf P x (.rows e)) : ∃ l, x = .rows n l ∧ WTq P shs l := by
  cases x <;> unfold WTf at h
  · cases h
  · cases h
  · cases h
  · rename_i n' l; obtain ⟨e', shs', e1, h1, h2, h3, h4⟩ := h; injection e1 with e1; subst e1
    rw [hf] at h1; injection h1 with h1; subst h1
    exact ⟨l, by rw [h2, hn], h4⟩
theorem rows_ofW {P : Program} {shs : List Shp} {α : Type} {f : α → List Lf} {n : Nat} : ∀ {l : List (List Lf)}, (∀ r, bulkL r ≤ n → WTr P r shs → ∃ x, f x = r) → bulkR l ≤ n → WTq P shs l → ∃ m : List α, m.map f = l
  | [], _, _, _ => ⟨[], rfl⟩
  | r :: q, h, hb, hw => by
    unfold bulkR at hb; unfold WTq at hw
    obtain ⟨x, rfl⟩ := h r (by omega) hw.1
    obtain ⟨m, rfl⟩ := rows_ofW (l := q) h (by omega) hw.2
    exact ⟨x :: m, rfl⟩
def GDecision.sh : List Shp := [.str, .rows 3, .rows 3, .int .i64, .int .i64, .rows 4]
theorem GDecision.wt (x : GDecision) : WTr Tryd.prog x.lf1 GDecision.sh := WTr.cons (WTf.str _ _) (WTr.cons (WTf.rows (shs := [.int .i64]) (by kernel_rfl) (by kernel_rfl) (by decide) (WTq.map _ (fun x => WTr.cons (WTf.int _ _ _) (WTr.nil _)))) (WTr.cons (WTf.rows (shs := [.int .i64]) (by kernel_rfl) (by kernel_rfl) (by decide) (WTq.map _ (fun x => WTr.cons (WTf.int _ _ _) (WTr.nil _)))) (WTr.cons (WTf.int _ _ _) (WTr.cons (WTf.int _ _ _) (WTr.cons (WTf.rows (shs := [.bool]) (by kernel_rfl) (by kernel_rfl) (by decide) (WTq.map _ (fun x => WTr.cons (WTf.bool _ _) (WTr.nil _)))) (WTr.nil _))))))
theorem GDecision.wtl (x : GDecision) : WTr Tryd.prog x.lf GDecision.sh := GDecision.wt x
def GLaw54Op.sh : List Shp := [.int .i64, .int .i64, .int .i64]
theorem GLaw54Op.wt (x : GLaw54Op) : WTr Tryd.prog x.lf1 GLaw54Op.sh := WTr.cons (WTf.int _ _ _) (WTr.cons (WTf.int _ _ _) (WTr.cons (WTf.int _ _ _) (WTr.nil _)))
theorem GLaw54Op.wtl (x : GLaw54Op) : WTr Tryd.prog x.lf GLaw54Op.sh := GLaw54Op.wt x
def GValue.sh : List Shp := [.int .i64, .int .i64, .str, .rows 37, .rows 90]
def GField.sh : List Shp := [.str] ++ (GValue.sh)
mutual
theorem GField.wtL : ∀ x : GField, WTr Tryd.prog x.lf GField.sh
  | .mk _x0 _x1 => by unfold GField.lf; exact WTr.app _ _ _ _ (WTr.cons (WTf.str _ _) (WTr.nil _)) (GValue.wtL _)
theorem GValue.wtL : ∀ x : GValue, WTr Tryd.prog x.lf GValue.sh
  | .mk _x0 _x1 _x2 _x3 _x4 => by unfold GValue.lf; exact WTr.cons (WTf.int _ _ _) (WTr.cons (WTf.int _ _ _) (WTr.cons (WTf.str _ _) (WTr.cons (WTf.rows (shs := GValue.sh) (by kernel_rfl) (by kernel_rfl) (by decide) (GValue.wts _)) (WTr.cons (WTf.rows (shs := GField.sh) (by kernel_rfl) (by kernel_rfl) (by decide) (GField.wts _)) (WTr.nil _)))))
theorem GValue.wts : ∀ l : List GValue, WTq Tryd.prog GValue.sh (GValue.lfs l)
  | [] => by unfold GValue.lfs; exact WTq.nil _ _
  | x :: r => by unfold GValue.lfs; exact WTq.cons (GValue.wtL x) (GValue.wts r)
theorem GField.wts : ∀ l : List GField, WTq Tryd.prog GField.sh (GField.lfs l)
  | [] => by unfold GField.lfs; exact WTq.nil _ _
  | x :: r => by unfold GField.lfs; exact WTq.cons (GField.wtL x) (GField.wts r)
end
theorem GField.wtl (x : GField) : WTr Tryd.prog x.lf GField.sh := GField.wtL x
theorem GField.wt (x : GField) : WTr Tryd.prog x.lf1 GField.sh := by rw [← GField.lf_eq]; exact GField.wtL x
theorem GValue.wtl (x : GValue) : WTr Tryd.prog x.lf GValue.sh := GValue.wtL x
theorem GValue.wt (x : GValue) : WTr Tryd.prog x.lf1 GValue.sh := by rw [← GValue.lf_eq]; exact GValue.wtL x
def GOrder.sh : List Shp := [.rows 9, .bool]
theorem GOrder.wt (x : GOrder) : WTr Tryd.prog x.lf1 GOrder.sh := WTr.cons (WTf.rows (shs := [.str]) (by kernel_rfl) (by kernel_rfl) (by decide) (WTq.map _ (fun x => WTr.cons (WTf.str _ _) (WTr.nil _)))) (WTr.cons (WTf.bool _ _) (WTr.nil _))
theorem GOrder.wtl (x : GOrder) : WTr Tryd.prog x.lf GOrder.sh := GOrder.wt x
def GPoint.sh : List Shp := [.int .i64, .int .i64]
theorem GPoint.wt (x : GPoint) : WTr Tryd.prog x.lf1 GPoint.sh := WTr.cons (WTf.int _ _ _) (WTr.cons (WTf.int _ _ _) (WTr.nil _))
theorem GPoint.wtl (x : GPoint) : WTr Tryd.prog x.lf GPoint.sh := GPoint.wt x
def GShape.sh : List Shp := [.int .i64, .rows 134, .int .i64]
theorem GShape.wt (x : GShape) : WTr Tryd.prog x.lf1 GShape.sh := WTr.cons (WTf.int _ _ _) (WTr.cons (WTf.rows (shs := GPoint.sh) (by kernel_rfl) (by kernel_rfl) (by decide) (WTq.map _ GPoint.wtl)) (WTr.cons (WTf.int _ _ _) (WTr.nil _)))
theorem GShape.wtl (x : GShape) : WTr Tryd.prog x.lf GShape.sh := GShape.wt x
def GExpr.sh : List Shp := [.int .i64, .rows 9, .str, .rows 9] ++ (GValue.sh ++ ([.int .i64, .rows 52]))
mutual
theorem GExpr.wtL : ∀ x : GExpr, WTr Tryd.prog x.lf GExpr.sh
  | .mk _x0 _x1 _x2 _x3 _x4 _x5 _x6 => by unfold GExpr.lf; exact WTr.app _ _ _ _ (WTr.cons (WTf.int _ _ _) (WTr.cons (WTf.rows (shs := [.str]) (by kernel_rfl) (by kernel_rfl) (by decide) (WTq.map _ (fun x => WTr.cons (WTf.str _ _) (WTr.nil _)))) (WTr.cons (WTf.str _ _) (WTr.cons (WTf.rows (shs := [.str]) (by kernel_rfl) (by kernel_rfl) (by decide) (WTq.map _ (fun x => WTr.cons (WTf.str _ _) (WTr.nil _)))) (WTr.nil _))))) (WTr.app _ _ _ _ (GValue.wt _) (WTr.cons (WTf.int _ _ _) (WTr.cons (WTf.rows (shs := GExpr.sh) (by kernel_rfl) (by kernel_rfl) (by decide) (GExpr.wts _)) (WTr.nil _))))
theorem GExpr.wts : ∀ l : List GExpr, WTq Tryd.prog GExpr.sh (GExpr.lfs l)
  | [] => by unfold GExpr.lfs; exact WTq.nil _ _
  | x :: r => by unfold GExpr.lfs; exact WTq.cons (GExpr.wtL x) (GExpr.wts r)
end
theorem GExpr.wtl (x : GExpr) : WTr Tryd.prog x.lf GExpr.sh := GExpr.wtL x
theorem GExpr.wt (x : GExpr) : WTr Tryd.prog x.lf1 GExpr.sh := by rw [← GExpr.lf_eq]; exact GExpr.wtL x
def GPred.sh : List Shp := [.int .i64, .rows 9] ++ (GValue.sh ++ ([.rows 37, .int .i64, .int .i64] ++ (GShape.sh ++ (GExpr.sh ++ ([.rows 55])))))
mutual
theorem GPred.wtL : ∀ x : GPred, WTr Tryd.prog x.lf GPred.sh
  | .mk _x0 _x1 _x2 _x3 _x4 _x5 _x6 _x7 _x8 => by unfold GPred.lf; exact WTr.app _ _ _ _ (WTr.cons (WTf.int _ _ _) (WTr.cons (WTf.rows (shs := [.str]) (by kernel_rfl) (by kernel_rfl) (by decide) (WTq.map _ (fun x => WTr.cons (WTf.str _ _) (WTr.nil _)))) (WTr.nil _))) (WTr.app _ _ _ _ (GValue.wt _) (WTr.app _ _ _ _ (WTr.cons (WTf.rows (shs := GValue.sh) (by kernel_rfl) (by kernel_rfl) (by decide) (WTq.map _ GValue.wtl)) (WTr.cons (WTf.int _ _ _) (WTr.cons (WTf.int _ _ _) (WTr.nil _)))) (WTr.app _ _ _ _ (GShape.wt _) (WTr.app _ _ _ _ (GExpr.wt _) (WTr.cons (WTf.rows (shs := GPred.sh) (by kernel_rfl) (by kernel_rfl) (by decide) (GPred.wts _)) (WTr.nil _))))))
theorem GPred.wts : ∀ l : List GPred, WTq Tryd.prog GPred.sh (GPred.lfs l)
  | [] => by unfold GPred.lfs; exact WTq.nil _ _
  | x :: r => by unfold GPred.lfs; exact WTq.cons (GPred.wtL x) (GPred.wts r)
end
theorem GPred.wtl (x : GPred) : WTr Tryd.prog x.lf GPred.sh := GPred.wtL x
theorem GPred.wt (x : GPred) : WTr Tryd.prog x.lf1 GPred.sh := by rw [← GPred.lf_eq]; exact GPred.wtL x
def GIndex.sh : List Shp := [.str, .int .i64, .rows 125, .bool, .bool, .bool] ++ (GPred.sh)
theorem GIndex.wt (x : GIndex) : WTr Tryd.prog x.lf1 GIndex.sh := WTr.app _ _ _ _ (WTr.cons (WTf.str _ _) (WTr.cons (WTf.int _ _ _) (WTr.cons (WTf.rows (shs := GOrder.sh) (by kernel_rfl) (by kernel_rfl) (by decide) (WTq.map _ GOrder.wtl)) (WTr.cons (WTf.bool _ _) (WTr.cons (WTf.bool _ _) (WTr.cons (WTf.bool _ _) (WTr.nil _))))))) (GPred.wt _)
theorem GIndex.wtl (x : GIndex) : WTr Tryd.prog x.lf GIndex.sh := GIndex.wt x
def GSchema.sh : List Shp := [.int .i64, .bool] ++ (GValue.sh ++ ([.bool] ++ (GValue.sh ++ ([.rows 37, .int .i64, .int .i64, .rows 9, .rows 129, .bool, .rows 43, .bool]))))
def GProp.sh : List Shp := [.str] ++ (GSchema.sh)
mutual
theorem GProp.wtL : ∀ x : GProp, WTr Tryd.prog x.lf GProp.sh
  | .mk _x0 _x1 => by unfold GProp.lf; exact WTr.app _ _ _ _ (WTr.cons (WTf.str _ _) (WTr.nil _)) (GSchema.wtL _)
theorem GSchema.wtL : ∀ x : GSchema, WTr Tryd.prog x.lf GSchema.sh
  | .mk _x0 _x1 _x2 _x3 _x4 _x5 _x6 _x7 _x8 _x9 _x10 _x11 _x12 => by unfold GSchema.lf; exact WTr.app _ _ _ _ (WTr.cons (WTf.int _ _ _) (WTr.cons (WTf.bool _ _) (WTr.nil _))) (WTr.app _ _ _ _ (GValue.wt _) (WTr.app _ _ _ _ (WTr.cons (WTf.bool _ _) (WTr.nil _)) (WTr.app _ _ _ _ (GValue.wt _) (WTr.cons (WTf.rows (shs := GValue.sh) (by kernel_rfl) (by kernel_rfl) (by decide) (WTq.map _ GValue.wtl)) (WTr.cons (WTf.int _ _ _) (WTr.cons (WTf.int _ _ _) (WTr.cons (WTf.rows (shs := [.str]) (by kernel_rfl) (by kernel_rfl) (by decide) (WTq.map _ (fun x => WTr.cons (WTf.str _ _) (WTr.nil _)))) (WTr.cons (WTf.rows (shs := GProp.sh) (by kernel_rfl) (by kernel_rfl) (by decide) (GProp.wts _)) (WTr.cons (WTf.bool _ _) (WTr.cons (WTf.rows (shs := GSchema.sh) (by kernel_rfl) (by kernel_rfl) (by decide) (GSchema.wts _)) (WTr.cons (WTf.bool _ _) (WTr.nil _))))))))))))
theorem GProp.wts : ∀ l : List GProp, WTq Tryd.prog GProp.sh (GProp.lfs l)
  | [] => by unfold GProp.lfs; exact WTq.nil _ _
  | x :: r => by unfold GProp.lfs; exact WTq.cons (GProp.wtL x) (GProp.wts r)
theorem GSchema.wts : ∀ l : List GSchema, WTq Tryd.prog GSchema.sh (GSchema.lfs l)
  | [] => by unfold GSchema.lfs; exact WTq.nil _ _
  | x :: r => by unfold GSchema.lfs; exact WTq.cons (GSchema.wtL x) (GSchema.wts r)
end
theorem GProp.wtl (x : GProp) : WTr Tryd.prog x.lf GProp.sh := GProp.wtL x
theorem GProp.wt (x : GProp) : WTr Tryd.prog x.lf1 GProp.sh := by rw [← GProp.lf_eq]; exact GProp.wtL x
theorem GSchema.wtl (x : GSchema) : WTr Tryd.prog x.lf GSchema.sh := GSchema.wtL x
theorem GSchema.wt (x : GSchema) : WTr Tryd.prog x.lf1 GSchema.sh := by rw [← GSchema.lf_eq]; exact GSchema.wtL x
def GSpace.sh : List Shp := [.str, .rows 57] ++ (GSchema.sh ++ ([.int .i64, .int .i64]))
theorem GSpace.wt (x : GSpace) : WTr Tryd.prog x.lf1 GSpace.sh := WTr.app _ _ _ _ (WTr.cons (WTf.str _ _) (WTr.cons (WTf.rows (shs := GIndex.sh) (by kernel_rfl) (by kernel_rfl) (by decide) (WTq.map _ GIndex.wtl)) (WTr.nil _))) (WTr.app _ _ _ _ (GSchema.wt _) (WTr.cons (WTf.int _ _ _) (WTr.cons (WTf.int _ _ _) (WTr.nil _))))
theorem GSpace.wtl (x : GSpace) : WTr Tryd.prog x.lf GSpace.sh := GSpace.wt x
def GWrite.sh : List Shp := [.int .i64, .str] ++ (GValue.sh ++ (GValue.sh ++ (GValue.sh ++ (GSpace.sh ++ (GIndex.sh ++ ([.str, .int .i64, .rows 60, .rows 3, .bool]))))))
mutual
theorem GWrite.wtL : ∀ x : GWrite, WTr Tryd.prog x.lf GWrite.sh
  | .mk _x0 _x1 _x2 _x3 _x4 _x5 _x6 _x7 _x8 _x9 _x10 _x11 => by unfold GWrite.lf; exact WTr.app _ _ _ _ (WTr.cons (WTf.int _ _ _) (WTr.cons (WTf.str _ _) (WTr.nil _))) (WTr.app _ _ _ _ (GValue.wt _) (WTr.app _ _ _ _ (GValue.wt _) (WTr.app _ _ _ _ (GValue.wt _) (WTr.app _ _ _ _ (GSpace.wt _) (WTr.app _ _ _ _ (GIndex.wt _) (WTr.cons (WTf.str _ _) (WTr.cons (WTf.int _ _ _) (WTr.cons (WTf.rows (shs := GWrite.sh) (by kernel_rfl) (by kernel_rfl) (by decide) (GWrite.wts _)) (WTr.cons (WTf.rows (shs := [.int .i64]) (by kernel_rfl) (by kernel_rfl) (by decide) (WTq.map _ (fun x => WTr.cons (WTf.int _ _ _) (WTr.nil _)))) (WTr.cons (WTf.bool _ _) (WTr.nil _)))))))))))
theorem GWrite.wts : ∀ l : List GWrite, WTq Tryd.prog GWrite.sh (GWrite.lfs l)
  | [] => by unfold GWrite.lfs; exact WTq.nil _ _
  | x :: r => by unfold GWrite.lfs; exact WTq.cons (GWrite.wtL x) (GWrite.wts r)
end
theorem GWrite.wtl (x : GWrite) : WTr Tryd.prog x.lf GWrite.sh := GWrite.wtL x
theorem GWrite.wt (x : GWrite) : WTr Tryd.prog x.lf1 GWrite.sh := by rw [← GWrite.lf_eq]; exact GWrite.wtL x
def GEntry.sh : List Shp := [.int .i64, .int .i64, .str, .int .i64] ++ (GWrite.sh)
theorem GEntry.wt (x : GEntry) : WTr Tryd.prog x.lf1 GEntry.sh := WTr.app _ _ _ _ (WTr.cons (WTf.int _ _ _) (WTr.cons (WTf.int _ _ _) (WTr.cons (WTf.str _ _) (WTr.cons (WTf.int _ _ _) (WTr.nil _))))) (GWrite.wt _)
theorem GEntry.wtl (x : GEntry) : WTr Tryd.prog x.lf GEntry.sh := GEntry.wt x
end Go.Proofs.YtplokbmdcfakbaaDoor
