/- keyenc.Encode. -/
import Derived.Test.YtipphlhaaienpaaDoorKEn
import Derived.Laws.OwnMore
set_option linter.unusedSimpArgs false
set_option linter.unusedVariables false
namespace Go.Proofs.YtipphlhaaienpaaDoor
open Go.RowKit
/-- how long keys are -/
theorem kencL_le (l : List Tr) (h : ∀ t ∈ l, (kenc t).length + 40 ≤ 8400 * t.cnt) : (kencL l).length ≤ 8400 * Tr.cntL l := by
  induction l with
  | nil => simp [kencL]
  | cons x r ih =>
    simp only [kencL, Tr.cntL, List.length_append, List.length_singleton]
    have := h x (by simp)
    have := ih (fun t ht => h t (by simp [ht]))
    omega
theorem kencF_le : ∀ (ds : List Tr) (ns seen : List ByteArray), sndF seen ns ds = true → (∀ t ∈ ds, (kenc t).length + 40 ≤ 8400 * t.cnt) → (kencF ns ds).length ≤ 8400 * Tr.cntL ds
  | [], ns, _, _, _ => by cases ns <;> simp [kencF]
  | x :: r, [], _, _, _ => by simp [kencF]
  | x :: r, n :: nr, seen, hs, h => by
    simp only [sndF, Bool.and_eq_true] at hs
    simp only [kencF, Tr.cntL, List.length_append, List.length_singleton]
    have h1 := h x (by simp)
    have h2 := kencF_le r nr _ hs.2 (fun t ht => h t (by simp [ht]))
    have h3 := nameB_le hs.1.1.1
    have h5 : n.data.toList.length = n.size := by simp
    omega
theorem kenc_le : ∀ (m : Nat) (t : Tr), t.sz = m → snd t = true → (kenc t).length + 40 ≤ 8400 * t.cnt := by
  intro m
  induction m using Nat.strongRecOn with
  | _ m ih =>
    intro t hm hsd
    obtain ⟨k, i, s, lt, ns, ds⟩ := t
    have hsz : ∀ t, t ∈ lt ∨ t ∈ ds → t.sz < m := fun t ht => by
      rw [← hm]; rcases ht with h | h; exact Tr.sz_list h; exact Tr.sz_docs h
    obtain ⟨h1, h2, h3, h4⟩ := snd_list hsd
    have hLv : ∀ t ∈ lt, (kenc t).length + 40 ≤ 8400 * t.cnt := fun t ht => ih _ (hsz _ (.inl ht)) _ rfl (sndL_mem h3 _ ht)
    have hDv : ∀ t ∈ ds, (kenc t).length + 40 ≤ 8400 * t.cnt := fun t ht => ih _ (hsz _ (.inr ht)) _ rfl (sndF_mem h4 _ ht)
    have hsl : s.data.toList.length = s.size := by simp
    have hes := esc_le s.data.toList
    simp only [kenc, Tr.cnt, List.length_append, List.length_singleton]
    by_cases k3 : k = 3 ∨ k = 9 ∨ k = 10
    · rw [if_pos k3]; simp [num8]; omega
    rw [if_neg k3]
    by_cases k4 : k = 4 ∨ k = 7 ∨ k = 8
    · rw [if_pos k4]
      have : s.size ≤ 4096 := by
        rcases k4 with rfl | rfl | rfl
        · simp [leafOk] at h2; exact h2.1
        · simpa [leafOk] using h2
        · simp [leafOk] at h2; omega
      simp only [List.length_append, List.length_cons, List.length_nil]; omega
    rw [if_neg k4]
    by_cases k6 : k = 6
    · rw [if_pos k6, if_pos k6]
      have := kencL_le lt hLv
      simp only [List.length_append, List.length_cons, List.length_nil]; omega
    rw [if_neg k6, if_neg k6]
    by_cases k5 : k = 5
    · rw [if_pos k5, if_pos k5]
      have := kencF_le ds ns _ h4 hDv
      simp only [List.length_append, List.length_cons, List.length_nil]; omega
    rw [if_neg k5, if_neg k5]
    simp
theorem kenc_small {t : Tr} (h : allowB t = true) : (kenc t).length ≤ 8601600 := by
  unfold allowB at h
  split at h
  · rename_i hk
    cases t with
    | mk k i s l ns ds =>
      have hk' : k = 0 := hk
      subst hk'
      simp [kenc]
  · simp only [validB, Bool.and_eq_true, decide_eq_true_eq] at h
    have := kenc_le _ t rfl h.2
    omega
/-- booleans in memory -/
def BRep (w : World) (a : Option Addr) (ds : List Bool) : Prop := ∀ j d, ds[j]? = some d → ∃ b off, a = some ⟨b, off, none⟩ ∧ w.cell? ⟨b, off + j, none⟩ = some (.bool d)
theorem BRep.ext {w w' : World} {a : Option Addr} {ds : List Bool} (h : BRep w a ds) (he : Ext w w') : BRep w' a ds := fun j d hj => by
  obtain ⟨b, off, h1, h2⟩ := h j d hj
  exact ⟨b, off, h1, he.keep h2⟩
/-- appendValue of whatever is allowed -/
theorem kappA (t : Tr) (v b : Value) (l : List UInt8) (base : Nat) (W0 w : World) (ha : allowB t = true) (hV : VRep W0 t v) (hE : Ext W0 w) (hb0 : W0.heap.size ≤ base) (hbase : base ≤ w.heap.size) (hB : Buf w base b l) (hl : l.length + (kenc t).length ≤ 90000000000) :
    Calls Tryd.prog 22 #[b, v] w (BufPost base w (l ++ kenc t)) := by
  by_cases hk : t.kind = 0
  · unfold allowB at ha
    rw [if_pos hk] at ha
    cases t with
    | mk k i s lt ns ds =>
      have hk' : k = 0 := hk
      subst hk'
      unfold VRep at hV
      obtain ⟨la, lc, da, dc, rfl, _⟩ := hV
      have e : kenc (.mk 0 i s lt ns ds) = [0] := by simp [kenc]
      rw [e]
      exact kapp_k0 i s lt ns ds la da lc dc b l base W0 w hE hb0 hbase hB (by omega)
  · unfold allowB at ha
    rw [if_neg hk] at ha
    simp only [validB, Bool.and_eq_true] at ha
    exact kapp_ok t v b l base W0 w ha.2 hV hE hb0 hbase hB hl
def flipC (c : UInt8) : UInt8 := 255 - c
theorem flipC_nat (c : UInt8) : ((flipC c).toNat : Int) = 255 - (c.toNat : Int) := by
  have := c.toNat_lt
  unfold flipC
  rw [UInt8.toNat_sub_of_le _ _ (by rw [UInt8.le_iff_toNat_le]; show c.toNat ≤ 255; omega)]
  show ((255 - c.toNat : Nat) : Int) = _
  omega
/-- the bytes of X, the first i turned -/
def turned (X : List UInt8) (i : Nat) : List UInt8 := (X.take i).map flipC ++ X.drop i
theorem turned_set (cur X : List UInt8) (i : Nat) (h : i < X.length) : (cur ++ turned X i).set (cur.length + i) (flipC X[i]) = cur ++ turned X (i + 1) := by
  unfold turned
  rw [List.set_append_right _ _ (by omega), Nat.add_sub_cancel_left, List.set_append_right _ _ (by simp; omega)]
  congr 1
  rw [List.take_succ_eq_append_getElem h, List.map_append, List.append_assoc]
  congr 1
  rw [List.length_map, List.length_take, Nat.min_eq_left (Nat.le_of_lt h), Nat.sub_self]
  conv => lhs; rw [List.drop_eq_getElem_cons h]
  rfl
theorem turned_get (cur X : List UInt8) (i : Nat) (h : i < X.length) : (cur ++ turned X i)[cur.length + i]? = some X[i] := by
  unfold turned
  rw [List.getElem?_append_right (by omega), Nat.add_sub_cancel_left, List.getElem?_append_right (by simp; omega)]
  simp [Nat.min_eq_left (Nat.le_of_lt h), h]
theorem turned_all (X : List UInt8) : turned X X.length = X.map flipC := by unfold turned; simp
theorem kencs_snoc : ∀ (ts : List Tr) (ds : List Bool) (t : Tr) (d : Bool), ts.length = ds.length → kencs (ts ++ [t]) (ds ++ [d]) = kencs ts ds ++ kone d t
  | [], [], t, d, _ => by simp [kencs]
  | x :: r, y :: e, t, d, h => by simp only [List.cons_append, kencs, kencs_snoc r e t d (by simpa using h), List.append_assoc]
  | [], _ :: _, _, _, h => by simp at h
  | _ :: _, [], _, _, h => by simp at h
theorem kone_len (d : Bool) (t : Tr) : (kone d t).length = (kenc t).length := by unfold kone; cases d <;> simp
theorem kencs_le (ts : List Tr) (ds : List Bool) (h : ∀ t ∈ ts, allowB t = true) : (kencs ts ds).length ≤ 8601600 * ts.length := by
  induction ts generalizing ds with
  | nil => simp [kencs]
  | cons x r ih =>
    cases ds with
    | nil => simp [kencs]
    | cons d e =>
      simp only [kencs, List.length_append, kone_len, List.length_cons]
      have h1 := kenc_small (h x (by simp))
      have h2 := ih e (fun t ht => h t (by simp [ht]))
      omega
theorem Buf.cellAt {w : World} {base g n cap : Nat} {l : List UInt8} (h : Buf w base (.slice (some ⟨g, 0, none⟩) n cap) l) (hn : n = l.length) (j : Nat) (c : UInt8) (hj : l[j]? = some c) : w.cell? ⟨g, j, none⟩ = some (.int .u8 (c.toNat : Int)) ∧ w.frozen? ⟨g, j, none⟩ = false ∧ g < w.heap.size ∧ base ≤ g := by
  subst hn
  have hlt := (List.getElem?_eq_some_iff.1 hj).1
  refine ⟨?_, World.ownsRow.frozenAt h j, (World.ownsRow.lt h g rfl).2, (World.ownsRow.lt h g rfl).1⟩
  rw [World.ownsRow.cellAt h j (by omega), List.getElem?_map, hj]; rfl
theorem Buf.stored {w : World} {base g n cap : Nat} {l : List UInt8} (h : Buf w base (.slice (some ⟨g, 0, none⟩) n cap) l) (hn : n = l.length) (j : Nat) (c : UInt8) : Buf (w.setCell ⟨g, j, none⟩ (.int .u8 (c.toNat : Int))) base (.slice (some ⟨g, 0, none⟩) n cap) (l.set j c) := by
  subst hn
  have := (World.ownsRow.stored h j (bv c)).1
  unfold Buf
  rw [List.length_set, List.map_set]; exact this
end Go.Proofs.YtipphlhaaienpaaDoor
