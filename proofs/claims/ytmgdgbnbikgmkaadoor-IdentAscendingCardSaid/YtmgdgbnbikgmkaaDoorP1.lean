/- ident.Parse. -/
import Derived.Test.YtmgdgbnbikgmkaaDoorS2
import Derived.Test.YtmgdgbnbikgmkaaDoorW2
namespace Go.Proofs.YtmgdgbnbikgmkaaDoor
open Go.RowKit
def hexV (c : Nat) : Option Nat := if 48 ≤ c ∧ c ≤ 57 then some (c - 48) else if 97 ≤ c ∧ c ≤ 102 then some (c - 87) else none
/-- the value of the letter at i -/
def hv (s : ByteArray) (i : Nat) : Nat := ((s.data.toList[i]?).bind (fun c => hexV c.toNat)).getD 0
def okAt (s : ByteArray) (i : Nat) : Prop := ∃ c, s.data.toList[i]? = some c ∧ (hexV c.toNat).isSome = true
theorem hv_lt (s : ByteArray) (i : Nat) : hv s i < 16 := by
  unfold hv
  cases h : s.data.toList[i]? with
  | none => simp
  | some c =>
    simp only [Option.bind_some, hexV]
    split
    · simp; omega
    · split <;> simp; omega
/-- the byte j after k letters -/
def pb (s : ByteArray) (k j : Nat) : Int := if 2 * j + 1 < k then (hv s (2 * j) : Int) * 16 + hv s (2 * j + 1) else if 2 * j < k then hv s (2 * j) else 0
def pbs (s : ByteArray) (k : Nat) : List Value := (List.range 12).map fun j => Value.int .u8 (pb s k j)
theorem pbs_at (s : ByteArray) (k j : Nat) (hj : j < 12) : (pbs s k).toArray[j]? = some (.int .u8 (pb s k j)) := by
  simp [pbs, hj]
theorem pbs_set (s : ByteArray) (k : Nat) (u : Value) (_hk : k < 24) (hu : u = .int .u8 (pb s (k + 1) (k / 2))) : (pbs s k).toArray.setIfInBounds (k / 2) u = (pbs s (k + 1)).toArray := by
  apply Array.ext
  · simp [pbs]
  · intro i h1 h2
    have hi : i < 12 := by simpa [pbs] using h2
    simp only [List.setIfInBounds_toArray, List.getElem_toArray, List.getElem_set, pbs, List.getElem_map, List.getElem_range]
    split
    · rename_i h; subst h; exact hu
    · rename_i h
      congr 1
      unfold pb
      repeat' split
      all_goals first | rfl | omega
theorem or_u8 (x d : Nat) (hx : x < 16) (hd : d < 16) : bits .or .u8 ((x : Int) * 16) (d : Int) = (x : Int) * 16 + d := by
  have : ∀ x : Fin 16, ∀ d : Fin 16, bits .or .u8 ((x.1 : Int) * 16) (d.1 : Int) = (x.1 : Int) * 16 + d.1 := by decide +kernel
  exact this ⟨x, hx⟩ ⟨d, hd⟩
theorem at_byte (s : ByteArray) (k : Nat) (h : k < s.size) : s.data.toList[k]? = some s[k] := by
  rw [List.getElem?_eq_getElem (by simpa using h)]; rfl
set_option maxHeartbeats 400000 in
theorem parse_no (s : ByteArray) (hs : ((s.size : Int) == 24) = false) (w : World) :
    Calls Tryd.prog 17 #[.string s] w fun e w' => e = .returned (.tuple #[noVal, .int .i64 4]) ∧ Ext w w' := by
  have hs' : ((s.size : Int) != 24) = true := by simp [bne, hs]
  clear hs
  go_enter Tryd.func17, Tryd.ntmps17
  go_wp2_with fail
  exact bodyPost_ret (v := .tuple #[noVal, .int .i64 4]) (by simp [results, Tryd.results17, go_sem, noVal]) rfl ⟨rfl, (Ext.refl w).alloc _⟩
/-- what Parse comes to, at 24 letters -/
def allHex (s : ByteArray) : Bool := s.data.toList.all fun c => (hexV c.toNat).isSome
def parsed (s : ByteArray) : ByteArray := strOfNums ((List.range 12).map (pb s 24))
def parseRes (s : ByteArray) : Value := if allHex s then .tuple #[idVal (parsed s), .int .i64 0] else .tuple #[noVal, .int .i64 4]
theorem hv_of (s : ByteArray) (k d : Nat) (h : k < s.size) (e : hexV s[k].toNat = some d) : hv s k = d := by
  unfold hv; rw [at_byte s k h]; simp [e]
theorem allHex_no (s : ByteArray) (k : Nat) (h : k < s.size) (e : hexV s[k].toNat = none) : allHex s = false := by
  unfold allHex
  rw [List.all_eq_false]
  exact ⟨s[k], List.mem_of_getElem? (at_byte s k h), by simp [e]⟩
theorem allHex_yes (s : ByteArray) (h : ∀ i, i < s.size → okAt s i) : allHex s = true := by
  unfold allHex
  rw [List.all_eq_true]
  intro c hc
  obtain ⟨i, hi, rfl⟩ := List.mem_iff_getElem.1 hc
  obtain ⟨c', h1, h2⟩ := h i (by simpa using hi)
  rw [List.getElem?_eq_getElem hi] at h1
  obtain rfl := Option.some.inj h1
  exact h2
theorem okAt_of (s : ByteArray) (k d : Nat) (h : k < s.size) (e : hexV s[k].toNat = some d) : okAt s k := ⟨s[k], at_byte s k h, by rw [e]; rfl⟩
theorem pb_even (s : ByteArray) (k d : Nat) (hd : hv s k = d) (hk : k % 2 = 0) : pb s (k + 1) (k / 2) = d := by
  unfold pb; rw [if_neg (by omega), if_pos (by omega), show 2 * (k / 2) = k by omega, hd]
theorem pb_even0 (s : ByteArray) (k : Nat) (hk : k % 2 = 0) : pb s k (k / 2) = 0 := by
  unfold pb; rw [if_neg (by omega), if_neg (by omega)]
theorem pb_odd (s : ByteArray) (k d : Nat) (hd : hv s k = d) (hk : k % 2 = 1) : pb s (k + 1) (k / 2) = (hv s (k - 1) : Int) * 16 + d := by
  unfold pb; rw [if_pos (by omega), show 2 * (k / 2) = k - 1 by omega, show k - 1 + 1 = k by omega, hd]
theorem pb_odd0 (s : ByteArray) (k : Nat) (hk : k % 2 = 1) : pb s k (k / 2) = hv s (k - 1) := by
  unfold pb; rw [if_neg (by omega), if_pos (by omega), show 2 * (k / 2) = k - 1 by omega]
def PRel (s : ByteArray) (w wr : World) (k : Nat) : Prop :=
  wr.heap[w.heap.size]? = some (.cells #[.int .i64 0, .int .i64 0, .string ⟨#[]⟩, .slice none 0 0, .slice none 0 0] 25 (0, 0)) ∧
  wr.heap[w.heap.size + 1]? = some (.cells (pbs s k).toArray 67 (0, 0)) ∧ Ext w wr ∧ ∀ i, i < k → okAt s i
theorem PRel.step {s : ByteArray} {w wr : World} {k d : Nat} (h : PRel s w wr k) (hk : k < 24) (hks : k < s.size) (he : hexV s[k].toNat = some d) (u : Int) (hu : u = pb s (k + 1) (k / 2)) :
    PRel s w (wr.setCell ⟨w.heap.size + 1, k / 2, none⟩ (.int .u8 u)) (k + 1) := by
  obtain ⟨h1, h2, h3, h4⟩ := h
  refine ⟨blk_far h1 (by simp) _, ?_, h3.setCell (by simp) _, fun i hi => ?_⟩
  · rw [blk_set h2, pbs_set s k _ hk (by rw [hu])]
  · rcases Nat.lt_or_ge i k with h | h
    · exact h4 i h
    · obtain rfl : i = k := by omega
      exact okAt_of s i d hks he
theorem or_u8_0 (d : Nat) (hd : d < 16) : bits .or .u8 0 (d : Int) = (d : Int) := by
  have := or_u8 0 d (by omega) hd
  simpa using this
set_option maxHeartbeats 1000000 in
theorem parse_ok (s : ByteArray) (hs : s.size = 24) (w : World) :
    Calls Tryd.prog 17 #[.string s] w fun e w' => e = .returned (parseRes s) ∧ Ext w w' := by
  have hs' : ((s.size : Int) != 24) = false := by simp [bne, hs]
  have HS := Lib.hid hs
  clear hs
  go_enter Tryd.func17, Tryd.ntmps17
  go_wp2_with fail
  go_loopw [12] (fun i wr => ∃ k : Nat, k ≤ 24 ∧ i = .int .i64 k ∧ PRel s w wr k) (fun i _ => 24 - (intOf i).toNat)
  case atStart => exact ⟨0, by omega, rfl, by
    refine ⟨(Below.heap_alloc _ _ _ (by simp)).trans (heap_alloc_new w _), ?_, ((Ext.refl w).alloc _).alloc _, fun i hi => absurd hi (by omega)⟩
    have e : (pbs s 0).toArray = #[.int .u8 0, .int .u8 0, .int .u8 0, .int .u8 0, .int .u8 0, .int .u8 0, .int .u8 0, .int .u8 0, .int .u8 0, .int .u8 0, .int .u8 0, .int .u8 0] := rfl
    rw [e]
    have h := heap_alloc_new (w.alloc (.cells #[.int .i64 0, .int .i64 0, .string ⟨#[]⟩, .slice none 0 0, .slice none 0 0] 25)) (.cells #[.int .u8 0, .int .u8 0, .int .u8 0, .int .u8 0, .int .u8 0, .int .u8 0, .int .u8 0, .int .u8 0, .int .u8 0, .int .u8 0, .int .u8 0, .int .u8 0] 67)
    rw [World.size_alloc] at h
    exact h⟩
  case round =>
    obtain ⟨k, hk, rfl, hR⟩ := hrel
    have HR := Lib.hid hR
    have hc0 := blk_cell hR.1
    have hf0 := blk_free hR.1
    have hc1 := blk_cell hR.2.1 (k / 2)
    have hf1 := blk_free hR.2.1 (k / 2)
    have hE := hR.2.2.1
    clear hR
    by_cases hlt : k < 24
    · rw [pbs_at s k (k / 2) (by omega)] at hc1
      have hks : k < s.size := by rw [HS.out]; exact hlt
      obtain ⟨n, hn⟩ : ∃ n, s[k].toNat = n := ⟨_, rfl⟩
      have hn16 : n < 256 := by rw [← hn]; exact s[k].toNat_lt
      by_cases hd : 48 ≤ n ∧ n ≤ 57
      · have he : hexV s[k].toNat = some (n - 48) := by rw [hn]; simp [hexV, hd]
        have HE := Lib.hid he
        clear he
        rcases Nat.mod_two_eq_zero_or_one k with hp | hp
        · have q0 := pb_even0 s k hp
          rw [q0] at hc1
          have hv1 := hv_lt s (k - 1)
          have HP := Lib.hid hp
          clear hp q0
          have ho : bits .or .u8 0 ((n : Int) - 48) = (n : Int) - 48 := by have := or_u8_0 (n - 48) (by omega); rw [show ((n - 48 : Nat) : Int) = (n : Int) - 48 by omega] at this; exact this
          have HO := Lib.hid ho
          clear ho
          go_wp2_with fail
          rw [HO.out]
          refine ⟨⟨k + 1, by omega, by go_num, HR.out.step hlt hks HE.out _ ?_⟩, by simp [intOf]; omega⟩
          rw [pb_even s k (n - 48) (hv_of s k _ hks HE.out) HP.out]; omega
        · have q0 := pb_odd0 s k hp
          rw [q0] at hc1
          have hv1 := hv_lt s (k - 1)
          have HP := Lib.hid hp
          clear hp q0
          have ho : bits .or .u8 ((hv s (k - 1) : Int) * 16) ((n : Int) - 48) = (hv s (k - 1) : Int) * 16 + ((n : Int) - 48) := by have := or_u8 (hv s (k - 1)) (n - 48) hv1 (by omega); rw [show ((n - 48 : Nat) : Int) = (n : Int) - 48 by omega] at this; exact this
          have HO := Lib.hid ho
          clear ho
          go_wp2_with fail
          rw [HO.out]
          refine ⟨⟨k + 1, by omega, by go_num, HR.out.step hlt hks HE.out _ ?_⟩, by simp [intOf]; omega⟩
          rw [pb_odd s k (n - 48) (hv_of s k _ hks HE.out) HP.out]; omega
      · by_cases hd2 : 97 ≤ n ∧ n ≤ 102
        · have he : hexV s[k].toNat = some (n - 87) := by rw [hn]; simp [hexV, hd, hd2]
          have HE := Lib.hid he
          have hd3 : 57 < n := by omega
          have hd4 : 48 ≤ n := by omega
          clear he hd
          rcases Nat.mod_two_eq_zero_or_one k with hp | hp
          · have q0 := pb_even0 s k hp
            rw [q0] at hc1
            have hv1 := hv_lt s (k - 1)
            have HP := Lib.hid hp
            clear hp q0
            have ho : bits .or .u8 0 ((n : Int) - 97 + 10) = (n : Int) - 97 + 10 := by have := or_u8_0 (n - 87) (by omega); rw [show ((n - 87 : Nat) : Int) = (n : Int) - 97 + 10 by omega] at this; exact this
            have HO := Lib.hid ho
            clear ho
            go_wp2_with fail
            rw [HO.out]
            refine ⟨⟨k + 1, by omega, by go_num, HR.out.step hlt hks HE.out _ ?_⟩, by simp [intOf]; omega⟩
            rw [pb_even s k (n - 87) (hv_of s k _ hks HE.out) HP.out]; omega
          · have q0 := pb_odd0 s k hp
            rw [q0] at hc1
            have hv1 := hv_lt s (k - 1)
            have HP := Lib.hid hp
            clear hp q0
            have ho : bits .or .u8 ((hv s (k - 1) : Int) * 16) ((n : Int) - 97 + 10) = (hv s (k - 1) : Int) * 16 + ((n : Int) - 97 + 10) := by have := or_u8 (hv s (k - 1)) (n - 87) hv1 (by omega); rw [show ((n - 87 : Nat) : Int) = (n : Int) - 97 + 10 by omega] at this; exact this
            have HO := Lib.hid ho
            clear ho
            go_wp2_with fail
            rw [HO.out]
            refine ⟨⟨k + 1, by omega, by go_num, HR.out.step hlt hks HE.out _ ?_⟩, by simp [intOf]; omega⟩
            rw [pb_odd s k (n - 87) (hv_of s k _ hks HE.out) HP.out]; omega
        · have he : hexV s[k].toNat = none := by rw [hn]; simp [hexV, hd, hd2]
          have hres : parseRes s = .tuple #[noVal, .int .i64 4] := by simp [parseRes, allHex_no s k hks he]
          have HRES := Lib.hid hres
          clear he hres
          have a1 : n < 48 ∨ 57 < n := by omega
          have a2 : n < 97 ∨ 102 < n := by omega
          clear hd hd2
          rcases a1 with a1 | a1 <;> rcases a2 with a2 | a2
          all_goals first
            | (exfalso; omega)
            | (go_wp2_with fail
               exact bodyPost_ret (v := .tuple #[noVal, .int .i64 4]) (by simp [results, Tryd.results17, go_sem, noVal, hc0]) rfl ⟨by rw [HRES.out], ((((hE.setCell (Nat.le_refl _) _).setCell (Nat.le_refl _) _).setCell (Nat.le_refl _) _).setCell (Nat.le_refl _) _).setCell (Nat.le_refl _) _⟩)
    · have hk24 : k = 24 := by omega
      subst hk24
      clear hc1 hf1
      have hres : parseRes s = .tuple #[idVal (parsed s), .int .i64 0] := by
        unfold parseRes; rw [if_pos (allHex_yes s (fun i hi => HR.out.2.2.2 i (by rw [HS.out] at hi; exact hi)))]
      have HRES := Lib.hid hres
      clear hres
      have hcv : Sem.run Tryd.prog (convert 58 9 (Value.slice (some { block := w.heap.size + 1, off := 0 }) 12 12)) wr = .ok (.string (parsed s)) wr :=
        run_convert_bytes_arg wr 58 5 Tryd.underlying58 Tryd.underlying5 (w.heap.size + 1) 0 12 12 ((List.range 12).map (pb s 24)) rfl (fun i hi => by
          rw [Nat.zero_add, blk_cell HR.out.2.1 i, pbs_at s 24 i hi]; simp [List.getD, hi]) 9 Tryd.underlying9
      go_wp2_with fail
      exact bodyPost_ret (v := .tuple #[idVal (parsed s), .int .i64 0]) (by simp [results, Tryd.results17, go_sem, idVal, hc0]) rfl ⟨by rw [HRES.out], ((((hE.setCell (Nat.le_refl _) _).setCell (Nat.le_refl _) _).setCell (Nat.le_refl _) _).setCell (Nat.le_refl _) _).setCell (Nat.le_refl _) _⟩
end Go.Proofs.YtmgdgbnbikgmkaaDoor
