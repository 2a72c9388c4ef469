/- ident.Text and R.Text. -/
import Derived.Test.YtmgdgbnbikgmkaaDoorV1
import Derived.Test.YtmgdgbnbikgmkaaDoorMix
namespace Go.Proofs.YtmgdgbnbikgmkaaDoor
open Go.RowKit
/-- a hexadecimal digit's letter -/
def hexD (x : Nat) : Int := if x < 10 then 48 + x else 87 + x
def hexL (l : List UInt8) : List Int := l.flatMap fun c => [hexD (c.toNat / 16), hexD (c.toNat % 16)]
theorem hexL_len (l : List UInt8) : (hexL l).length = 2 * l.length := by
  induction l with
  | nil => rfl
  | cons c l ih => simp [hexL] at ih ⊢; omega
theorem hexL_snoc (l : List UInt8) (c : UInt8) : hexL (l ++ [c]) = hexL l ++ [hexD (c.toNat / 16), hexD (c.toNat % 16)] := by simp [hexL]
theorem u8info : (Tryd.prog.info? 5).map (fun i => (i.zero, i.size, i.bytes)) = some (some (.int .u8 0), 1, 1) := by kernel_rfl
def digs : ByteArray := ⟨#[48, 49, 50, 51, 52, 53, 54, 55, 56, 57, 97, 98, 99, 100, 101, 102]⟩
theorem digs_at (x : Nat) (hx : x < 16) : ∃ h : x < digs.size, (digs[x].toNat : Int) = hexD x := by
  have : ∀ x : Fin 16, ∃ h : x.1 < digs.size, (digs[x.1].toNat : Int) = hexD x.1 := by decide
  exact this ⟨x, hx⟩
theorem idx_dig (x : Nat) (hx : x < 16) (w : World) : (Instr.index 9 (.string ⟨#[48, 49, 50, 51, 52, 53, 54, 55, 56, 57, 97, 98, 99, 100, 101, 102]⟩) (.int .u8 (x : Int))).run Tryd.prog w = .ok (.int .u8 (hexD x)) w := by
  rcases x with _|_|_|_|_|_|_|_|_|_|_|_|_|_|_|_|x
  all_goals first | (exfalso; omega) | kernel_rfl
theorem and15 (n : Nat) (h : n < 256) : bits .and .u8 (n : Int) 15 = (n : Int) % 16 := by
  have : ∀ x : Fin 256, bits .and .u8 (x.1 : Int) 15 = (x.1 : Int) % 16 := by decide +kernel
  exact this ⟨n, h⟩
theorem take_snoc (s : ByteArray) (k : Nat) (h : k < s.size) : s.data.toList.take (k + 1) = s.data.toList.take k ++ [s[k]] := by
  rw [List.take_succ_eq_append_getElem (by simpa using h)]; rfl
set_option maxHeartbeats 400000 in
theorem text_ok (s : ByteArray) (hs : s.size = 12) (la da : Option Addr) (lc dc : Nat) (w : World) :
    Calls Tryd.prog 15 #[.agg #[.int .i64 8, .int .i64 0, .string s, .slice la 0 lc, .slice da 0 dc]] w fun e w' => e = .returned (.tuple #[.string (strOfNums (hexL s.data.toList)), .int .i64 0]) ∧ Ext w w' := by
  have hmk : ∀ w, (Instr.makeSlice 58 (.int .i64 0) (.int .i64 24)).run Tryd.prog w = .ok (.slice (some ⟨w.heap.size, 0, none⟩) 0 24) (w.alloc (.cells #[.int .u8 0, .int .u8 0, .int .u8 0, .int .u8 0, .int .u8 0, .int .u8 0, .int .u8 0, .int .u8 0, .int .u8 0, .int .u8 0, .int .u8 0, .int .u8 0, .int .u8 0, .int .u8 0, .int .u8 0, .int .u8 0, .int .u8 0, .int .u8 0, .int .u8 0, .int .u8 0, .int .u8 0, .int .u8 0, .int .u8 0, .int .u8 0] 5)) := fun _ => by kernel_rfl
  have hid : idOk 0 s 0 0 = true := by simp [idOk, hs]
  have HS := Lib.hid hs
  clear hs
  obtain ⟨i0, hi, hz0, hz1, hz2⟩ := info_parts u8info
  go_enter Tryd.func15, Tryd.ntmps15
  go_wp2_with fail
  refine (isID_id _ _ _ _ _ _ _ _ _).mono ?_
  rintro e w1 ⟨rfl, h1⟩
  rw [hid]
  clear hid
  have k1 := h1.ownc
  have hz := h1.lt
  go_wp2_with fail
  go_loopw [4, 10] (fun b i wr => ∃ k : Nat, k ≤ 12 ∧ i = .int .i64 k ∧ wr.ownsRow w1.heap.size 5 1 b (2 * k) ((hexL (s.data.toList.take k)).map (Value.int .u8)) ∧ Ext w1 wr) (fun _ i _ => 12 - (intOf i).toNat)
  case atStart => exact ⟨0, by omega, rfl, World.ownsRow_made _ _ _ (Nat.le_refl _) (by unfold maxLen; omega) rfl, (Ext.refl w1).alloc _⟩
  case round =>
    obtain ⟨k, hk, rfl, hown, hE⟩ := hrel
    by_cases hlt : k < 12
    · go_wp2_with fail
      have hks : k < s.size := by rw [HS.out]; exact hlt
      obtain ⟨n, hn⟩ : ∃ n, s[k].toNat = n := ⟨_, rfl⟩
      have hn16 : n < 256 := by rw [← hn]; exact s[k].toNat_lt
      have hd1 : ∀ W, (Instr.index 9 (.string ⟨#[48, 49, 50, 51, 52, 53, 54, 55, 56, 57, 97, 98, 99, 100, 101, 102]⟩) (.int .u8 ((n : Int) / 16))).run Tryd.prog W = .ok (.int .u8 (hexD (n / 16))) W := fun W => idx_dig (n / 16) (by omega) W
      have hd2 : ∀ W, (Instr.index 9 (.string ⟨#[48, 49, 50, 51, 52, 53, 54, 55, 56, 57, 97, 98, 99, 100, 101, 102]⟩) (.int .u8 ((n : Int) % 16))).run Tryd.prog W = .ok (.int .u8 (hexD (n % 16))) W := fun W => idx_dig (n % 16) (by omega) W
      refine wp_region_mix (Ext w1) [(true, 0), (true, 1), (true, 2), (true, 3), (true, 4), (true, 5), (true, 6), (true, 7), (true, 8), (true, 9), (true, 10), (true, 11), (true, 12), (false, 13), (false, 14), (true, 15)] (by kernel_rfl) (by kernel_rfl) (by kernel_rfl) (by kernel_rfl) ?hS ?_
      case hS => exact hE.drew
      have ha := and15 n hn16
      repeat (first | (refine wpMix_q (v := ?_) rfl rfl ?_ ?_; rotate_left; (· intro wq hSq; have cq := hSq.cells; go_simp; try (with_reducible rfl)); simp only [Act.put, List.setIfInBounds_toArray, List.set_cons_zero, List.set_cons_succ, List.getElem_toArray, List.getElem_cons_zero, List.getElem_cons_succ]) | (refine wpMix_u rfl rfl ?_; simp only [Act.put, List.setIfInBounds_toArray, List.set_cons_zero, List.set_cons_succ, List.getElem_toArray, List.getElem_cons_zero, List.getElem_cons_succ]))
      clear hd1 hd2 ha
      refine wpMix_l rfl rfl (fun K hK => ?_)
      go_simp
      refine hK _ _ (hE.drew.alloc _) ?_
      clear hK K
      (try simp only [Act.put, List.setIfInBounds_toArray, List.set_cons_zero, List.set_cons_succ, List.getElem_toArray, List.getElem_cons_zero, List.getElem_cons_succ])
      refine wpMix_l rfl rfl (fun K hK => ?_)
      have hlen : (hexL (s.data.toList.take k)).length = 2 * k := by rw [hexL_len, List.length_take_of_le (by simp; omega)]
      refine wp_append_own _ _ _ 58 rfl w1.heap.size 5 i0 _ 1 1 Tryd.underlying58 hi hz0 hz1 hz2 rfl (by decide) _ _ _ rfl (hown.drew.alloc _) ⟨wr.heap.size, 0, none⟩ 2 2 [.int .u8 (hexD (n / 16)), .int .u8 (hexD (n % 16))] rfl rfl ?c1 ?c2 ?c3 ?c4 ?c5 ?_
      case c1 => exact cells_new wr.drew [.int .u8 (hexD (n / 16)), .int .u8 (hexD (n % 16))] 5
      case c2 => simp [Value.oneCell']
      case c3 => unfold maxLen; omega
      case c4 => omega
      case c5 => exact (hE.drew.alloc _).size
      intro v' w2 hown2 hgrow _
      refine hK _ _ ?_ ?_
      · exact (hE.drew.alloc _).grownOwn (hown.drew.alloc _) (Nat.le_refl _) hgrow
      clear hK K
      (try simp only [Act.put, List.setIfInBounds_toArray, List.set_cons_zero, List.set_cons_succ, List.getElem_toArray, List.getElem_cons_zero, List.getElem_cons_succ])
      repeat (first | (refine wpMix_q (v := ?_) rfl rfl ?_ ?_; rotate_left; (· intro wq hSq; have cq := hSq.cells; go_simp; try (with_reducible rfl)); simp only [Act.put, List.setIfInBounds_toArray, List.set_cons_zero, List.set_cons_succ, List.getElem_toArray, List.getElem_cons_zero, List.getElem_cons_succ]) | (refine wpMix_u rfl rfl ?_; simp only [Act.put, List.setIfInBounds_toArray, List.set_cons_zero, List.set_cons_succ, List.getElem_toArray, List.getElem_cons_zero, List.getElem_cons_succ]))
      refine wpMix_nil ?_
      have hE2 : Ext w1 w2 := (hE.drew.alloc _).grownOwn (hown.drew.alloc _) (Nat.le_refl _) hgrow
      have hown3 : w2.ownsRow w1.heap.size 5 1 v' (2 * (k + 1)) ((hexL (s.data.toList.take (k + 1))).map (Value.int .u8)) := by
        rw [take_snoc s k hks, hexL_snoc, hn, show 2 * (k + 1) = 2 * k + 2 by omega]; simpa using hown2
      have H3 := Lib.hid hown3
      clear hown3 hown2 hown hgrow hn hlen hi hz0 hz1 hz2
      go_wp2
      exact ⟨⟨k + 1, by omega, by go_num, H3.out, hE2⟩, by simp [intOf]; omega⟩
    · have hk12 : k = 12 := by omega
      subst hk12
      have hall : s.data.toList.take 12 = s.data.toList := List.take_of_length_le (by simp; rw [HS.out]; omega)
      rw [hall] at hown
      have hcv := run_convert_own (P := Tryd.prog) 58 5 9 Tryd.underlying58 Tryd.underlying5 Tryd.underlying9 hown
      clear hall
      go_wp2
      go_ret2
      exact ⟨rfl, h1.of_alloc.trans hE⟩
end Go.Proofs.YtmgdgbnbikgmkaaDoor
