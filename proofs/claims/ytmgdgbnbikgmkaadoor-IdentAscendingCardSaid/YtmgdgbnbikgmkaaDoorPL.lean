/- Plain facts: an identifier's bytes, split and parsed back. -/
import Derived.Test.YtmgdgbnbikgmkaaDoorA1
namespace Go.Proofs.YtmgdgbnbikgmkaaDoor
open Go.RowKit
theorem byte_ofNat (x : Int) (h0 : 0 ≤ x) (h1 : x < 256) : (((UInt8.ofNat x.toNat).toNat : Nat) : Int) = x := by
  rw [UInt8.toNat_ofNat']
  omega
theorem num_b4 (a : Int) (h : inR a = true) : num ((b4 a).map fun n => UInt8.ofNat n.toNat) = a := by
  obtain ⟨h0, h1⟩ := inR_true h
  simp only [b4, List.map_cons, List.map_nil, num, List.foldl]
  rw [byte_ofNat _ (by omega) (by omega), byte_ofNat _ (by omega) (by omega), byte_ofNat _ (by omega) (by omega), byte_ofNat _ (by omega) (by omega)]
  omega
theorem idStr_list (a b c : Int) : (idStr a b c).data.toList = ((b4 a).map fun n => UInt8.ofNat n.toNat) ++ ((b4 b).map fun n => UInt8.ofNat n.toNat) ++ ((b4 c).map fun n => UInt8.ofNat n.toNat) := by
  simp [idStr, strOfNums]
theorem b4_len (a : Int) : ((b4 a).map fun n => UInt8.ofNat n.toNat).length = 4 := by simp [b4]
theorem part_id0 (a b c : Int) (h : inR a = true) : part (idStr a b c) 0 12 = a := by
  rw [← part0 _ (idStr_size a b c), idStr_list]
  have := num_b4 a h
  simp [b4] at this ⊢
  exact this
theorem part_id1 (a b c : Int) (h : inR b = true) : part (idStr a b c) 1 12 = b := by
  rw [← part1 _ (idStr_size a b c), idStr_list]
  have := num_b4 b h
  simp [b4] at this ⊢
  exact this
theorem part_id2 (a b c : Int) (h : inR c = true) : part (idStr a b c) 2 12 = c := by
  rw [← part2 _ (idStr_size a b c), idStr_size, idStr_list]
  have := num_b4 c h
  simp [b4] at this ⊢
  exact this
theorem hexV_hexD (x : Nat) (hx : x < 16) : hexV (UInt8.ofNat (hexD x).toNat).toNat = some x := by
  have : ∀ x : Fin 16, hexV (UInt8.ofNat (hexD x.1).toNat).toNat = some x.1 := by decide
  exact this ⟨x, hx⟩
theorem twelve {l : List UInt8} (h : l.length = 12) : ∃ a b c d e f g h i j k m, l = [a, b, c, d, e, f, g, h, i, j, k, m] := by
  match l, h with
  | [a, b, c, d, e, f, g, h, i, j, k, m], _ => exact ⟨a, b, c, d, e, f, g, h, i, j, k, m, rfl⟩
theorem byte_back (c : UInt8) : UInt8.ofNat (((c.toNat / 16 : Nat) : Int) * 16 + ((c.toNat % 16 : Nat) : Int)).toNat = c := by
  have : (((c.toNat / 16 : Nat) : Int) * 16 + ((c.toNat % 16 : Nat) : Int)).toNat = c.toNat := by omega
  rw [this]; exact UInt8.ofNat_toNat
theorem hex_size (s : ByteArray) (hs : s.size = 12) : (strOfNums (hexL s.data.toList)).size = 24 := by
  rw [strOfNums_size, hexL_len]; simp; omega
theorem allHex_hex (l : List UInt8) : allHex (strOfNums (hexL l)) = true := by
  unfold allHex
  rw [strOfNums_data, List.all_eq_true]
  intro c hc
  rw [List.mem_map] at hc
  obtain ⟨n, hn, rfl⟩ := hc
  simp only [hexL, List.mem_flatMap] at hn
  obtain ⟨d, _, hd⟩ := hn
  have := d.toNat_lt
  rcases List.mem_cons.1 hd with rfl | hd
  · rw [hexV_hexD _ (by omega)]; rfl
  · obtain rfl := by simpa using hd
    rw [hexV_hexD _ (by omega)]; rfl
theorem hv_hex (l : List UInt8) (i x : Nat) (hx : x < 16) (h : (hexL l)[i]? = some (hexD x)) : hv (strOfNums (hexL l)) i = x := by
  unfold hv
  rw [strOfNums_data, List.getElem?_map, h]
  simp only [Option.map_some, Option.bind_some]
  rw [hexV_hexD x hx]; rfl
theorem parse_back (s : ByteArray) (hs : s.size = 12) : parseRes (strOfNums (hexL s.data.toList)) = .tuple #[idVal s, .int .i64 0] := by
  unfold parseRes
  rw [if_pos (allHex_hex _)]
  have : parsed (strOfNums (hexL s.data.toList)) = s := by
    apply ByteArray.ext
    obtain ⟨a, b, c, d, e, f, g, h, i, j, k, m, hl⟩ := twelve (l := s.data.toList) (by simpa using hs)
    apply Array.ext'
    rw [hl]
    unfold parsed
    rw [strOfNums_data]
    have ev : ∀ q : Nat, q < 12 → ∀ z : UInt8, [a, b, c, d, e, f, g, h, i, j, k, m][q]? = some z → pb (strOfNums (hexL [a, b, c, d, e, f, g, h, i, j, k, m])) 24 q = ((z.toNat / 16 : Nat) : Int) * 16 + ((z.toNat % 16 : Nat) : Int) := by
      intro q hq z hz
      have hb := z.toNat_lt
      unfold pb
      rw [if_pos (by omega), hv_hex _ (2 * q) (z.toNat / 16) (by omega) ?_, hv_hex _ (2 * q + 1) (z.toNat % 16) (by omega) ?_]
      · rcases q with _|_|_|_|_|_|_|_|_|_|_|_|q
        all_goals first | (exfalso; omega) | (simp at hz; subst hz; rfl)
      · rcases q with _|_|_|_|_|_|_|_|_|_|_|_|q
        all_goals first | (exfalso; omega) | (simp at hz; subst hz; rfl)
    simp only [List.range, List.range.loop, List.map_cons, List.map_nil]
    rw [ev 0 (by omega) a rfl, ev 1 (by omega) b rfl, ev 2 (by omega) c rfl, ev 3 (by omega) d rfl, ev 4 (by omega) e rfl, ev 5 (by omega) f rfl, ev 6 (by omega) g rfl, ev 7 (by omega) h rfl, ev 8 (by omega) i rfl, ev 9 (by omega) j rfl, ev 10 (by omega) k rfl, ev 11 (by omega) m rfl]
    simp only [byte_back]
  rw [this]
end Go.Proofs.YtmgdgbnbikgmkaaDoor
