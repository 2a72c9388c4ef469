/- (*codec.reader).value, kind by kind (printed by genval.py). -/
import Derived.Test.YtdoofmohoamkbaaDoorRdr2
import Derived.Test.YtdoofmohoamkbaaDoorNodes2
import Derived.Test.YtdoofmohoamkbaaDoorAcc
set_option linter.unusedSimpArgs false
set_option linter.unusedVariables false
namespace Go.Proofs.YtdoofmohoamkbaaDoor
open Go.RowKit
def VPost (rb : Nat) (s : ByteArray) (w : World) (x : Except Int (Tr × Nat × Nat)) (e : Ending) (w' : World) : Prop :=
  match x with
  | .ok (t, q, bg) => ∃ v, e = .returned v ∧ VNew w.heap.size w'.heap.size w' t v ∧ w'.heap[rb]? = some (RdCells s q bg) ∧ w.grownBy w' (some rb)
  | .error c => e = .panicked (flt c) ∧ w.grownBy w' (some rb)
def ValOk (s : ByteArray) (W0 : World) (d : Nat) : Prop := ∀ (rb p bg : Nat) (lv : Int) (w : World), lv = 17 - d → p ≤ s.size → bg ≤ 1024 → Ext W0 w → W0.heap.size ≤ rb → w.heap[rb]? = some (RdCells s p bg) →
  Calls Tryd.prog 28 #[.pointer (some ⟨rb, 0, none⟩), .int .i64 lv] w (VPost rb s w (rdT s d p bg))
theorem take_okx (s : ByteArray) (rb p bg n : Nat) (x : Int) (hx : x = n) (w : World) (hs : s.size ≤ 1000000000000000) (hp : p ≤ s.size) (hn : (n : Int) < 9223372036854775808) (h : w.heap[rb]? = some (RdCells s p bg)) :
    Calls Tryd.prog 40 #[.pointer (some ⟨rb, 0, none⟩), .int .i64 x] w (RPost rb s bg w (takeR s p n)) := by subst hx; exact take_ok s rb p bg n w hs hp hn h
def leafI (k bg : Nat) : Except Int (Int × Nat) → Except Int (Tr × Nat × Nat)
  | .error e => .error e
  | .ok (n, q) => .ok (leafT k n ⟨#[]⟩, q, bg + 1)
def leafS (k bg : Nat) : Except Int (ByteArray × Nat) → Except Int (Tr × Nat × Nat)
  | .error e => .error e
  | .ok (t, q) => .ok (leafT k 0 t, q, bg + 1)
def leafU (bg : Nat) : Except Int (ByteArray × Nat) → Except Int (Tr × Nat × Nat)
  | .error e => .error e
  | .ok (t, q) => if utf8B t then .ok (leafT 4 0 t, q, bg + 1) else .error 4
theorem countR_in {s : ByteArray} {p : Nat} {n : Int} {q : Nat} (h : countR s p = .ok (n, q)) : I64 n := by
  unfold countR countF at h
  cases hn : numR s p with
  | error e => rw [hn] at h; cases h
  | ok nq =>
    obtain ⟨m, r⟩ := nq
    rw [hn] at h
    simp only at h
    split at h
    · injection h with h; injection h with h1 h2
      rw [← h1]; exact numR_in hn
    · cases h
theorem ext_of_only {a b c : World} {g : Nat} (h : Ext a b) (k : b.grownBy c (some g)) (hg : a.heap.size ≤ g) : Ext a c := h.of_only k hg
theorem byte_ext (s : ByteArray) (p : Nat) (h : p < s.size) : ∃ t1 : ByteArray, s.extract p (p + 1) = t1 ∧ t1.size ≤ 1 ∧ ∃ (h0 : 0 < t1.size), (t1[0]'h0).toNat = byteN s p := by
  have h0 : 0 < (s.extract p (p + 1)).size := by simp; omega
  refine ⟨_, rfl, by simp; omega, h0, ?_⟩
  have e1 := byte_at (s.extract p (p + 1)) 0 h0
  have e2 := byte_at s p h
  have e3 : (s.extract p (p + 1)).data.toList[0]? = s.data.toList[p]? := by
    rw [ByteArray.data_extract]; simp
  rw [e1, e2] at e3
  injection e3 with e3
  unfold byteN
  rw [List.getD_eq_getElem?_getD, e2, e3]; rfl
set_option maxRecDepth 20000 in
set_option maxHeartbeats 1000000 in
theorem val_zero (s : ByteArray) (rb p bg : Nat) (w : World) (hs : s.size ≤ 1000000000000000) (h : w.heap[rb]? = some (RdCells s p bg)) :
    Calls Tryd.prog 28 #[.pointer (some ⟨rb, 0, none⟩), .int .i64 17] w (VPost rb s w (.error 2)) := by
  have ck := blk_cell h
  have hrb := blk_lt h
  go_enter Tryd.func28, Tryd.ntmps28
  go_wp2_with fail
  refine (need_no _ _).mono ?_
  rintro e w1 ⟨rfl, rfl⟩
  exact ⟨rfl, rfl, only_alloc (World.grownBy.refl _ _) _⟩
set_option maxRecDepth 20000 in
set_option maxHeartbeats 1000000 in
theorem val_many (s : ByteArray) (W0 : World) (d rb p bg : Nat) (lv : Int) (w : World) (hs : s.size ≤ 1000000000000000) (hlv : lv = 16 - d) (hd : d ≤ 16) (hp : p ≤ s.size) (hbg : bg ≤ 1024) (hE : Ext W0 w) (hrb0 : W0.heap.size ≤ rb) (hT : Tabs W0) (h : w.heap[rb]? = some (RdCells s p bg)) (hb : 1024 ≤ bg) :
    Calls Tryd.prog 28 #[.pointer (some ⟨rb, 0, none⟩), .int .i64 lv] w (VPost rb s w (.error 2)) := by
  have ck := blk_cell h
  have hrb := blk_lt h
  have d0 : decide (lv ≤ 16) = true := by simp; omega
  have d1 : decide ((bg : Int) < 1024) = false := by simp; omega
  clear hT
  go_enter Tryd.func28, Tryd.ntmps28
  go_wp2_with fail
  refine (need_no _ _).mono ?_
  rintro e w1 ⟨rfl, rfl⟩
  exact ⟨rfl, rfl, only_alloc (World.grownBy.refl _ _) _⟩
set_option maxRecDepth 20000 in
set_option maxHeartbeats 1000000 in
theorem val_short (s : ByteArray) (W0 : World) (d rb p bg : Nat) (lv : Int) (w : World) (hs : s.size ≤ 1000000000000000) (hlv : lv = 16 - d) (hd : d ≤ 16) (hp : p ≤ s.size) (hbg : bg ≤ 1024) (hE : Ext W0 w) (hrb0 : W0.heap.size ≤ rb) (hT : Tabs W0) (h : w.heap[rb]? = some (RdCells s p bg)) (hb : bg < 1024) (hps : p = s.size) :
    Calls Tryd.prog 28 #[.pointer (some ⟨rb, 0, none⟩), .int .i64 lv] w (VPost rb s w (.error 5)) := by
  have ck := blk_cell h
  have cf := blk_free h
  have hrb := blk_lt h
  have HT := Lib.hid hT
  have H := Lib.hid h
  have hne : rb ≠ w.heap.size := by omega
  have d0 : decide (lv ≤ 16) = true := by simp; omega
  have d1 : decide ((bg : Int) < 1024) = true := by simp; omega
  have HLV := Lib.hid hlv
  have hlv1 : 0 ≤ lv ∧ lv ≤ 16 := by omega
  clear hlv
  clear hT h
  go_enter Tryd.func28, Tryd.ntmps28
  go_wp2_with fail
  refine (need_ok _ _).mono ?_
  rintro e w1 ⟨rfl, rfl⟩
  have HB2 := Lib.hid (blk_alloc (rd_set2 H.out ((bg : Int) + 1) (bg' := bg + 1) (by omega)) (.cells #[.int .i64 0, .int .i64 0, .string ⟨#[]⟩, .slice none 0 0, .slice none 0 0] 32))
  have HG2 : Hid (w.grownBy ((w.setCell ⟨rb, 2, none⟩ (.int .i64 ((bg : Int) + 1))).alloc (.cells #[.int .i64 0, .int .i64 0, .string ⟨#[]⟩, .slice none 0 0, .slice none 0 0] 32)) (some rb)) := only_alloc (only_setCell (World.grownBy.refl _ _) (.inl rfl) _) _
  have HA2 : Hid (((w.setCell ⟨rb, 2, none⟩ (.int .i64 ((bg : Int) + 1))).alloc (.cells #[.int .i64 0, .int .i64 0, .string ⟨#[]⟩, .slice none 0 0, .slice none 0 0] 32)).heap[w.heap.size]? = some (.cells #[.int .i64 0, .int .i64 0, .string ⟨#[]⟩, .slice none 0 0, .slice none 0 0] 32 (0, 0))) := by
    have := blk_at0 (w.setCell ⟨rb, 2, none⟩ (.int .i64 ((bg : Int) + 1))) (.cells #[.int .i64 0, .int .i64 0, .string ⟨#[]⟩, .slice none 0 0, .slice none 0 0] 32)
    rw [size_setCell] at this; exact this
  go_wp2_with fail
  clear ck
  refine (take_okx s rb p (bg + 1) 1 1 rfl _ hs hp (by omega) HB2.out).mono ?_
  rw [show takeR s p 1 = .error 5 by unfold takeR; rw [if_neg (by omega)]]
  rintro e w3 ⟨rfl, g3⟩
  exact ⟨rfl, rfl, only_trans HG2.out g3⟩
set_option maxRecDepth 20000 in
set_option maxHeartbeats 2000000 in
theorem val_k1 (s : ByteArray) (W0 : World) (d rb p bg : Nat) (lv : Int) (w : World) (hs : s.size ≤ 1000000000000000) (hlv : lv = 16 - d) (hd : d ≤ 16) (hp : p ≤ s.size) (hbg : bg ≤ 1024) (hE : Ext W0 w) (hrb0 : W0.heap.size ≤ rb) (hT : Tabs W0) (h : w.heap[rb]? = some (RdCells s p bg)) (hb : bg < 1024) (hlt : p < s.size) (hk : byteN s p = 1) :
    Calls Tryd.prog 28 #[.pointer (some ⟨rb, 0, none⟩), .int .i64 lv] w (VPost rb s w (.ok (leafT 1 0 ⟨#[]⟩, p + 1, bg + 1))) := by
  have ck := blk_cell h
  have cf := blk_free h
  have hrb := blk_lt h
  have HT := Lib.hid hT
  have H := Lib.hid h
  have hne : rb ≠ w.heap.size := by omega
  have d0 : decide (lv ≤ 16) = true := by simp; omega
  have d1 : decide ((bg : Int) < 1024) = true := by simp; omega
  have HLV := Lib.hid hlv
  have hlv1 : 0 ≤ lv ∧ lv ≤ 16 := by omega
  clear hlv
  clear hT h
  go_enter Tryd.func28, Tryd.ntmps28
  go_wp2_with fail
  refine (need_ok _ _).mono ?_
  rintro e w1 ⟨rfl, rfl⟩
  have HB2 := Lib.hid (blk_alloc (rd_set2 H.out ((bg : Int) + 1) (bg' := bg + 1) (by omega)) (.cells #[.int .i64 0, .int .i64 0, .string ⟨#[]⟩, .slice none 0 0, .slice none 0 0] 32))
  have HG2 : Hid (w.grownBy ((w.setCell ⟨rb, 2, none⟩ (.int .i64 ((bg : Int) + 1))).alloc (.cells #[.int .i64 0, .int .i64 0, .string ⟨#[]⟩, .slice none 0 0, .slice none 0 0] 32)) (some rb)) := only_alloc (only_setCell (World.grownBy.refl _ _) (.inl rfl) _) _
  have HA2 : Hid (((w.setCell ⟨rb, 2, none⟩ (.int .i64 ((bg : Int) + 1))).alloc (.cells #[.int .i64 0, .int .i64 0, .string ⟨#[]⟩, .slice none 0 0, .slice none 0 0] 32)).heap[w.heap.size]? = some (.cells #[.int .i64 0, .int .i64 0, .string ⟨#[]⟩, .slice none 0 0, .slice none 0 0] 32 (0, 0))) := by
    have := blk_at0 (w.setCell ⟨rb, 2, none⟩ (.int .i64 ((bg : Int) + 1))) (.cells #[.int .i64 0, .int .i64 0, .string ⟨#[]⟩, .slice none 0 0, .slice none 0 0] 32)
    rw [size_setCell] at this; exact this
  go_wp2_with fail
  clear ck
  refine (take_okx s rb p (bg + 1) 1 1 rfl _ hs hp (by omega) HB2.out).mono ?_
  rw [show takeR s p 1 = .ok (.string (s.extract p (p + 1)), p + 1) by unfold takeR; rw [if_pos (by omega)]]
  rintro e w3 ⟨rfl, hb3, g3⟩
  obtain ⟨t1, ht1, hz1, hz0, hzb⟩ := byte_ext s p hlt
  rw [ht1]
  rw [hk] at hzb
  clear ht1
  have HB3 := Lib.hid hb3
  have HG3 := Lib.hid (only_trans HG2.out g3)
  have HA3 := Lib.hid (blk_only HA2.out g3 hne.symm)
  have s3 : w.heap.size < w3.heap.size := by have := g3.size; simp [World.setCell] at this; omega
  have r3 : rb < w3.heap.size := by omega
  clear hb3 g3 HB2 HG2 HA2 H cf
  have ca := blk_cell HA3.out
  have fa := blk_free HA3.out
  go_wp2_with fail
  refine bodyPost_ret (v := .agg #[.int .i64 1, .int .i64 0, .string ⟨#[]⟩, .slice none 0 0, .slice none 0 0]) (by simp only [results, Tryd.results28]; go_simp) rfl ⟨_, rfl, VNew.leaf _ _ _ _ _ _ (by unfold I64; omega) (by unfold I64; omega) (by unfold maxLen; decide), ?_, ?_⟩
  · exact (by repeat (first | with_reducible exact HB3.out | with_reducible refine blk_alloc ?_ _ | ((with_reducible refine blk_far ?_ ?_ _); rotate_left; (· first | (simp; omega) | omega))))
  · exact (by repeat (first | with_reducible exact HG3.out | with_reducible refine only_drew ?_ | with_reducible refine only_alloc ?_ _ | ((with_reducible refine only_setCell ?_ (.inr ?_) _); rotate_left; (· first | exact Nat.le_refl _ | omega | (simp; done) | (simp; omega)))))
set_option maxRecDepth 20000 in
set_option maxHeartbeats 2000000 in
theorem val_k2 (s : ByteArray) (W0 : World) (d rb p bg : Nat) (lv : Int) (w : World) (hs : s.size ≤ 1000000000000000) (hlv : lv = 16 - d) (hd : d ≤ 16) (hp : p ≤ s.size) (hbg : bg ≤ 1024) (hE : Ext W0 w) (hrb0 : W0.heap.size ≤ rb) (hT : Tabs W0) (h : w.heap[rb]? = some (RdCells s p bg)) (hb : bg < 1024) (hlt : p < s.size) (hk : byteN s p = 2) :
    Calls Tryd.prog 28 #[.pointer (some ⟨rb, 0, none⟩), .int .i64 lv] w (VPost rb s w (.ok (leafT 2 0 ⟨#[]⟩, p + 1, bg + 1))) := by
  have ck := blk_cell h
  have cf := blk_free h
  have hrb := blk_lt h
  have HT := Lib.hid hT
  have H := Lib.hid h
  have hne : rb ≠ w.heap.size := by omega
  have d0 : decide (lv ≤ 16) = true := by simp; omega
  have d1 : decide ((bg : Int) < 1024) = true := by simp; omega
  have HLV := Lib.hid hlv
  have hlv1 : 0 ≤ lv ∧ lv ≤ 16 := by omega
  clear hlv
  clear hT h
  go_enter Tryd.func28, Tryd.ntmps28
  go_wp2_with fail
  refine (need_ok _ _).mono ?_
  rintro e w1 ⟨rfl, rfl⟩
  have HB2 := Lib.hid (blk_alloc (rd_set2 H.out ((bg : Int) + 1) (bg' := bg + 1) (by omega)) (.cells #[.int .i64 0, .int .i64 0, .string ⟨#[]⟩, .slice none 0 0, .slice none 0 0] 32))
  have HG2 : Hid (w.grownBy ((w.setCell ⟨rb, 2, none⟩ (.int .i64 ((bg : Int) + 1))).alloc (.cells #[.int .i64 0, .int .i64 0, .string ⟨#[]⟩, .slice none 0 0, .slice none 0 0] 32)) (some rb)) := only_alloc (only_setCell (World.grownBy.refl _ _) (.inl rfl) _) _
  have HA2 : Hid (((w.setCell ⟨rb, 2, none⟩ (.int .i64 ((bg : Int) + 1))).alloc (.cells #[.int .i64 0, .int .i64 0, .string ⟨#[]⟩, .slice none 0 0, .slice none 0 0] 32)).heap[w.heap.size]? = some (.cells #[.int .i64 0, .int .i64 0, .string ⟨#[]⟩, .slice none 0 0, .slice none 0 0] 32 (0, 0))) := by
    have := blk_at0 (w.setCell ⟨rb, 2, none⟩ (.int .i64 ((bg : Int) + 1))) (.cells #[.int .i64 0, .int .i64 0, .string ⟨#[]⟩, .slice none 0 0, .slice none 0 0] 32)
    rw [size_setCell] at this; exact this
  go_wp2_with fail
  clear ck
  refine (take_okx s rb p (bg + 1) 1 1 rfl _ hs hp (by omega) HB2.out).mono ?_
  rw [show takeR s p 1 = .ok (.string (s.extract p (p + 1)), p + 1) by unfold takeR; rw [if_pos (by omega)]]
  rintro e w3 ⟨rfl, hb3, g3⟩
  obtain ⟨t1, ht1, hz1, hz0, hzb⟩ := byte_ext s p hlt
  rw [ht1]
  rw [hk] at hzb
  clear ht1
  have HB3 := Lib.hid hb3
  have HG3 := Lib.hid (only_trans HG2.out g3)
  have HA3 := Lib.hid (blk_only HA2.out g3 hne.symm)
  have s3 : w.heap.size < w3.heap.size := by have := g3.size; simp [World.setCell] at this; omega
  have r3 : rb < w3.heap.size := by omega
  clear hb3 g3 HB2 HG2 HA2 H cf
  have ca := blk_cell HA3.out
  have fa := blk_free HA3.out
  go_wp2_with fail
  refine bodyPost_ret (v := .agg #[.int .i64 2, .int .i64 0, .string ⟨#[]⟩, .slice none 0 0, .slice none 0 0]) (by simp only [results, Tryd.results28]; go_simp) rfl ⟨_, rfl, VNew.leaf _ _ _ _ _ _ (by unfold I64; omega) (by unfold I64; omega) (by unfold maxLen; decide), ?_, ?_⟩
  · exact (by repeat (first | with_reducible exact HB3.out | with_reducible refine blk_alloc ?_ _ | ((with_reducible refine blk_far ?_ ?_ _); rotate_left; (· first | (simp; omega) | omega))))
  · exact (by repeat (first | with_reducible exact HG3.out | with_reducible refine only_drew ?_ | with_reducible refine only_alloc ?_ _ | ((with_reducible refine only_setCell ?_ (.inr ?_) _); rotate_left; (· first | exact Nat.le_refl _ | omega | (simp; done) | (simp; omega)))))
set_option maxRecDepth 20000 in
set_option maxHeartbeats 2000000 in
theorem val_k11 (s : ByteArray) (W0 : World) (d rb p bg : Nat) (lv : Int) (w : World) (hs : s.size ≤ 1000000000000000) (hlv : lv = 16 - d) (hd : d ≤ 16) (hp : p ≤ s.size) (hbg : bg ≤ 1024) (hE : Ext W0 w) (hrb0 : W0.heap.size ≤ rb) (hT : Tabs W0) (h : w.heap[rb]? = some (RdCells s p bg)) (hb : bg < 1024) (hlt : p < s.size) (hk : byteN s p = 11) :
    Calls Tryd.prog 28 #[.pointer (some ⟨rb, 0, none⟩), .int .i64 lv] w (VPost rb s w (.ok (leafT 11 0 ⟨#[]⟩, p + 1, bg + 1))) := by
  have ck := blk_cell h
  have cf := blk_free h
  have hrb := blk_lt h
  have HT := Lib.hid hT
  have H := Lib.hid h
  have hne : rb ≠ w.heap.size := by omega
  have d0 : decide (lv ≤ 16) = true := by simp; omega
  have d1 : decide ((bg : Int) < 1024) = true := by simp; omega
  have HLV := Lib.hid hlv
  have hlv1 : 0 ≤ lv ∧ lv ≤ 16 := by omega
  clear hlv
  clear hT h
  go_enter Tryd.func28, Tryd.ntmps28
  go_wp2_with fail
  refine (need_ok _ _).mono ?_
  rintro e w1 ⟨rfl, rfl⟩
  have HB2 := Lib.hid (blk_alloc (rd_set2 H.out ((bg : Int) + 1) (bg' := bg + 1) (by omega)) (.cells #[.int .i64 0, .int .i64 0, .string ⟨#[]⟩, .slice none 0 0, .slice none 0 0] 32))
  have HG2 : Hid (w.grownBy ((w.setCell ⟨rb, 2, none⟩ (.int .i64 ((bg : Int) + 1))).alloc (.cells #[.int .i64 0, .int .i64 0, .string ⟨#[]⟩, .slice none 0 0, .slice none 0 0] 32)) (some rb)) := only_alloc (only_setCell (World.grownBy.refl _ _) (.inl rfl) _) _
  have HA2 : Hid (((w.setCell ⟨rb, 2, none⟩ (.int .i64 ((bg : Int) + 1))).alloc (.cells #[.int .i64 0, .int .i64 0, .string ⟨#[]⟩, .slice none 0 0, .slice none 0 0] 32)).heap[w.heap.size]? = some (.cells #[.int .i64 0, .int .i64 0, .string ⟨#[]⟩, .slice none 0 0, .slice none 0 0] 32 (0, 0))) := by
    have := blk_at0 (w.setCell ⟨rb, 2, none⟩ (.int .i64 ((bg : Int) + 1))) (.cells #[.int .i64 0, .int .i64 0, .string ⟨#[]⟩, .slice none 0 0, .slice none 0 0] 32)
    rw [size_setCell] at this; exact this
  go_wp2_with fail
  clear ck
  refine (take_okx s rb p (bg + 1) 1 1 rfl _ hs hp (by omega) HB2.out).mono ?_
  rw [show takeR s p 1 = .ok (.string (s.extract p (p + 1)), p + 1) by unfold takeR; rw [if_pos (by omega)]]
  rintro e w3 ⟨rfl, hb3, g3⟩
  obtain ⟨t1, ht1, hz1, hz0, hzb⟩ := byte_ext s p hlt
  rw [ht1]
  rw [hk] at hzb
  clear ht1
  have HB3 := Lib.hid hb3
  have HG3 := Lib.hid (only_trans HG2.out g3)
  have HA3 := Lib.hid (blk_only HA2.out g3 hne.symm)
  have s3 : w.heap.size < w3.heap.size := by have := g3.size; simp [World.setCell] at this; omega
  have r3 : rb < w3.heap.size := by omega
  clear hb3 g3 HB2 HG2 HA2 H cf
  have ca := blk_cell HA3.out
  have fa := blk_free HA3.out
  go_wp2_with fail
  refine bodyPost_ret (v := .agg #[.int .i64 11, .int .i64 0, .string ⟨#[]⟩, .slice none 0 0, .slice none 0 0]) (by simp only [results, Tryd.results28]; go_simp) rfl ⟨_, rfl, VNew.leaf _ _ _ _ _ _ (by unfold I64; omega) (by unfold I64; omega) (by unfold maxLen; decide), ?_, ?_⟩
  · exact (by repeat (first | with_reducible exact HB3.out | with_reducible refine blk_alloc ?_ _ | ((with_reducible refine blk_far ?_ ?_ _); rotate_left; (· first | (simp; omega) | omega))))
  · exact (by repeat (first | with_reducible exact HG3.out | with_reducible refine only_drew ?_ | with_reducible refine only_alloc ?_ _ | ((with_reducible refine only_setCell ?_ (.inr ?_) _); rotate_left; (· first | exact Nat.le_refl _ | omega | (simp; done) | (simp; omega)))))
set_option maxRecDepth 20000 in
set_option maxHeartbeats 2000000 in
theorem val_k3 (s : ByteArray) (W0 : World) (d rb p bg : Nat) (lv : Int) (w : World) (hs : s.size ≤ 1000000000000000) (hlv : lv = 16 - d) (hd : d ≤ 16) (hp : p ≤ s.size) (hbg : bg ≤ 1024) (hE : Ext W0 w) (hrb0 : W0.heap.size ≤ rb) (hT : Tabs W0) (h : w.heap[rb]? = some (RdCells s p bg)) (hb : bg < 1024) (hlt : p < s.size) (hk : byteN s p = 3) :
    Calls Tryd.prog 28 #[.pointer (some ⟨rb, 0, none⟩), .int .i64 lv] w (VPost rb s w (leafI 3 bg (numR s (p + 1)))) := by
  obtain ⟨x, hx⟩ : ∃ x, numR s (p + 1) = x := ⟨_, rfl⟩
  obtain ⟨r, hr⟩ : ∃ r, leafI 3 bg x = r := ⟨_, rfl⟩
  have HQ := Lib.hid (fun n q (he : x = .ok (n, q)) => numR_in (hx.trans he))
  rw [hx, hr]
  have HX := Lib.hid hx
  have HR := Lib.hid hr
  clear hx hr
  have ck := blk_cell h
  have cf := blk_free h
  have hrb := blk_lt h
  have HT := Lib.hid hT
  have H := Lib.hid h
  have hne : rb ≠ w.heap.size := by omega
  have d0 : decide (lv ≤ 16) = true := by simp; omega
  have d1 : decide ((bg : Int) < 1024) = true := by simp; omega
  have HLV := Lib.hid hlv
  have hlv1 : 0 ≤ lv ∧ lv ≤ 16 := by omega
  clear hlv
  clear hT h
  go_enter Tryd.func28, Tryd.ntmps28
  go_wp2_with fail
  refine (need_ok _ _).mono ?_
  rintro e w1 ⟨rfl, rfl⟩
  have HB2 := Lib.hid (blk_alloc (rd_set2 H.out ((bg : Int) + 1) (bg' := bg + 1) (by omega)) (.cells #[.int .i64 0, .int .i64 0, .string ⟨#[]⟩, .slice none 0 0, .slice none 0 0] 32))
  have HG2 : Hid (w.grownBy ((w.setCell ⟨rb, 2, none⟩ (.int .i64 ((bg : Int) + 1))).alloc (.cells #[.int .i64 0, .int .i64 0, .string ⟨#[]⟩, .slice none 0 0, .slice none 0 0] 32)) (some rb)) := only_alloc (only_setCell (World.grownBy.refl _ _) (.inl rfl) _) _
  have HA2 : Hid (((w.setCell ⟨rb, 2, none⟩ (.int .i64 ((bg : Int) + 1))).alloc (.cells #[.int .i64 0, .int .i64 0, .string ⟨#[]⟩, .slice none 0 0, .slice none 0 0] 32)).heap[w.heap.size]? = some (.cells #[.int .i64 0, .int .i64 0, .string ⟨#[]⟩, .slice none 0 0, .slice none 0 0] 32 (0, 0))) := by
    have := blk_at0 (w.setCell ⟨rb, 2, none⟩ (.int .i64 ((bg : Int) + 1))) (.cells #[.int .i64 0, .int .i64 0, .string ⟨#[]⟩, .slice none 0 0, .slice none 0 0] 32)
    rw [size_setCell] at this; exact this
  go_wp2_with fail
  clear ck
  refine (take_okx s rb p (bg + 1) 1 1 rfl _ hs hp (by omega) HB2.out).mono ?_
  rw [show takeR s p 1 = .ok (.string (s.extract p (p + 1)), p + 1) by unfold takeR; rw [if_pos (by omega)]]
  rintro e w3 ⟨rfl, hb3, g3⟩
  obtain ⟨t1, ht1, hz1, hz0, hzb⟩ := byte_ext s p hlt
  rw [ht1]
  rw [hk] at hzb
  clear ht1
  have HB3 := Lib.hid hb3
  have HG3 := Lib.hid (only_trans HG2.out g3)
  have HA3 := Lib.hid (blk_only HA2.out g3 hne.symm)
  have s3 : w.heap.size < w3.heap.size := by have := g3.size; simp [World.setCell] at this; omega
  have r3 : rb < w3.heap.size := by omega
  clear hb3 g3 HB2 HG2 HA2 H cf
  have HVB := Lib.hid (blk_at0 w3 (.cells #[.int .i64 3, .int .i64 0, .string ⟨#[]⟩, .slice none 0 0, .slice none 0 0] 32))
  have HG4 : Hid (w.grownBy (w3.alloc (.cells #[.int .i64 3, .int .i64 0, .string ⟨#[]⟩, .slice none 0 0, .slice none 0 0] 32)) (some rb)) := only_alloc HG3.out _
  go_wp2_with fail
  refine (num_ok s rb (p + 1) (bg + 1) _ hs (by omega) (blk_alloc HB3.out _)).mono ?_
  rw [HX.out]
  cases x with
  | error c =>
    have e := HR.out
    simp only [leafI] at e
    subst e
    rintro e w4 ⟨rfl, g4⟩
    exact ⟨rfl, rfl, only_trans HG4.out g4⟩
  | ok nq =>
    obtain ⟨n, q⟩ := nq
    have hq := HQ.out n q rfl
    rintro e w4 ⟨rfl, hb4, g4⟩
    have HB4 := Lib.hid hb4
    have HG5 := Lib.hid (only_trans HG4.out g4)
    have HA4 := Lib.hid (blk_only (blk_alloc HA3.out (.cells #[.int .i64 3, .int .i64 0, .string ⟨#[]⟩, .slice none 0 0, .slice none 0 0] 32)) g4 hne.symm)
    have HV4 := Lib.hid (blk_only HVB.out g4 (by omega))
    have s4 : w3.heap.size < w4.heap.size := by have := g4.size; simp at this; omega
    have ca := blk_cell HA4.out
    have fa := blk_free HA4.out
    have cv := blk_cell HV4.out
    have fv := blk_free HV4.out
    have hnv : ¬ w.heap.size = w3.heap.size := by omega
    clear hb4 g4 HG4 HVB HB3 HG3 HA3
    have e := HR.out
    simp only [leafI] at e
    subst e
    go_wp2_with fail
    refine bodyPost_ret (v := .agg #[.int .i64 3, .int .i64 n, .string ⟨#[]⟩, .slice none 0 0, .slice none 0 0]) (by simp only [results, Tryd.results28]; go_simp) rfl ⟨_, rfl, VNew.leaf _ _ _ _ _ _ (by unfold I64; omega) hq (by unfold maxLen; decide), ?_, ?_⟩
    · exact (by repeat (first | with_reducible exact HB4.out | with_reducible refine blk_alloc ?_ _ | ((with_reducible refine blk_far ?_ ?_ _); rotate_left; (· first | (simp; omega) | omega))))
    · exact (by repeat (first | with_reducible exact HG5.out | with_reducible refine only_drew ?_ | with_reducible refine only_alloc ?_ _ | ((with_reducible refine only_setCell ?_ (.inr ?_) _); rotate_left; (· first | exact Nat.le_refl _ | omega | (simp; done) | (simp; omega)))))
set_option maxRecDepth 20000 in
set_option maxHeartbeats 2000000 in
theorem val_k10 (s : ByteArray) (W0 : World) (d rb p bg : Nat) (lv : Int) (w : World) (hs : s.size ≤ 1000000000000000) (hlv : lv = 16 - d) (hd : d ≤ 16) (hp : p ≤ s.size) (hbg : bg ≤ 1024) (hE : Ext W0 w) (hrb0 : W0.heap.size ≤ rb) (hT : Tabs W0) (h : w.heap[rb]? = some (RdCells s p bg)) (hb : bg < 1024) (hlt : p < s.size) (hk : byteN s p = 10) :
    Calls Tryd.prog 28 #[.pointer (some ⟨rb, 0, none⟩), .int .i64 lv] w (VPost rb s w (leafI 10 bg (countR s (p + 1)))) := by
  obtain ⟨x, hx⟩ : ∃ x, countR s (p + 1) = x := ⟨_, rfl⟩
  obtain ⟨r, hr⟩ : ∃ r, leafI 10 bg x = r := ⟨_, rfl⟩
  have HQ := Lib.hid (fun n q (he : x = .ok (n, q)) => countR_in (hx.trans he))
  rw [hx, hr]
  have HX := Lib.hid hx
  have HR := Lib.hid hr
  clear hx hr
  have ck := blk_cell h
  have cf := blk_free h
  have hrb := blk_lt h
  have HT := Lib.hid hT
  have H := Lib.hid h
  have hne : rb ≠ w.heap.size := by omega
  have d0 : decide (lv ≤ 16) = true := by simp; omega
  have d1 : decide ((bg : Int) < 1024) = true := by simp; omega
  have HLV := Lib.hid hlv
  have hlv1 : 0 ≤ lv ∧ lv ≤ 16 := by omega
  clear hlv
  clear hT h
  go_enter Tryd.func28, Tryd.ntmps28
  go_wp2_with fail
  refine (need_ok _ _).mono ?_
  rintro e w1 ⟨rfl, rfl⟩
  have HB2 := Lib.hid (blk_alloc (rd_set2 H.out ((bg : Int) + 1) (bg' := bg + 1) (by omega)) (.cells #[.int .i64 0, .int .i64 0, .string ⟨#[]⟩, .slice none 0 0, .slice none 0 0] 32))
  have HG2 : Hid (w.grownBy ((w.setCell ⟨rb, 2, none⟩ (.int .i64 ((bg : Int) + 1))).alloc (.cells #[.int .i64 0, .int .i64 0, .string ⟨#[]⟩, .slice none 0 0, .slice none 0 0] 32)) (some rb)) := only_alloc (only_setCell (World.grownBy.refl _ _) (.inl rfl) _) _
  have HA2 : Hid (((w.setCell ⟨rb, 2, none⟩ (.int .i64 ((bg : Int) + 1))).alloc (.cells #[.int .i64 0, .int .i64 0, .string ⟨#[]⟩, .slice none 0 0, .slice none 0 0] 32)).heap[w.heap.size]? = some (.cells #[.int .i64 0, .int .i64 0, .string ⟨#[]⟩, .slice none 0 0, .slice none 0 0] 32 (0, 0))) := by
    have := blk_at0 (w.setCell ⟨rb, 2, none⟩ (.int .i64 ((bg : Int) + 1))) (.cells #[.int .i64 0, .int .i64 0, .string ⟨#[]⟩, .slice none 0 0, .slice none 0 0] 32)
    rw [size_setCell] at this; exact this
  go_wp2_with fail
  clear ck
  refine (take_okx s rb p (bg + 1) 1 1 rfl _ hs hp (by omega) HB2.out).mono ?_
  rw [show takeR s p 1 = .ok (.string (s.extract p (p + 1)), p + 1) by unfold takeR; rw [if_pos (by omega)]]
  rintro e w3 ⟨rfl, hb3, g3⟩
  obtain ⟨t1, ht1, hz1, hz0, hzb⟩ := byte_ext s p hlt
  rw [ht1]
  rw [hk] at hzb
  clear ht1
  have HB3 := Lib.hid hb3
  have HG3 := Lib.hid (only_trans HG2.out g3)
  have HA3 := Lib.hid (blk_only HA2.out g3 hne.symm)
  have s3 : w.heap.size < w3.heap.size := by have := g3.size; simp [World.setCell] at this; omega
  have r3 : rb < w3.heap.size := by omega
  clear hb3 g3 HB2 HG2 HA2 H cf
  have HVB := Lib.hid (blk_at0 w3 (.cells #[.int .i64 10, .int .i64 0, .string ⟨#[]⟩, .slice none 0 0, .slice none 0 0] 32))
  have HG4 : Hid (w.grownBy (w3.alloc (.cells #[.int .i64 10, .int .i64 0, .string ⟨#[]⟩, .slice none 0 0, .slice none 0 0] 32)) (some rb)) := only_alloc HG3.out _
  go_wp2_with fail
  refine (count_ok' s rb (p + 1) (bg + 1) _ hs (by omega) (blk_alloc HB3.out _)).mono ?_
  rw [HX.out]
  cases x with
  | error c =>
    have e := HR.out
    simp only [leafI] at e
    subst e
    rintro e w4 ⟨rfl, g4⟩
    exact ⟨rfl, rfl, only_trans HG4.out g4⟩
  | ok nq =>
    obtain ⟨n, q⟩ := nq
    have hq := HQ.out n q rfl
    rintro e w4 ⟨rfl, hb4, g4⟩
    have HB4 := Lib.hid hb4
    have HG5 := Lib.hid (only_trans HG4.out g4)
    have HA4 := Lib.hid (blk_only (blk_alloc HA3.out (.cells #[.int .i64 10, .int .i64 0, .string ⟨#[]⟩, .slice none 0 0, .slice none 0 0] 32)) g4 hne.symm)
    have HV4 := Lib.hid (blk_only HVB.out g4 (by omega))
    have s4 : w3.heap.size < w4.heap.size := by have := g4.size; simp at this; omega
    have ca := blk_cell HA4.out
    have fa := blk_free HA4.out
    have cv := blk_cell HV4.out
    have fv := blk_free HV4.out
    have hnv : ¬ w.heap.size = w3.heap.size := by omega
    clear hb4 g4 HG4 HVB HB3 HG3 HA3
    have e := HR.out
    simp only [leafI] at e
    subst e
    go_wp2_with fail
    refine bodyPost_ret (v := .agg #[.int .i64 10, .int .i64 n, .string ⟨#[]⟩, .slice none 0 0, .slice none 0 0]) (by simp only [results, Tryd.results28]; go_simp) rfl ⟨_, rfl, VNew.leaf _ _ _ _ _ _ (by unfold I64; omega) hq (by unfold maxLen; decide), ?_, ?_⟩
    · exact (by repeat (first | with_reducible exact HB4.out | with_reducible refine blk_alloc ?_ _ | ((with_reducible refine blk_far ?_ ?_ _); rotate_left; (· first | (simp; omega) | omega))))
    · exact (by repeat (first | with_reducible exact HG5.out | with_reducible refine only_drew ?_ | with_reducible refine only_alloc ?_ _ | ((with_reducible refine only_setCell ?_ (.inr ?_) _); rotate_left; (· first | exact Nat.le_refl _ | omega | (simp; done) | (simp; omega)))))
set_option maxRecDepth 20000 in
set_option maxHeartbeats 2000000 in
theorem val_k7 (s : ByteArray) (W0 : World) (d rb p bg : Nat) (lv : Int) (w : World) (hs : s.size ≤ 1000000000000000) (hlv : lv = 16 - d) (hd : d ≤ 16) (hp : p ≤ s.size) (hbg : bg ≤ 1024) (hE : Ext W0 w) (hrb0 : W0.heap.size ≤ rb) (hT : Tabs W0) (h : w.heap[rb]? = some (RdCells s p bg)) (hb : bg < 1024) (hlt : p < s.size) (hk : byteN s p = 7) :
    Calls Tryd.prog 28 #[.pointer (some ⟨rb, 0, none⟩), .int .i64 lv] w (VPost rb s w (leafS 7 bg (textS s (p + 1)))) := by
  obtain ⟨x, hx⟩ : ∃ x, textS s (p + 1) = x := ⟨_, rfl⟩
  obtain ⟨r, hr⟩ : ∃ r, leafS 7 bg x = r := ⟨_, rfl⟩
  have HQ := Lib.hid (fun n q (he : x = .ok (n, q)) => textS_le (by omega) (hx.trans he))
  rw [hx, hr]
  have HX := Lib.hid hx
  have HR := Lib.hid hr
  clear hx hr
  have ck := blk_cell h
  have cf := blk_free h
  have hrb := blk_lt h
  have HT := Lib.hid hT
  have H := Lib.hid h
  have hne : rb ≠ w.heap.size := by omega
  have d0 : decide (lv ≤ 16) = true := by simp; omega
  have d1 : decide ((bg : Int) < 1024) = true := by simp; omega
  have HLV := Lib.hid hlv
  have hlv1 : 0 ≤ lv ∧ lv ≤ 16 := by omega
  clear hlv
  clear hT h
  go_enter Tryd.func28, Tryd.ntmps28
  go_wp2_with fail
  refine (need_ok _ _).mono ?_
  rintro e w1 ⟨rfl, rfl⟩
  have HB2 := Lib.hid (blk_alloc (rd_set2 H.out ((bg : Int) + 1) (bg' := bg + 1) (by omega)) (.cells #[.int .i64 0, .int .i64 0, .string ⟨#[]⟩, .slice none 0 0, .slice none 0 0] 32))
  have HG2 : Hid (w.grownBy ((w.setCell ⟨rb, 2, none⟩ (.int .i64 ((bg : Int) + 1))).alloc (.cells #[.int .i64 0, .int .i64 0, .string ⟨#[]⟩, .slice none 0 0, .slice none 0 0] 32)) (some rb)) := only_alloc (only_setCell (World.grownBy.refl _ _) (.inl rfl) _) _
  have HA2 : Hid (((w.setCell ⟨rb, 2, none⟩ (.int .i64 ((bg : Int) + 1))).alloc (.cells #[.int .i64 0, .int .i64 0, .string ⟨#[]⟩, .slice none 0 0, .slice none 0 0] 32)).heap[w.heap.size]? = some (.cells #[.int .i64 0, .int .i64 0, .string ⟨#[]⟩, .slice none 0 0, .slice none 0 0] 32 (0, 0))) := by
    have := blk_at0 (w.setCell ⟨rb, 2, none⟩ (.int .i64 ((bg : Int) + 1))) (.cells #[.int .i64 0, .int .i64 0, .string ⟨#[]⟩, .slice none 0 0, .slice none 0 0] 32)
    rw [size_setCell] at this; exact this
  go_wp2_with fail
  clear ck
  refine (take_okx s rb p (bg + 1) 1 1 rfl _ hs hp (by omega) HB2.out).mono ?_
  rw [show takeR s p 1 = .ok (.string (s.extract p (p + 1)), p + 1) by unfold takeR; rw [if_pos (by omega)]]
  rintro e w3 ⟨rfl, hb3, g3⟩
  obtain ⟨t1, ht1, hz1, hz0, hzb⟩ := byte_ext s p hlt
  rw [ht1]
  rw [hk] at hzb
  clear ht1
  have HB3 := Lib.hid hb3
  have HG3 := Lib.hid (only_trans HG2.out g3)
  have HA3 := Lib.hid (blk_only HA2.out g3 hne.symm)
  have s3 : w.heap.size < w3.heap.size := by have := g3.size; simp [World.setCell] at this; omega
  have r3 : rb < w3.heap.size := by omega
  clear hb3 g3 HB2 HG2 HA2 H cf
  have HVB := Lib.hid (blk_at0 w3 (.cells #[.int .i64 7, .int .i64 0, .string ⟨#[]⟩, .slice none 0 0, .slice none 0 0] 32))
  have HG4 : Hid (w.grownBy (w3.alloc (.cells #[.int .i64 7, .int .i64 0, .string ⟨#[]⟩, .slice none 0 0, .slice none 0 0] 32)) (some rb)) := only_alloc HG3.out _
  go_wp2_with fail
  refine (text_ok' s rb (p + 1) (bg + 1) _ hs (by omega) (blk_alloc HB3.out _)).mono ?_
  rw [HX.out]
  cases x with
  | error c =>
    have e := HR.out
    simp only [leafS] at e
    subst e
    rintro e w4 ⟨rfl, g4⟩
    exact ⟨rfl, rfl, only_trans HG4.out g4⟩
  | ok nq =>
    obtain ⟨n, q⟩ := nq
    have hq := HQ.out n q rfl
    rintro e w4 ⟨rfl, hb4, g4⟩
    have HB4 := Lib.hid hb4
    have HG5 := Lib.hid (only_trans HG4.out g4)
    have HA4 := Lib.hid (blk_only (blk_alloc HA3.out (.cells #[.int .i64 7, .int .i64 0, .string ⟨#[]⟩, .slice none 0 0, .slice none 0 0] 32)) g4 hne.symm)
    have HV4 := Lib.hid (blk_only HVB.out g4 (by omega))
    have s4 : w3.heap.size < w4.heap.size := by have := g4.size; simp at this; omega
    have ca := blk_cell HA4.out
    have fa := blk_free HA4.out
    have cv := blk_cell HV4.out
    have fv := blk_free HV4.out
    have hnv : ¬ w.heap.size = w3.heap.size := by omega
    clear hb4 g4 HG4 HVB HB3 HG3 HA3
    have e := HR.out
    simp only [leafS] at e
    subst e
    go_wp2_with fail
    refine bodyPost_ret (v := .agg #[.int .i64 7, .int .i64 0, .string n, .slice none 0 0, .slice none 0 0]) (by simp only [results, Tryd.results28]; go_simp) rfl ⟨_, rfl, VNew.leaf _ _ _ _ _ _ (by unfold I64; omega) (by unfold I64; omega) (by unfold maxLen; omega), ?_, ?_⟩
    · exact (by repeat (first | with_reducible exact HB4.out | with_reducible refine blk_alloc ?_ _ | ((with_reducible refine blk_far ?_ ?_ _); rotate_left; (· first | (simp; omega) | omega))))
    · exact (by repeat (first | with_reducible exact HG5.out | with_reducible refine only_drew ?_ | with_reducible refine only_alloc ?_ _ | ((with_reducible refine only_setCell ?_ (.inr ?_) _); rotate_left; (· first | exact Nat.le_refl _ | omega | (simp; done) | (simp; omega)))))
set_option maxRecDepth 20000 in
set_option maxHeartbeats 2000000 in
theorem val_k8 (s : ByteArray) (W0 : World) (d rb p bg : Nat) (lv : Int) (w : World) (hs : s.size ≤ 1000000000000000) (hlv : lv = 16 - d) (hd : d ≤ 16) (hp : p ≤ s.size) (hbg : bg ≤ 1024) (hE : Ext W0 w) (hrb0 : W0.heap.size ≤ rb) (hT : Tabs W0) (h : w.heap[rb]? = some (RdCells s p bg)) (hb : bg < 1024) (hlt : p < s.size) (hk : byteN s p = 8) :
    Calls Tryd.prog 28 #[.pointer (some ⟨rb, 0, none⟩), .int .i64 lv] w (VPost rb s w (leafS 8 bg (takeS s (p + 1) 12))) := by
  obtain ⟨x, hx⟩ : ∃ x, takeS s (p + 1) 12 = x := ⟨_, rfl⟩
  obtain ⟨r, hr⟩ : ∃ r, leafS 8 bg x = r := ⟨_, rfl⟩
  have HQ := Lib.hid (fun n q (he : x = .ok (n, q)) => takeS_le (by omega) (hx.trans he))
  rw [hx, hr]
  have HX := Lib.hid hx
  have HR := Lib.hid hr
  clear hx hr
  have ck := blk_cell h
  have cf := blk_free h
  have hrb := blk_lt h
  have HT := Lib.hid hT
  have H := Lib.hid h
  have hne : rb ≠ w.heap.size := by omega
  have d0 : decide (lv ≤ 16) = true := by simp; omega
  have d1 : decide ((bg : Int) < 1024) = true := by simp; omega
  have HLV := Lib.hid hlv
  have hlv1 : 0 ≤ lv ∧ lv ≤ 16 := by omega
  clear hlv
  clear hT h
  go_enter Tryd.func28, Tryd.ntmps28
  go_wp2_with fail
  refine (need_ok _ _).mono ?_
  rintro e w1 ⟨rfl, rfl⟩
  have HB2 := Lib.hid (blk_alloc (rd_set2 H.out ((bg : Int) + 1) (bg' := bg + 1) (by omega)) (.cells #[.int .i64 0, .int .i64 0, .string ⟨#[]⟩, .slice none 0 0, .slice none 0 0] 32))
  have HG2 : Hid (w.grownBy ((w.setCell ⟨rb, 2, none⟩ (.int .i64 ((bg : Int) + 1))).alloc (.cells #[.int .i64 0, .int .i64 0, .string ⟨#[]⟩, .slice none 0 0, .slice none 0 0] 32)) (some rb)) := only_alloc (only_setCell (World.grownBy.refl _ _) (.inl rfl) _) _
  have HA2 : Hid (((w.setCell ⟨rb, 2, none⟩ (.int .i64 ((bg : Int) + 1))).alloc (.cells #[.int .i64 0, .int .i64 0, .string ⟨#[]⟩, .slice none 0 0, .slice none 0 0] 32)).heap[w.heap.size]? = some (.cells #[.int .i64 0, .int .i64 0, .string ⟨#[]⟩, .slice none 0 0, .slice none 0 0] 32 (0, 0))) := by
    have := blk_at0 (w.setCell ⟨rb, 2, none⟩ (.int .i64 ((bg : Int) + 1))) (.cells #[.int .i64 0, .int .i64 0, .string ⟨#[]⟩, .slice none 0 0, .slice none 0 0] 32)
    rw [size_setCell] at this; exact this
  go_wp2_with fail
  clear ck
  refine (take_okx s rb p (bg + 1) 1 1 rfl _ hs hp (by omega) HB2.out).mono ?_
  rw [show takeR s p 1 = .ok (.string (s.extract p (p + 1)), p + 1) by unfold takeR; rw [if_pos (by omega)]]
  rintro e w3 ⟨rfl, hb3, g3⟩
  obtain ⟨t1, ht1, hz1, hz0, hzb⟩ := byte_ext s p hlt
  rw [ht1]
  rw [hk] at hzb
  clear ht1
  have HB3 := Lib.hid hb3
  have HG3 := Lib.hid (only_trans HG2.out g3)
  have HA3 := Lib.hid (blk_only HA2.out g3 hne.symm)
  have s3 : w.heap.size < w3.heap.size := by have := g3.size; simp [World.setCell] at this; omega
  have r3 : rb < w3.heap.size := by omega
  clear hb3 g3 HB2 HG2 HA2 H cf
  have HVB := Lib.hid (blk_at0 w3 (.cells #[.int .i64 8, .int .i64 0, .string ⟨#[]⟩, .slice none 0 0, .slice none 0 0] 32))
  have HG4 : Hid (w.grownBy (w3.alloc (.cells #[.int .i64 8, .int .i64 0, .string ⟨#[]⟩, .slice none 0 0, .slice none 0 0] 32)) (some rb)) := only_alloc HG3.out _
  go_wp2_with fail
  refine (take_okx s rb (p + 1) (bg + 1) 12 12 rfl _ hs (by omega) (by omega) (blk_alloc HB3.out _)).mono ?_
  rw [takeR_S, HX.out]
  cases x with
  | error c =>
    have e := HR.out
    simp only [leafS] at e
    subst e
    rintro e w4 ⟨rfl, g4⟩
    exact ⟨rfl, rfl, only_trans HG4.out g4⟩
  | ok nq =>
    obtain ⟨n, q⟩ := nq
    have hq := HQ.out n q rfl
    rintro e w4 ⟨rfl, hb4, g4⟩
    have HB4 := Lib.hid hb4
    have HG5 := Lib.hid (only_trans HG4.out g4)
    have HA4 := Lib.hid (blk_only (blk_alloc HA3.out (.cells #[.int .i64 8, .int .i64 0, .string ⟨#[]⟩, .slice none 0 0, .slice none 0 0] 32)) g4 hne.symm)
    have HV4 := Lib.hid (blk_only HVB.out g4 (by omega))
    have s4 : w3.heap.size < w4.heap.size := by have := g4.size; simp at this; omega
    have ca := blk_cell HA4.out
    have fa := blk_free HA4.out
    have cv := blk_cell HV4.out
    have fv := blk_free HV4.out
    have hnv : ¬ w.heap.size = w3.heap.size := by omega
    clear hb4 g4 HG4 HVB HB3 HG3 HA3
    have e := HR.out
    simp only [leafS] at e
    subst e
    go_wp2_with fail
    refine bodyPost_ret (v := .agg #[.int .i64 8, .int .i64 0, .string n, .slice none 0 0, .slice none 0 0]) (by simp only [results, Tryd.results28]; go_simp) rfl ⟨_, rfl, VNew.leaf _ _ _ _ _ _ (by unfold I64; omega) (by unfold I64; omega) (by unfold maxLen; omega), ?_, ?_⟩
    · exact (by repeat (first | with_reducible exact HB4.out | with_reducible refine blk_alloc ?_ _ | ((with_reducible refine blk_far ?_ ?_ _); rotate_left; (· first | (simp; omega) | omega))))
    · exact (by repeat (first | with_reducible exact HG5.out | with_reducible refine only_drew ?_ | with_reducible refine only_alloc ?_ _ | ((with_reducible refine only_setCell ?_ (.inr ?_) _); rotate_left; (· first | exact Nat.le_refl _ | omega | (simp; done) | (simp; omega)))))
set_option maxRecDepth 20000 in
set_option maxHeartbeats 2000000 in
theorem val_k4 (s : ByteArray) (W0 : World) (d rb p bg : Nat) (lv : Int) (w : World) (hs : s.size ≤ 1000000000000000) (hlv : lv = 16 - d) (hd : d ≤ 16) (hp : p ≤ s.size) (hbg : bg ≤ 1024) (hE : Ext W0 w) (hrb0 : W0.heap.size ≤ rb) (hT : Tabs W0) (h : w.heap[rb]? = some (RdCells s p bg)) (hb : bg < 1024) (hlt : p < s.size) (hk : byteN s p = 4) :
    Calls Tryd.prog 28 #[.pointer (some ⟨rb, 0, none⟩), .int .i64 lv] w (VPost rb s w (leafU bg (textS s (p + 1)))) := by
  obtain ⟨x, hx⟩ : ∃ x, textS s (p + 1) = x := ⟨_, rfl⟩
  obtain ⟨r, hr⟩ : ∃ r, leafU bg x = r := ⟨_, rfl⟩
  have HQ := Lib.hid (fun n q (he : x = .ok (n, q)) => textS_le (by omega) (hx.trans he))
  rw [hx, hr]
  have HX := Lib.hid hx
  have HR := Lib.hid hr
  clear hx hr
  have ck := blk_cell h
  have cf := blk_free h
  have hrb := blk_lt h
  have HT := Lib.hid hT
  have H := Lib.hid h
  have hne : rb ≠ w.heap.size := by omega
  have d0 : decide (lv ≤ 16) = true := by simp; omega
  have d1 : decide ((bg : Int) < 1024) = true := by simp; omega
  have HLV := Lib.hid hlv
  have hlv1 : 0 ≤ lv ∧ lv ≤ 16 := by omega
  clear hlv
  clear hT h
  go_enter Tryd.func28, Tryd.ntmps28
  go_wp2_with fail
  refine (need_ok _ _).mono ?_
  rintro e w1 ⟨rfl, rfl⟩
  have HB2 := Lib.hid (blk_alloc (rd_set2 H.out ((bg : Int) + 1) (bg' := bg + 1) (by omega)) (.cells #[.int .i64 0, .int .i64 0, .string ⟨#[]⟩, .slice none 0 0, .slice none 0 0] 32))
  have HG2 : Hid (w.grownBy ((w.setCell ⟨rb, 2, none⟩ (.int .i64 ((bg : Int) + 1))).alloc (.cells #[.int .i64 0, .int .i64 0, .string ⟨#[]⟩, .slice none 0 0, .slice none 0 0] 32)) (some rb)) := only_alloc (only_setCell (World.grownBy.refl _ _) (.inl rfl) _) _
  have HA2 : Hid (((w.setCell ⟨rb, 2, none⟩ (.int .i64 ((bg : Int) + 1))).alloc (.cells #[.int .i64 0, .int .i64 0, .string ⟨#[]⟩, .slice none 0 0, .slice none 0 0] 32)).heap[w.heap.size]? = some (.cells #[.int .i64 0, .int .i64 0, .string ⟨#[]⟩, .slice none 0 0, .slice none 0 0] 32 (0, 0))) := by
    have := blk_at0 (w.setCell ⟨rb, 2, none⟩ (.int .i64 ((bg : Int) + 1))) (.cells #[.int .i64 0, .int .i64 0, .string ⟨#[]⟩, .slice none 0 0, .slice none 0 0] 32)
    rw [size_setCell] at this; exact this
  go_wp2_with fail
  clear ck
  refine (take_okx s rb p (bg + 1) 1 1 rfl _ hs hp (by omega) HB2.out).mono ?_
  rw [show takeR s p 1 = .ok (.string (s.extract p (p + 1)), p + 1) by unfold takeR; rw [if_pos (by omega)]]
  rintro e w3 ⟨rfl, hb3, g3⟩
  obtain ⟨t1, ht1, hz1, hz0, hzb⟩ := byte_ext s p hlt
  rw [ht1]
  rw [hk] at hzb
  clear ht1
  have HB3 := Lib.hid hb3
  have HG3 := Lib.hid (only_trans HG2.out g3)
  have HA3 := Lib.hid (blk_only HA2.out g3 hne.symm)
  have s3 : w.heap.size < w3.heap.size := by have := g3.size; simp [World.setCell] at this; omega
  have r3 : rb < w3.heap.size := by omega
  clear hb3 g3 HB2 HG2 HA2 H cf
  have HVB := Lib.hid (blk_at0 w3 (.cells #[.int .i64 4, .int .i64 0, .string ⟨#[]⟩, .slice none 0 0, .slice none 0 0] 32))
  have HG4 : Hid (w.grownBy (w3.alloc (.cells #[.int .i64 4, .int .i64 0, .string ⟨#[]⟩, .slice none 0 0, .slice none 0 0] 32)) (some rb)) := only_alloc HG3.out _
  go_wp2_with fail
  refine (text_ok' s rb (p + 1) (bg + 1) _ hs (by omega) (blk_alloc HB3.out _)).mono ?_
  rw [HX.out]
  cases x with
  | error c =>
    have e := HR.out
    simp only [leafU] at e
    subst e
    rintro e w4 ⟨rfl, g4⟩
    exact ⟨rfl, rfl, only_trans HG4.out g4⟩
  | ok nq =>
    obtain ⟨n, q⟩ := nq
    have hq := HQ.out n q rfl
    rintro e w4 ⟨rfl, hb4, g4⟩
    have HB4 := Lib.hid hb4
    have HG5 := Lib.hid (only_trans HG4.out g4)
    have HA4 := Lib.hid (blk_only (blk_alloc HA3.out (.cells #[.int .i64 4, .int .i64 0, .string ⟨#[]⟩, .slice none 0 0, .slice none 0 0] 32)) g4 hne.symm)
    have HV4 := Lib.hid (blk_only HVB.out g4 (by omega))
    have s4 : w3.heap.size < w4.heap.size := by have := g4.size; simp at this; omega
    have ca := blk_cell HA4.out
    have fa := blk_free HA4.out
    have cv := blk_cell HV4.out
    have fv := blk_free HV4.out
    have hnv : ¬ w.heap.size = w3.heap.size := by omega
    clear hb4 g4 HG4 HVB HB3 HG3 HA3
    cases hu : utf8B n
    · have e := HR.out
      simp only [leafU, hu] at e
      simp only [Bool.false_eq_true, if_false] at e
      subst e
      go_wp2_with fail
      refine (validString_ok n _ (by unfold maxLen; omega) (HT.out.ext ((ext_of_only hE HG5.out hrb0).setCell (by have := hE.size; simp; omega) _))).mono ?_
      rintro e w5 ⟨rfl, h5⟩
      rw [hu]
      have HG6 : Hid (w.grownBy w5 (some rb)) := only_trans (only_setCell HG5.out (.inr (by simp; omega)) _) (h5.only _)
      clear hu h5
      go_wp2_with fail
      refine (need_no _ _).mono ?_
      rintro e w6 ⟨rfl, rfl⟩
      exact ⟨rfl, rfl, HG6.out⟩
    · have e := HR.out
      simp only [leafU, hu] at e
      simp only [if_true] at e
      subst e
      go_wp2_with fail
      refine (validString_ok n _ (by unfold maxLen; omega) (HT.out.ext ((ext_of_only hE HG5.out hrb0).setCell (by have := hE.size; simp; omega) _))).mono ?_
      rintro e w5 ⟨rfl, h5⟩
      rw [hu]
      have HG6 : Hid (w.grownBy w5 (some rb)) := only_trans (only_setCell HG5.out (.inr (by simp; omega)) _) (h5.only _)
      have HB6 := Lib.hid (blk_ext (blk_far HB4.out (by simp; omega) (.string n)) h5)
      have HA6 := Lib.hid (blk_ext (blk_far HA4.out (by simp; omega) (.string n)) h5)
      have HV6 := Lib.hid (blk_ext (blk_set HV4.out 2 (.string n)) h5)
      clear ca fa cv fv
      have ca := blk_cell HA6.out
      have fa := blk_free HA6.out
      have cv := blk_cell HV6.out
      have fv := blk_free HV6.out
      have s6 : w4.heap.size ≤ w5.heap.size := by have := h5.size; simpa [World.setCell] using this
      clear hu h5
      go_wp2_with fail
      refine (need_ok _ _).mono ?_
      rintro e w6 ⟨rfl, rfl⟩
      go_wp2_with fail
      refine bodyPost_ret (v := .agg #[.int .i64 4, .int .i64 0, .string n, .slice none 0 0, .slice none 0 0]) (by simp only [results, Tryd.results28]; go_simp) rfl ⟨_, rfl, VNew.leaf _ _ _ _ _ _ (by unfold I64; omega) (by unfold I64; omega) (by unfold maxLen; omega), ?_, ?_⟩
      · exact (by repeat (first | with_reducible exact HB6.out | with_reducible refine blk_alloc ?_ _ | ((with_reducible refine blk_far ?_ ?_ _); rotate_left; (· first | (simp; omega) | omega))))
      · exact (by repeat (first | with_reducible exact HG6.out | with_reducible refine only_drew ?_ | with_reducible refine only_alloc ?_ _ | ((with_reducible refine only_setCell ?_ (.inr ?_) _); rotate_left; (· first | exact Nat.le_refl _ | omega | (simp; done) | (simp; omega)))))
set_option maxRecDepth 20000 in
set_option maxHeartbeats 2000000 in
theorem val_k9a (s : ByteArray) (W0 : World) (d rb p bg : Nat) (lv : Int) (w : World) (hs : s.size ≤ 1000000000000000) (hlv : lv = 16 - d) (hd : d ≤ 16) (hp : p ≤ s.size) (hbg : bg ≤ 1024) (hE : Ext W0 w) (hrb0 : W0.heap.size ≤ rb) (hT : Tabs W0) (h : w.heap[rb]? = some (RdCells s p bg)) (hb : bg < 1024) (hlt : p < s.size) (hk : byteN s p = 9) (h2 : s.size ≤ p + 1) :
    Calls Tryd.prog 28 #[.pointer (some ⟨rb, 0, none⟩), .int .i64 lv] w (VPost rb s w (.error 5)) := by
  have ck := blk_cell h
  have cf := blk_free h
  have hrb := blk_lt h
  have HT := Lib.hid hT
  have H := Lib.hid h
  have hne : rb ≠ w.heap.size := by omega
  have d0 : decide (lv ≤ 16) = true := by simp; omega
  have d1 : decide ((bg : Int) < 1024) = true := by simp; omega
  have HLV := Lib.hid hlv
  have hlv1 : 0 ≤ lv ∧ lv ≤ 16 := by omega
  clear hlv
  clear hT h
  go_enter Tryd.func28, Tryd.ntmps28
  go_wp2_with fail
  refine (need_ok _ _).mono ?_
  rintro e w1 ⟨rfl, rfl⟩
  have HB2 := Lib.hid (blk_alloc (rd_set2 H.out ((bg : Int) + 1) (bg' := bg + 1) (by omega)) (.cells #[.int .i64 0, .int .i64 0, .string ⟨#[]⟩, .slice none 0 0, .slice none 0 0] 32))
  have HG2 : Hid (w.grownBy ((w.setCell ⟨rb, 2, none⟩ (.int .i64 ((bg : Int) + 1))).alloc (.cells #[.int .i64 0, .int .i64 0, .string ⟨#[]⟩, .slice none 0 0, .slice none 0 0] 32)) (some rb)) := only_alloc (only_setCell (World.grownBy.refl _ _) (.inl rfl) _) _
  have HA2 : Hid (((w.setCell ⟨rb, 2, none⟩ (.int .i64 ((bg : Int) + 1))).alloc (.cells #[.int .i64 0, .int .i64 0, .string ⟨#[]⟩, .slice none 0 0, .slice none 0 0] 32)).heap[w.heap.size]? = some (.cells #[.int .i64 0, .int .i64 0, .string ⟨#[]⟩, .slice none 0 0, .slice none 0 0] 32 (0, 0))) := by
    have := blk_at0 (w.setCell ⟨rb, 2, none⟩ (.int .i64 ((bg : Int) + 1))) (.cells #[.int .i64 0, .int .i64 0, .string ⟨#[]⟩, .slice none 0 0, .slice none 0 0] 32)
    rw [size_setCell] at this; exact this
  go_wp2_with fail
  clear ck
  refine (take_okx s rb p (bg + 1) 1 1 rfl _ hs hp (by omega) HB2.out).mono ?_
  rw [show takeR s p 1 = .ok (.string (s.extract p (p + 1)), p + 1) by unfold takeR; rw [if_pos (by omega)]]
  rintro e w3 ⟨rfl, hb3, g3⟩
  obtain ⟨t1, ht1, hz1, hz0, hzb⟩ := byte_ext s p hlt
  rw [ht1]
  rw [hk] at hzb
  clear ht1
  have HB3 := Lib.hid hb3
  have HG3 := Lib.hid (only_trans HG2.out g3)
  have HA3 := Lib.hid (blk_only HA2.out g3 hne.symm)
  have s3 : w.heap.size < w3.heap.size := by have := g3.size; simp [World.setCell] at this; omega
  have r3 : rb < w3.heap.size := by omega
  clear hb3 g3 HB2 HG2 HA2 H cf
  have HVB := Lib.hid (blk_at0 w3 (.cells #[.int .i64 9, .int .i64 0, .string ⟨#[]⟩, .slice none 0 0, .slice none 0 0] 32))
  have HG4 : Hid (w.grownBy (w3.alloc (.cells #[.int .i64 9, .int .i64 0, .string ⟨#[]⟩, .slice none 0 0, .slice none 0 0] 32)) (some rb)) := only_alloc HG3.out _
  go_wp2_with fail
  refine (take_okx s rb (p + 1) (bg + 1) 1 1 rfl _ hs (by omega) (by omega) (blk_alloc HB3.out _)).mono ?_
  rw [show takeR s (p + 1) 1 = .error 5 by unfold takeR; rw [if_neg (by omega)]]
  rintro e w4 ⟨rfl, g4⟩
  exact ⟨rfl, rfl, only_trans HG4.out g4⟩
set_option maxRecDepth 20000 in
set_option maxHeartbeats 2000000 in
theorem val_k9b (s : ByteArray) (W0 : World) (d rb p bg : Nat) (lv : Int) (w : World) (hs : s.size ≤ 1000000000000000) (hlv : lv = 16 - d) (hd : d ≤ 16) (hp : p ≤ s.size) (hbg : bg ≤ 1024) (hE : Ext W0 w) (hrb0 : W0.heap.size ≤ rb) (hT : Tabs W0) (h : w.heap[rb]? = some (RdCells s p bg)) (hb : bg < 1024) (hlt : p < s.size) (hk : byteN s p = 9) (h2 : p + 1 < s.size) (hb1 : 1 < byteN s (p + 1)) :
    Calls Tryd.prog 28 #[.pointer (some ⟨rb, 0, none⟩), .int .i64 lv] w (VPost rb s w (.error 4)) := by
  have ck := blk_cell h
  have cf := blk_free h
  have hrb := blk_lt h
  have HT := Lib.hid hT
  have H := Lib.hid h
  have hne : rb ≠ w.heap.size := by omega
  have d0 : decide (lv ≤ 16) = true := by simp; omega
  have d1 : decide ((bg : Int) < 1024) = true := by simp; omega
  have HLV := Lib.hid hlv
  have hlv1 : 0 ≤ lv ∧ lv ≤ 16 := by omega
  clear hlv
  clear hT h
  go_enter Tryd.func28, Tryd.ntmps28
  go_wp2_with fail
  refine (need_ok _ _).mono ?_
  rintro e w1 ⟨rfl, rfl⟩
  have HB2 := Lib.hid (blk_alloc (rd_set2 H.out ((bg : Int) + 1) (bg' := bg + 1) (by omega)) (.cells #[.int .i64 0, .int .i64 0, .string ⟨#[]⟩, .slice none 0 0, .slice none 0 0] 32))
  have HG2 : Hid (w.grownBy ((w.setCell ⟨rb, 2, none⟩ (.int .i64 ((bg : Int) + 1))).alloc (.cells #[.int .i64 0, .int .i64 0, .string ⟨#[]⟩, .slice none 0 0, .slice none 0 0] 32)) (some rb)) := only_alloc (only_setCell (World.grownBy.refl _ _) (.inl rfl) _) _
  have HA2 : Hid (((w.setCell ⟨rb, 2, none⟩ (.int .i64 ((bg : Int) + 1))).alloc (.cells #[.int .i64 0, .int .i64 0, .string ⟨#[]⟩, .slice none 0 0, .slice none 0 0] 32)).heap[w.heap.size]? = some (.cells #[.int .i64 0, .int .i64 0, .string ⟨#[]⟩, .slice none 0 0, .slice none 0 0] 32 (0, 0))) := by
    have := blk_at0 (w.setCell ⟨rb, 2, none⟩ (.int .i64 ((bg : Int) + 1))) (.cells #[.int .i64 0, .int .i64 0, .string ⟨#[]⟩, .slice none 0 0, .slice none 0 0] 32)
    rw [size_setCell] at this; exact this
  go_wp2_with fail
  clear ck
  refine (take_okx s rb p (bg + 1) 1 1 rfl _ hs hp (by omega) HB2.out).mono ?_
  rw [show takeR s p 1 = .ok (.string (s.extract p (p + 1)), p + 1) by unfold takeR; rw [if_pos (by omega)]]
  rintro e w3 ⟨rfl, hb3, g3⟩
  obtain ⟨t1, ht1, hz1, hz0, hzb⟩ := byte_ext s p hlt
  rw [ht1]
  rw [hk] at hzb
  clear ht1
  have HB3 := Lib.hid hb3
  have HG3 := Lib.hid (only_trans HG2.out g3)
  have HA3 := Lib.hid (blk_only HA2.out g3 hne.symm)
  have s3 : w.heap.size < w3.heap.size := by have := g3.size; simp [World.setCell] at this; omega
  have r3 : rb < w3.heap.size := by omega
  clear hb3 g3 HB2 HG2 HA2 H cf
  have HVB := Lib.hid (blk_at0 w3 (.cells #[.int .i64 9, .int .i64 0, .string ⟨#[]⟩, .slice none 0 0, .slice none 0 0] 32))
  have HG4 : Hid (w.grownBy (w3.alloc (.cells #[.int .i64 9, .int .i64 0, .string ⟨#[]⟩, .slice none 0 0, .slice none 0 0] 32)) (some rb)) := only_alloc HG3.out _
  go_wp2_with fail
  refine (take_okx s rb (p + 1) (bg + 1) 1 1 rfl _ hs (by omega) (by omega) (blk_alloc HB3.out _)).mono ?_
  rw [show takeR s (p + 1) 1 = .ok (.string (s.extract (p + 1) (p + 1 + 1)), p + 1 + 1) by unfold takeR; rw [if_pos (by omega)]]
  obtain ⟨t2, ht2, hy1, hy0, hyb⟩ := byte_ext s (p + 1) h2
  rw [ht2]
  obtain ⟨bb, hbb⟩ : ∃ b, byteN s (p + 1) = b := ⟨_, rfl⟩
  rw [hbb] at hyb hb1
  clear ht2 
  rintro e w4 ⟨rfl, hb4, g4⟩
  have HB4 := Lib.hid hb4
  have HG5 := Lib.hid (only_trans HG4.out g4)
  have HA4 := Lib.hid (blk_only (blk_alloc HA3.out (.cells #[.int .i64 9, .int .i64 0, .string ⟨#[]⟩, .slice none 0 0, .slice none 0 0] 32)) g4 hne.symm)
  have HV4 := Lib.hid (blk_only HVB.out g4 (by omega))
  have s4 : w3.heap.size < w4.heap.size := by have := g4.size; simp at this; omega
  have ca := blk_cell HA4.out
  have fa := blk_free HA4.out
  have cv := blk_cell HV4.out
  have fv := blk_free HV4.out
  have hnv : ¬ w.heap.size = w3.heap.size := by omega
  have HBB := Lib.hid hbb
  clear hb4 g4 HG4 HVB HB3 HG3 HA3 hbb
  have db : decide ((bb : Int) ≤ 1) = false := by simp; omega
  have h256 : bb < 256 := by rw [← hyb]; exact t2[0].toNat_lt
  go_wp2_with fail
  refine (need_no _ _).mono ?_
  rintro e w6 ⟨rfl, rfl⟩
  exact ⟨rfl, rfl, only_setCell HG5.out (.inr (by simp; omega)) _⟩
set_option maxRecDepth 20000 in
set_option maxHeartbeats 2000000 in
theorem val_k9c (s : ByteArray) (W0 : World) (d rb p bg : Nat) (lv : Int) (w : World) (hs : s.size ≤ 1000000000000000) (hlv : lv = 16 - d) (hd : d ≤ 16) (hp : p ≤ s.size) (hbg : bg ≤ 1024) (hE : Ext W0 w) (hrb0 : W0.heap.size ≤ rb) (hT : Tabs W0) (h : w.heap[rb]? = some (RdCells s p bg)) (hb : bg < 1024) (hlt : p < s.size) (hk : byteN s p = 9) (h2 : p + 1 < s.size) (hb1 : byteN s (p + 1) ≤ 1) :
    Calls Tryd.prog 28 #[.pointer (some ⟨rb, 0, none⟩), .int .i64 lv] w (VPost rb s w (.ok (leafT 9 (byteN s (p + 1)) ⟨#[]⟩, p + 1 + 1, bg + 1))) := by
  have ck := blk_cell h
  have cf := blk_free h
  have hrb := blk_lt h
  have HT := Lib.hid hT
  have H := Lib.hid h
  have hne : rb ≠ w.heap.size := by omega
  have d0 : decide (lv ≤ 16) = true := by simp; omega
  have d1 : decide ((bg : Int) < 1024) = true := by simp; omega
  have HLV := Lib.hid hlv
  have hlv1 : 0 ≤ lv ∧ lv ≤ 16 := by omega
  clear hlv
  clear hT h
  go_enter Tryd.func28, Tryd.ntmps28
  go_wp2_with fail
  refine (need_ok _ _).mono ?_
  rintro e w1 ⟨rfl, rfl⟩
  have HB2 := Lib.hid (blk_alloc (rd_set2 H.out ((bg : Int) + 1) (bg' := bg + 1) (by omega)) (.cells #[.int .i64 0, .int .i64 0, .string ⟨#[]⟩, .slice none 0 0, .slice none 0 0] 32))
  have HG2 : Hid (w.grownBy ((w.setCell ⟨rb, 2, none⟩ (.int .i64 ((bg : Int) + 1))).alloc (.cells #[.int .i64 0, .int .i64 0, .string ⟨#[]⟩, .slice none 0 0, .slice none 0 0] 32)) (some rb)) := only_alloc (only_setCell (World.grownBy.refl _ _) (.inl rfl) _) _
  have HA2 : Hid (((w.setCell ⟨rb, 2, none⟩ (.int .i64 ((bg : Int) + 1))).alloc (.cells #[.int .i64 0, .int .i64 0, .string ⟨#[]⟩, .slice none 0 0, .slice none 0 0] 32)).heap[w.heap.size]? = some (.cells #[.int .i64 0, .int .i64 0, .string ⟨#[]⟩, .slice none 0 0, .slice none 0 0] 32 (0, 0))) := by
    have := blk_at0 (w.setCell ⟨rb, 2, none⟩ (.int .i64 ((bg : Int) + 1))) (.cells #[.int .i64 0, .int .i64 0, .string ⟨#[]⟩, .slice none 0 0, .slice none 0 0] 32)
    rw [size_setCell] at this; exact this
  go_wp2_with fail
  clear ck
  refine (take_okx s rb p (bg + 1) 1 1 rfl _ hs hp (by omega) HB2.out).mono ?_
  rw [show takeR s p 1 = .ok (.string (s.extract p (p + 1)), p + 1) by unfold takeR; rw [if_pos (by omega)]]
  rintro e w3 ⟨rfl, hb3, g3⟩
  obtain ⟨t1, ht1, hz1, hz0, hzb⟩ := byte_ext s p hlt
  rw [ht1]
  rw [hk] at hzb
  clear ht1
  have HB3 := Lib.hid hb3
  have HG3 := Lib.hid (only_trans HG2.out g3)
  have HA3 := Lib.hid (blk_only HA2.out g3 hne.symm)
  have s3 : w.heap.size < w3.heap.size := by have := g3.size; simp [World.setCell] at this; omega
  have r3 : rb < w3.heap.size := by omega
  clear hb3 g3 HB2 HG2 HA2 H cf
  have HVB := Lib.hid (blk_at0 w3 (.cells #[.int .i64 9, .int .i64 0, .string ⟨#[]⟩, .slice none 0 0, .slice none 0 0] 32))
  have HG4 : Hid (w.grownBy (w3.alloc (.cells #[.int .i64 9, .int .i64 0, .string ⟨#[]⟩, .slice none 0 0, .slice none 0 0] 32)) (some rb)) := only_alloc HG3.out _
  go_wp2_with fail
  refine (take_okx s rb (p + 1) (bg + 1) 1 1 rfl _ hs (by omega) (by omega) (blk_alloc HB3.out _)).mono ?_
  rw [show takeR s (p + 1) 1 = .ok (.string (s.extract (p + 1) (p + 1 + 1)), p + 1 + 1) by unfold takeR; rw [if_pos (by omega)]]
  obtain ⟨t2, ht2, hy1, hy0, hyb⟩ := byte_ext s (p + 1) h2
  rw [ht2]
  obtain ⟨bb, hbb⟩ : ∃ b, byteN s (p + 1) = b := ⟨_, rfl⟩
  rw [hbb] at hyb hb1
  clear ht2 
  rintro e w4 ⟨rfl, hb4, g4⟩
  have HB4 := Lib.hid hb4
  have HG5 := Lib.hid (only_trans HG4.out g4)
  have HA4 := Lib.hid (blk_only (blk_alloc HA3.out (.cells #[.int .i64 9, .int .i64 0, .string ⟨#[]⟩, .slice none 0 0, .slice none 0 0] 32)) g4 hne.symm)
  have HV4 := Lib.hid (blk_only HVB.out g4 (by omega))
  have s4 : w3.heap.size < w4.heap.size := by have := g4.size; simp at this; omega
  have ca := blk_cell HA4.out
  have fa := blk_free HA4.out
  have cv := blk_cell HV4.out
  have fv := blk_free HV4.out
  have hnv : ¬ w.heap.size = w3.heap.size := by omega
  have HBB := Lib.hid hbb
  clear hb4 g4 HG4 HVB HB3 HG3 HA3 hbb
  have db : decide ((bb : Int) ≤ 1) = true := by simp; omega
  go_wp2_with fail
  refine (need_ok _ _).mono ?_
  rintro e w6 ⟨rfl, rfl⟩
  go_wp2_with fail
  refine bodyPost_ret (v := .agg #[.int .i64 9, .int .i64 (byteN s (p + 1) : Int), .string ⟨#[]⟩, .slice none 0 0, .slice none 0 0]) (by rw [HBB.out]; simp only [results, Tryd.results28]; go_simp) rfl ⟨_, rfl, VNew.leaf _ _ _ _ _ _ (by unfold I64; omega) (by rw [HBB.out]; unfold I64; omega) (by unfold maxLen; decide), ?_, ?_⟩
  · exact (by repeat (first | with_reducible exact HB4.out | with_reducible refine blk_alloc ?_ _ | ((with_reducible refine blk_far ?_ ?_ _); rotate_left; (· first | (simp; omega) | omega))))
  · exact (by repeat (first | with_reducible exact HG5.out | with_reducible refine only_drew ?_ | with_reducible refine only_alloc ?_ _ | ((with_reducible refine only_setCell ?_ (.inr ?_) _); rotate_left; (· first | exact Nat.le_refl _ | omega | (simp; done) | (simp; omega)))))
set_option maxRecDepth 20000 in
set_option maxHeartbeats 2000000 in
theorem val_kx (s : ByteArray) (W0 : World) (d rb p bg : Nat) (lv : Int) (w : World) (hs : s.size ≤ 1000000000000000) (hlv : lv = 16 - d) (hd : d ≤ 16) (hp : p ≤ s.size) (hbg : bg ≤ 1024) (hE : Ext W0 w) (hrb0 : W0.heap.size ≤ rb) (hT : Tabs W0) (h : w.heap[rb]? = some (RdCells s p bg)) (hb : bg < 1024) (hlt : p < s.size) (kk : Nat) (hk : byteN s p = kk) (hkx : ¬ kk = 1 ∧ ¬ kk = 2 ∧ ¬ kk = 3 ∧ ¬ kk = 4 ∧ ¬ kk = 5 ∧ ¬ kk = 6 ∧ ¬ kk = 7 ∧ ¬ kk = 8 ∧ ¬ kk = 9 ∧ ¬ kk = 10 ∧ ¬ kk = 11) :
    Calls Tryd.prog 28 #[.pointer (some ⟨rb, 0, none⟩), .int .i64 lv] w (VPost rb s w (.error 4)) := by
  have ck := blk_cell h
  have cf := blk_free h
  have hrb := blk_lt h
  have HT := Lib.hid hT
  have H := Lib.hid h
  have hne : rb ≠ w.heap.size := by omega
  have d0 : decide (lv ≤ 16) = true := by simp; omega
  have d1 : decide ((bg : Int) < 1024) = true := by simp; omega
  have HLV := Lib.hid hlv
  have hlv1 : 0 ≤ lv ∧ lv ≤ 16 := by omega
  clear hlv
  clear hT h
  go_enter Tryd.func28, Tryd.ntmps28
  go_wp2_with fail
  refine (need_ok _ _).mono ?_
  rintro e w1 ⟨rfl, rfl⟩
  have HB2 := Lib.hid (blk_alloc (rd_set2 H.out ((bg : Int) + 1) (bg' := bg + 1) (by omega)) (.cells #[.int .i64 0, .int .i64 0, .string ⟨#[]⟩, .slice none 0 0, .slice none 0 0] 32))
  have HG2 : Hid (w.grownBy ((w.setCell ⟨rb, 2, none⟩ (.int .i64 ((bg : Int) + 1))).alloc (.cells #[.int .i64 0, .int .i64 0, .string ⟨#[]⟩, .slice none 0 0, .slice none 0 0] 32)) (some rb)) := only_alloc (only_setCell (World.grownBy.refl _ _) (.inl rfl) _) _
  have HA2 : Hid (((w.setCell ⟨rb, 2, none⟩ (.int .i64 ((bg : Int) + 1))).alloc (.cells #[.int .i64 0, .int .i64 0, .string ⟨#[]⟩, .slice none 0 0, .slice none 0 0] 32)).heap[w.heap.size]? = some (.cells #[.int .i64 0, .int .i64 0, .string ⟨#[]⟩, .slice none 0 0, .slice none 0 0] 32 (0, 0))) := by
    have := blk_at0 (w.setCell ⟨rb, 2, none⟩ (.int .i64 ((bg : Int) + 1))) (.cells #[.int .i64 0, .int .i64 0, .string ⟨#[]⟩, .slice none 0 0, .slice none 0 0] 32)
    rw [size_setCell] at this; exact this
  go_wp2_with fail
  clear ck
  refine (take_okx s rb p (bg + 1) 1 1 rfl _ hs hp (by omega) HB2.out).mono ?_
  rw [show takeR s p 1 = .ok (.string (s.extract p (p + 1)), p + 1) by unfold takeR; rw [if_pos (by omega)]]
  rintro e w3 ⟨rfl, hb3, g3⟩
  obtain ⟨t1, ht1, hz1, hz0, hzb⟩ := byte_ext s p hlt
  rw [ht1]
  rw [hk] at hzb
  clear ht1
  have HB3 := Lib.hid hb3
  have HG3 := Lib.hid (only_trans HG2.out g3)
  have HA3 := Lib.hid (blk_only HA2.out g3 hne.symm)
  have s3 : w.heap.size < w3.heap.size := by have := g3.size; simp [World.setCell] at this; omega
  have r3 : rb < w3.heap.size := by omega
  clear hb3 g3 HB2 HG2 HA2 H cf
  have h256 : kk < 256 := by rw [← hzb]; exact t1[0].toNat_lt
  obtain ⟨n1, n2, n3, n4, n5, n6, n7, n8, n9, n10, n11⟩ := hkx
  have b1 : ((kk : Int) == 1) = false := beq_eq_false_iff_ne.2 (by omega)
  have b2 : ((kk : Int) == 2) = false := beq_eq_false_iff_ne.2 (by omega)
  have b3 : ((kk : Int) == 3) = false := beq_eq_false_iff_ne.2 (by omega)
  have b4 : ((kk : Int) == 4) = false := beq_eq_false_iff_ne.2 (by omega)
  have b5 : ((kk : Int) == 5) = false := beq_eq_false_iff_ne.2 (by omega)
  have b6 : ((kk : Int) == 6) = false := beq_eq_false_iff_ne.2 (by omega)
  have b7 : ((kk : Int) == 7) = false := beq_eq_false_iff_ne.2 (by omega)
  have b8 : ((kk : Int) == 8) = false := beq_eq_false_iff_ne.2 (by omega)
  have b9 : ((kk : Int) == 9) = false := beq_eq_false_iff_ne.2 (by omega)
  have b10 : ((kk : Int) == 10) = false := beq_eq_false_iff_ne.2 (by omega)
  have b11 : ((kk : Int) == 11) = false := beq_eq_false_iff_ne.2 (by omega)
  clear n1 n2 n3 n4 n5 n6 n7 n8 n9 n10 n11
  go_wp2_with fail
  exact ⟨rfl, rfl, only_alloc HG3.out _⟩
end Go.Proofs.YtdoofmohoamkbaaDoor
