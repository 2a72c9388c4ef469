/- keyenc.Decode. -/
import Derived.Test.YtipphlhaaienpaaDoorKR3
import Derived.Test.YtipphlhaaienpaaDoorKEn2
set_option linter.unusedSimpArgs false
set_option linter.unusedVariables false
namespace Go.Proofs.YtipphlhaaienpaaDoor
open Go.RowKit
theorem wpList_append_vacc {ops : Array Oper} {rest : List Oper} {o : Oper} {a : Act} {Q : Exit → Act → World → Prop} (w : World) (hgd : o.guard = none) (s x : Operand) (ho : o.op = .call { callee := .builtin .append, args := #[s, x], argTypes := #[22, 22] })
    (lo : Nat) (v : Value) (ts : List Tr) (hs : a.eval s = v) (hR : VAcc lo w v ts) (t : Tr) (c0 c1 c2 c3 c4 : Value) (hx : a.eval x = .slice (some ⟨w.heap.size, 0, none⟩) 1 1)
    (lo' : Nat) (hlo : lo ≤ lo') (hown : ∀ g, v.ownBlock = some g → g < lo') (hV : VNew lo' w.heap.size w t (.agg #[c0, c1, c2, c3, c4])) (hlen : (ts.length + 1) * 80 ≤ 140737488355328) (hbase : lo ≤ w.heap.size)
    (h : ∀ v' w', VAcc lo w' v' (ts ++ [t]) → (∀ g, v'.ownBlock = some g → lo ≤ g ∧ g < w'.heap.size) → (w.alloc (.cells #[c0, c1, c2, c3, c4] 41)).grownBy w' v.ownBlock → wpList Tryd.prog ops Q rest (a.put o.dst v') w') :
    wpList Tryd.prog ops Q (o :: rest) a (w.alloc (.cells #[c0, c1, c2, c3, c4] 41)) :=
  wpList_plain hgd fun _ hK => wp_append_vacc w s x ho lo v ts hs hR t c0 c1 c2 c3 c4 hx lo' hlo hown hV hlen hbase fun v' w' h2 h3 h4 => hK _ _ (h v' w' h2 h3 h4)
theorem Same.of_ext {lo : Nat} {w w' : World} (k : Ext w w') : Same lo w w' := fun i _ hl => k.below.block i hl
theorem Same.trans {lo : Nat} {a b c : World} (h : Same lo a b) (hs : a.heap.size ≤ b.heap.size) (k : Same lo b c) : Same lo a c := fun i hi hl => (k i hi (by omega)).trans (h i hi hl)
theorem kr_set2 {w : World} {rb : Nat} {s : ByteArray} {p : Nat} {fl : UInt8} {c : Int} (h : w.heap[rb]? = some (KrCells s p fl c)) (fl' : UInt8) (x : Int) (hx : x = fl'.toNat) : (w.setCell ⟨rb, 2, none⟩ (.int .u8 x)).heap[rb]? = some (KrCells s p fl' c) := by
  subst hx; exact blk_set h 2 _
/-- the end of Decode -/
def KdPost (w : World) (x : Except Int (List Tr)) (e : Ending) (w' : World) : Prop :=
  match x with
  | .ok ts => ∃ a c, e = .returned (.tuple #[.slice a ts.length c, .int .i64 0]) ∧ ts.length ≤ c ∧ c ≤ maxLen ∧ LRep w' a 0 ts ∧ Ext w w'
  | .error c => e = .returned (.tuple #[.slice none 0 0, .int .i64 c]) ∧ Ext w w'
def kdK (s : ByteArray) : Except Int (List Tr × Nat) → Except Int (List Tr)
  | .error e => .error e
  | .ok (l, q) => if q < s.size then .error 6 else .ok l
theorem kdecE_eq (s : ByteArray) (ds : List Bool) : kdecE s ds = kdK s (kdsE s ds 0 []) := by
  unfold kdecE; cases kdsE s ds 0 [] <;> rfl
def fl_of (d : Bool) : UInt8 := if d then 255 else 0
set_option maxRecDepth 20000 in
set_option maxHeartbeats 4000000 in
theorem Decode_ok (s : ByteArray) (ds : List Bool) (da : Option Addr) (dc : Nat) (w : World) (hs : s.size ≤ 1000000000) (hD : BRep w da ds) (hd1 : ds.length ≤ dc) (hd2 : dc ≤ maxLen) (h40 : ds.length ≤ 40) (hT : Tabs w) :
    Calls Tryd.prog 13 #[.string s, .slice da ds.length dc] w (KdPost w (kdecE s ds)) := by
  have HD := Lib.hid hD
  have HT := Lib.hid hT
  clear hD hT
  unfold maxLen at hd2
  rw [kdecE_eq]
  obtain ⟨r, hr⟩ : ∃ r, kdK s (kdsE s ds 0 []) = r := ⟨_, rfl⟩
  rw [hr]
  have HR := Lib.hid hr
  clear hr
  obtain ⟨rb, hrb⟩ : ∃ rb, w.heap.size = rb := ⟨_, rfl⟩
  have H0 : Hid ((w.alloc (.cells #[.string s, .int .i64 0, .int .u8 0, .int .i64 0] 49)).heap[rb]? = some (KrCells s 0 0 0)) := by rw [← hrb]; exact blk_at0 w _
  go_enter Tryd.func13, Tryd.ntmps13
  go_wp2_with fail
  have HRB := Lib.hid hrb
  have hrb1 : w.heap.size ≤ rb := by omega
  clear hrb
  go_loopw [7, 15] (fun x i wr => ∃ (j q : Nat) (ts : List Tr) (fl : UInt8), j ≤ ds.length ∧ i = .int .i64 j ∧ ts.length ≤ j ∧ q ≤ s.size ∧ Hid (kdK s (kdsE s (ds.drop j) q ts) = r) ∧ Hid (wr.heap[rb]? = some (KrCells s q fl 0)) ∧ Hid (VAcc (rb + 1) wr x ts) ∧ Hid (Ext w wr)) (fun _ i _ => ds.length - (intOf i).toNat)
  case atStart => exact ⟨0, 0, [], 0, by omega, rfl, by simp, by omega, HR, H0, VAcc.nil _ _, (Ext.refl w).alloc _⟩
  case round =>
    obtain ⟨j, q, ts, fl, hj, rfl, htl, hq, HF, HB, HAcc, HE⟩ := hrel
    obtain ⟨ax, cx, rfl⟩ := HAcc.out.shape
    have ck := blk_cell HB.out
    have cf := blk_free HB.out
    have lrb := blk_lt HB.out
    by_cases hlt : j < ds.length
    · obtain ⟨dd, hdd⟩ : ∃ d, ds[j] = d := ⟨_, rfl⟩
      obtain ⟨db, doff, rfl, hdc⟩ := HD.out j dd (by rw [← hdd]; exact List.getElem?_eq_getElem hlt)
      have hdr : ds.drop j = dd :: ds.drop (j + 1) := by rw [← hdd]; exact List.drop_eq_getElem_cons hlt
      have hdc1 := HE.out.keep hdc
      have hdb1 : db < wr.heap.size := World.block_lt_of_cell? _ _ hdc1
      have hF := HF.out
      rw [hdr] at hF
      simp only [kdsE] at hF
      obtain ⟨fl2, hfl2⟩ : ∃ f : UInt8, (if dd then 255 else 0) = f := ⟨_, rfl⟩
      rw [hfl2] at hF
      obtain ⟨y, hy⟩ : ∃ y, kvE s fl2 16 q = y := ⟨_, rfl⟩
      rw [hy] at hF
      have HF1 := Lib.hid hF
      have HY := Lib.hid hy
      have HFl := Lib.hid hfl2
      clear hF hy hfl2 hdr hdd HF hdc
      have key : ∀ (W : World), W.heap[rb]? = some (KrCells s q fl2 0) → VAcc (rb + 1) W (.slice ax ts.length cx) ts → Ext w W → True := fun _ _ _ _ => trivial
      clear key
      cases dd
      · have hfl : fl2 = 0 := HFl.out.symm
        subst hfl
        go_wp2_with fail
        obtain ⟨W1, hW1⟩ : ∃ W, wr.setCell ⟨rb, 2, none⟩ (.int .u8 0) = W := ⟨_, rfl⟩
        have HB1 : Hid (W1.heap[rb]? = some (KrCells s q 0 0)) := by rw [← hW1]; exact kr_set2 HB.out _ _ rfl
        have HAcc1 : Hid (VAcc (rb + 1) W1 (.slice ax ts.length cx) ts) := by rw [← hW1]; exact HAcc.out.keep (Same.setCell (Same.refl _ _) (by simp) _)
        have HE1 : Hid (Ext w W1) := by rw [← hW1]; exact HE.out.setCell hrb1 _
        have hz1 : W1.heap.size = wr.heap.size := by rw [← hW1]; simp [World.setCell]
        rw [hW1]
        have hz2 : wr.heap.size ≤ W1.heap.size := by omega
        clear hW1 ck cf hz1 hdc1
        refine (kv_ok s 0 hs 16 (by omega) rb q 0 1 W1 (by omega) hq HB1.out).mono ?_
        rw [if_pos rfl, HY.out]
        rintro e w2 ⟨t2, v2, q2, c2, rfl, hv2, ⟨hq20, hq2⟩, hk2, g2, ho2⟩
        have HW2 : Hid (VNew W1.heap.size w2.heap.size w2 t2 v2) := hv2
        obtain ⟨k', i', s', la', ln', lc', da', dn', dc', rfl⟩ := VRep.shape (show VRep (win _ w2) t2 v2 from HW2.out)
        have HB2 := Lib.hid hk2
        have HE2 := Lib.hid (Ext.of_only HE1.out g2 hrb1)
        have HAcc2 := Lib.hid (HAcc1.out.keep (Same.only (Same.refl _ W1) (Nat.le_refl _) g2 (by omega)))
        have s2 : W1.heap.size ≤ w2.heap.size := g2.size
        have hown : ∀ g, (Value.slice ax ts.length cx).ownBlock = some g → rb + 1 ≤ g ∧ g < W1.heap.size := fun g hg => by
          obtain ⟨cs, ho, _⟩ := HAcc1.out
          exact ho.lt g hg
        have HOwn := Lib.hid hown
        clear hown hv2 hk2 g2
        have ck := blk_cell HB2.out
        have lrb2 := blk_lt HB2.out
        cases y with
        | error e0 =>
          obtain ⟨rfl, hc⟩ := ho2
          have e := HF1.out
          simp only [kdK] at e
          subst e
          have d : (c2 != 0) = true := by simpa using hc
          clear hc
          go_wp2_with fail
          refine wp_region_mix (fun W => W.heap[rb]? = some (KrCells s q2 0 c2)) [(true, 0), (true, 1), (true, 2), (true, 3)] (by kernel_rfl) (by kernel_rfl) (by kernel_rfl) (by kernel_rfl) ?hS ?_
          case hS => exact blk_alloc HB2.out _
          repeat (first | (refine wpMix_q (v := ?_) rfl rfl ?_ ?_; rotate_left; (· intro wq hSq; have cq := blk_cell hSq; go_simp; try (with_reducible rfl)); simp only [Act.put, List.setIfInBounds_toArray, List.set_cons_zero, List.set_cons_succ, List.getElem_toArray, List.getElem_cons_zero, List.getElem_cons_succ]) | (refine wpMix_u rfl rfl ?_; simp only [Act.put, List.setIfInBounds_toArray, List.set_cons_zero, List.set_cons_succ, List.getElem_toArray, List.getElem_cons_zero, List.getElem_cons_succ]))
          refine wpMix_nil ?_
          go_wp2_with fail
          go_ret2
          exact ⟨rfl, (HE2.out.alloc _).drew⟩
        | ok z =>
          obtain ⟨t', q'⟩ := z
          obtain ⟨rfl, rfl, rfl⟩ := ho2
          have hF := HF1.out
          simp only at hF
          have HF2 := Lib.hid hF
          clear hF HF1
          go_wp2_with fail
          clear ck
          refine (allowed_ok t' _ _ (VRep.ext ((Ext.refl w2).alloc _) _ _ HW2.out.rep) (HT.out.ext (HE2.out.alloc _))).mono ?_
          rintro e w3 ⟨rfl, h3⟩
          have k3 := h3.ownc
          have l3 := h3.lt
          have HB3 := Lib.hid (blk_ext (blk_alloc HB2.out _) h3)
          have HE3 := Lib.hid (HE2.out.trans h3.of_alloc)
          have HAcc3 := Lib.hid (HAcc2.out.keep (Same.of_ext h3.of_alloc))
          have HW3 := Lib.hid (HW2.out.keep (w' := w3) (Nat.le_refl _) (Nat.le_of_lt l3) (fun i h1 h2 => h3.of_alloc.below.block i h2))
          clear h3
          cases hal : allowB t'
          · have e := HF2.out
            rw [hal] at e
            simp only [Bool.false_eq_true, if_false, kdK] at e
            subst e
            clear hal
            go_wp2_with fail
            go_ret2
            exact ⟨rfl, HE3.out⟩
          have hF := HF2.out
          rw [hal, if_pos rfl] at hF
          have HF3 := Lib.hid hF
          clear hal hF HF2
          go_wp2_with (at_builtin; refine wpList_append_vacc w3 rfl _ _ rfl (rb + 1) (.slice ax ts.length cx) ts rfl HAcc3.out t' _ _ _ _ _ rfl W1.heap.size (by omega) (fun g hg => (HOwn.out g hg).2) HW3.out (by omega) (by omega) ?_)
          intro v4 w4 a4 o4 g4
          obtain ⟨ts4, hts4⟩ : ∃ l, ts ++ [t'] = l := ⟨_, rfl⟩
          have hl4 : ts4.length ≤ j + 1 := by rw [← hts4]; simp; omega
          rw [hts4] at a4 HF3
          clear hts4 k3
          have HAcc4 := Lib.hid a4
          have HB4 : Hid (w4.heap[rb]? = some (KrCells s q' 0 0)) := (g4.block rb (by simp; omega) (fun e => by have := (HOwn.out rb e.symm).1; omega)).trans ((Below.heap_alloc w3 _ rb (by omega)).trans HB3.out)
          have HE4 := Lib.hid ((HE3.out.alloc _).grown g4 (fun k hk => by have := (HOwn.out k hk).1; omega))
          clear a4 g4 o4
          obtain ⟨ax4, cx4, rfl⟩ := HAcc4.out.shape
          go_wp2_with fail
          exact ⟨⟨j + 1, q', ts4, 0, by omega, by go_num, hl4, hq2, HF3, HB4, HAcc4, HE4⟩, by simp [intOf]; omega⟩
      · have hfl : fl2 = 255 := HFl.out.symm
        subst hfl
        go_wp2_with fail
        obtain ⟨W1, hW1⟩ : ∃ W, (wr.setCell ⟨rb, 2, none⟩ (.int .u8 0)).setCell ⟨rb, 2, none⟩ (.int .u8 255) = W := ⟨_, rfl⟩
        have HB1 : Hid (W1.heap[rb]? = some (KrCells s q 255 0)) := by rw [← hW1]; exact kr_set2 (kr_set2 HB.out 0 _ rfl) _ _ rfl
        have HAcc1 : Hid (VAcc (rb + 1) W1 (.slice ax ts.length cx) ts) := by rw [← hW1]; exact HAcc.out.keep (Same.setCell (Same.setCell (Same.refl _ _) (by simp) _) (by simp) _)
        have HE1 : Hid (Ext w W1) := by rw [← hW1]; exact (HE.out.setCell hrb1 _).setCell hrb1 _
        have hz1 : W1.heap.size = wr.heap.size := by rw [← hW1]; simp [World.setCell]
        rw [hW1]
        have hz2 : wr.heap.size ≤ W1.heap.size := by omega
        clear hW1 ck cf hz1 hdc1
        refine (kv_ok s 255 hs 16 (by omega) rb q 0 1 W1 (by omega) hq HB1.out).mono ?_
        rw [if_pos rfl, HY.out]
        rintro e w2 ⟨t2, v2, q2, c2, rfl, hv2, ⟨hq20, hq2⟩, hk2, g2, ho2⟩
        have HW2 : Hid (VNew W1.heap.size w2.heap.size w2 t2 v2) := hv2
        obtain ⟨k', i', s', la', ln', lc', da', dn', dc', rfl⟩ := VRep.shape (show VRep (win _ w2) t2 v2 from HW2.out)
        have HB2 := Lib.hid hk2
        have HE2 := Lib.hid (Ext.of_only HE1.out g2 hrb1)
        have HAcc2 := Lib.hid (HAcc1.out.keep (Same.only (Same.refl _ W1) (Nat.le_refl _) g2 (by omega)))
        have s2 : W1.heap.size ≤ w2.heap.size := g2.size
        have hown : ∀ g, (Value.slice ax ts.length cx).ownBlock = some g → rb + 1 ≤ g ∧ g < W1.heap.size := fun g hg => by
          obtain ⟨cs, ho, _⟩ := HAcc1.out
          exact ho.lt g hg
        have HOwn := Lib.hid hown
        clear hown hv2 hk2 g2
        have ck := blk_cell HB2.out
        have lrb2 := blk_lt HB2.out
        cases y with
        | error e0 =>
          obtain ⟨rfl, hc⟩ := ho2
          have e := HF1.out
          simp only [kdK] at e
          subst e
          have d : (c2 != 0) = true := by simpa using hc
          clear hc
          go_wp2_with fail
          refine wp_region_mix (fun W => W.heap[rb]? = some (KrCells s q2 255 c2)) [(true, 0), (true, 1), (true, 2), (true, 3)] (by kernel_rfl) (by kernel_rfl) (by kernel_rfl) (by kernel_rfl) ?hS ?_
          case hS => exact blk_alloc HB2.out _
          repeat (first | (refine wpMix_q (v := ?_) rfl rfl ?_ ?_; rotate_left; (· intro wq hSq; have cq := blk_cell hSq; go_simp; try (with_reducible rfl)); simp only [Act.put, List.setIfInBounds_toArray, List.set_cons_zero, List.set_cons_succ, List.getElem_toArray, List.getElem_cons_zero, List.getElem_cons_succ]) | (refine wpMix_u rfl rfl ?_; simp only [Act.put, List.setIfInBounds_toArray, List.set_cons_zero, List.set_cons_succ, List.getElem_toArray, List.getElem_cons_zero, List.getElem_cons_succ]))
          refine wpMix_nil ?_
          go_wp2_with fail
          go_ret2
          exact ⟨rfl, (HE2.out.alloc _).drew⟩
        | ok z =>
          obtain ⟨t', q'⟩ := z
          obtain ⟨rfl, rfl, rfl⟩ := ho2
          have hF := HF1.out
          simp only at hF
          have HF2 := Lib.hid hF
          clear hF HF1
          go_wp2_with fail
          clear ck
          refine (allowed_ok t' _ _ (VRep.ext ((Ext.refl w2).alloc _) _ _ HW2.out.rep) (HT.out.ext (HE2.out.alloc _))).mono ?_
          rintro e w3 ⟨rfl, h3⟩
          have k3 := h3.ownc
          have l3 := h3.lt
          have HB3 := Lib.hid (blk_ext (blk_alloc HB2.out _) h3)
          have HE3 := Lib.hid (HE2.out.trans h3.of_alloc)
          have HAcc3 := Lib.hid (HAcc2.out.keep (Same.of_ext h3.of_alloc))
          have HW3 := Lib.hid (HW2.out.keep (w' := w3) (Nat.le_refl _) (Nat.le_of_lt l3) (fun i h1 h2 => h3.of_alloc.below.block i h2))
          clear h3
          cases hal : allowB t'
          · have e := HF2.out
            rw [hal] at e
            simp only [Bool.false_eq_true, if_false, kdK] at e
            subst e
            clear hal
            go_wp2_with fail
            go_ret2
            exact ⟨rfl, HE3.out⟩
          have hF := HF2.out
          rw [hal, if_pos rfl] at hF
          have HF3 := Lib.hid hF
          clear hal hF HF2
          go_wp2_with (at_builtin; refine wpList_append_vacc w3 rfl _ _ rfl (rb + 1) (.slice ax ts.length cx) ts rfl HAcc3.out t' _ _ _ _ _ rfl W1.heap.size (by omega) (fun g hg => (HOwn.out g hg).2) HW3.out (by omega) (by omega) ?_)
          intro v4 w4 a4 o4 g4
          obtain ⟨ts4, hts4⟩ : ∃ l, ts ++ [t'] = l := ⟨_, rfl⟩
          have hl4 : ts4.length ≤ j + 1 := by rw [← hts4]; simp; omega
          rw [hts4] at a4 HF3
          clear hts4 k3
          have HAcc4 := Lib.hid a4
          have HB4 : Hid (w4.heap[rb]? = some (KrCells s q' 255 0)) := (g4.block rb (by simp; omega) (fun e => by have := (HOwn.out rb e.symm).1; omega)).trans ((Below.heap_alloc w3 _ rb (by omega)).trans HB3.out)
          have HE4 := Lib.hid ((HE3.out.alloc _).grown g4 (fun k hk => by have := (HOwn.out k hk).1; omega))
          clear a4 g4 o4
          obtain ⟨ax4, cx4, rfl⟩ := HAcc4.out.shape
          go_wp2_with fail
          exact ⟨⟨j + 1, q', ts4, 255, by omega, by go_num, hl4, hq2, HF3, HB4, HAcc4, HE4⟩, by simp [intOf]; omega⟩
    · have hj2 : j = ds.length := by omega
      subst hj2
      have hF := HF.out
      rw [List.drop_length] at hF
      simp only [kdsE, kdK] at hF
      by_cases hq6 : q < s.size
      · rw [if_pos hq6] at hF
        subst hF
        have d : decide (q < s.size) = true := by simpa using hq6
        go_wp2_with fail
        go_ret2
        exact ⟨rfl, HE.out⟩
      · rw [if_neg hq6] at hF
        subst hF
        have d : decide (q < s.size) = false := by simpa using hq6
        obtain ⟨a', c', ha', h1, h2, h3⟩ := HAcc.out.lrep (Nat.le_refl _)
        injection ha' with ha1 ha2 ha3
        subst ha1 ha3
        have HLR := Lib.hid (LRep.sub (fun _ _ hc => (win_some hc).2) _ _ _ h3)
        clear h3
        go_wp2_with fail
        go_ret2
        exact ⟨ax, cx, rfl, h1, h2, HLR.out, HE.out⟩
end Go.Proofs.YtipphlhaaienpaaDoor
