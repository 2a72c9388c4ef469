/- KeyencDecode: for every input the law returns true: Decode agrees with the reference (the card, tied to the program's text). -/
import Derived.Test.YtipphlhaaienpaaDoorKOx
import Derived.Test.YtipphlhaaienpaaDoorTrd
import Derived.Test.YtipphlhaaienpaaDoorKE
import Derived.Test.YtipphlhaaienpaaDoorStr
import Derived.Test.YtipphlhaaienpaaDoorR1e
import Derived.Test.YtipphlhaaienpaaDoorKI
import Derived.Test.YtipphlhaaienpaaDoorD0
import Derived.Test.YtipphlhaaienpaaDoorTab
set_option linter.unusedSimpArgs false
set_option linter.unusedVariables false
namespace Go.Proofs.YtipphlhaaienpaaDoor
open Go.ChangeShapes Go.WideShapes Go.ChangeAt Go.RowKit
section
variable {H : Type} {enc : TypeId × Value → H} {w : World}
theorem cellsBool : Tryd.prog.cellsOf 4 = 1 := by kernel_rfl
theorem brep_arg {v : Value} {d : DataW H} {ps : List MemPlace} {base : Nat} (hval : Value.okWide Tryd.prog w .any base 23 v) (h : DataW.Trod enc Tryd.prog w 0 (fun _ => true) true 23 v d ps) : ∃ (a : Option Addr) (ds : List Bool) (c : Nat), v = .slice a ds.length c ∧ ds.length ≤ c ∧ c ≤ maxLen ∧ BRep w a ds := by
  obtain ⟨fuel, hf⟩ := h
  obtain ⟨a0, len0, cap0, rfl⟩ := okWide_slice Tryd.underlying23 hval
  rcases DataW.trod_slice Tryd.underlying23 hf with ⟨e, _⟩ | ⟨a, len, cap, elems, rest, m, rfl, e, -, -, hlc, hcm, hel, hat, -, -⟩
  · simp only [Value.cells, List.cons.injEq, and_true] at e
    exact ⟨none, [], 0, e, by simp, by unfold maxLen; omega, fun j d hj => by simp at hj⟩
  · simp only [Value.cells, List.cons.injEq, and_true] at e
    rw [e]
    simp only [cellsBool, Nat.mul_one] at hat
    have each : ∀ j, j < len → ∃ b : Bool, w.cell? (a.add j) = some (.bool b) := by
      intro j hj
      obtain ⟨cs', y, hc, hy⟩ := bind_some (by omega) (hat j hj)
      obtain ⟨b, rfl, _⟩ := DataW.trod_bool Tryd.underlying4 hy
      refine ⟨b, ?_⟩
      have := (World.cells?_some hc).2.2 0 (by simp)
      have h0 : ∀ x : Addr, x.add 0 = x := fun x => by unfold Addr.add; simp
      rw [h0] at this
      rw [this]; rfl
    cases len with
    | zero => exact ⟨some a, [], cap, rfl, by simp, hcm, fun j d hj => by simp at hj⟩
    | succ len =>
      have ha : a = ⟨a.block, a.off, none⟩ := by
        obtain ⟨b, hc⟩ := each 0 (by omega)
        have h0 : a.add 0 = a := by unfold Addr.add; simp
        rw [h0] at hc
        exact spot_none hc
      obtain ⟨bl, off, sp⟩ := a
      simp only [Addr.mk.injEq, true_and] at ha
      subst ha
      have hex : ∀ n, n ≤ len + 1 → ∃ ds : List Bool, ds.length = n ∧ ∀ j d, ds[j]? = some d → w.cell? ⟨bl, off + j, none⟩ = some (.bool d) := by
        intro n
        induction n with
        | zero => intro _; exact ⟨[], rfl, fun j d hj => by simp at hj⟩
        | succ n ih =>
          intro hn
          obtain ⟨ds, h1, h2⟩ := ih (by omega)
          obtain ⟨b, hb⟩ := each n (by omega)
          rw [add_plain2] at hb
          refine ⟨ds ++ [b], by simp [h1], fun j d hj => ?_⟩
          by_cases hjn : j < ds.length
          · rw [List.getElem?_append_left hjn] at hj; exact h2 j d hj
          · have hjn2 : j = n := by
              have := (List.getElem?_eq_some_iff.1 hj).1
              simp at this; omega
            subst hjn2
            rw [List.getElem?_append_right (by omega), h1, Nat.sub_self] at hj
            injection hj with hj; subst hj; exact hb
      obtain ⟨ds, h1, h2⟩ := hex (len + 1) (Nat.le_refl _)
      exact ⟨some ⟨bl, off, none⟩, ds, cap, by rw [h1], by omega, hcm, fun j d hj => ⟨bl, off, rfl, h2 j d hj⟩⟩
end
set_option maxRecDepth 20000 in
set_option maxHeartbeats 2000000 in
theorem only_walk (s : ByteArray) (ds : List Bool) (da : Option Addr) (dc : Nat) (w : World) (hs : s.size ≤ maxLen) (hD : BRep w da ds) (hd1 : ds.length ≤ dc) (hd2 : dc ≤ maxLen) (hT : Tabs w) : Calls Tryd.prog 6 #[.string s, .slice da ds.length dc] w fun e w' => e = .returned (.bool true) ∧ Ext w w' := by
  have HT := Lib.hid hT
  have HD := Lib.hid hD
  have HM := Lib.hid hd2
  clear hT hD
  unfold maxLen at hs hd2
  by_cases h2 : 20000 < s.size
  · have d : decide (20000 < (s.size : Int)) = true := by simp; omega
    go_enter Tryd.func6, Tryd.ntmps6
    go_wp2_with fail
    refine (awake_ok _ HT.out).mono ?_
    rintro e w2 ⟨rfl, h2⟩
    go_wp2_with fail
    go_ret
    exact ⟨rfl, h2⟩
  have d : decide (20000 < (s.size : Int)) = false := by simp; omega
  by_cases h4 : 40 < ds.length
  · have d4 : decide (40 < (ds.length : Int)) = true := by simp; omega
    go_enter Tryd.func6, Tryd.ntmps6
    go_wp2_with fail
    refine (awake_ok _ HT.out).mono ?_
    rintro e w2 ⟨rfl, h2⟩
    go_wp2_with fail
    go_ret
    exact ⟨rfl, h2⟩
  have d4 : decide (40 < (ds.length : Int)) = false := by simp; omega
  obtain ⟨r, hr⟩ : ∃ r, kdecE s ds = r := ⟨_, rfl⟩
  have HR := Lib.hid hr
  have HO := Lib.hid (fun ts (h : r = .ok ts) => kdec_only (hr.trans h))
  have HZ := Lib.hid (fun c (h : r = .error c) => kdec_err (hr.trans h))
  clear hr
  go_enter Tryd.func6, Tryd.ntmps6
  go_wp2_with fail
  refine (Decode_ok s ds da dc _ (by omega) HD.out hd1 HM.out (by omega) HT.out).mono ?_
  rw [HR.out]
  cases r with
  | error c =>
    rintro e w1 ⟨rfl, h1⟩
    have HE1 := Lib.hid h1
    have hc := HZ.out c rfl
    have d1 : (c != 0) = true := by simpa using hc
    clear h1 hc
    go_wp2_with fail
    refine (awake_ok _ (HT.out.ext HE1.out)).mono ?_
    rintro e w2 ⟨rfl, h2⟩
    go_wp2_with fail
    go_ret
    exact ⟨rfl, HE1.out.trans h2⟩
  | ok ts =>
    rintro e w1 ⟨a, c, rfl, hc1, hc2, hL, h1⟩
    have HE1 := Lib.hid h1
    have HL := Lib.hid hL
    obtain ⟨hlen, henc⟩ := HO.out ts rfl
    have HEn := Lib.hid henc
    have HLe := Lib.hid hlen
    have h40 : ts.length ≤ 40 := by omega
    have d5 : ((ts.length : Int) == (ds.length : Int)) = true := by simp; omega
    have d6 : (ts.length == ds.length) = true := by simpa using hlen
    clear h1 hL henc hlen
    go_wp2_with fail
    refine (Encode_ok ts ds a da c dc _ HL.out hc1 hc2 (HD.out.ext HE1.out) hd1 HM.out h40 (HT.out.ext HE1.out)).mono ?_
    rw [HEn.out]
    rintro e w2 ⟨rfl, h2⟩
    have HE2 := Lib.hid (HE1.out.trans h2)
    clear h2
    go_wp2_with fail
    refine (awake_ok _ (HT.out.ext HE2.out)).mono ?_
    rintro e w3 ⟨rfl, h3⟩
    go_wp2_with fail
    go_ret
    exact ⟨rfl, HE2.out.trans h3⟩
end Go.Proofs.YtipphlhaaienpaaDoor
set_option linter.unusedSimpArgs false
set_option linter.unusedVariables false
namespace Go.Proofs.YtipphlhaaienpaaDoor
open Go.RowKit
mutual
/-- names and fields go together, integers are integers -/
def Tr.Ok : Tr → Prop | .mk _ i _ l ns ds => ns.length = ds.length ∧ I64 i ∧ Tr.OkL l ∧ Tr.OkL ds
def Tr.OkL : List Tr → Prop | [] => True | t :: r => Tr.Ok t ∧ Tr.OkL r
end
mutual
theorem VRep.trok {w : World} : ∀ (t : Tr) (v : Value), VRep w t v → t.Ok
  | .mk k i s l ns ds, v, hv => by
    unfold VRep at hv
    unfold Tr.Ok
    obtain ⟨la, lc, da, dc, h1, h2, h3, h4, h5, h6, h7, h8, h9⟩ := hv
    exact ⟨h7, h2.2.2, LRep.trok la 0 l h8, DRep.trok da 0 ns ds h9⟩
theorem LRep.trok {w : World} (a : Option Addr) : ∀ (o : Nat) (l : List Tr), LRep w a o l → Tr.OkL l
  | _, [], _ => by unfold Tr.OkL; trivial
  | o, t :: r, hl => by
    unfold LRep at hl
    unfold Tr.OkL
    obtain ⟨⟨b, off, c0, c1, c2, c3, c4, h0, h1, h2, h3, h4, h5, h6⟩, hr⟩ := hl
    exact ⟨VRep.trok t _ h6, LRep.trok a (o + 5) r hr⟩
theorem DRep.trok {w : World} (a : Option Addr) : ∀ (o : Nat) (ns : List ByteArray) (l : List Tr), DRep w a o ns l → Tr.OkL l
  | _, _, [], _ => by unfold Tr.OkL; trivial
  | _, [], _ :: _, hl => by unfold DRep at hl; exact hl.elim
  | o, n :: nr, t :: r, hl => by
    unfold DRep at hl
    unfold Tr.OkL
    obtain ⟨⟨b, off, c0, c1, c2, c3, c4, h0, hn, h1, h2, h3, h4, h5, h6, h7⟩, hr⟩ := hl
    exact ⟨VRep.trok t _ h7, DRep.trok a (o + 6) nr r hr⟩
end
theorem Tr.OkL_mem {l : List Tr} (h : Tr.OkL l) : ∀ t ∈ l, t.Ok := by
  induction l with
  | nil => intro t ht; cases ht
  | cons x r ih =>
    unfold Tr.OkL at h
    intro t ht
    rcases List.mem_cons.1 ht with rfl | ht
    · exact h.1
    · exact ih h.2 t ht

theorem depL_mem {l : List Tr} {t : Tr} (h : t ∈ l) : t.dep ≤ Tr.depL l := by
  induction l with
  | nil => cases h
  | cons x r ih =>
    simp only [Tr.depL]
    rcases List.mem_cons.1 h with rfl | h
    · omega
    · have := ih h; omega
theorem Lies.len {s : ByteArray} {fl : UInt8} {p q : Nat} {l : List UInt8} (h : Lies s fl p q l) : q = p + l.length := by
  have := congrArg List.length h.2.2
  have h1 := h.1
  have h2 := h.2.1
  unfold seg at this
  simp only [List.length_take, List.length_drop, List.length_map] at this
  have hs : s.data.toList.length = s.size := by simp
  omega
theorem seg_len (s : ByteArray) {p q : Nat} (h1 : p ≤ q) (h2 : q ≤ s.size) : (seg s p q).length = q - p := by
  have hs : s.data.toList.length = s.size := by simp
  unfold seg
  simp only [List.length_take, List.length_drop]
  omega
theorem Lies.split {s : ByteArray} {fl : UInt8} {p r : Nat} {l m : List UInt8} (h : Lies s fl p r (l ++ m)) : ∃ q, Lies s fl p q l ∧ Lies s fl q r m := by
  have hl := h.len
  rw [List.length_append] at hl
  have h1 := h.2.1
  refine ⟨p + l.length, ?_⟩
  have e := h.2.2
  rw [← seg_trans s (show p ≤ p + l.length by omega) (show p + l.length ≤ r by omega), List.map_append] at e
  have h3 := List.append_inj e (by rw [seg_len s (by omega) (by omega), List.length_map]; omega)
  exact ⟨⟨by omega, by omega, h3.1⟩, ⟨by omega, by omega, h3.2⟩⟩
theorem Lies.next {s : ByteArray} {fl : UInt8} {p q : Nat} {b : UInt8} (h : Lies s fl p q [b]) : nextE s fl p = .ok (b, q) := by
  have hl := h.len
  simp only [List.length_cons, List.length_nil] at hl
  have h1 := h.2.1
  have hs : s.data.toList.length = s.size := by simp
  unfold nextE
  rw [if_pos (by omega)]
  have e := h.2.2
  unfold seg at e
  rw [show q - p = 1 by omega, List.drop_eq_getElem_cons (by omega)] at e
  simp only [List.take_succ_cons, List.take_zero, List.map_cons, List.map_nil, List.cons.injEq, and_true] at e
  have hk : kbyte s p = b ^^^ fl := by
    unfold kbyte
    rw [List.getD_eq_getElem?_getD, List.getElem?_eq_getElem (by omega)]; exact e
  rw [hk, xor_back, hl]
theorem num_back {s : ByteArray} {fl : UInt8} : ∀ (bs : List UInt8) (p q u : Nat), Lies s fl p q bs → numN s fl bs.length p u = .ok (bs.foldl (fun a b => a * 256 + b.toNat) u, q)
  | [], p, q, u, h => by have := h.len; simp at this; subst this; rfl
  | b :: bs, p, q, u, h => by
    obtain ⟨q1, h1, h2⟩ := Lies.split (l := [b]) (m := bs) h
    simp only [List.length_cons, numN, h1.next, List.foldl_cons]
    exact num_back bs q1 q _ h2
theorem num8_fold (u : Nat) (h : u < 18446744073709551616) : (num8 u).foldl (fun a b => a * 256 + b.toNat) 0 = u := by
  simp only [num8, List.foldl_cons, List.foldl_nil, UInt8.toNat_ofNat']
  omega
theorem text_back {s : ByteArray} {fl : UInt8} : ∀ (m : List UInt8) (n p q : Nat) (acc : List UInt8), m.length < n → Lies s fl p q (esc m ++ [0, 0]) → textE s fl n p acc = .ok (acc ++ m, q)
  | [], n, p, q, acc, hn, h => by
    obtain ⟨n, rfl⟩ : ∃ k, n = k + 1 := ⟨n - 1, by omega⟩
    simp only [esc, List.nil_append] at h
    obtain ⟨q1, h1, h2⟩ := Lies.split (l := [0]) (m := [0]) h
    simp [textE, h1.next, h2.next]
  | c :: m, n, p, q, acc, hn, h => by
    obtain ⟨n, rfl⟩ : ∃ k, n = k + 1 := ⟨n - 1, by simp at hn; omega⟩
    simp only [esc, List.append_assoc] at h
    by_cases hc : c = 0
    · subst hc
      simp only [escC, if_pos rfl] at h
      obtain ⟨q1, h1, h2⟩ := Lies.split (l := [0]) (m := 255 :: (esc m ++ [0, 0])) h
      obtain ⟨q2, h3, h4⟩ := Lies.split (l := [255]) (m := esc m ++ [0, 0]) h2
      have := text_back m n q2 q (acc ++ [0]) (by simp at hn; omega) h4
      simp only [textE, h1.next, h3.next]
      rw [if_neg (by simp), if_neg (by decide), if_neg (by simp), this]; simp
    · simp only [escC, if_neg hc] at h
      obtain ⟨q1, h1, h2⟩ := Lies.split (l := [c]) (m := esc m ++ [0, 0]) h
      have := text_back m n q1 q (acc ++ [c]) (by simp at hn; omega) h2
      simp only [textE, h1.next]
      rw [if_pos hc, this]; simp
theorem name_back {s : ByteArray} {fl : UInt8} : ∀ (m : List UInt8) (n p q : Nat) (acc : List UInt8), m.length < n → (∀ c ∈ m, c ≠ 0) → Lies s fl p q (m ++ [0]) → nameE s fl n p acc = .ok (acc ++ m, q)
  | [], n, p, q, acc, hn, _, h => by
    obtain ⟨n, rfl⟩ : ∃ k, n = k + 1 := ⟨n - 1, by omega⟩
    simp only [List.nil_append] at h
    simp [nameE, h.next]
  | c :: m, n, p, q, acc, hn, hc, h => by
    obtain ⟨n, rfl⟩ : ∃ k, n = k + 1 := ⟨n - 1, by simp at hn; omega⟩
    obtain ⟨q1, h1, h2⟩ := Lies.split (l := [c]) (m := m ++ [0]) h
    have := name_back m n q1 q (acc ++ [c]) (by simp at hn; omega) (fun x hx => hc x (by simp [hx])) h2
    simp only [nameE, h1.next]
    rw [if_neg (hc c (by simp)), this]; simp
theorem more_back {s : ByteArray} {fl : UInt8} {p q : Nat} (b : Bool) (h : Lies s fl p q [if b then 1 else 0]) : moreE s fl p = .ok (b, q) := by
  unfold moreE
  rw [h.next]
  cases b <;> simp [moreK]
theorem list_back {s : ByteArray} {fl : UInt8} {f : Nat → Except Int (Tr × Nat)} : ∀ (l : List Tr) (n p q : Nat) (acc : List Tr), l.length < n → (∀ t ∈ l, ∀ p q, Lies s fl p q (kenc t) → f p = .ok (t, q)) → Lies s fl p q (kencL l ++ [0]) → klistE s fl f n p acc = .ok (acc ++ l, q)
  | [], n, p, q, acc, hn, _, h => by
    obtain ⟨n, rfl⟩ : ∃ k, n = k + 1 := ⟨n - 1, by omega⟩
    simp only [kencL, List.nil_append] at h
    simp [klistE, more_back false h]
  | t :: l, n, p, q, acc, hn, hf, h => by
    obtain ⟨n, rfl⟩ : ∃ k, n = k + 1 := ⟨n - 1, by simp at hn; omega⟩
    simp only [kencL, List.append_assoc] at h
    obtain ⟨q1, h1, h2⟩ := Lies.split h
    obtain ⟨q2, h3, h4⟩ := Lies.split h2
    have := list_back l n q2 q (acc ++ [t]) (by simp at hn; omega) (fun x hx => hf x (by simp [hx])) h4
    simp only [klistE, more_back true h1, hf t (by simp) q1 q2 h3]
    rw [this]; simp
theorem doc_back {s : ByteArray} {fl : UInt8} {f : Nat → Except Int (Tr × Nat)} : ∀ (ns : List ByteArray) (ds : List Tr) (n p q : Nat) (an : List ByteArray) (ad : List Tr), ns.length = ds.length → ds.length < n → (∀ m ∈ ns, ∀ c ∈ m.data.toList, c ≠ 0) → (∀ t ∈ ds, ∀ p q, Lies s fl p q (kenc t) → f p = .ok (t, q)) → Lies s fl p q (kencF ns ds ++ [0]) → kdocE s fl f n p an ad = .ok ((an ++ ns, ad ++ ds), q)
  | [], [], n, p, q, an, ad, _, hn, _, _, h => by
    obtain ⟨n, rfl⟩ : ∃ k, n = k + 1 := ⟨n - 1, by omega⟩
    simp only [kencF, List.nil_append] at h
    simp [kdocE, more_back false h]
  | [], _ :: _, _, _, _, _, _, hl, _, _, _, _ => by simp at hl
  | _ :: _, [], _, _, _, _, _, hl, _, _, _, _ => by simp at hl
  | m :: ns, t :: ds, n, p, q, an, ad, hl, hn, hm, hf, h => by
    obtain ⟨n, rfl⟩ : ∃ k, n = k + 1 := ⟨n - 1, by simp at hn; omega⟩
    simp only [kencF, List.append_assoc] at h
    obtain ⟨q1, h1, h2⟩ := Lies.split h
    rw [← List.append_assoc m.data.toList] at h2
    obtain ⟨q2, h3, h4⟩ := Lies.split h2
    obtain ⟨q3, h5, h6⟩ := Lies.split h4
    have hsz : m.data.toList.length < s.size + 1 := by
      have h9 := h3.len; have h10 := h3.2.1; simp only [List.length_append] at h9; omega
    have hnm := name_back m.data.toList (s.size + 1) q1 q2 [] hsz (hm m (by simp)) h3
    have := doc_back ns ds n q3 q (an ++ [⟨m.data.toList.toArray⟩]) (ad ++ [t]) (by simpa using hl) (by simp at hn; omega) (fun x hx => hm x (by simp [hx])) (fun x hx => hf x (by simp [hx])) h6
    have em : (⟨m.data.toList.toArray⟩ : ByteArray) = m := by cases m; simp
    simp only [kdocE, more_back true h1, hnm, List.nil_append, hf t (by simp) q2 q3 h5]
    rw [this, em]; simp
theorem nameB_nz {n : ByteArray} (h : nameB n = true) : ∀ c ∈ n.data.toList, c ≠ 0 := by
  intro c hc e
  subst e
  unfold nameB nameL at h
  split at h
  · cases h
  · simp only [Bool.and_eq_true, List.all_eq_true] at h
    have := h.2 0 (by assumption)
    revert this; decide
theorem head_parts {k i : Int} {s : ByteArray} {nl nd : Nat} (h : headOk k i s nl nd = true) : (k ≠ 3 → k ≠ 9 → k ≠ 10 → i = 0) ∧ (k ≠ 4 → k ≠ 7 → k ≠ 8 → s.size = 0) ∧ (k ≠ 6 → nl = 0) ∧ (k ≠ 5 → nd = 0) := by
  unfold headOk at h
  simp only [Bool.and_eq_true, Bool.or_eq_true, beq_iff_eq, decide_eq_true_eq] at h
  obtain ⟨⟨⟨h1, h2⟩, h3⟩, h4⟩ := h
  refine ⟨fun a b c => ?_, fun a b c => ?_, fun a => ?_, fun a => ?_⟩
  · rcases h1 with ((h | h) | h) | h <;> first | exact absurd h (by assumption) | exact h
  · rcases h2 with ((h | h) | h) | h <;> first | exact absurd h (by assumption) | exact h
  · rcases h3 with h | h <;> first | exact absurd h (by assumption) | exact h
  · rcases h4 with h | h <;> first | exact absurd h (by assumption) | exact h
theorem kv_back (s : ByteArray) (fl : UInt8) : ∀ (d : Nat) (t : Tr), t.Ok → snd t = true → t.dep ≤ d → ∀ p q, Lies s fl p q (kenc t) → kvE s fl d p = .ok (t, q) := by
  intro d
  induction d with
  | zero => intro t _ _ hd; have := t.dep_pos; omega
  | succ d ih =>
    intro t hO hsd hd p q h
    obtain ⟨k, i, x, l, ns, ds⟩ := t
    obtain ⟨h1, h2, h3, h4⟩ := snd_list hsd
    unfold Tr.Ok at hO
    obtain ⟨hln, hi, hOl, hOd⟩ := hO
    obtain ⟨p1, p2, p3, p4⟩ := head_parts h1
    have hk : 1 ≤ k ∧ k ≤ 11 := by
      unfold leafOk at h2
      by_cases c1 : k = 1 ∨ k = 2 ∨ k = 11 ∨ k = 3
      · omega
      rw [if_neg c1] at h2
      by_cases c2 : k = 9
      · omega
      rw [if_neg c2] at h2
      by_cases c3 : k = 10
      · omega
      rw [if_neg c3] at h2
      by_cases c4 : k = 4
      · omega
      rw [if_neg c4] at h2
      by_cases c5 : k = 7
      · omega
      rw [if_neg c5] at h2
      by_cases c6 : k = 8
      · omega
      rw [if_neg c6] at h2
      simp at h2; omega
    obtain ⟨m, rfl⟩ : ∃ m : Nat, k = m := Int.eq_ofNat_of_zero_le (by omega)
    simp only [kenc, Int.toNat_natCast] at h
    obtain ⟨q1, hn, hr⟩ := Lies.split h
    have hb : (UInt8.ofNat m).toNat = m := by rw [UInt8.toNat_ofNat']; omega
    simp only [kvE, hn.next, hb, kvK]
    rw [if_neg (by omega)]
    have hnil : ∀ (h5 : (m : Int) ≠ 5), ns = [] ∧ ds = [] := fun h5 => by
      have := p4 h5
      exact ⟨List.eq_nil_of_length_eq_zero (by omega), List.eq_nil_of_length_eq_zero this⟩
    by_cases c3 : m = 3 ∨ m = 9 ∨ m = 10
    · rw [if_pos (by omega)] at hr
      rw [if_pos c3]
      have hu := uOf_lt i hi
      have := num_back (num8 (uOf i)) q1 q 0 hr
      rw [num8_fold _ hu, show (num8 (uOf i)).length = 8 from rfl] at this
      rw [this]
      obtain ⟨rfl, rfl⟩ := hnil (by omega)
      obtain rfl : l = [] := List.eq_nil_of_length_eq_zero (p3 (by omega))
      obtain rfl := bytes_nil (p2 (by omega) (by omega) (by omega))
      have e : ((uOf i : Nat) : Int) - 9223372036854775808 = i := by unfold I64 at hi; unfold uOf; omega
      simp only [numT, kLeaf, e]
    rw [if_neg (by omega)] at hr
    rw [if_neg c3]
    by_cases c4 : m = 4 ∨ m = 7 ∨ m = 8
    · rw [if_pos (by omega)] at hr
      rw [if_pos c4]
      have hsz : x.data.toList.length < s.size + 1 := by
        have h9 := hr.len; have := hr.2.1
        simp only [List.length_append] at h9
        have : x.data.toList.length ≤ (esc x.data.toList).length := by
          have : ∀ l : List UInt8, l.length ≤ (esc l).length := fun l => by
            induction l with
            | nil => simp [esc]
            | cons c r ih => simp only [esc, List.length_append, List.length_cons, escC]; split <;> simp <;> omega
          exact this _
        omega
      have := text_back x.data.toList (s.size + 1) q1 q [] hsz hr
      rw [this]
      obtain ⟨rfl, rfl⟩ := hnil (by omega)
      obtain rfl : l = [] := List.eq_nil_of_length_eq_zero (p3 (by omega))
      have hi0 : i = 0 := p1 (by omega) (by omega) (by omega)
      subst hi0
      have em : (⟨x.data.toList.toArray⟩ : ByteArray) = x := by cases x; simp
      simp only [textT, kLeaf, List.nil_append, em]
    rw [if_neg (by omega)] at hr
    rw [if_neg c4]
    have hi0 : i = 0 := p1 (by omega) (by omega) (by omega)
    subst hi0
    obtain rfl := bytes_nil (p2 (by omega) (by omega) (by omega))
    have hdep : (Tr.mk (m : Int) 0 ⟨#[]⟩ l ns ds).dep ≤ d + 1 := hd
    by_cases c6 : m = 6
    · subst c6
      rw [if_pos (by rfl)] at hr
      rw [if_pos rfl]
      obtain ⟨rfl, rfl⟩ := hnil (by decide)
      have hdl : Tr.depL l ≤ d := by simp only [Tr.dep] at hdep; rw [if_pos (by rfl)] at hdep; omega
      have hsz : l.length < s.size + 1 := by
        have h9 := hr.len; have := hr.2.1; have := kencL_len l
        simp only [List.length_append] at h9; omega
      rw [list_back l (s.size + 1) q1 q [] hsz (fun t ht p q hL => ih t (Tr.OkL_mem hOl t ht) (sndL_mem h3 t ht) (Nat.le_trans (depL_mem ht) hdl) p q hL) hr]
      simp [listT]
    rw [if_neg (by omega)] at hr
    rw [if_neg c6]
    obtain rfl : l = [] := List.eq_nil_of_length_eq_zero (p3 (by omega))
    by_cases c5 : m = 5
    · subst c5
      rw [if_pos (by rfl)] at hr
      rw [if_pos rfl]
      have hdl : Tr.depL ds ≤ d := by simp only [Tr.dep] at hdep; rw [if_neg (by decide), if_pos (by rfl)] at hdep; omega
      have hsz : ds.length < s.size + 1 := by
        have h9 := hr.len; have := hr.2.1; have := kencF_len ns ds hln
        simp only [List.length_append] at h9; omega
      rw [doc_back ns ds (s.size + 1) q1 q [] [] hln hsz (fun n hn => nameB_nz (sndF_names h4 hln n hn)) (fun t ht p q hL => ih t (Tr.OkL_mem hOd t ht) (sndF_mem h4 t ht) (Nat.le_trans (depL_mem ht) hdl) p q hL) hr]
      simp [docT]
    rw [if_neg (by omega)] at hr
    rw [if_neg c5]
    obtain ⟨rfl, rfl⟩ := hnil (by omega)
    have := hr.len
    simp only [List.length_nil, Nat.add_zero] at this
    rw [← this]; rfl
theorem kvA_back (s : ByteArray) (fl : UInt8) (t : Tr) (hO : t.Ok) (ha : allowB t = true) (p q : Nat) (h : Lies s fl p q (kenc t)) : kvE s fl 16 p = .ok (t, q) := by
  by_cases hk : t.kind = 0
  · unfold allowB at ha
    rw [if_pos hk] at ha
    obtain ⟨k, i, x, l, ns, ds⟩ := t
    have hk' : k = 0 := hk
    subst hk'
    unfold zeroB at ha
    simp only [Bool.and_eq_true, decide_eq_true_eq] at ha
    obtain ⟨⟨⟨a1, a2⟩, a3⟩, a4⟩ := ha
    unfold Tr.Ok at hO
    have a1' : i = 0 := a1
    have a2' : x.size = 0 := a2
    have a3' : l.length = 0 := a3
    have a4' : ds.length = 0 := a4
    subst a1'
    obtain rfl := bytes_nil a2'
    obtain rfl : l = [] := List.eq_nil_of_length_eq_zero a3'
    obtain rfl : ds = [] := List.eq_nil_of_length_eq_zero a4'
    obtain rfl : ns = [] := List.eq_nil_of_length_eq_zero (by have := hO.1; simpa using this)
    have e : kenc (.mk 0 0 ⟨#[]⟩ [] [] []) = [0] := by simp [kenc]
    rw [e] at h
    simp only [kvE, h.next]
    rfl
  · unfold allowB at ha
    rw [if_neg hk] at ha
    simp only [validB, Bool.and_eq_true, decide_eq_true_eq] at ha
    exact kv_back s fl 16 t hO ha.2 ha.1.2 p q h
theorem kds_back (s : ByteArray) : ∀ (ts : List Tr) (ds : List Bool) (p : Nat) (acc : List Tr), ts.length = ds.length → (∀ t ∈ ts, t.Ok ∧ allowB t = true) → p ≤ s.size → seg s p s.size = kencs ts ds → kdsE s ds p acc = .ok (acc ++ ts, s.size)
  | [], [], p, acc, _, _, hp, h => by
    have := congrArg List.length h
    rw [seg_len s hp (Nat.le_refl _)] at this
    simp only [kencs, List.length_nil] at this
    have : p = s.size := by omega
    subst this; simp [kdsE]
  | [], _ :: _, _, _, hl, _, _, _ => by simp at hl
  | _ :: _, [], _, _, hl, _, _, _ => by simp at hl
  | t :: ts, d :: ds, p, acc, hl, ht, hp, h => by
    have hlen := congrArg List.length h
    rw [seg_len s hp (Nat.le_refl _)] at hlen
    simp only [kencs, List.length_append, kone_len] at hlen
    have hq : p + (kenc t).length ≤ s.size := by omega
    rw [← seg_trans s (show p ≤ p + (kenc t).length by omega) hq] at h
    have h3 := List.append_inj h (by rw [seg_len s (by omega) hq, kone_len]; omega)
    have hL : Lies s (if d then 255 else 0) p (p + (kenc t).length) (kenc t) := by
      refine ⟨by omega, hq, ?_⟩
      rw [h3.1]
      unfold kone
      cases d
      · simp
      · simp only [if_true]
        apply List.map_congr_left
        intro c _; exact flip_xor c
    obtain ⟨hO, ha⟩ := ht t (by simp)
    simp only [kdsE, kvA_back s _ t hO ha p _ hL, ha, if_true]
    rw [kds_back s ts ds (p + (kenc t).length) (acc ++ [t]) (by simpa using hl) (fun x hx => ht x (by simp [hx])) hq h3.2]; simp
theorem kdec_back (ts : List Tr) (ds : List Bool) (hl : ts.length = ds.length) (ht : ∀ t ∈ ts, t.Ok ∧ allowB t = true) : kencE ts ds = (⟨(kencs ts ds).toArray⟩, 0) ∧ kdecE ⟨(kencs ts ds).toArray⟩ ds = .ok ts := by
  constructor
  · unfold kencE
    rw [if_neg (by simpa using hl), if_pos (List.all_eq_true.2 (fun t h => (ht t h).2))]
  · unfold kdecE
    rw [kds_back _ ts ds 0 [] hl ht (by omega) (by unfold seg; exact List.take_of_length_le (by show _ ≤ (kencs ts ds).toArray.size; simp))]
    simp
end Go.Proofs.YtipphlhaaienpaaDoor
set_option linter.unusedSimpArgs false
set_option linter.unusedVariables false
namespace Go.Proofs.YtipphlhaaienpaaDoor
open Go.RowKit
def SameOk (t : Tr) : Prop := ∀ (v v' : Value) (w : World), VRep w t v → VRep w t v' → Calls Tryd.prog 30 #[v, v'] w fun e w' => e = .returned (.bool true) ∧ Ext w w'
set_option maxRecDepth 20000 in
set_option maxHeartbeats 4000000 in
theorem sameL_of (l : List Tr) (ih : ∀ t ∈ l, SameOk t) (la la' : Option Addr) (lc lc' : Nat) (w : World) (hL : LRep w la 0 l) (hL' : LRep w la' 0 l) (hl1 : l.length ≤ lc) (hl2 : lc ≤ maxLen) (hl1' : l.length ≤ lc') (hl2' : lc' ≤ maxLen) :
    Calls Tryd.prog 15 #[.slice la l.length lc, .slice la' l.length lc'] w fun e w' => e = .returned (.bool true) ∧ Ext w w' := by
  have HL := Lib.hid hL
  have HL' := Lib.hid hL'
  have HI := Lib.hid ih
  clear hL hL' ih
  unfold maxLen at hl2 hl2'
  go_enter Tryd.func15, Tryd.ntmps15
  go_wp2_with fail
  go_loopw [13] (fun c wr => ∃ j : Nat, j ≤ l.length ∧ c = .int .i64 j ∧ Hid (Ext w wr)) (fun c _ => l.length - (intOf c).toNat)
  case atStart => exact ⟨0, by omega, rfl, Ext.refl _⟩
  case round =>
    obtain ⟨j, hj, rfl, HE⟩ := hrel
    by_cases hlt : j < l.length
    · obtain ⟨b, off, c0, c1, c2, c3, c4, rfl, e0, e1, e2, e3, e4, hv⟩ := LRep.at_ l 0 j l[j] HL.out (List.getElem?_eq_getElem hlt)
      obtain ⟨b', off', x0, x1, x2, x3, x4, rfl, y0, y1, y2, y3, y4, hv'⟩ := LRep.at_ l 0 j l[j] HL'.out (List.getElem?_eq_getElem hlt)
      obtain ⟨k1, i1, s1, la1, ln1, lc1, da1, dn1, dc1, rfl, rfl, rfl, rfl, rfl⟩ := hv.shape5
      obtain ⟨k2, i2, s2, la2, ln2, lc2, da2, dn2, dc2, rfl, rfl, rfl, rfl, rfl⟩ := hv'.shape5
      have hEr := HE.out
      have q0 := hEr.keep e0
      have q1 := hEr.keep e1
      have q2 := hEr.keep e2
      have q3 := hEr.keep e3
      have q4 := hEr.keep e4
      have r0 := hEr.keep y0
      have r1 := hEr.keep y1
      have r2 := hEr.keep y2
      have r3 := hEr.keep y3
      have r4 := hEr.keep y4
      rw [Nat.zero_add] at q0 q1 q2 q3 q4 r0 r1 r2 r3 r4
      have hb1 : b < wr.heap.size := World.block_lt_of_cell? _ _ q0
      have hb2 : b' < wr.heap.size := World.block_lt_of_cell? _ _ r0
      have HV := Lib.hid (VRep.ext hEr _ _ hv)
      have HV' := Lib.hid (VRep.ext hEr _ _ hv')
      obtain ⟨p, hp⟩ : ∃ p, l[j] = p := ⟨_, rfl⟩
      have hmem : p ∈ l := by rw [← hp]; exact List.getElem_mem hlt
      rw [hp] at HV HV'
      clear e0 e1 e2 e3 e4 hv hEr y0 y1 y2 y3 y4 hv' hp
      go_wp2_with fail
      refine wp_region_mix (Ext wr) [(true, 0), (true, 1), (true, 2), (true, 3), (true, 4), (true, 5), (true, 6), (true, 7), (false, 8), (true, 9)] (by kernel_rfl) (by kernel_rfl) (by kernel_rfl) (by kernel_rfl) ?hS ?_
      case hS => exact (Ext.refl _).drew
      repeat (first | (refine wpMix_q (v := ?_) rfl rfl ?_ ?_; rotate_left; (· intro wq hSq; have cq := hSq.cells; go_simp; try (with_reducible rfl)); simp only [Act.put, List.setIfInBounds_toArray, List.set_cons_zero, List.set_cons_succ, List.getElem_toArray, List.getElem_cons_zero, List.getElem_cons_succ]) | (refine wpMix_u rfl rfl ?_; simp only [Act.put, List.setIfInBounds_toArray, List.set_cons_zero, List.set_cons_succ, List.getElem_toArray, List.getElem_cons_zero, List.getElem_cons_succ]))
      refine wpMix_l rfl rfl (fun K hK => ?_)
      go_simp
      refine (HI.out p hmem _ _ _ (VRep.ext (Ext.refl wr).drew _ _ HV.out) (VRep.ext (Ext.refl wr).drew _ _ HV'.out)).mono ?_
      rintro e w3 ⟨rfl, h3⟩
      have HE3 := Lib.hid ((Ext.refl wr).drew.trans h3)
      refine hK _ _ HE3.out ?_
      clear hK K h3
      repeat (first | (refine wpMix_q (v := ?_) rfl rfl ?_ ?_; rotate_left; (· intro wq hSq; have cq := hSq.cells; go_simp; try (with_reducible rfl)); simp only [Act.put, List.setIfInBounds_toArray, List.set_cons_zero, List.set_cons_succ, List.getElem_toArray, List.getElem_cons_zero, List.getElem_cons_succ]) | (refine wpMix_u rfl rfl ?_; simp only [Act.put, List.setIfInBounds_toArray, List.set_cons_zero, List.set_cons_succ, List.getElem_toArray, List.getElem_cons_zero, List.getElem_cons_succ]))
      refine wpMix_nil ?_
      have HE4 := Lib.hid (HE.out.trans HE3.out)
      clear q0 q1 q2 q3 q4 r0 r1 r2 r3 r4 HE3
      go_wp2_with fail
      exact ⟨⟨j + 1, by omega, by go_num, HE4⟩, by simp [intOf]; omega⟩
    · go_wp2_with fail
      go_ret
      exact ⟨rfl, HE.out⟩
set_option maxRecDepth 20000 in
set_option maxHeartbeats 4000000 in
theorem same_step (t : Tr) (ih : ∀ p, p.sz < t.sz → SameOk p) : SameOk t := by
  intro v v' w hV hV'
  obtain ⟨k, i, s, l, ns, ds⟩ := t
  have ih2 : ∀ t, t ∈ l ∨ t ∈ ds → SameOk t := fun t ht => ih t (by rcases ht with h | h; exact Tr.sz_list h; exact Tr.sz_docs h)
  unfold VRep at hV hV'
  obtain ⟨la, lc, da, dc, rfl, _, ⟨hl1, _⟩, hl2, ⟨hd1, _⟩, hd2, hnd, hL, hD⟩ := hV
  obtain ⟨la', lc', da', dc', rfl, _, ⟨hl1', _⟩, hl2', ⟨hd1', _⟩, hd2', _, hL', hD'⟩ := hV'
  have HL := Lib.hid hL
  have HD := Lib.hid hD
  have HL' := Lib.hid hL'
  have HD' := Lib.hid hD'
  have HI := Lib.hid ih2
  have HM := Lib.hid hl2
  have HM' := Lib.hid hl2'
  clear hL hD hL' hD' ih ih2
  unfold maxLen at hl2 hd2 hl2' hd2'
  go_enter Tryd.func30, Tryd.ntmps30
  go_wp2_with fail
  go_loopw [37] (fun c wr => ∃ j : Nat, j ≤ ds.length ∧ c = .int .i64 j ∧ Hid (Ext ((w.alloc (.cells #[.int .i64 k, .int .i64 i, .string s, .slice la l.length lc, .slice da ds.length dc] 41)).alloc (.cells #[.int .i64 k, .int .i64 i, .string s, .slice la' l.length lc', .slice da' ds.length dc'] 41)) wr)) (fun c _ => ds.length - (intOf c).toNat)
  case atStart => exact ⟨0, by omega, rfl, Ext.refl _⟩
  case round =>
    obtain ⟨j, hj, rfl, HE⟩ := hrel
    have ka := blk_cell (blk_ext (blk_alloc (blk_at0 w (.cells #[.int .i64 k, .int .i64 i, .string s, .slice la l.length lc, .slice da ds.length dc] 41)) _) HE.out)
    have kb := blk_cell (blk_ext (blk_at1 w _ (.cells #[.int .i64 k, .int .i64 i, .string s, .slice la' l.length lc', .slice da' ds.length dc'] 41)) HE.out)
    have hz : w.heap.size + 1 < wr.heap.size := by have := HE.out.size; simp at this; omega
    have hz0 : w.heap.size < wr.heap.size := by omega
    have HEw := Lib.hid (((Ext.refl w).alloc _).alloc _ |>.trans HE.out)
    by_cases hlt : j < ds.length
    · obtain ⟨b, off, c0, c1, c2, c3, c4, rfl, hnm, en, e0, e1, e2, e3, e4, hv⟩ := DRep.at_ ns ds 0 j (ns[j]'(by omega)) ds[j] HD.out (List.getElem?_eq_getElem (by omega)) (List.getElem?_eq_getElem hlt)
      obtain ⟨b', off', x0, x1, x2, x3, x4, rfl, _, yn, y0, y1, y2, y3, y4, hv'⟩ := DRep.at_ ns ds 0 j (ns[j]'(by omega)) ds[j] HD'.out (List.getElem?_eq_getElem (by omega)) (List.getElem?_eq_getElem hlt)
      obtain ⟨k1, i1, s1, la1, ln1, lc1, da1, dn1, dc1, rfl, rfl, rfl, rfl, rfl⟩ := hv.shape5
      obtain ⟨k2, i2, s2, la2, ln2, lc2, da2, dn2, dc2, rfl, rfl, rfl, rfl, rfl⟩ := hv'.shape5
      have hEr := HEw.out
      have qn := hEr.keep en
      have q0 := hEr.keep e0
      have q1 := hEr.keep e1
      have q2 := hEr.keep e2
      have q3 := hEr.keep e3
      have q4 := hEr.keep e4
      have rn := hEr.keep yn
      have r0 := hEr.keep y0
      have r1 := hEr.keep y1
      have r2 := hEr.keep y2
      have r3 := hEr.keep y3
      have r4 := hEr.keep y4
      rw [Nat.zero_add] at qn q0 q1 q2 q3 q4 rn r0 r1 r2 r3 r4
      have hb1 : b < wr.heap.size := World.block_lt_of_cell? _ _ q0
      have hb2 : b' < wr.heap.size := World.block_lt_of_cell? _ _ r0
      have HV := Lib.hid (VRep.ext hEr _ _ hv)
      have HV' := Lib.hid (VRep.ext hEr _ _ hv')
      obtain ⟨p, hp⟩ : ∃ p, ds[j] = p := ⟨_, rfl⟩
      obtain ⟨nm, hn⟩ : ∃ n, ns[j]'(by omega) = n := ⟨_, rfl⟩
      have hmem : p ∈ ds := by rw [← hp]; exact List.getElem_mem hlt
      rw [hp] at HV HV'
      rw [hn] at qn rn
      clear en e0 e1 e2 e3 e4 hv hEr yn y0 y1 y2 y3 y4 hv' hp hn
      go_wp2_with fail
      refine wp_region_mix (Ext wr) [(true, 0), (true, 1), (true, 2), (true, 3), (true, 4), (true, 5), (true, 6), (true, 7), (true, 8), (true, 9), (true, 10), (true, 11), (true, 12), (true, 13), (true, 14), (true, 15), (true, 16), (true, 17), (true, 18), (true, 19), (true, 20), (true, 21), (true, 22), (true, 23), (true, 24), (true, 25), (false, 26), (true, 27), (true, 28)] (by kernel_rfl) (by kernel_rfl) (by kernel_rfl) (by kernel_rfl) ?hS ?_
      case hS => exact (Ext.refl _).drew
      repeat (first | (refine wpMix_q (v := ?_) rfl rfl ?_ ?_; rotate_left; (· intro wq hSq; have cq := hSq.cells; go_simp; try (with_reducible rfl)); simp only [Act.put, List.setIfInBounds_toArray, List.set_cons_zero, List.set_cons_succ, List.getElem_toArray, List.getElem_cons_zero, List.getElem_cons_succ]) | (refine wpMix_u rfl rfl ?_; simp only [Act.put, List.setIfInBounds_toArray, List.set_cons_zero, List.set_cons_succ, List.getElem_toArray, List.getElem_cons_zero, List.getElem_cons_succ]))
      refine wpMix_l rfl rfl (fun K hK => ?_)
      go_simp
      refine (HI.out p (.inr hmem) _ _ _ (VRep.ext (Ext.refl wr).drew _ _ HV.out) (VRep.ext (Ext.refl wr).drew _ _ HV'.out)).mono ?_
      rintro e w3 ⟨rfl, h3⟩
      have HE3 := Lib.hid ((Ext.refl wr).drew.trans h3)
      refine hK _ _ HE3.out ?_
      clear hK K h3
      repeat (first | (refine wpMix_q (v := ?_) rfl rfl ?_ ?_; rotate_left; (· intro wq hSq; have cq := hSq.cells; go_simp; try (with_reducible rfl)); simp only [Act.put, List.setIfInBounds_toArray, List.set_cons_zero, List.set_cons_succ, List.getElem_toArray, List.getElem_cons_zero, List.getElem_cons_succ]) | (refine wpMix_u rfl rfl ?_; simp only [Act.put, List.setIfInBounds_toArray, List.set_cons_zero, List.set_cons_succ, List.getElem_toArray, List.getElem_cons_zero, List.getElem_cons_succ]))
      refine wpMix_nil ?_
      have HE4 := Lib.hid (HE.out.trans HE3.out)
      clear ka kb qn q0 q1 q2 q3 q4 rn r0 r1 r2 r3 r4 HE3
      go_wp2_with fail
      exact ⟨⟨j + 1, by omega, by go_num, HE4⟩, by simp [intOf]; omega⟩
    · go_wp2_with fail
      refine (sameL_of l (fun t ht => HI.out t (.inl ht)) la la' lc lc' _ (LRep.ext HEw.out _ _ _ HL.out) (LRep.ext HEw.out _ _ _ HL'.out) hl1 HM.out hl1' HM'.out).mono ?_
      rintro e w3 ⟨rfl, h3⟩
      go_wp2_with fail
      go_ret
      exact ⟨rfl, HEw.out.trans h3⟩
theorem same_ok (t : Tr) : SameOk t := by
  have : ∀ n (t : Tr), t.sz = n → SameOk t := by
    intro n
    induction n using Nat.strongRecOn with
    | _ n ih => intro t ht; exact same_step t (fun p hp => ih p.sz (by rw [← ht]; exact hp) p rfl)
  exact this _ t rfl
set_option maxRecDepth 20000 in
set_option maxHeartbeats 4000000 in
theorem sameZ_ok (t : Tr) (v : Value) (w : World) (hV : VRep w t v) : Calls Tryd.prog 30 #[v, .agg #[.int .i64 0, .int .i64 0, .string ⟨#[]⟩, .slice none 0 0, .slice none 0 0]] w fun e w' => e = .returned (.bool (decide (t.kind = 0) && zeroB t)) ∧ Ext w w' := by
  obtain ⟨k, i, s, l, ns, ds⟩ := t
  unfold VRep at hV
  obtain ⟨la, lc, da, dc, rfl, ⟨hs, hk, hi⟩, ⟨hl1, _⟩, hl2, ⟨hd1, _⟩, hd2, hnd, _, _⟩ := hV
  rw [zeroB_eq]
  show Calls _ _ _ _ fun e w' => e = .returned (.bool (decide (k = 0) && _)) ∧ Ext w w'
  obtain ⟨r, hr⟩ : ∃ r, (decide (k = 0) && (decide (i = 0) && decide (s.size = 0) && decide (l.length = 0) && decide (ds.length = 0))) = r := ⟨_, rfl⟩
  rw [hr]
  by_cases hk0 : k = 0
  case neg =>
    have hf : r = false := by rw [← hr]; simp [hk0]
    subst hf
    have d : (k != 0) = true := by simpa using hk0
    clear hr hk0
    go_enter Tryd.func30, Tryd.ntmps30
    go_wp2_with fail
    go_ret
    exact ⟨rfl, by repeat (first | with_reducible assumption | with_reducible exact Ext.refl _ | with_reducible refine Ext.drew ?_ | with_reducible refine Ext.alloc ?_ _ | ((with_reducible refine Ext.setCell ?_ ?_ _); rotate_left; (· first | exact Nat.le_refl _ | (simp; done) | omega | (simp; omega))))⟩
  subst hk0
  by_cases hi0 : i = 0
  case neg =>
    have hf : r = false := by rw [← hr]; simp [hi0]
    subst hf
    have d : (i != 0) = true := by simpa using hi0
    clear hr hi0
    go_enter Tryd.func30, Tryd.ntmps30
    go_wp2_with fail
    go_ret
    exact ⟨rfl, by repeat (first | with_reducible assumption | with_reducible exact Ext.refl _ | with_reducible refine Ext.drew ?_ | with_reducible refine Ext.alloc ?_ _ | ((with_reducible refine Ext.setCell ?_ ?_ _); rotate_left; (· first | exact Nat.le_refl _ | (simp; done) | omega | (simp; omega))))⟩
  subst hi0
  by_cases hz0 : s.size = 0
  case neg =>
    have hf : r = false := by rw [← hr]; simp [hz0]
    subst hf
    have d0 := bytes_some hz0
    clear hr hz0
    go_enter Tryd.func30, Tryd.ntmps30
    go_wp2_with fail
    go_ret
    exact ⟨rfl, by repeat (first | with_reducible assumption | with_reducible exact Ext.refl _ | with_reducible refine Ext.drew ?_ | with_reducible refine Ext.alloc ?_ _ | ((with_reducible refine Ext.setCell ?_ ?_ _); rotate_left; (· first | exact Nat.le_refl _ | (simp; done) | omega | (simp; omega))))⟩
  obtain rfl := bytes_nil hz0
  by_cases hd0 : ds.length = 0
  case neg =>
    have hf : r = false := by rw [← hr]; simp [hd0]
    subst hf
    have d0 : ((ds.length : Int) != 0) = true := by rw [bne_iff_ne]; omega
    clear hr
    go_enter Tryd.func30, Tryd.ntmps30
    go_wp2_with fail
    go_ret
    exact ⟨rfl, by repeat (first | with_reducible assumption | with_reducible exact Ext.refl _ | with_reducible refine Ext.drew ?_ | with_reducible refine Ext.alloc ?_ _ | ((with_reducible refine Ext.setCell ?_ ?_ _); rotate_left; (· first | exact Nat.le_refl _ | (simp; done) | omega | (simp; omega))))⟩
  obtain rfl : ds = [] := List.eq_nil_of_length_eq_zero hd0
  by_cases hl0 : l.length = 0
  case neg =>
    have hf : r = false := by rw [← hr]; simp [hl0]
    subst hf
    have HZ : ∀ W : World, Calls Tryd.prog 15 #[.slice la l.length lc, .slice none 0 0] W fun e w' => e = .returned (.bool false) ∧ W = w' := fun W => by
      have d0 : ((l.length : Int) != 0) = true := by rw [bne_iff_ne]; omega
      go_enter Tryd.func15, Tryd.ntmps15
      go_wp2_with fail
      go_ret
      exact ⟨rfl, rfl⟩
    have HZ2 := Lib.hid HZ
    clear hr HZ
    go_enter Tryd.func30, Tryd.ntmps30
    go_wp2_with fail
    refine wp_loop_rounds 1 ?_
    rw [rounds_succ]
    go_wp2_with fail
    refine (HZ2.out _).mono ?_
    rintro e w1 ⟨rfl, rfl⟩
    go_wp2_with fail
    go_ret
    exact ⟨rfl, by repeat (first | with_reducible assumption | with_reducible exact Ext.refl _ | with_reducible refine Ext.drew ?_ | with_reducible refine Ext.alloc ?_ _ | ((with_reducible refine Ext.setCell ?_ ?_ _); rotate_left; (· first | exact Nat.le_refl _ | (simp; done) | omega | (simp; omega))))⟩
  obtain rfl : l = [] := List.eq_nil_of_length_eq_zero hl0
  have hf : r = true := by rw [← hr]; simp [bytes_e]
  subst hf
  have HZ : ∀ W : World, Calls Tryd.prog 15 #[.slice la 0 lc, .slice none 0 0] W fun e w' => e = .returned (.bool true) ∧ W = w' := fun W => by
    go_enter Tryd.func15, Tryd.ntmps15
    go_wp2_with fail
    refine wp_loop_rounds 1 ?_
    rw [rounds_succ]
    go_wp2_with fail
    go_ret
    exact ⟨rfl, rfl⟩
  have HZ2 := Lib.hid HZ
  clear hr HZ
  go_enter Tryd.func30, Tryd.ntmps30
  go_wp2_with fail
  refine wp_loop_rounds 1 ?_
  rw [rounds_succ]
  go_wp2_with fail
  refine (HZ2.out _).mono ?_
  rintro e w1 ⟨rfl, rfl⟩
  go_wp2_with fail
  go_ret
  exact ⟨rfl, by repeat (first | with_reducible assumption | with_reducible exact Ext.refl _ | with_reducible refine Ext.drew ?_ | with_reducible refine Ext.alloc ?_ _ | ((with_reducible refine Ext.setCell ?_ ?_ _); rotate_left; (· first | exact Nat.le_refl _ | (simp; done) | omega | (simp; omega))))⟩
end Go.Proofs.YtipphlhaaienpaaDoor
set_option linter.unusedSimpArgs false
set_option linter.unusedVariables false
namespace Go.Proofs.YtipphlhaaienpaaDoor
open Go.RowKit
theorem valid_kind {t : Tr} (h : validB t = true) : t.kind ≠ 0 := by
  intro hk
  obtain ⟨k, i, s, l, ns, ds⟩ := t
  have hk' : k = 0 := hk
  subst hk'
  simp only [validB, Bool.and_eq_true] at h
  have := (snd_list h.2).2.1
  simp [leafOk] at this
theorem allow_or (t : Tr) : (validB t || (decide (t.kind = 0) && zeroB t)) = allowB t := by
  unfold allowB
  by_cases hk : t.kind = 0
  · rw [if_pos hk, decide_eq_true hk, Bool.true_and]
    cases hv : validB t
    · rfl
    · exact absurd hk (valid_kind hv)
  · rw [if_neg hk, decide_eq_false hk]; simp
/-- fits, plain -/
def fitsB (ts : List Tr) (ds : List Bool) : Bool := decide (ts.length = ds.length) && decide (ts.length ≤ 40) && ts.all allowB
set_option maxRecDepth 20000 in
set_option maxHeartbeats 4000000 in
theorem fits_ok (ts : List Tr) (ds : List Bool) (la da : Option Addr) (lc dc : Nat) (w : World) (hL : LRep w la 0 ts) (hl1 : ts.length ≤ lc) (hl2 : lc ≤ maxLen) (hd1 : ds.length ≤ dc) (hd2 : dc ≤ maxLen) :
    Calls Tryd.prog 16 #[.slice la ts.length lc, .slice da ds.length dc] w fun e w' => e = .returned (.bool (fitsB ts ds)) ∧ Ext w w' := by
  have HL := Lib.hid hL
  clear hL
  unfold maxLen at hl2 hd2
  obtain ⟨r, hr⟩ : ∃ r, fitsB ts ds = r := ⟨_, rfl⟩
  rw [hr]
  unfold fitsB at hr
  by_cases hlen : ts.length = ds.length
  case neg =>
    have hf : r = false := by rw [← hr, decide_eq_false hlen]; rfl
    subst hf
    have d : ((ts.length : Int) != (ds.length : Int)) = true := by rw [bne_iff_ne]; omega
    have d' : (ts.length != ds.length) = true := by simpa using hlen
    clear hr
    go_enter Tryd.func16, Tryd.ntmps16
    go_wp2_with fail
    go_ret
    exact ⟨rfl, Ext.refl _⟩
  rw [decide_eq_true hlen, Bool.true_and] at hr
  have d : ((ts.length : Int) != (ds.length : Int)) = false := by simp; omega
  have d' : (ts.length != ds.length) = false := by simpa using hlen
  by_cases h40 : ts.length ≤ 40
  case neg =>
    have hf : r = false := by rw [← hr, decide_eq_false h40]; rfl
    subst hf
    have d4 : decide (40 < (ts.length : Int)) = true := by simp; omega
    clear hr hlen
    go_enter Tryd.func16, Tryd.ntmps16
    go_wp2_with fail
    go_ret
    exact ⟨rfl, Ext.refl _⟩
  rw [decide_eq_true h40, Bool.true_and] at hr
  have d4 : decide (40 < (ts.length : Int)) = false := by simp; omega
  have HR := Lib.hid hr
  clear hr hlen
  go_enter Tryd.func16, Tryd.ntmps16
  go_wp2_with fail
  clear d d' d4
  go_loopw [18] (fun c wr => ∃ j : Nat, j ≤ ts.length ∧ c = .int .i64 j ∧ Hid ((ts.drop j).all allowB = r) ∧ Hid (Ext w wr)) (fun c _ => ts.length - (intOf c).toNat)
  case atStart => exact ⟨0, by omega, rfl, HR, Ext.refl _⟩
  case round =>
    obtain ⟨j, hj, rfl, HF, HE⟩ := hrel
    by_cases hlt : j < ts.length
    · obtain ⟨b, off, c0, c1, c2, c3, c4, rfl, e0, e1, e2, e3, e4, hv⟩ := LRep.at_ ts 0 j ts[j] HL.out (List.getElem?_eq_getElem hlt)
      obtain ⟨k1, i1, s1, la1, ln1, lc1, da1, dn1, dc1, rfl, rfl, rfl, rfl, rfl⟩ := hv.shape5
      have hEr := HE.out
      have q0 := hEr.keep e0
      have q1 := hEr.keep e1
      have q2 := hEr.keep e2
      have q3 := hEr.keep e3
      have q4 := hEr.keep e4
      rw [Nat.zero_add] at q0 q1 q2 q3 q4
      have hb1 : b < wr.heap.size := World.block_lt_of_cell? _ _ q0
      have HV := Lib.hid (VRep.ext hEr _ _ hv)
      have hF := HF.out
      rw [List.drop_eq_getElem_cons hlt, List.all_cons] at hF
      obtain ⟨p, hp⟩ : ∃ p, ts[j] = p := ⟨_, rfl⟩
      rw [hp] at HV hF
      rw [← allow_or] at hF
      have HF1 := Lib.hid hF
      clear e0 e1 e2 e3 e4 hv hEr hp hF HF
      go_wp2_with fail
      refine (RValid_ok p _ _ HV.out).mono ?_
      rintro e w1 ⟨rfl, h1⟩
      cases hvb : validB p
      · have hF := HF1.out
        rw [hvb, Bool.false_or] at hF
        have HF2 := Lib.hid hF
        have HE1 := Lib.hid (HE.out.trans h1)
        have z0 := h1.keep q0
        have z1 := h1.keep q1
        have z2 := h1.keep q2
        have z3 := h1.keep q3
        have z4 := h1.keep q4
        have hb2 : b < w1.heap.size := World.block_lt_of_cell? _ _ z0
        have HV1 := Lib.hid (VRep.ext h1 _ _ HV.out)
        clear hvb hF HF1 q0 q1 q2 q3 q4 h1
        go_wp2_with fail
        refine (sameZ_ok p _ _ HV1.out).mono ?_
        rintro e w2 ⟨rfl, h2⟩
        have HE2 := Lib.hid (HE1.out.trans h2)
        obtain ⟨zb, hzb⟩ : ∃ b, (decide (p.kind = 0) && zeroB p) = b := ⟨_, rfl⟩
        rw [hzb] at HF2 ⊢
        clear hzb z0 z1 z2 z3 z4 h2
        cases zb
        · have hF := HF2.out
          rw [Bool.false_and] at hF
          subst hF
          go_wp2_with fail
          go_ret
          exact ⟨rfl, HE2.out⟩
        · have hF := HF2.out
          rw [Bool.true_and] at hF
          have HF3 := Lib.hid hF
          clear hF
          go_wp2_with fail
          exact ⟨⟨j + 1, by omega, by go_num, HF3, HE2⟩, by simp [intOf]; omega⟩
      · have hF := HF1.out
        rw [hvb, Bool.true_or, Bool.true_and] at hF
        have HF2 := Lib.hid hF
        have HE1 := Lib.hid (HE.out.trans h1)
        clear hvb hF HF1 q0 q1 q2 q3 q4 h1
        go_wp2_with fail
        exact ⟨⟨j + 1, by omega, by go_num, HF2, HE1⟩, by simp [intOf]; omega⟩
    · have hF := HF.out
      rw [List.drop_eq_nil_of_le (by omega)] at hF
      simp only [List.all_nil] at hF
      subst hF
      go_wp2_with fail
      go_ret
      exact ⟨rfl, HE.out⟩
theorem fits_parts {ts : List Tr} {ds : List Bool} (h : fitsB ts ds = true) : ts.length = ds.length ∧ ts.length ≤ 40 ∧ ∀ t ∈ ts, allowB t = true := by
  unfold fitsB at h
  simp only [Bool.and_eq_true, decide_eq_true_eq, List.all_eq_true] at h
  exact ⟨h.1.1, h.1.2, h.2⟩
set_option maxRecDepth 20000 in
set_option maxHeartbeats 2000000 in
theorem back_walk (ts : List Tr) (ds : List Bool) (la da : Option Addr) (lc dc : Nat) (w : World) (hL : LRep w la 0 ts) (hl1 : ts.length ≤ lc) (hl2 : lc ≤ maxLen) (hD : BRep w da ds) (hd1 : ds.length ≤ dc) (hd2 : dc ≤ maxLen) (hT : Tabs w) :
    Calls Tryd.prog 5 #[.slice la ts.length lc, .slice da ds.length dc] w fun e w' => e = .returned (.bool true) ∧ Ext w w' := by
  have HT := Lib.hid hT
  have HD := Lib.hid hD
  have HL := Lib.hid hL
  have HM := Lib.hid hl2
  have HN := Lib.hid hd2
  clear hT hD hL
  unfold maxLen at hl2 hd2
  obtain ⟨fb, hfb⟩ : ∃ b, fitsB ts ds = b := ⟨_, rfl⟩
  have HFb := Lib.hid hfb
  go_enter Tryd.func5, Tryd.ntmps5
  go_wp2_with fail
  refine (fits_ok ts ds la da lc dc _ HL.out hl1 HM.out hd1 HN.out).mono ?_
  rw [HFb.out]
  rintro e w1 ⟨rfl, h1⟩
  have HE1 := Lib.hid h1
  clear h1
  cases fb
  · clear hfb
    go_wp2_with fail
    refine (awake_ok _ (HT.out.ext HE1.out)).mono ?_
    rintro e w2 ⟨rfl, h2⟩
    go_wp2_with fail
    go_ret
    exact ⟨rfl, HE1.out.trans h2⟩
  obtain ⟨hlen, h40, hall⟩ := fits_parts hfb
  have hB := kdec_back ts ds hlen (fun t ht => ⟨Tr.OkL_mem (LRep.trok _ _ _ HL.out) t ht, hall t ht⟩)
  have hks := kencs_le ts ds hall
  obtain ⟨s, hs⟩ : ∃ s : ByteArray, ⟨(kencs ts ds).toArray⟩ = s := ⟨_, rfl⟩
  have hsz : s.size ≤ 1000000000 := by
    rw [← hs]; show (kencs ts ds).toArray.size ≤ _; simp; omega
  rw [hs] at hB
  have HBe := Lib.hid hB.1
  have HBd := Lib.hid hB.2
  have h41 : ds.length ≤ 40 := by omega
  clear hB hs hks hall hfb hlen
  go_wp2_with fail
  refine (Encode_ok ts ds la da lc dc _ (LRep.ext HE1.out _ _ _ HL.out) hl1 HM.out (HD.out.ext HE1.out) hd1 HN.out h40 (HT.out.ext HE1.out)).mono ?_
  rw [HBe.out]
  rintro e w2 ⟨rfl, h2⟩
  have HE2 := Lib.hid (HE1.out.trans h2)
  clear h2
  go_wp2_with fail
  refine (Decode_ok s ds da dc _ hsz (HD.out.ext HE2.out) hd1 HN.out h41 (HT.out.ext HE2.out)).mono ?_
  rw [HBd.out]
  rintro e w3 ⟨a, c, rfl, hc1, hc2, hL3, h3⟩
  have HE3 := Lib.hid (HE2.out.trans h3)
  have HL3 := Lib.hid hL3
  clear h3 hL3
  go_wp2_with fail
  refine (sameL_of ts (fun t _ => same_ok t) la a lc c _ (LRep.ext HE3.out _ _ _ HL.out) HL3.out hl1 HM.out hc1 hc2).mono ?_
  rintro e w4 ⟨rfl, h4⟩
  have HE4 := Lib.hid (HE3.out.trans h4)
  clear h4
  go_wp2_with fail
  refine (awake_ok _ (HT.out.ext HE4.out)).mono ?_
  rintro e w5 ⟨rfl, h5⟩
  go_wp2_with fail
  go_ret
  exact ⟨rfl, HE4.out.trans h5⟩
end Go.Proofs.YtipphlhaaienpaaDoor
set_option linter.unusedSimpArgs false
set_option linter.unusedVariables false
namespace Go.Proofs.YtipphlhaaienpaaDoor
open Go.RowKit
theorem in_set2 {w : World} {rb : Nat} {s : ByteArray} {p : Nat} {d : Bool} {c : Int} (h : w.heap[rb]? = some (InCells s p d c)) (d' : Bool) : (w.setCell ⟨rb, 2, none⟩ (.bool d')).heap[rb]? = some (InCells s p d' c) := blk_set h 2 _
/-- what one value does to the rest -/
theorem kds_one {s : ByteArray} {dd : Bool} {dr : List Bool} {q : Nat} {ts : List Tr} {r : Except Int (List Tr)} (h : kdK s (kdsE s (dd :: dr) q ts) = r) {t : Tr} {q2 : Nat} {c : Int} (ho : Out (kvE s (flOf dd) 16 q) t q2 c) :
    (∀ c', mustC (allowB t) c = c' → c' ≠ 0 → r = .error c') ∧ (mustC (allowB t) c = 0 → kdK s (kdsE s dr q2 (ts ++ [t])) = r) := by
  simp only [kdsE] at h
  rw [show (if dd then 255 else 0 : UInt8) = flOf dd from rfl] at h
  cases hx : kvE s (flOf dd) 16 q with
  | error e0 =>
    rw [hx] at h ho
    obtain ⟨rfl, hc⟩ := ho
    simp only [kdK] at h
    refine ⟨fun c' hm _ => ?_, fun hm => ?_⟩
    · rw [mustC_ne hc] at hm; rw [← h, hm]
    · rw [mustC_ne hc] at hm; exact absurd hm hc
  | ok z =>
    obtain ⟨t', q'⟩ := z
    rw [hx] at h ho
    obtain ⟨rfl, rfl, rfl⟩ := ho
    simp only at h
    cases hal : allowB t'
    · rw [hal] at h
      simp only [Bool.false_eq_true, if_false, kdK] at h
      refine ⟨fun c' hm _ => ?_, fun hm => ?_⟩
      · simp [mustC] at hm; rw [← h, ← hm]
      · simp [mustC] at hm
    · rw [hal, if_pos rfl] at h
      refine ⟨fun c' hm hne => ?_, fun _ => h⟩
      simp [mustC] at hm; exact absurd hm.symm hne
theorem allow_l (t : Tr) (h : (decide (t.kind = 0) && zeroB t) = true) : allowB t = true := by rw [← allow_or, h, Bool.or_true]
theorem allow_r (t : Tr) (h : (decide (t.kind = 0) && zeroB t) = false) : allowB t = validB t := by rw [← allow_or, h, Bool.or_false]
set_option maxRecDepth 20000 in
set_option maxHeartbeats 4000000 in
theorem RDecode_ok (s : ByteArray) (ds : List Bool) (da : Option Addr) (dc : Nat) (w : World) (hs : s.size ≤ 1000000000) (hD : BRep w da ds) (hd1 : ds.length ≤ dc) (hd2 : dc ≤ maxLen) (h40 : ds.length ≤ 40) :
    Calls Tryd.prog 14 #[.string s, .slice da ds.length dc] w (KdPost w (kdecE s ds)) := by
  have HD := Lib.hid hD
  clear hD
  unfold maxLen at hd2
  rw [kdecE_eq]
  obtain ⟨r, hr⟩ : ∃ r, kdK s (kdsE s ds 0 []) = r := ⟨_, rfl⟩
  rw [hr]
  have HR := Lib.hid hr
  clear hr
  obtain ⟨rb, hrb⟩ : ∃ rb, w.heap.size = rb := ⟨_, rfl⟩
  have H0 : Hid ((w.alloc (.cells #[.string s, .int .i64 0, .bool false, .int .i64 0] 52)).heap[rb]? = some (InCells s 0 false 0)) := by rw [← hrb]; exact blk_at0 w _
  go_enter Tryd.func14, Tryd.ntmps14
  go_wp2_with fail
  have HRB := Lib.hid hrb
  have hrb1 : w.heap.size ≤ rb := by omega
  clear hrb
  go_loopw [7, 8] (fun x i wr => ∃ (j q : Nat) (ts : List Tr) (fl : Bool), j ≤ ds.length ∧ i = .int .i64 j ∧ ts.length ≤ j ∧ q ≤ s.size ∧ Hid (kdK s (kdsE s (ds.drop j) q ts) = r) ∧ Hid (wr.heap[rb]? = some (InCells s q fl 0)) ∧ Hid (VAcc (rb + 1) wr x ts) ∧ Hid (Ext w wr)) (fun _ i _ => ds.length - (intOf i).toNat)
  case atStart => exact ⟨0, 0, [], false, by omega, rfl, by simp, by omega, HR, H0, VAcc.nil _ _, (Ext.refl w).alloc _⟩
  case round =>
    obtain ⟨j, q, ts, fl, hj, rfl, htl, hq, HF, HB, HAcc, HE⟩ := hrel
    obtain ⟨ax, cx, rfl⟩ := HAcc.out.shape
    have ck := blk_cell HB.out
    have cf := blk_free HB.out
    have lrb := blk_lt HB.out
    by_cases hlt : j < ds.length
    · obtain ⟨dd, hdd⟩ : ∃ d, ds[j] = d := ⟨_, rfl⟩
      obtain ⟨db, doff, rfl, hdc⟩ := HD.out j dd (by rw [← hdd]; exact List.getElem?_eq_getElem hlt)
      have hdr : ds.drop j = dd :: ds.drop (j + 1) := by rw [← hdd]; exact List.drop_eq_getElem_cons hlt
      have hdc1 := HE.out.keep hdc
      have hdb1 : db < wr.heap.size := World.block_lt_of_cell? _ _ hdc1
      have hF := HF.out
      rw [hdr] at hF
      have HF1 := Lib.hid hF
      clear hF hdr hdd HF hdc
      go_wp2_with fail
      obtain ⟨W1, hW1⟩ : ∃ W, wr.setCell ⟨rb, 2, none⟩ (.bool dd) = W := ⟨_, rfl⟩
      have HB1 : Hid (W1.heap[rb]? = some (InCells s q dd 0)) := by rw [← hW1]; exact in_set2 HB.out _
      have HAcc1 : Hid (VAcc (rb + 1) W1 (.slice ax ts.length cx) ts) := by rw [← hW1]; exact HAcc.out.keep (Same.setCell (Same.refl _ _) (by simp) _)
      have HE1 : Hid (Ext w W1) := by rw [← hW1]; exact HE.out.setCell hrb1 _
      have hz1 : W1.heap.size = wr.heap.size := by rw [← hW1]; simp [World.setCell]
      rw [hW1]
      have hz2 : wr.heap.size ≤ W1.heap.size := by omega
      clear hW1 ck cf hz1 hdc1
      refine (ki_ok s dd hs 16 (by omega) rb q 0 1 W1 (by omega) hq HB1.out).mono ?_
      rw [show kvI s dd 16 q 0 = kvE s (flOf dd) 16 q by unfold kvI; rw [if_pos rfl]]
      rintro e w2 ⟨t2, v2, q2, c2, rfl, hv2, ⟨hq20, hq2⟩, hk2, g2, ho2⟩
      have HW2 : Hid (VNew W1.heap.size w2.heap.size w2 t2 v2) := hv2
      obtain ⟨k', i', s', la', ln', lc', da', dn', dc', rfl⟩ := VRep.shape (show VRep (win _ w2) t2 v2 from HW2.out)
      have HB2 := Lib.hid hk2
      have HE2 := Lib.hid (Ext.of_only HE1.out g2 hrb1)
      have HAcc2 := Lib.hid (HAcc1.out.keep (Same.only (Same.refl _ W1) (Nat.le_refl _) g2 (by omega)))
      have s2 : W1.heap.size ≤ w2.heap.size := g2.size
      have hown : ∀ g, (Value.slice ax ts.length cx).ownBlock = some g → rb + 1 ≤ g ∧ g < W1.heap.size := fun g hg => by
        obtain ⟨cs, ho, _⟩ := HAcc1.out
        exact ho.lt g hg
      have HOwn := Lib.hid hown
      have hone := kds_one HF1.out ho2
      have HBad := Lib.hid hone.1
      have HGo := Lib.hid hone.2
      clear hown hv2 hk2 g2 hone ho2 HF1
      have lrb2 := blk_lt HB2.out
      go_wp2_with fail
      refine (missing_ok t2 _ _ (VRep.ext ((Ext.refl w2).alloc _) _ _ HW2.out.rep)).mono ?_
      rintro e w3 ⟨rfl, h3⟩
      have k3 := h3.ownc
      have l3 := h3.lt
      have HX3 := Lib.hid (blk_ext (blk_at0 w2 _) h3)
      have HB3 := Lib.hid (blk_ext (blk_alloc HB2.out _) h3)
      have HE3 := Lib.hid (HE2.out.trans h3.of_alloc)
      have HAcc3 := Lib.hid (HAcc2.out.keep (Same.of_ext h3.of_alloc))
      have HW3 := Lib.hid (HW2.out.keep (w' := w3) (Nat.le_refl _) (Nat.le_of_lt l3) (fun i h1 h2 => h3.of_alloc.below.block i h2))
      clear h3 HB2 HE2 HAcc2 HW2
      cases hmi : (decide (t2.kind = 0) && zeroB t2)
      · rw [allow_r t2 hmi] at HBad HGo
        clear hmi
        go_wp2_with fail
        clear k3
        refine (RValid_ok t2 _ _ HW3.out.rep).mono ?_
        rintro e w4 ⟨rfl, h4⟩
        have HX4 := Lib.hid (blk_ext HX3.out h4)
        have HB4 := Lib.hid (blk_ext HB3.out h4)
        have HE4 := Lib.hid (HE3.out.trans h4)
        have HAcc4 := Lib.hid (HAcc3.out.keep (Same.of_ext h4))
        have HW4 := Lib.hid (HW3.out.keep (w' := w4) (Nat.le_refl _) h4.size (fun i h1 h2 => h4.below.block i h2))
        have l4 := h4.size
        clear h4 HX3 HB3 HE3 HAcc3 HW3
        go_wp2_with fail
        refine (must_ok s rb q2 dd c2 (validB t2) _ HB4.out).mono ?_
        rintro e w5 ⟨rfl, hb5, g5⟩
        have hbx5 := blk_only HX4.out g5 (by omega)
        have s5 : w4.heap.size ≤ w5.heap.size := g5.size
        have HB5 := Lib.hid hb5
        have HE5 := Lib.hid (Ext.of_only HE4.out g5 hrb1)
        have HAcc5 := Lib.hid (HAcc4.out.keep (Same.only (Same.refl _ w4) (Nat.le_refl _) g5 (by omega)))
        have HW5 := Lib.hid (HW4.out.keep (w' := w5) (Nat.le_refl _) s5 (fun i h1 h2 => g5.block i h2 (by intro e; injection e with e; omega)))
        have ck := blk_cell hb5
        have cb := blk_cell hbx5
        have l5 : w2.heap.size < w5.heap.size := by omega
        have lrb5 : rb < w5.heap.size := by omega
        clear hb5 g5 hbx5
        obtain ⟨c5, hc5⟩ : ∃ c, mustC (validB t2) c2 = c := ⟨_, rfl⟩
        rw [hc5] at ck HB5
        have HC5 := Lib.hid hc5
        clear hc5
        by_cases hc0 : c5 = 0
        case neg =>
          have hr : r = .error c5 := HBad.out c5 HC5.out hc0
          subst hr
          have d : (c5 != 0) = true := by simpa using hc0
          clear hc0
          go_wp2_with fail
          refine wp_region_mix (fun W => W.heap[rb]? = some (InCells s q2 dd c5)) [(true, 0), (true, 1), (true, 2), (true, 3)] (by kernel_rfl) (by kernel_rfl) (by kernel_rfl) (by kernel_rfl) ?hS ?_
          case hS => exact HB5.out
          repeat (first | (refine wpMix_q (v := ?_) rfl rfl ?_ ?_; rotate_left; (· intro wq hSq; have cq := blk_cell hSq; go_simp; try (with_reducible rfl)); simp only [Act.put, List.setIfInBounds_toArray, List.set_cons_zero, List.set_cons_succ, List.getElem_toArray, List.getElem_cons_zero, List.getElem_cons_succ]) | (refine wpMix_u rfl rfl ?_; simp only [Act.put, List.setIfInBounds_toArray, List.set_cons_zero, List.set_cons_succ, List.getElem_toArray, List.getElem_cons_zero, List.getElem_cons_succ]))
          refine wpMix_nil ?_
          go_wp2_with fail
          go_ret2
          exact ⟨rfl, (HE5.out).drew⟩
        subst hc0
        have HGo2 := Lib.hid (HGo.out HC5.out)
        clear HGo HBad
        go_wp2_with (at_builtin; refine wpList_append_vacc w5 rfl _ _ rfl (rb + 1) (.slice ax ts.length cx) ts rfl HAcc5.out t2 _ _ _ _ _ rfl W1.heap.size (by omega) (fun g hg => (HOwn.out g hg).2) HW5.out (by omega) (by omega) ?_)
        intro v6 w6 a6 o6 g6
        obtain ⟨ts6, hts6⟩ : ∃ l, ts ++ [t2] = l := ⟨_, rfl⟩
        have hl6 : ts6.length ≤ j + 1 := by rw [← hts6]; simp; omega
        rw [hts6] at a6 HGo2
        clear hts6 ck cb
        have HAcc6 := Lib.hid a6
        have HB6 : Hid (w6.heap[rb]? = some (InCells s q2 dd 0)) := (g6.block rb (by simp; omega) (fun e => by have := (HOwn.out rb e.symm).1; omega)).trans ((Below.heap_alloc w5 _ rb (by omega)).trans HB5.out)
        have HE6 := Lib.hid ((HE5.out.alloc _).grown g6 (fun k hk => by have := (HOwn.out k hk).1; omega))
        clear a6 g6 o6
        obtain ⟨ax6, cx6, rfl⟩ := HAcc6.out.shape
        go_wp2_with fail
        exact ⟨⟨j + 1, q2, ts6, dd, by omega, by go_num, hl6, hq2, HGo2, HB6, HAcc6, HE6⟩, by simp [intOf]; omega⟩
      · rw [allow_l t2 hmi] at HBad HGo
        clear hmi
        go_wp2_with fail
        refine (must_ok s rb q2 dd c2 true _ HB3.out).mono ?_
        rintro e w5 ⟨rfl, hb5, g5⟩
        have hbx5 := blk_only HX3.out g5 (by omega)
        have s5 : w3.heap.size ≤ w5.heap.size := g5.size
        have HB5 := Lib.hid hb5
        have HE5 := Lib.hid (Ext.of_only HE3.out g5 hrb1)
        have HAcc5 := Lib.hid (HAcc3.out.keep (Same.only (Same.refl _ w3) (Nat.le_refl _) g5 (by omega)))
        have HW5 := Lib.hid (HW3.out.keep (w' := w5) (Nat.le_refl _) s5 (fun i h1 h2 => g5.block i h2 (by intro e; injection e with e; omega)))
        have ck := blk_cell hb5
        have cb := blk_cell hbx5
        have l5 : w2.heap.size < w5.heap.size := by omega
        have lrb5 : rb < w5.heap.size := by omega
        clear hb5 g5 hbx5 k3
        obtain ⟨c5, hc5⟩ : ∃ c, mustC true c2 = c := ⟨_, rfl⟩
        rw [hc5] at ck HB5
        have HC5 := Lib.hid hc5
        clear hc5
        by_cases hc0 : c5 = 0
        case neg =>
          have hr : r = .error c5 := HBad.out c5 HC5.out hc0
          subst hr
          have d : (c5 != 0) = true := by simpa using hc0
          clear hc0
          go_wp2_with fail
          refine wp_region_mix (fun W => W.heap[rb]? = some (InCells s q2 dd c5)) [(true, 0), (true, 1), (true, 2), (true, 3)] (by kernel_rfl) (by kernel_rfl) (by kernel_rfl) (by kernel_rfl) ?hS ?_
          case hS => exact HB5.out
          repeat (first | (refine wpMix_q (v := ?_) rfl rfl ?_ ?_; rotate_left; (· intro wq hSq; have cq := blk_cell hSq; go_simp; try (with_reducible rfl)); simp only [Act.put, List.setIfInBounds_toArray, List.set_cons_zero, List.set_cons_succ, List.getElem_toArray, List.getElem_cons_zero, List.getElem_cons_succ]) | (refine wpMix_u rfl rfl ?_; simp only [Act.put, List.setIfInBounds_toArray, List.set_cons_zero, List.set_cons_succ, List.getElem_toArray, List.getElem_cons_zero, List.getElem_cons_succ]))
          refine wpMix_nil ?_
          go_wp2_with fail
          go_ret2
          exact ⟨rfl, (HE5.out).drew⟩
        subst hc0
        have HGo2 := Lib.hid (HGo.out HC5.out)
        clear HGo HBad
        go_wp2_with (at_builtin; refine wpList_append_vacc w5 rfl _ _ rfl (rb + 1) (.slice ax ts.length cx) ts rfl HAcc5.out t2 _ _ _ _ _ rfl W1.heap.size (by omega) (fun g hg => (HOwn.out g hg).2) HW5.out (by omega) (by omega) ?_)
        intro v6 w6 a6 o6 g6
        obtain ⟨ts6, hts6⟩ : ∃ l, ts ++ [t2] = l := ⟨_, rfl⟩
        have hl6 : ts6.length ≤ j + 1 := by rw [← hts6]; simp; omega
        rw [hts6] at a6 HGo2
        clear hts6 ck cb
        have HAcc6 := Lib.hid a6
        have HB6 : Hid (w6.heap[rb]? = some (InCells s q2 dd 0)) := (g6.block rb (by simp; omega) (fun e => by have := (HOwn.out rb e.symm).1; omega)).trans ((Below.heap_alloc w5 _ rb (by omega)).trans HB5.out)
        have HE6 := Lib.hid ((HE5.out.alloc _).grown g6 (fun k hk => by have := (HOwn.out k hk).1; omega))
        clear a6 g6 o6
        obtain ⟨ax6, cx6, rfl⟩ := HAcc6.out.shape
        go_wp2_with fail
        exact ⟨⟨j + 1, q2, ts6, dd, by omega, by go_num, hl6, hq2, HGo2, HB6, HAcc6, HE6⟩, by simp [intOf]; omega⟩
    · have hj2 : j = ds.length := by omega
      subst hj2
      have hF := HF.out
      rw [List.drop_length] at hF
      simp only [kdsE, kdK] at hF
      by_cases hq6 : q < s.size
      · rw [if_pos hq6] at hF
        subst hF
        have d : decide (q < s.size) = true := by simpa using hq6
        go_wp2_with fail
        go_ret2
        exact ⟨rfl, HE.out⟩
      · rw [if_neg hq6] at hF
        subst hF
        have d : decide (q < s.size) = false := by simpa using hq6
        obtain ⟨a', c', ha', h1, h2, h3⟩ := HAcc.out.lrep (Nat.le_refl _)
        injection ha' with ha1 ha2 ha3
        subst ha1 ha3
        have HLR := Lib.hid (LRep.sub (fun _ _ hc => (win_some hc).2) _ _ _ h3)
        clear h3
        go_wp2_with fail
        go_ret2
        exact ⟨ax, cx, rfl, h1, h2, HLR.out, HE.out⟩
set_option maxRecDepth 20000 in
set_option maxHeartbeats 2000000 in
theorem decode_walk (s : ByteArray) (ds : List Bool) (da : Option Addr) (dc : Nat) (w : World) (hD : BRep w da ds) (hd1 : ds.length ≤ dc) (hd2 : dc ≤ maxLen) (hT : Tabs w) :
    Calls Tryd.prog 4 #[.string s, .slice da ds.length dc] w fun e w' => e = .returned (.bool true) ∧ Ext w w' := by
  have HT := Lib.hid hT
  have HD := Lib.hid hD
  have HN := Lib.hid hd2
  clear hT hD
  unfold maxLen at hd2
  by_cases hs : s.size ≤ 20000
  case neg =>
    have d4 : decide (20000 < (s.size : Int)) = true := by simp; omega
    go_enter Tryd.func4, Tryd.ntmps4
    go_wp2_with fail
    refine (awake_ok _ HT.out).mono ?_
    rintro e w2 ⟨rfl, h2⟩
    go_wp2_with fail
    go_ret
    exact ⟨rfl, h2⟩
  have d4 : decide (20000 < (s.size : Int)) = false := by simp; omega
  by_cases h40 : ds.length ≤ 40
  case neg =>
    have d5 : decide (40 < (ds.length : Int)) = true := by simp; omega
    go_enter Tryd.func4, Tryd.ntmps4
    go_wp2_with fail
    refine (awake_ok _ HT.out).mono ?_
    rintro e w2 ⟨rfl, h2⟩
    go_wp2_with fail
    go_ret
    exact ⟨rfl, h2⟩
  have d5 : decide (40 < (ds.length : Int)) = false := by simp; omega
  obtain ⟨r, hr⟩ : ∃ r, kdecE s ds = r := ⟨_, rfl⟩
  have HR := Lib.hid hr
  clear hr
  go_enter Tryd.func4, Tryd.ntmps4
  go_wp2_with fail
  refine (Decode_ok s ds da dc _ (by omega) HD.out hd1 HN.out h40 HT.out).mono ?_
  rw [HR.out]
  cases r with
  | error c =>
    rintro e w1 ⟨rfl, h1⟩
    have HE1 := Lib.hid h1
    clear h1
    go_wp2_with fail
    refine (RDecode_ok s ds da dc _ (by omega) (HD.out.ext HE1.out) hd1 HN.out h40).mono ?_
    rw [HR.out]
    rintro e w2 ⟨rfl, h2⟩
    have HE2 := Lib.hid (HE1.out.trans h2)
    clear h2
    go_wp2_with fail
    refine (sameL_of [] (fun t _ => same_ok t) none none 0 0 _ (by unfold LRep; trivial) (by unfold LRep; trivial) (by simp) (by unfold maxLen; omega) (by simp) (by unfold maxLen; omega)).mono ?_
    rintro e w4 ⟨rfl, h4⟩
    have HE4 := Lib.hid (HE2.out.trans h4)
    clear h4
    go_wp2_with fail
    refine (awake_ok _ (HT.out.ext HE4.out)).mono ?_
    rintro e w5 ⟨rfl, h5⟩
    go_wp2_with fail
    go_ret
    exact ⟨rfl, HE4.out.trans h5⟩
  | ok ts =>
    rintro e w1 ⟨a1, c1, rfl, hc1, hc1', hL1, h1⟩
    have HE1 := Lib.hid h1
    have HL1 := Lib.hid hL1
    clear h1 hL1
    go_wp2_with fail
    refine (RDecode_ok s ds da dc _ (by omega) (HD.out.ext HE1.out) hd1 HN.out h40).mono ?_
    rw [HR.out]
    rintro e w2 ⟨a2, c2, rfl, hc2, hc2', hL2, h2⟩
    have HE2 := Lib.hid (HE1.out.trans h2)
    have HL2 := Lib.hid hL2
    have HL1' := Lib.hid (LRep.ext h2 _ _ _ HL1.out)
    clear h2 hL2 HL1
    go_wp2_with fail
    refine (sameL_of ts (fun t _ => same_ok t) a1 a2 c1 c2 _ HL1'.out HL2.out hc1 hc1' hc2 hc2').mono ?_
    rintro e w4 ⟨rfl, h4⟩
    have HE4 := Lib.hid (HE2.out.trans h4)
    clear h4
    go_wp2_with fail
    refine (awake_ok _ (HT.out.ext HE4.out)).mono ?_
    rintro e w5 ⟨rfl, h5⟩
    go_wp2_with fail
    go_ret
    exact ⟨rfl, HE4.out.trans h5⟩
end Go.Proofs.YtipphlhaaienpaaDoor
set_option linter.unusedSimpArgs false
set_option linter.unusedVariables false
namespace Go.Proofs.YtipphlhaaienpaaDoor.keyencDecode
open Go.ChangeShapes Go.WideShapes Go.ChangeAt Go.RowKit

/-- What the walk gives, for every argument and every world. -/
theorem contract (H : Type) (enc : TypeId × Value → H) (W : World) (base : Nat) (args : Array Value) (ds gs : List (DataW H)) (before : List MemPlace)
    (hval : ∀ (j : Nat) t v, Tryd.f4.params[j]? = some t → args[j]? = some v → Value.okWide Tryd.prog W .any base t v)
    (hW : DataW.Whole enc Tryd.prog Tryd.f4.params.toList Rows.keyencDecodeSpec.vars false W args.toList ds gs before) (_hL : laidMetH Tryd.prog Rows.keyencDecodeRow.laid W) :
    Calls Tryd.prog 4 args W fun e W' => ∃ v, e = .returned v ∧ Rows.keyencDecodeSpec.post enc Tryd.prog Tryd.f4 false true false false W args v W' := by
  have hW' := hW
  obtain ⟨p, q, hA0, hV, rfl, hfz, hnd⟩ := hW
  have hA : DataW.TrodAll enc Tryd.prog W 0 (fun _ => true) true Tryd.f4.params.toList args.toList ds p := hA0
  rw [Tryd.params4] at hA hval
  obtain ⟨v0, vs0, d0, ds0, p0, q0, hargs, rfl, rfl, h0, r0⟩ := trodAll_cons hA
  obtain ⟨v1, vs1, d1, ds1, p1, q1, rfl, rfl, rfl, h1, r1⟩ := trodAll_cons r0
  obtain ⟨rfl, rfl, rfl⟩ := trodAll_nil r1
  obtain rfl : args = #[v0, v1] := by cases args; simp_all
  obtain ⟨rfl, rfl⟩ := trodVars_none hV
  clear hA0 hargs
  suffices walk : Calls Tryd.prog 4 #[v0, v1] W fun e W' => e = .returned (.bool true) ∧ Ext W W' by
    refine walk.mono fun e W' ⟨he, hg⟩ => ?_
    subst he
    exact ⟨_, rfl, law_post (by kernel_rfl) (by kernel_rfl) rfl rfl Tryd.underlying4 hW' rfl hg⟩
  have hT : Tabs W := tabs_of_laid _hL
  obtain ⟨s, rfl⟩ := okWide_string Tryd.underlying9 (hval 0 9 v0 rfl rfl)
  obtain ⟨fuel0, hf0⟩ := h0
  obtain ⟨s0, es0, d0', hs0⟩ := DataW.trod_string Tryd.underlying9 hf0
  simp only [Value.cells, List.cons.injEq, Value.string.injEq, and_true] at es0
  subst es0
  simp only [Prod.mk.injEq] at d0'
  obtain ⟨rfl, rfl⟩ := d0'
  obtain ⟨a1, ds1, c1, rfl, hc11, hc12, hB1⟩ := brep_arg (hval 1 23 v1 rfl rfl) h1
  exact decode_walk s ds1 a1 c1 W hB1 hc11 hc12 hT

theorem laid_met (os : Os) : laidMet Tryd.prog Rows.keyencDecodeRow.laid ((laidWorld os).forCall (fun _ _ => 0) ⟨#[], #[.string ⟨#[]⟩, .slice none 0 0], []⟩).memory :=
  laidMet_of_run' 8 (by kernel_rfl) (by kernel_rfl)
theorem reads (os : Os) {H : Type} (enc : TypeId × Value → H) : ∃ places, DataW.whole enc Tryd.prog ((laidWorld os).forCall (fun _ _ => 0) ⟨#[], #[.string ⟨#[]⟩, .slice none 0 0], []⟩).memory Tryd.f4.params.toList Rows.keyencDecodeSpec.vars false #[.string ⟨#[]⟩, .slice none 0 0].toList 8 = some ([.lit (.string []), .nil], [], places) :=
  ⟨[], by kernel_rfl⟩

set_option maxRecDepth 100000 in
theorem lifted (os : Os) (started : os.Started) (H : Type) (enc : TypeId × Value → H) (F : Stop.Interp) :
    ReturnsInHanded {} Tryd.checked os 4 .any ((OpenSpec.ofChange Rows.keyencDecodeSpec).preRow enc Tryd.prog Tryd.f4 Rows.keyencDecodeRow.domain false Rows.keyencDecodeRow.laid) (((OpenSpec.ofChange Rows.keyencDecodeSpec).at F).post enc Tryd.prog Tryd.f4 false true false false) := by
  obtain ⟨places, hx⟩ := reads os enc
  refine returnsInHanded_of_row (C := Tryd.checked) (s := OpenSpec.ofChange Rows.keyencDecodeSpec) own started (by kernel_rfl) Tryd.func4
    (witness_row_at (enc := enc) (C := Tryd.checked) false (laidWorld os) #[.string ⟨#[]⟩, .slice none 0 0] rfl (by kernel_rfl) (by kernel_rfl) (by kernel_rfl)
      (OpenSpec.preRow_of_cond 8 hx (by kernel_rfl) (fun k hk => by cases hk) (by kernel_rfl) (laid_met os))) ?_
  intro W base args ds gs before hval hW _ _ _ hL _ _
  exact contract H enc W base args ds gs before hval hW hL

theorem said : Rows.KeyencDecodeSaid :=
  OpenClaim.holds_of_cond 4 Tryd.f4 rfl rfl rfl rfl rfl rfl rfl ⟨rfl, rfl, rfl, rfl, rfl⟩ rfl rfl rfl rfl rfl (by kernel_rfl) Tryd.func4 (by kernel_rfl)
    (of_decide_eq_true (by kernel_rfl)) (by unfold Func.isWrapper; first | (rw [if_pos (by decide +kernel)]; kernel_rfl) | (rw [if_neg (by decide +kernel)]; exact ⟨rfl, rfl⟩))
    (fun os started H enc _ F => by rw [OpenClaim.pre_eq_preRow]; exact lifted os started H enc F)

theorem plain (f : FuncId) (fn : Func) (hf : Tryd.pinned.checked.prog.funcNamed "docstore/docstorelaw03.KeyencDecode" = some f) (hfn : Tryd.pinned.checked.prog.funcs[f]? = some fn) :
    false = Tryd.pinned.checked.prog.looks [] ∧ ∀ (j : Nat) t, fn.params[j]? = some t → Tryd.pinned.checked.prog.wantsStandIn t = false := by
  obtain rfl : f = 4 := Option.some.inj ((show Tryd.prog.funcNamed "docstore/docstorelaw03.KeyencDecode" = some 4 by kernel_rfl).symm.trans hf) |>.symm
  obtain rfl : fn = Tryd.f4 := (Option.some.inj (Tryd.func4.symm.trans hfn)).symm
  refine ⟨by kernel_rfl, fun j t ht => ?_⟩
  have hall : (Tryd.f4.params.all fun t => !Tryd.prog.wantsStandIn t) = true := by kernel_rfl
  have h1 := Array.all_eq_true'.1 hall t (Array.mem_of_getElem? ht)
  have h2 : Tryd.prog.wantsStandIn t = false := by simpa using h1
  exact h2

/-- The card. -/
theorem card : Rows.KeyencDecodeCardSaid :=
  Claim7.holds_tied_plain_at .later [] _ _ _ _ said (fun _ h => by cases h) (by kernel_rfl) (fun _ h => by cases h) keyencDecode_row_tie rfl ⟨rfl, rfl⟩ (by kernel_rfl) rfl plain (by kernel_rfl)
end Go.Proofs.YtipphlhaaienpaaDoor.keyencDecode
