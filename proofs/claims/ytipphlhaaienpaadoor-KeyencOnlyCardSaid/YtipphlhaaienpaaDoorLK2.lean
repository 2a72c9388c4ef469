/- KeyencOnly: the walk; a list of booleans that is handed over. -/
import Derived.Test.YtipphlhaaienpaaDoorKOp
import Derived.Test.YtipphlhaaienpaaDoorAwK
import Derived.Test.YtipphlhaaienpaaDoorTrd
set_option linter.unusedSimpArgs false
set_option linter.unusedVariables false
namespace Go.Proofs.YtipphlhaaienpaaDoor
open Go.ChangeShapes Go.WideShapes Go.ChangeAt Go.RowKit
section
variable {H : Type} {enc : TypeId × Value → H} {w : World}
theorem cellsBool : Tryd.prog.cellsOf 4 = 1 := by kernel_rfl
theorem brep_arg {v : Value} {d : DataW H} {ps : List MemPlace} {base : Nat} (hval : Value.okWide Tryd.prog w .any base 23 v) (h : DataW.Trod enc Tryd.prog w 0 (fun _ => true) true 23 v d ps) : ∃ (a : Option Addr) (ds : List Bool) (c : Nat), v = .slice a ds.length c ∧ ds.length ≤ c ∧ c ≤ maxLen ∧ BRep w a ds := by
  obtain ⟨fuel, hf⟩ := h
  obtain ⟨a0, len0, cap0, rfl⟩ := okWide_slice Tryd.underlying23 hval
  rcases DataW.trod_slice Tryd.underlying23 hf with ⟨e, _⟩ | ⟨a, len, cap, elems, rest, m, rfl, e, -, -, hlc, hcm, hel, hat, -, -⟩
  · simp only [Value.cells, List.cons.injEq, and_true] at e
    exact ⟨none, [], 0, e, by simp, by unfold maxLen; omega, fun j d hj => by simp at hj⟩
  · simp only [Value.cells, List.cons.injEq, and_true] at e
    rw [e]
    simp only [cellsBool, Nat.mul_one] at hat
    have each : ∀ j, j < len → ∃ b : Bool, w.cell? (a.add j) = some (.bool b) := by
      intro j hj
      obtain ⟨cs', y, hc, hy⟩ := bind_some (by omega) (hat j hj)
      obtain ⟨b, rfl, _⟩ := DataW.trod_bool Tryd.underlying4 hy
      refine ⟨b, ?_⟩
      have := (World.cells?_some hc).2.2 0 (by simp)
      have h0 : ∀ x : Addr, x.add 0 = x := fun x => by unfold Addr.add; simp
      rw [h0] at this
      rw [this]; rfl
    cases len with
    | zero => exact ⟨some a, [], cap, rfl, by simp, hcm, fun j d hj => by simp at hj⟩
    | succ len =>
      have ha : a = ⟨a.block, a.off, none⟩ := by
        obtain ⟨b, hc⟩ := each 0 (by omega)
        have h0 : a.add 0 = a := by unfold Addr.add; simp
        rw [h0] at hc
        exact spot_none hc
      obtain ⟨bl, off, sp⟩ := a
      simp only [Addr.mk.injEq, true_and] at ha
      subst ha
      have hex : ∀ n, n ≤ len + 1 → ∃ ds : List Bool, ds.length = n ∧ ∀ j d, ds[j]? = some d → w.cell? ⟨bl, off + j, none⟩ = some (.bool d) := by
        intro n
        induction n with
        | zero => intro _; exact ⟨[], rfl, fun j d hj => by simp at hj⟩
        | succ n ih =>
          intro hn
          obtain ⟨ds, h1, h2⟩ := ih (by omega)
          obtain ⟨b, hb⟩ := each n (by omega)
          rw [add_plain2] at hb
          refine ⟨ds ++ [b], by simp [h1], fun j d hj => ?_⟩
          by_cases hjn : j < ds.length
          · rw [List.getElem?_append_left hjn] at hj; exact h2 j d hj
          · have hjn2 : j = n := by
              have := (List.getElem?_eq_some_iff.1 hj).1
              simp at this; omega
            subst hjn2
            rw [List.getElem?_append_right (by omega), h1, Nat.sub_self] at hj
            injection hj with hj; subst hj; exact hb
      obtain ⟨ds, h1, h2⟩ := hex (len + 1) (Nat.le_refl _)
      exact ⟨some ⟨bl, off, none⟩, ds, cap, by rw [h1], by omega, hcm, fun j d hj => ⟨bl, off, rfl, h2 j d hj⟩⟩
end
set_option maxRecDepth 20000 in
set_option maxHeartbeats 2000000 in
theorem only_walk (s : ByteArray) (ds : List Bool) (da : Option Addr) (dc : Nat) (w : World) (hs : s.size ≤ maxLen) (hD : BRep w da ds) (hd1 : ds.length ≤ dc) (hd2 : dc ≤ maxLen) (hT : Tabs w) : Calls Tryd.prog 6 #[.string s, .slice da ds.length dc] w fun e w' => e = .returned (.bool true) ∧ Ext w w' := by
  have HT := Lib.hid hT
  have HD := Lib.hid hD
  have HM := Lib.hid hd2
  clear hT hD
  unfold maxLen at hs hd2
  by_cases h2 : 20000 < s.size
  · have d : decide (20000 < (s.size : Int)) = true := by simp; omega
    go_enter Tryd.func6, Tryd.ntmps6
    go_wp2_with fail
    refine (awake_ok _ HT.out).mono ?_
    rintro e w2 ⟨rfl, h2⟩
    go_wp2_with fail
    go_ret
    exact ⟨rfl, h2⟩
  have d : decide (20000 < (s.size : Int)) = false := by simp; omega
  by_cases h4 : 40 < ds.length
  · have d4 : decide (40 < (ds.length : Int)) = true := by simp; omega
    go_enter Tryd.func6, Tryd.ntmps6
    go_wp2_with fail
    refine (awake_ok _ HT.out).mono ?_
    rintro e w2 ⟨rfl, h2⟩
    go_wp2_with fail
    go_ret
    exact ⟨rfl, h2⟩
  have d4 : decide (40 < (ds.length : Int)) = false := by simp; omega
  obtain ⟨r, hr⟩ : ∃ r, kdecE s ds = r := ⟨_, rfl⟩
  have HR := Lib.hid hr
  have HO := Lib.hid (fun ts (h : r = .ok ts) => kdec_only (hr.trans h))
  have HZ := Lib.hid (fun c (h : r = .error c) => kdec_err (hr.trans h))
  clear hr
  go_enter Tryd.func6, Tryd.ntmps6
  go_wp2_with fail
  refine (Decode_ok s ds da dc _ (by omega) HD.out hd1 HM.out (by omega) HT.out).mono ?_
  rw [HR.out]
  cases r with
  | error c =>
    rintro e w1 ⟨rfl, h1⟩
    have HE1 := Lib.hid h1
    have hc := HZ.out c rfl
    have d1 : (c != 0) = true := by simpa using hc
    clear h1 hc
    go_wp2_with fail
    refine (awake_ok _ (HT.out.ext HE1.out)).mono ?_
    rintro e w2 ⟨rfl, h2⟩
    go_wp2_with fail
    go_ret
    exact ⟨rfl, HE1.out.trans h2⟩
  | ok ts =>
    rintro e w1 ⟨a, c, rfl, hc1, hc2, hL, h1⟩
    have HE1 := Lib.hid h1
    have HL := Lib.hid hL
    obtain ⟨hlen, henc⟩ := HO.out ts rfl
    have HEn := Lib.hid henc
    have HLe := Lib.hid hlen
    have h40 : ts.length ≤ 40 := by omega
    have d5 : ((ts.length : Int) == (ds.length : Int)) = true := by simp; omega
    have d6 : (ts.length == ds.length) = true := by simpa using hlen
    clear h1 hL henc hlen
    go_wp2_with fail
    refine (Encode_ok ts ds a da c dc _ HL.out hc1 hc2 (HD.out.ext HE1.out) hd1 HM.out h40 (HT.out.ext HE1.out)).mono ?_
    rw [HEn.out]
    rintro e w2 ⟨rfl, h2⟩
    have HE2 := Lib.hid (HE1.out.trans h2)
    clear h2
    go_wp2_with fail
    refine (awake_ok _ (HT.out.ext HE2.out)).mono ?_
    rintro e w3 ⟨rfl, h3⟩
    go_wp2_with fail
    go_ret
    exact ⟨rfl, HE2.out.trans h3⟩
end Go.Proofs.YtipphlhaaienpaaDoor
