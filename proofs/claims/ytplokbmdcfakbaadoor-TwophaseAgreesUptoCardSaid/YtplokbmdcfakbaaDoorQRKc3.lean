/- TwophaseAgrees: for every input of bulk at most 2^20 the law returns true: whatever votes are cast, the decision and its orders are as they should be (the card, tied to the program's text). -/
import Derived.Test.YtplokbmdcfakbaaDoorQR4
import Derived.Test.YtplokbmdcfakbaaDoorQR7
set_option linter.unusedSimpArgs false
set_option linter.unusedVariables false
namespace Go.Proofs.YtplokbmdcfakbaaDoor.twophaseAgrees
open Go.ChangeShapes Go.WideShapes Go.ChangeAt Go.RowKit

theorem okTys : okT Tryd.prog [9, 22, 3, 23, 33] = true := by kernel_rfl
/-- What the walk gives, for every argument and every world. -/
theorem contract (H : Type) (enc : TypeId × Value → H) (W : World) (base : Nat) (args : Array Value) (ds gs : List (DataW H)) (before : List MemPlace)
    (hval : ∀ (j : Nat) t v, Tryd.f3.params[j]? = some t → args[j]? = some v → Value.okWide Tryd.prog W .any base t v)
    (hW : DataW.Whole enc Tryd.prog Tryd.f3.params.toList Rows.twophaseAgreesSpec.vars false W args.toList ds gs before) (_hL : laidMetH Tryd.prog Rows.twophaseAgreesUptoRow.laid W) (hk : Rows.uptoSmall H (ds ++ gs) = true) :
    Calls Tryd.prog 3 args W fun e W' => ∃ v, e = .returned v ∧ Rows.twophaseAgreesSpec.post enc Tryd.prog Tryd.f3 false true false false W args v W' := by
  have hW' := hW
  obtain ⟨p, q, hA0, hV, rfl, hfz, hnd⟩ := hW
  have hA : DataW.TrodAll enc Tryd.prog W 0 (fun _ => true) true Tryd.f3.params.toList args.toList ds p := hA0
  rw [Tryd.params3] at hA hval
  obtain ⟨v0, vs0, d0, ds0, p0, q0, hargs, rfl, rfl, h0, r0⟩ := trodAll_cons hA
  obtain ⟨v1, vs1, d1, ds1, p1, q1, rfl, rfl, rfl, h1, r1⟩ := trodAll_cons r0
  obtain ⟨v2, vs2, d2, ds2, p2, q2, rfl, rfl, rfl, h2, r2⟩ := trodAll_cons r1
  obtain ⟨rfl, rfl, rfl⟩ := trodAll_nil r2
  obtain rfl : args = #[v0, v1, v2] := by cases args; simp_all
  obtain ⟨rfl, rfl⟩ := trodVars_none hV
  clear hA0 hargs
  suffices walk : Calls Tryd.prog 3 #[v0, v1, v2] W fun e W' => e = .returned (.bool true) ∧ Ext W W' by
    refine walk.mono fun e W' ⟨he, hg⟩ => ?_
    subst he
    exact ⟨_, rfl, law_post (by kernel_rfl) (by kernel_rfl) rfl rfl Tryd.underlying4 hW' rfl hg⟩
  have hOK := okA_of @hval
  clear hval
  have hT : Tabs W := tabs_of_laid _hL
  have hB : Rows.uptoBulkAll _ ≤ 1048576 := of_decide_eq_true hk
  simp only [List.append_nil, Rows.uptoBulkAll] at hB
  obtain ⟨S0, rfl⟩ := okA_string hOK 0 rfl rfl Tryd.underlying9
  obtain ⟨x0, k0, w0, b0⟩ := arg_one okTys h0 rfl (s := .str) (by kernel_rfl) (by kernel_rfl)
  obtain ⟨s0, rfl⟩ := WTf.str_inv w0
  unfold Lf.bulk at b0
  obtain ⟨A1, L1, C1, rfl⟩ := okA_slice hOK 1 rfl rfl Tryd.underlying22
  obtain ⟨x1, k1, w1, b1⟩ := arg_one okTys h1 rfl (s := .rows 3) (by kernel_rfl) (by kernel_rfl)
  obtain ⟨r1, rfl, q1⟩ := WTf.rows_inv (n := 1) (shs := [.int .i64]) (by kernel_rfl) (by kernel_rfl) w1
  obtain ⟨s1, rfl⟩ := rows_ofW (f := lfI) (n := bulkR r1) (fun r _ h => ofW_int h) (Nat.le_refl _) q1
  obtain ⟨A2, L2, C2, rfl⟩ := okA_slice hOK 2 rfl rfl Tryd.underlying23
  obtain ⟨x2, k2, w2, b2⟩ := arg_one okTys h2 rfl (s := .rows 33) (by kernel_rfl) (by kernel_rfl)
  obtain ⟨r2, rfl, q2⟩ := WTf.rows_inv (n := 3) (shs := [.int .i64, .int .i64, .int .i64]) (by kernel_rfl) (by kernel_rfl) w2
  obtain ⟨s2, rfl⟩ := rows_ofW (f := GLaw54Op.lf) (n := bulkR r2) (fun r _ h => ofW_op h) (Nat.le_refl _) q2
  exact law_of (M_docstorelaw54_TwophaseAgrees_ok s0 s1 s2 true (agrees_law s0 s1 s2 (by omega))) hT (VRs.cons (VR.lf.2 k0) (VRs.cons (VR.lf.2 k1) (VRs.one (VR.lf.2 k2))))

theorem laid_met (os : Os) : laidMet Tryd.prog Rows.twophaseAgreesUptoRow.laid ((laidWorld os).forCall (fun _ _ => 0) ⟨#[], #[.string ⟨#[]⟩, .slice none 0 0, .slice none 0 0], []⟩).memory :=
  laidMet_of_run' 8 (by kernel_rfl) (by kernel_rfl)
theorem reads (os : Os) {H : Type} (enc : TypeId × Value → H) : ∃ places, DataW.whole enc Tryd.prog ((laidWorld os).forCall (fun _ _ => 0) ⟨#[], #[.string ⟨#[]⟩, .slice none 0 0, .slice none 0 0], []⟩).memory Tryd.f3.params.toList Rows.twophaseAgreesSpec.vars false #[.string ⟨#[]⟩, .slice none 0 0, .slice none 0 0].toList 8 = some ([.lit (.string []), .nil, .nil], [], places) :=
  ⟨[], by kernel_rfl⟩

set_option maxRecDepth 100000 in
theorem lifted (os : Os) (started : os.Started) (H : Type) (enc : TypeId × Value → H) (F : Stop.Interp) :
    ReturnsInHanded {} Tryd.checked os 3 .any ((Rows.OpenSpec.upto Rows.twophaseAgreesSpec).preRow enc Tryd.prog Tryd.f3 Rows.twophaseAgreesUptoRow.domain false Rows.twophaseAgreesUptoRow.laid) (((Rows.OpenSpec.upto Rows.twophaseAgreesSpec).at F).post enc Tryd.prog Tryd.f3 false true false false) := by
  obtain ⟨places, hx⟩ := reads os enc
  refine returnsInHanded_of_row (C := Tryd.checked) (s := Rows.OpenSpec.upto Rows.twophaseAgreesSpec) own started (by kernel_rfl) Tryd.func3
    (witness_row_at (enc := enc) (C := Tryd.checked) false (laidWorld os) #[.string ⟨#[]⟩, .slice none 0 0, .slice none 0 0] rfl (by kernel_rfl) (by kernel_rfl) (by kernel_rfl)
      (OpenSpec.preRow_of_cond 8 hx (by kernel_rfl) (fun k hk => by cases hk; kernel_rfl) (by kernel_rfl) (laid_met os))) ?_
  intro W base args ds gs before hval hW _ hcond _ hL _ _
  exact contract H enc W base args ds gs before hval hW hL (hcond _ rfl)

theorem said : Rows.TwophaseAgreesUptoSaid :=
  OpenClaim.holds_of_cond 3 Tryd.f3 rfl rfl rfl rfl rfl rfl rfl ⟨rfl, rfl, rfl, rfl, rfl⟩ rfl rfl rfl rfl rfl (by kernel_rfl) Tryd.func3 (by kernel_rfl)
    (of_decide_eq_true (by kernel_rfl)) (by unfold Func.isWrapper; first | (rw [if_pos (by decide +kernel)]; kernel_rfl) | (rw [if_neg (by decide +kernel)]; exact ⟨rfl, rfl⟩))
    (fun os started H enc _ F => by rw [OpenClaim.pre_eq_preRow]; exact lifted os started H enc F)

theorem plain (f : FuncId) (fn : Func) (hf : Tryd.pinned.checked.prog.funcNamed "docstore/docstorelaw54.TwophaseAgrees" = some f) (hfn : Tryd.pinned.checked.prog.funcs[f]? = some fn) :
    false = Tryd.pinned.checked.prog.looks [] ∧ ∀ (j : Nat) t, fn.params[j]? = some t → Tryd.pinned.checked.prog.wantsStandIn t = false := by
  obtain rfl : f = 3 := Option.some.inj ((show Tryd.prog.funcNamed "docstore/docstorelaw54.TwophaseAgrees" = some 3 by kernel_rfl).symm.trans hf) |>.symm
  obtain rfl : fn = Tryd.f3 := (Option.some.inj (Tryd.func3.symm.trans hfn)).symm
  refine ⟨by kernel_rfl, fun j t ht => ?_⟩
  have hall : (Tryd.f3.params.all fun t => !Tryd.prog.wantsStandIn t) = true := by kernel_rfl
  have h1 := Array.all_eq_true'.1 hall t (Array.mem_of_getElem? ht)
  have h2 : Tryd.prog.wantsStandIn t = false := by simpa using h1
  exact h2

/-- The card. -/
theorem card : Rows.TwophaseAgreesUptoCardSaid :=
  Claim7.holds_tied_plain_at .later [] _ _ _ _ said (fun _ h => by cases h) (by kernel_rfl) (fun _ h => by cases h) twophaseAgreesUpto_row_tie rfl ⟨rfl, rfl⟩ (by kernel_rfl) rfl plain (by kernel_rfl)
end Go.Proofs.YtplokbmdcfakbaaDoor.twophaseAgrees
