/- OplogOnly: for every input of bulk at most 2^20 the law returns true: only encodings of valid entries are decoded (the card, tied to the program's text). -/
import Derived.Test.YtflpefkohpjjpaaGreatDoorQO5
import Derived.Test.YtflpefkohpjjpaaGreatDoorQO10
set_option linter.unusedSimpArgs false
set_option linter.unusedVariables false
namespace Go.Proofs.YtflpefkohpjjpaaGreatDoor.oplogOnly
open Go.ChangeShapes Go.WideShapes Go.ChangeAt Go.RowKit

theorem apt:okT Tryz.prog [9] = true := by kernel_rfl
/-- What the walk gives, for every argument and every world. -/
theorem contract (H:Type) (enc:TypeId × Value → H) (W:World) (base:Nat) (args:Array Value) (ds gs:List (DataW H)) (before:List MemPlace)
    (hval:∀ (j:Nat) t v,Tryz.f7.params[j]? = some t → args[j]? = some v → Value.okWide Tryz.prog W .any base t v)
    (hW:DataW.Whole enc Tryz.prog Tryz.f7.params.toList Rows.oplogOnlySpec.vars false W args.toList ds gs before) (_hL:laidMetH Tryz.prog Rows.oplogOnlyUptoRow.laid W) (hk:Rows.uptoSmall H (ds ++ gs) = true) :
    Calls Tryz.prog 7 args W fun e W'=>∃ v,e = .returned v ∧ Rows.oplogOnlySpec.post enc Tryz.prog Tryz.f7 false true false false W args v W' := by
  have hW' := hW
  obtain ⟨p,q,hA0,hV,rfl,hfz,hnd⟩ := hW
  have hA:DataW.TrodAll enc Tryz.prog W 0 (fun _=>true) true Tryz.f7.params.toList args.toList ds p := hA0
  rw [Tryz.params7] at hA hval
  obtain ⟨v0,vs0,d0,ds0,p0,q0,hargs,rfl,rfl,h0,r0⟩ := trodAll_cons hA
  obtain ⟨rfl,rfl,rfl⟩ := trodAll_nil r0
  obtain rfl:args = #[v0] := by cases args; simp_all
  obtain ⟨rfl,rfl⟩ := trodVars_none hV
  clear hA0 hargs
  suffices walk:Calls Tryz.prog 7 #[v0] W fun e W'=>e = .returned (.bool true) ∧ Ext W W' by
    refine walk.mono fun e W' ⟨he,hg⟩=>?_
    subst he
    exact ⟨_,rfl,adf (by kernel_rfl) (by kernel_rfl) rfl rfl Tryz.underlying4 hW' rfl hg⟩
  have hOK := al4 @hval
  clear hval
  have hT:Tabs W := ND _hL
  have hB:Rows.uptoBulkAll _ ≤ 1048576 := of_decide_eq_true hk
  simp only [List.append_nil,Rows.uptoBulkAll] at hB
  obtain ⟨S0,rfl⟩ := VT hOK 0 rfl rfl Tryz.underlying9
  obtain ⟨x0,k0,w0,b0⟩ := ah9 apt h0 rfl (s := .str) (by kernel_rfl) (by kernel_rfl)
  obtain ⟨s0,rfl⟩ := WTf.ah7 w0
  unfold Lf.bulk at b0
  exact al5 (anV s0 true (Jk s0)) hT (VRs.one (VR.lf.2 k0))

theorem laid_met (os:Os) : laidMet Tryz.prog Rows.oplogOnlyUptoRow.laid ((laidWorld os).forCall (fun _ _=>0) ⟨#[],#[.string ⟨#[]⟩],[]⟩).memory :=
  laidMet_of_run' 8 (by kernel_rfl) (by kernel_rfl)
theorem reads (os:Os) {H:Type} (enc:TypeId × Value → H) : ∃ places,DataW.whole enc Tryz.prog ((laidWorld os).forCall (fun _ _=>0) ⟨#[],#[.string ⟨#[]⟩],[]⟩).memory Tryz.f7.params.toList Rows.oplogOnlySpec.vars false #[.string ⟨#[]⟩].toList 8 = some ([.lit (.string [])],[],places) :=
  ⟨[],by kernel_rfl⟩

set_option maxRecDepth 100000 in
theorem lifted (os:Os) (started:os.Started) (H:Type) (enc:TypeId × Value → H) (F:Stop.Interp) :
    ReturnsInHanded {} Tryz.checked os 7 .any ((Rows.OpenSpec.upto Rows.oplogOnlySpec).preRow enc Tryz.prog Tryz.f7 Rows.oplogOnlyUptoRow.domain false Rows.oplogOnlyUptoRow.laid) (((Rows.OpenSpec.upto Rows.oplogOnlySpec).at F).post enc Tryz.prog Tryz.f7 false true false false) := by
  obtain ⟨places,hx⟩ := reads os enc
  refine returnsInHanded_of_row (C := Tryz.checked) (s := Rows.OpenSpec.upto Rows.oplogOnlySpec) own started (by kernel_rfl) Tryz.func7
    (witness_row_at (enc := enc) (C := Tryz.checked) false (laidWorld os) #[.string ⟨#[]⟩] rfl (by kernel_rfl) (by kernel_rfl) (by kernel_rfl)
      (OpenSpec.preRow_of_cond 8 hx (by kernel_rfl) (fun k hk=>by cases hk; kernel_rfl) (by kernel_rfl) (laid_met os))) ?_
  intro W base args ds gs before hval hW _ hcond _ hL _ _
  exact contract H enc W base args ds gs before hval hW hL (hcond _ rfl)

set_option maxHeartbeats 100000000 in
theorem akp:joinedFacts Tryz.pinned.checked.prog 7 Tryz.f7 (Rows.OpenSpec.upto Rows.oplogOnlySpec).bare Rows.oplogOnlyUptoRow = true := by
  simp only [joinedFacts,Bool.and_eq_true]
  and_intros
  all_goals (as_aux_lemma=>kernel_rfl)

theorem said:Rows.OplogOnlyUptoSaid :=
  OpenClaim.holds_of_cond 7 Tryz.f7 rfl rfl rfl rfl rfl rfl rfl ⟨rfl, rfl, rfl, rfl, rfl⟩ rfl rfl rfl rfl rfl (by kernel_rfl) Tryz.func7 akp
    (of_decide_eq_true (by kernel_rfl)) (by unfold Func.isWrapper; first | (rw [if_pos (by decide +kernel)]; kernel_rfl) | (rw [if_neg (by decide +kernel)]; exact ⟨rfl,rfl⟩))
    (fun os started H enc _ F=>by rw [OpenClaim.pre_eq_preRow]; exact lifted os started H enc F)

theorem plain (f : FuncId) (fn : Func) (hf : Tryz.pinned.checked.prog.funcNamed "docstore/docstorelaw40.OplogOnly" = some f) (hfn : Tryz.pinned.checked.prog.funcs[f]? = some fn) :
    true = Tryz.pinned.checked.prog.looks [] ∧ ∀ (j:Nat) t,fn.params[j]? = some t → Tryz.pinned.checked.prog.wantsStandIn t = false := by
  obtain rfl : f = 7 := Option.some.inj ((show Tryz.prog.funcNamed "docstore/docstorelaw40.OplogOnly" = some 7 by kernel_rfl).symm.trans hf) |>.symm
  obtain rfl:fn = Tryz.f7 := (Option.some.inj (Tryz.func7.symm.trans hfn)).symm
  refine ⟨by kernel_rfl,fun j t ht=>?_⟩
  have hall:(Tryz.f7.params.all fun t=>!Tryz.prog.wantsStandIn t) = true := by kernel_rfl
  have h1 := Array.all_eq_true'.1 hall t (Array.mem_of_getElem? ht)
  have h2:Tryz.prog.wantsStandIn t = false := by simpa using h1
  exact h2

/-- The card. -/
theorem card:Rows.OplogOnlyUptoCardSaid :=
  Claim7.holds_tied_plain_at .later [] _ _ _ _ said (fun _ h=>by cases h) (by kernel_rfl) (fun _ h=>by cases h) oplogOnlyUpto_row_tie rfl ⟨rfl,rfl⟩ (by kernel_rfl) rfl plain (by kernel_rfl)
end Go.Proofs.YtflpefkohpjjpaaGreatDoor.oplogOnly
