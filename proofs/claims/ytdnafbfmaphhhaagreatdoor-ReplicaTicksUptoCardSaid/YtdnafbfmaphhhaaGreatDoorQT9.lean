/- The copy functions give back what they are handed (printed by idgen.py). -/
import Derived.Test.YtdnafbfmaphhhaaGreatDoorQT8
set_option linter.unusedSimpArgs false
set_option linter.unusedVariables false
namespace Go.Proofs.YtdnafbfmaphhhaaGreatDoor
open Go.RowKit
theorem election_copyValue_ids (n_ : Nat) : (∀ p_v : GValue, 4 * bulkL p_v.lf1 + 0 < n_ → bulkL p_v.lf1 ≤ 100000000 → (RB2_F n_).m1 p_v = some p_v) ∧ (∀ p_l : List GValue, 4 * bulkR (p_l.map GValue.lf) + 1 < n_ → bulkR (p_l.map GValue.lf) ≤ 100000000 → (RB2_F n_).m2 p_l = some p_l) ∧ (∀ p_l : List GField, 4 * bulkR (p_l.map GField.lf) + 2 < n_ → bulkR (p_l.map GField.lf) ≤ 100000000 → (RB2_F n_).m3 p_l = some p_l) ∧ (∀ p_f : GField, 4 * bulkL p_f.lf1 + 1 < n_ → bulkL p_f.lf1 ≤ 100000000 → (RB2_F n_).m4 p_f = some p_f) := by
  induction n_ with
  | zero => exact ⟨fun _ h => by omega, fun _ h => by omega, fun _ h => by omega, fun _ h => by omega⟩
  | succ n_ ih =>
    refine ⟨?_, ?_, ?_, ?_⟩
    · intro p_v h_ h2_
      have hbv := bulk_val p_v
      have := len_fields p_v.fDoc
      have := len_vals p_v.fList
      have e0 := (ih.2.1 p_v.fList (by omega) (by omega))
      have e1 := (ih.2.2.1 p_v.fDoc (by omega) (by omega))
      simp only [RB2_F, Q68_T, Mo.den, sbind_eq, sbind2_eq, bcase_eq, gcase_eq, e0, e1, Option.bind_some, List.length_nil]
      all_goals (cases p_v; rfl)
    · intro p_l h_ h2_
      have hl := len_vals p_l
      have h1 : Q31_L0 (RB2_F n_) p_l 0 (List.replicate (p_l.length : Int).toNat (GValue.mk 0 0 ⟨#[]⟩ [] [])) = some p_l := copy_loop p_l (fun x => (RB2_F n_).m1 x) _ _ (by simp) (by omega) (fun x hx => ih.1 x (by have := mem_val hx; omega) (by have := mem_val hx; omega)) (fun k s => by simp only [Q31_L0_T, Mo.den, sbind_eq, sbind2_eq, bcase_eq, gcase_eq])
      simp only [RB2_F, Q31_T, Mo.den, sbind_eq, sbind2_eq, bcase_eq, gcase_eq, h1]
      exact copyAll_fin p_l _ ⟨by omega, by omega, by unfold maxLen; omega⟩
    · intro p_l h_ h2_
      have hl := len_fields p_l
      have h1 : Q52_L0 (RB2_F n_) p_l 0 (List.replicate (p_l.length : Int).toNat (GField.mk ⟨#[]⟩ (GValue.mk 0 0 ⟨#[]⟩ [] []))) = some p_l := copy_loop p_l (fun x => (RB2_F n_).m4 x) _ _ (by simp) (by omega) (fun x hx => ih.2.2.2 x (by have := mem_field hx; omega) (by have := mem_field hx; omega)) (fun k s => by simp only [Q52_L0_T, Mo.den, sbind_eq, sbind2_eq, bcase_eq, gcase_eq])
      simp only [RB2_F, Q52_T, Mo.den, sbind_eq, sbind2_eq, bcase_eq, gcase_eq, h1]
      exact copyAll_fin p_l _ ⟨by omega, by omega, by unfold maxLen; omega⟩
    · intro p_f h_ h2_
      have hbv := bulk_field p_f
      have := bulk_val p_f.fValue
      have e0 := (ih.1 p_f.fValue (by omega) (by omega))
      simp only [RB2_F, Q119_T, Mo.den, sbind_eq, sbind2_eq, bcase_eq, gcase_eq, e0, Option.bind_some, List.length_nil]
      all_goals (cases p_f; rfl)
theorem election_copyValue_id (p_v : GValue) (h_ : bulkL p_v.lf1 ≤ 100000000) : Q68 p_v = some p_v := (election_copyValue_ids FU).1 p_v (lt_FU (by omega)) h_
theorem election_copyAll_api_Value_id (p_l : List GValue) (h_ : bulkR (p_l.map GValue.lf) ≤ 100000000) : Q31 p_l = some p_l := (election_copyValue_ids FU).2.1 p_l (lt_FU (by omega)) h_
theorem election_copyStrings_id (p_l : List ByteArray) (h_ : bulkR (p_l.map lfS) ≤ 100000000) : Q75 p_l = some p_l := by
  have hl := len_strs p_l
  simp only [Q75, Q75_T, Mo.den, sbind_eq, sbind2_eq, bcase_eq, gcase_eq, Option.bind_some, List.length_nil]
  rw [if_pos (by omega)]
  try rfl
theorem election_copyOrder_id (p_o : GOrder) (h_ : bulkL p_o.lf1 ≤ 100000000) : Q99 p_o = some p_o := by
  have hbv := bulk_order p_o
  have := len_strs p_o.fPath
  have e0 := (election_copyStrings_id p_o.fPath (by omega))
  simp only [Q99, Q99_T, Mo.den, sbind_eq, sbind2_eq, bcase_eq, gcase_eq, e0, Option.bind_some, List.length_nil]
  all_goals (cases p_o; rfl)
theorem election_copyAll_api_Order_id (p_l : List GOrder) (h_ : bulkR (p_l.map GOrder.lf) ≤ 100000000) : Q41 p_l = some p_l := by
  have hl := len_orders p_l
  have h1 : Q41_L0 p_l 0 (List.replicate (p_l.length : Int).toNat (GOrder.mk [] false)) = some p_l := copy_loop p_l (fun x => Q99 x) _ _ (by simp) (by omega) (fun x hx => election_copyOrder_id x (by have := mem_order hx; omega)) (fun k s => by simp only [Q41_L0_T, Mo.den, sbind_eq, sbind2_eq, bcase_eq, gcase_eq])
  simp only [Q41, Q41_T, Mo.den, sbind_eq, sbind2_eq, bcase_eq, gcase_eq, h1]
  exact copyAll_fin p_l _ ⟨by omega, by omega, by unfold maxLen; omega⟩
theorem election_copyExpr_ids (n_ : Nat) : (∀ p_e : GExpr, 4 * bulkL p_e.lf1 + 0 < n_ → bulkL p_e.lf1 ≤ 100000000 → (RB4_F n_).m1 p_e = some p_e) ∧ (∀ p_l : List GExpr, 4 * bulkR (p_l.map GExpr.lf) + 1 < n_ → bulkR (p_l.map GExpr.lf) ≤ 100000000 → (RB4_F n_).m2 p_l = some p_l) := by
  induction n_ with
  | zero => exact ⟨fun _ h => by omega, fun _ h => by omega⟩
  | succ n_ ih =>
    refine ⟨?_, ?_⟩
    · intro p_e h_ h2_
      have hbv := bulk_expr p_e
      have := bulk_val p_e.fArg
      have := len_exprs p_e.fKids
      have := len_strs p_e.fNames
      have := len_strs p_e.fPath
      have e0 := (election_copyStrings_id p_e.fPath (by omega))
      have e1 := (election_copyStrings_id p_e.fNames (by omega))
      have e2 := (election_copyValue_id p_e.fArg (by omega))
      have e3 := (ih.2 p_e.fKids (by omega) (by omega))
      simp only [RB4_F, Q91_T, Mo.den, sbind_eq, sbind2_eq, bcase_eq, gcase_eq, e0, e1, e2, e3, Option.bind_some, List.length_nil]
      all_goals (cases p_e; rfl)
    · intro p_l h_ h2_
      have hl := len_exprs p_l
      have h1 : Q56_L0 (RB4_F n_) p_l 0 (List.replicate (p_l.length : Int).toNat GExpr.z) = some p_l := copy_loop p_l (fun x => (RB4_F n_).m1 x) _ _ (by simp) (by omega) (fun x hx => ih.1 x (by have := mem_expr hx; omega) (by have := mem_expr hx; omega)) (fun k s => by simp only [Q56_L0_T, Mo.den, sbind_eq, sbind2_eq, bcase_eq, gcase_eq])
      simp only [RB4_F, Q56_T, Mo.den, sbind_eq, sbind2_eq, bcase_eq, gcase_eq, h1]
      exact copyAll_fin p_l _ ⟨by omega, by omega, by unfold maxLen; omega⟩
theorem election_copyExpr_id (p_e : GExpr) (h_ : bulkL p_e.lf1 ≤ 100000000) : Q91 p_e = some p_e := (election_copyExpr_ids FU).1 p_e (lt_FU (by omega)) h_
theorem election_copyPred_ids (n_ : Nat) : (∀ p_p : GPred, 4 * bulkL p_p.lf1 + 0 < n_ → bulkL p_p.lf1 ≤ 100000000 → (RB3_F n_).m1 p_p = some p_p) ∧ (∀ p_l : List GPred, 4 * bulkR (p_l.map GPred.lf) + 1 < n_ → bulkR (p_l.map GPred.lf) ≤ 100000000 → (RB3_F n_).m2 p_l = some p_l) := by
  induction n_ with
  | zero => exact ⟨fun _ h => by omega, fun _ h => by omega⟩
  | succ n_ ih =>
    refine ⟨?_, ?_⟩
    · intro p_p h_ h2_
      have hbv := bulk_pred p_p
      have := bulk_val p_p.fArg
      have := len_vals p_p.fArgs
      have := bulk_expr p_p.fExpr
      have := len_preds p_p.fKids
      have := len_strs p_p.fPath
      have := bulk_shape p_p.fShape
      have := len_points p_p.fShape.fPoints
      have := len_points p_p.fShape.fPoints
      have e0 := (election_copyStrings_id p_p.fPath (by omega))
      have e1 := (election_copyValue_id p_p.fArg (by omega))
      have e2 := (election_copyAll_api_Value_id p_p.fArgs (by omega))
      have e3 := (election_copyExpr_id p_p.fExpr (by omega))
      have e4 := (ih.2 p_p.fKids (by omega) (by omega))
      simp only [RB3_F, Q92_T, Mo.den, sbind_eq, sbind2_eq, bcase_eq, gcase_eq, e0, e1, e2, e3, e4, Option.bind_some, List.length_nil]
      rw [if_pos (by omega)]
      all_goals (cases p_p; rfl)
    · intro p_l h_ h2_
      have hl := len_preds p_l
      have h1 : Q57_L0 (RB3_F n_) p_l 0 (List.replicate (p_l.length : Int).toNat GPred.z) = some p_l := copy_loop p_l (fun x => (RB3_F n_).m1 x) _ _ (by simp) (by omega) (fun x hx => ih.1 x (by have := mem_pred hx; omega) (by have := mem_pred hx; omega)) (fun k s => by simp only [Q57_L0_T, Mo.den, sbind_eq, sbind2_eq, bcase_eq, gcase_eq])
      simp only [RB3_F, Q57_T, Mo.den, sbind_eq, sbind2_eq, bcase_eq, gcase_eq, h1]
      exact copyAll_fin p_l _ ⟨by omega, by omega, by unfold maxLen; omega⟩
theorem election_copyPred_id (p_p : GPred) (h_ : bulkL p_p.lf1 ≤ 100000000) : Q92 p_p = some p_p := (election_copyPred_ids FU).1 p_p (lt_FU (by omega)) h_
theorem election_copyIndex_id (p_x : GIndex) (h_ : bulkL p_x.lf1 ≤ 100000000) : Q81 p_x = some p_x := by
  have hbv := bulk_index p_x
  have := len_orders p_x.fKeys
  have := bulk_pred p_x.fWhere
  have e0 := (election_copyAll_api_Order_id p_x.fKeys (by omega))
  have e1 := (election_copyPred_id p_x.fWhere (by omega))
  simp only [Q81, Q81_T, Mo.den, sbind_eq, sbind2_eq, bcase_eq, gcase_eq, e0, e1, Option.bind_some, List.length_nil]
  all_goals (cases p_x; rfl)
theorem election_copyAll_api_Index_id (p_l : List GIndex) (h_ : bulkR (p_l.map GIndex.lf) ≤ 100000000) : Q42 p_l = some p_l := by
  have hl := len_indexes p_l
  have h1 : Q42_L0 p_l 0 (List.replicate (p_l.length : Int).toNat GIndex.z) = some p_l := copy_loop p_l (fun x => Q81 x) _ _ (by simp) (by omega) (fun x hx => election_copyIndex_id x (by have := mem_index hx; omega)) (fun k s => by simp only [Q42_L0_T, Mo.den, sbind_eq, sbind2_eq, bcase_eq, gcase_eq])
  simp only [Q42, Q42_T, Mo.den, sbind_eq, sbind2_eq, bcase_eq, gcase_eq, h1]
  exact copyAll_fin p_l _ ⟨by omega, by omega, by unfold maxLen; omega⟩
theorem election_copySchema_ids (n_ : Nat) : (∀ p_s : GSchema, 4 * bulkL p_s.lf1 + 0 < n_ → bulkL p_s.lf1 ≤ 100000000 → (RB5_F n_).m1 p_s = some p_s) ∧ (∀ p_l : List GProp, 4 * bulkR (p_l.map GProp.lf) + 2 < n_ → bulkR (p_l.map GProp.lf) ≤ 100000000 → (RB5_F n_).m2 p_l = some p_l) ∧ (∀ p_l : List GSchema, 4 * bulkR (p_l.map GSchema.lf) + 1 < n_ → bulkR (p_l.map GSchema.lf) ≤ 100000000 → (RB5_F n_).m3 p_l = some p_l) ∧ (∀ p_p : GProp, 4 * bulkL p_p.lf1 + 1 < n_ → bulkL p_p.lf1 ≤ 100000000 → (RB5_F n_).m4 p_p = some p_p) := by
  induction n_ with
  | zero => exact ⟨fun _ h => by omega, fun _ h => by omega, fun _ h => by omega, fun _ h => by omega⟩
  | succ n_ ih =>
    refine ⟨?_, ?_, ?_, ?_⟩
    · intro p_s h_ h2_
      have hbv := bulk_schema p_s
      have := len_vals p_s.fEnum
      have := len_schemas p_s.fItems
      have := bulk_val p_s.fMax
      have := bulk_val p_s.fMin
      have := len_props p_s.fProps
      have := len_strs p_s.fRequired
      have e0 := (election_copyValue_id p_s.fMin (by omega))
      have e1 := (election_copyValue_id p_s.fMax (by omega))
      have e2 := (election_copyAll_api_Value_id p_s.fEnum (by omega))
      have e3 := (election_copyStrings_id p_s.fRequired (by omega))
      have e4 := (ih.2.1 p_s.fProps (by omega) (by omega))
      have e5 := (ih.2.2.1 p_s.fItems (by omega) (by omega))
      simp only [RB5_F, Q82_T, Mo.den, sbind_eq, sbind2_eq, bcase_eq, gcase_eq, e0, e1, e2, e3, e4, e5, Option.bind_some, List.length_nil]
      all_goals (cases p_s; rfl)
    · intro p_l h_ h2_
      have hl := len_props p_l
      have h1 : Q58_L0 (RB5_F n_) p_l 0 (List.replicate (p_l.length : Int).toNat (GProp.mk ⟨#[]⟩ GSchema.z)) = some p_l := copy_loop p_l (fun x => (RB5_F n_).m4 x) _ _ (by simp) (by omega) (fun x hx => ih.2.2.2 x (by have := mem_prop hx; omega) (by have := mem_prop hx; omega)) (fun k s => by simp only [Q58_L0_T, Mo.den, sbind_eq, sbind2_eq, bcase_eq, gcase_eq])
      simp only [RB5_F, Q58_T, Mo.den, sbind_eq, sbind2_eq, bcase_eq, gcase_eq, h1]
      exact copyAll_fin p_l _ ⟨by omega, by omega, by unfold maxLen; omega⟩
    · intro p_l h_ h2_
      have hl := len_schemas p_l
      have h1 : Q49_L0 (RB5_F n_) p_l 0 (List.replicate (p_l.length : Int).toNat GSchema.z) = some p_l := copy_loop p_l (fun x => (RB5_F n_).m1 x) _ _ (by simp) (by omega) (fun x hx => ih.1 x (by have := mem_schema hx; omega) (by have := mem_schema hx; omega)) (fun k s => by simp only [Q49_L0_T, Mo.den, sbind_eq, sbind2_eq, bcase_eq, gcase_eq])
      simp only [RB5_F, Q49_T, Mo.den, sbind_eq, sbind2_eq, bcase_eq, gcase_eq, h1]
      exact copyAll_fin p_l _ ⟨by omega, by omega, by unfold maxLen; omega⟩
    · intro p_p h_ h2_
      have hbv := bulk_prop p_p
      have := bulk_schema p_p.fSchema
      have e0 := (ih.1 p_p.fSchema (by omega) (by omega))
      simp only [RB5_F, Q121_T, Mo.den, sbind_eq, sbind2_eq, bcase_eq, gcase_eq, e0, Option.bind_some, List.length_nil]
      all_goals (cases p_p; rfl)
theorem election_copySchema_id (p_s : GSchema) (h_ : bulkL p_s.lf1 ≤ 100000000) : Q82 p_s = some p_s := (election_copySchema_ids FU).1 p_s (lt_FU (by omega)) h_
theorem election_copySpace_id (p_d : GSpace) (h_ : bulkL p_d.lf1 ≤ 100000000) : Q106 p_d = some p_d := by
  have hbv := bulk_space p_d
  have := len_indexes p_d.fIndexes
  have := bulk_schema p_d.fSchema
  have e0 := (election_copyAll_api_Index_id p_d.fIndexes (by omega))
  have e1 := (election_copySchema_id p_d.fSchema (by omega))
  simp only [Q106, Q106_T, Mo.den, sbind_eq, sbind2_eq, bcase_eq, gcase_eq, e0, e1, Option.bind_some, List.length_nil]
  all_goals (cases p_d; rfl)
theorem election_copyInts_id (p_l : List Int) (h_ : bulkR (p_l.map lfI) ≤ 100000000) : Q79 p_l = some p_l := by
  have hl := len_ints p_l
  simp only [Q79, Q79_T, Mo.den, sbind_eq, sbind2_eq, bcase_eq, gcase_eq, Option.bind_some, List.length_nil]
  rw [if_pos (by omega)]
  try rfl
theorem election_copyWrite_ids (n_ : Nat) : (∀ p_w : GWrite, 4 * bulkL p_w.lf1 + 0 < n_ → bulkL p_w.lf1 ≤ 100000000 → (RB1_F n_).m1 p_w = some p_w) ∧ (∀ p_l : List GWrite, 4 * bulkR (p_l.map GWrite.lf) + 1 < n_ → bulkR (p_l.map GWrite.lf) ≤ 100000000 → (RB1_F n_).m2 p_l = some p_l) := by
  induction n_ with
  | zero => exact ⟨fun _ h => by omega, fun _ h => by omega⟩
  | succ n_ ih =>
    refine ⟨?_, ?_⟩
    · intro p_w h_ h2_
      have hbv := bulk_write p_w
      have := bulk_val p_w.fBefore
      have := bulk_space p_w.fDef
      have := bulk_val p_w.fDoc
      have := bulk_index p_w.fIndex
      have := bulk_val p_w.fKey
      have := len_ints p_w.fShards
      have := len_writes p_w.fWrites
      have e0 := (election_copyValue_id p_w.fKey (by omega))
      have e1 := (election_copyValue_id p_w.fDoc (by omega))
      have e2 := (election_copyValue_id p_w.fBefore (by omega))
      have e3 := (election_copySpace_id p_w.fDef (by omega))
      have e4 := (election_copyIndex_id p_w.fIndex (by omega))
      have e5 := (ih.2 p_w.fWrites (by omega) (by omega))
      have e6 := (election_copyInts_id p_w.fShards (by omega))
      simp only [RB1_F, Q88_T, Mo.den, sbind_eq, sbind2_eq, bcase_eq, gcase_eq, e0, e1, e2, e3, e4, e5, e6, Option.bind_some, List.length_nil]
      all_goals (cases p_w; rfl)
    · intro p_l h_ h2_
      have hl := len_writes p_l
      have h1 : Q53_L0 (RB1_F n_) p_l 0 (List.replicate (p_l.length : Int).toNat GWrite.z) = some p_l := copy_loop p_l (fun x => (RB1_F n_).m1 x) _ _ (by simp) (by omega) (fun x hx => ih.1 x (by have := mem_write hx; omega) (by have := mem_write hx; omega)) (fun k s => by simp only [Q53_L0_T, Mo.den, sbind_eq, sbind2_eq, bcase_eq, gcase_eq])
      simp only [RB1_F, Q53_T, Mo.den, sbind_eq, sbind2_eq, bcase_eq, gcase_eq, h1]
      exact copyAll_fin p_l _ ⟨by omega, by omega, by unfold maxLen; omega⟩
theorem election_copyWrite_id (p_w : GWrite) (h_ : bulkL p_w.lf1 ≤ 100000000) : Q88 p_w = some p_w := (election_copyWrite_ids FU).1 p_w (lt_FU (by omega)) h_
theorem election_copyEntry_id (p_e : GEntry) (h_ : bulkL p_e.lf1 ≤ 100000000) : Q100 p_e = some p_e := by
  have hbv := bulk_entry p_e
  have := bulk_write p_e.fWrite
  have e0 := (election_copyWrite_id p_e.fWrite (by omega))
  simp only [Q100, Q100_T, Mo.den, sbind_eq, sbind2_eq, bcase_eq, gcase_eq, e0, Option.bind_some, List.length_nil]
  all_goals (cases p_e; rfl)
theorem election_copyAll_api_Entry_id (p_l : List GEntry) (h_ : bulkR (p_l.map GEntry.lf) ≤ 100000000) : Q43 p_l = some p_l := by
  have hl := len_entries p_l
  have h1 : Q43_L0 p_l 0 (List.replicate (p_l.length : Int).toNat (GEntry.mk 0 0 ⟨#[]⟩ 0 GWrite.z)) = some p_l := copy_loop p_l (fun x => Q100 x) _ _ (by simp) (by omega) (fun x hx => election_copyEntry_id x (by have := mem_entry hx; omega)) (fun k s => by simp only [Q43_L0_T, Mo.den, sbind_eq, sbind2_eq, bcase_eq, gcase_eq])
  simp only [Q43, Q43_T, Mo.den, sbind_eq, sbind2_eq, bcase_eq, gcase_eq, h1]
  exact copyAll_fin p_l _ ⟨by omega, by omega, by unfold maxLen; omega⟩
theorem election_copyMember_id (p_m : GMember) (h_ : bulkL p_m.lf1 ≤ 100000000) : Q86 p_m = some p_m := by
  have hbv := bulk_member p_m
  have := len_entries p_m.fLog
  have := len_ints p_m.fMatch
  have := len_ints p_m.fNext
  have e0 := (election_copyAll_api_Entry_id p_m.fLog (by omega))
  have e1 := (election_copyInts_id p_m.fNext (by omega))
  have e2 := (election_copyInts_id p_m.fMatch (by omega))
  simp only [Q86, Q86_T, Mo.den, sbind_eq, sbind2_eq, bcase_eq, gcase_eq, e0, e1, e2, Option.bind_some, List.length_nil]
  all_goals (cases p_m; rfl)
theorem rollback_copyValue_ids (n_ : Nat) : (∀ p_v : GValue, 4 * bulkL p_v.lf1 + 0 < n_ → bulkL p_v.lf1 ≤ 100000000 → (RB7_F n_).m1 p_v = some p_v) ∧ (∀ p_l : List GValue, 4 * bulkR (p_l.map GValue.lf) + 1 < n_ → bulkR (p_l.map GValue.lf) ≤ 100000000 → (RB7_F n_).m2 p_l = some p_l) ∧ (∀ p_l : List GField, 4 * bulkR (p_l.map GField.lf) + 2 < n_ → bulkR (p_l.map GField.lf) ≤ 100000000 → (RB7_F n_).m3 p_l = some p_l) ∧ (∀ p_f : GField, 4 * bulkL p_f.lf1 + 1 < n_ → bulkL p_f.lf1 ≤ 100000000 → (RB7_F n_).m4 p_f = some p_f) := by
  induction n_ with
  | zero => exact ⟨fun _ h => by omega, fun _ h => by omega, fun _ h => by omega, fun _ h => by omega⟩
  | succ n_ ih =>
    refine ⟨?_, ?_, ?_, ?_⟩
    · intro p_v h_ h2_
      have hbv := bulk_val p_v
      have := len_fields p_v.fDoc
      have := len_vals p_v.fList
      have e0 := (ih.2.1 p_v.fList (by omega) (by omega))
      have e1 := (ih.2.2.1 p_v.fDoc (by omega) (by omega))
      simp only [RB7_F, Q69_T, Mo.den, sbind_eq, sbind2_eq, bcase_eq, gcase_eq, e0, e1, Option.bind_some, List.length_nil]
      all_goals (cases p_v; rfl)
    · intro p_l h_ h2_
      have hl := len_vals p_l
      have h1 : Q32_L0 (RB7_F n_) p_l 0 (List.replicate (p_l.length : Int).toNat (GValue.mk 0 0 ⟨#[]⟩ [] [])) = some p_l := copy_loop p_l (fun x => (RB7_F n_).m1 x) _ _ (by simp) (by omega) (fun x hx => ih.1 x (by have := mem_val hx; omega) (by have := mem_val hx; omega)) (fun k s => by simp only [Q32_L0_T, Mo.den, sbind_eq, sbind2_eq, bcase_eq, gcase_eq])
      simp only [RB7_F, Q32_T, Mo.den, sbind_eq, sbind2_eq, bcase_eq, gcase_eq, h1]
      exact copyAll_fin p_l _ ⟨by omega, by omega, by unfold maxLen; omega⟩
    · intro p_l h_ h2_
      have hl := len_fields p_l
      have h1 : Q54_L0 (RB7_F n_) p_l 0 (List.replicate (p_l.length : Int).toNat (GField.mk ⟨#[]⟩ (GValue.mk 0 0 ⟨#[]⟩ [] []))) = some p_l := copy_loop p_l (fun x => (RB7_F n_).m4 x) _ _ (by simp) (by omega) (fun x hx => ih.2.2.2 x (by have := mem_field hx; omega) (by have := mem_field hx; omega)) (fun k s => by simp only [Q54_L0_T, Mo.den, sbind_eq, sbind2_eq, bcase_eq, gcase_eq])
      simp only [RB7_F, Q54_T, Mo.den, sbind_eq, sbind2_eq, bcase_eq, gcase_eq, h1]
      exact copyAll_fin p_l _ ⟨by omega, by omega, by unfold maxLen; omega⟩
    · intro p_f h_ h2_
      have hbv := bulk_field p_f
      have := bulk_val p_f.fValue
      have e0 := (ih.1 p_f.fValue (by omega) (by omega))
      simp only [RB7_F, Q120_T, Mo.den, sbind_eq, sbind2_eq, bcase_eq, gcase_eq, e0, Option.bind_some, List.length_nil]
      all_goals (cases p_f; rfl)
theorem rollback_copyValue_id (p_v : GValue) (h_ : bulkL p_v.lf1 ≤ 100000000) : Q69 p_v = some p_v := (rollback_copyValue_ids FU).1 p_v (lt_FU (by omega)) h_
theorem rollback_copyAll_api_Value_id (p_l : List GValue) (h_ : bulkR (p_l.map GValue.lf) ≤ 100000000) : Q32 p_l = some p_l := (rollback_copyValue_ids FU).2.1 p_l (lt_FU (by omega)) h_
theorem rollback_copyStrings_id (p_l : List ByteArray) (h_ : bulkR (p_l.map lfS) ≤ 100000000) : Q76 p_l = some p_l := by
  have hl := len_strs p_l
  simp only [Q76, Q76_T, Mo.den, sbind_eq, sbind2_eq, bcase_eq, gcase_eq, Option.bind_some, List.length_nil]
  rw [if_pos (by omega)]
  try rfl
theorem rollback_copyOrder_id (p_o : GOrder) (h_ : bulkL p_o.lf1 ≤ 100000000) : Q101 p_o = some p_o := by
  have hbv := bulk_order p_o
  have := len_strs p_o.fPath
  have e0 := (rollback_copyStrings_id p_o.fPath (by omega))
  simp only [Q101, Q101_T, Mo.den, sbind_eq, sbind2_eq, bcase_eq, gcase_eq, e0, Option.bind_some, List.length_nil]
  all_goals (cases p_o; rfl)
theorem rollback_copyAll_api_Order_id (p_l : List GOrder) (h_ : bulkR (p_l.map GOrder.lf) ≤ 100000000) : Q44 p_l = some p_l := by
  have hl := len_orders p_l
  have h1 : Q44_L0 p_l 0 (List.replicate (p_l.length : Int).toNat (GOrder.mk [] false)) = some p_l := copy_loop p_l (fun x => Q101 x) _ _ (by simp) (by omega) (fun x hx => rollback_copyOrder_id x (by have := mem_order hx; omega)) (fun k s => by simp only [Q44_L0_T, Mo.den, sbind_eq, sbind2_eq, bcase_eq, gcase_eq])
  simp only [Q44, Q44_T, Mo.den, sbind_eq, sbind2_eq, bcase_eq, gcase_eq, h1]
  exact copyAll_fin p_l _ ⟨by omega, by omega, by unfold maxLen; omega⟩
theorem rollback_copyExpr_ids (n_ : Nat) : (∀ p_e : GExpr, 4 * bulkL p_e.lf1 + 0 < n_ → bulkL p_e.lf1 ≤ 100000000 → (RB9_F n_).m1 p_e = some p_e) ∧ (∀ p_l : List GExpr, 4 * bulkR (p_l.map GExpr.lf) + 1 < n_ → bulkR (p_l.map GExpr.lf) ≤ 100000000 → (RB9_F n_).m2 p_l = some p_l) := by
  induction n_ with
  | zero => exact ⟨fun _ h => by omega, fun _ h => by omega⟩
  | succ n_ ih =>
    refine ⟨?_, ?_⟩
    · intro p_e h_ h2_
      have hbv := bulk_expr p_e
      have := bulk_val p_e.fArg
      have := len_exprs p_e.fKids
      have := len_strs p_e.fNames
      have := len_strs p_e.fPath
      have e0 := (rollback_copyStrings_id p_e.fPath (by omega))
      have e1 := (rollback_copyStrings_id p_e.fNames (by omega))
      have e2 := (rollback_copyValue_id p_e.fArg (by omega))
      have e3 := (ih.2 p_e.fKids (by omega) (by omega))
      simp only [RB9_F, Q93_T, Mo.den, sbind_eq, sbind2_eq, bcase_eq, gcase_eq, e0, e1, e2, e3, Option.bind_some, List.length_nil]
      all_goals (cases p_e; rfl)
    · intro p_l h_ h2_
      have hl := len_exprs p_l
      have h1 : Q59_L0 (RB9_F n_) p_l 0 (List.replicate (p_l.length : Int).toNat GExpr.z) = some p_l := copy_loop p_l (fun x => (RB9_F n_).m1 x) _ _ (by simp) (by omega) (fun x hx => ih.1 x (by have := mem_expr hx; omega) (by have := mem_expr hx; omega)) (fun k s => by simp only [Q59_L0_T, Mo.den, sbind_eq, sbind2_eq, bcase_eq, gcase_eq])
      simp only [RB9_F, Q59_T, Mo.den, sbind_eq, sbind2_eq, bcase_eq, gcase_eq, h1]
      exact copyAll_fin p_l _ ⟨by omega, by omega, by unfold maxLen; omega⟩
theorem rollback_copyExpr_id (p_e : GExpr) (h_ : bulkL p_e.lf1 ≤ 100000000) : Q93 p_e = some p_e := (rollback_copyExpr_ids FU).1 p_e (lt_FU (by omega)) h_
theorem rollback_copyPred_ids (n_ : Nat) : (∀ p_p : GPred, 4 * bulkL p_p.lf1 + 0 < n_ → bulkL p_p.lf1 ≤ 100000000 → (RB8_F n_).m1 p_p = some p_p) ∧ (∀ p_l : List GPred, 4 * bulkR (p_l.map GPred.lf) + 1 < n_ → bulkR (p_l.map GPred.lf) ≤ 100000000 → (RB8_F n_).m2 p_l = some p_l) := by
  induction n_ with
  | zero => exact ⟨fun _ h => by omega, fun _ h => by omega⟩
  | succ n_ ih =>
    refine ⟨?_, ?_⟩
    · intro p_p h_ h2_
      have hbv := bulk_pred p_p
      have := bulk_val p_p.fArg
      have := len_vals p_p.fArgs
      have := bulk_expr p_p.fExpr
      have := len_preds p_p.fKids
      have := len_strs p_p.fPath
      have := bulk_shape p_p.fShape
      have := len_points p_p.fShape.fPoints
      have := len_points p_p.fShape.fPoints
      have e0 := (rollback_copyStrings_id p_p.fPath (by omega))
      have e1 := (rollback_copyValue_id p_p.fArg (by omega))
      have e2 := (rollback_copyAll_api_Value_id p_p.fArgs (by omega))
      have e3 := (rollback_copyExpr_id p_p.fExpr (by omega))
      have e4 := (ih.2 p_p.fKids (by omega) (by omega))
      simp only [RB8_F, Q94_T, Mo.den, sbind_eq, sbind2_eq, bcase_eq, gcase_eq, e0, e1, e2, e3, e4, Option.bind_some, List.length_nil]
      rw [if_pos (by omega)]
      all_goals (cases p_p; rfl)
    · intro p_l h_ h2_
      have hl := len_preds p_l
      have h1 : Q60_L0 (RB8_F n_) p_l 0 (List.replicate (p_l.length : Int).toNat GPred.z) = some p_l := copy_loop p_l (fun x => (RB8_F n_).m1 x) _ _ (by simp) (by omega) (fun x hx => ih.1 x (by have := mem_pred hx; omega) (by have := mem_pred hx; omega)) (fun k s => by simp only [Q60_L0_T, Mo.den, sbind_eq, sbind2_eq, bcase_eq, gcase_eq])
      simp only [RB8_F, Q60_T, Mo.den, sbind_eq, sbind2_eq, bcase_eq, gcase_eq, h1]
      exact copyAll_fin p_l _ ⟨by omega, by omega, by unfold maxLen; omega⟩
theorem rollback_copyPred_id (p_p : GPred) (h_ : bulkL p_p.lf1 ≤ 100000000) : Q94 p_p = some p_p := (rollback_copyPred_ids FU).1 p_p (lt_FU (by omega)) h_
theorem rollback_copyIndex_id (p_x : GIndex) (h_ : bulkL p_x.lf1 ≤ 100000000) : Q83 p_x = some p_x := by
  have hbv := bulk_index p_x
  have := len_orders p_x.fKeys
  have := bulk_pred p_x.fWhere
  have e0 := (rollback_copyAll_api_Order_id p_x.fKeys (by omega))
  have e1 := (rollback_copyPred_id p_x.fWhere (by omega))
  simp only [Q83, Q83_T, Mo.den, sbind_eq, sbind2_eq, bcase_eq, gcase_eq, e0, e1, Option.bind_some, List.length_nil]
  all_goals (cases p_x; rfl)
theorem rollback_copyAll_api_Index_id (p_l : List GIndex) (h_ : bulkR (p_l.map GIndex.lf) ≤ 100000000) : Q45 p_l = some p_l := by
  have hl := len_indexes p_l
  have h1 : Q45_L0 p_l 0 (List.replicate (p_l.length : Int).toNat GIndex.z) = some p_l := copy_loop p_l (fun x => Q83 x) _ _ (by simp) (by omega) (fun x hx => rollback_copyIndex_id x (by have := mem_index hx; omega)) (fun k s => by simp only [Q45_L0_T, Mo.den, sbind_eq, sbind2_eq, bcase_eq, gcase_eq])
  simp only [Q45, Q45_T, Mo.den, sbind_eq, sbind2_eq, bcase_eq, gcase_eq, h1]
  exact copyAll_fin p_l _ ⟨by omega, by omega, by unfold maxLen; omega⟩
theorem rollback_copySchema_ids (n_ : Nat) : (∀ p_s : GSchema, 4 * bulkL p_s.lf1 + 0 < n_ → bulkL p_s.lf1 ≤ 100000000 → (RB10_F n_).m1 p_s = some p_s) ∧ (∀ p_l : List GProp, 4 * bulkR (p_l.map GProp.lf) + 2 < n_ → bulkR (p_l.map GProp.lf) ≤ 100000000 → (RB10_F n_).m2 p_l = some p_l) ∧ (∀ p_l : List GSchema, 4 * bulkR (p_l.map GSchema.lf) + 1 < n_ → bulkR (p_l.map GSchema.lf) ≤ 100000000 → (RB10_F n_).m3 p_l = some p_l) ∧ (∀ p_p : GProp, 4 * bulkL p_p.lf1 + 1 < n_ → bulkL p_p.lf1 ≤ 100000000 → (RB10_F n_).m4 p_p = some p_p) := by
  induction n_ with
  | zero => exact ⟨fun _ h => by omega, fun _ h => by omega, fun _ h => by omega, fun _ h => by omega⟩
  | succ n_ ih =>
    refine ⟨?_, ?_, ?_, ?_⟩
    · intro p_s h_ h2_
      have hbv := bulk_schema p_s
      have := len_vals p_s.fEnum
      have := len_schemas p_s.fItems
      have := bulk_val p_s.fMax
      have := bulk_val p_s.fMin
      have := len_props p_s.fProps
      have := len_strs p_s.fRequired
      have e0 := (rollback_copyValue_id p_s.fMin (by omega))
      have e1 := (rollback_copyValue_id p_s.fMax (by omega))
      have e2 := (rollback_copyAll_api_Value_id p_s.fEnum (by omega))
      have e3 := (rollback_copyStrings_id p_s.fRequired (by omega))
      have e4 := (ih.2.1 p_s.fProps (by omega) (by omega))
      have e5 := (ih.2.2.1 p_s.fItems (by omega) (by omega))
      simp only [RB10_F, Q84_T, Mo.den, sbind_eq, sbind2_eq, bcase_eq, gcase_eq, e0, e1, e2, e3, e4, e5, Option.bind_some, List.length_nil]
      all_goals (cases p_s; rfl)
    · intro p_l h_ h2_
      have hl := len_props p_l
      have h1 : Q61_L0 (RB10_F n_) p_l 0 (List.replicate (p_l.length : Int).toNat (GProp.mk ⟨#[]⟩ GSchema.z)) = some p_l := copy_loop p_l (fun x => (RB10_F n_).m4 x) _ _ (by simp) (by omega) (fun x hx => ih.2.2.2 x (by have := mem_prop hx; omega) (by have := mem_prop hx; omega)) (fun k s => by simp only [Q61_L0_T, Mo.den, sbind_eq, sbind2_eq, bcase_eq, gcase_eq])
      simp only [RB10_F, Q61_T, Mo.den, sbind_eq, sbind2_eq, bcase_eq, gcase_eq, h1]
      exact copyAll_fin p_l _ ⟨by omega, by omega, by unfold maxLen; omega⟩
    · intro p_l h_ h2_
      have hl := len_schemas p_l
      have h1 : Q50_L0 (RB10_F n_) p_l 0 (List.replicate (p_l.length : Int).toNat GSchema.z) = some p_l := copy_loop p_l (fun x => (RB10_F n_).m1 x) _ _ (by simp) (by omega) (fun x hx => ih.1 x (by have := mem_schema hx; omega) (by have := mem_schema hx; omega)) (fun k s => by simp only [Q50_L0_T, Mo.den, sbind_eq, sbind2_eq, bcase_eq, gcase_eq])
      simp only [RB10_F, Q50_T, Mo.den, sbind_eq, sbind2_eq, bcase_eq, gcase_eq, h1]
      exact copyAll_fin p_l _ ⟨by omega, by omega, by unfold maxLen; omega⟩
    · intro p_p h_ h2_
      have hbv := bulk_prop p_p
      have := bulk_schema p_p.fSchema
      have e0 := (ih.1 p_p.fSchema (by omega) (by omega))
      simp only [RB10_F, Q122_T, Mo.den, sbind_eq, sbind2_eq, bcase_eq, gcase_eq, e0, Option.bind_some, List.length_nil]
      all_goals (cases p_p; rfl)
theorem rollback_copySchema_id (p_s : GSchema) (h_ : bulkL p_s.lf1 ≤ 100000000) : Q84 p_s = some p_s := (rollback_copySchema_ids FU).1 p_s (lt_FU (by omega)) h_
theorem rollback_copySpace_id (p_d : GSpace) (h_ : bulkL p_d.lf1 ≤ 100000000) : Q108 p_d = some p_d := by
  have hbv := bulk_space p_d
  have := len_indexes p_d.fIndexes
  have := bulk_schema p_d.fSchema
  have e0 := (rollback_copyAll_api_Index_id p_d.fIndexes (by omega))
  have e1 := (rollback_copySchema_id p_d.fSchema (by omega))
  simp only [Q108, Q108_T, Mo.den, sbind_eq, sbind2_eq, bcase_eq, gcase_eq, e0, e1, Option.bind_some, List.length_nil]
  all_goals (cases p_d; rfl)
theorem rollback_copyInts_id (p_l : List Int) (h_ : bulkR (p_l.map lfI) ≤ 100000000) : Q80 p_l = some p_l := by
  have hl := len_ints p_l
  simp only [Q80, Q80_T, Mo.den, sbind_eq, sbind2_eq, bcase_eq, gcase_eq, Option.bind_some, List.length_nil]
  rw [if_pos (by omega)]
  try rfl
theorem rollback_copyWrite_ids (n_ : Nat) : (∀ p_w : GWrite, 4 * bulkL p_w.lf1 + 0 < n_ → bulkL p_w.lf1 ≤ 100000000 → (RB6_F n_).m1 p_w = some p_w) ∧ (∀ p_l : List GWrite, 4 * bulkR (p_l.map GWrite.lf) + 1 < n_ → bulkR (p_l.map GWrite.lf) ≤ 100000000 → (RB6_F n_).m2 p_l = some p_l) := by
  induction n_ with
  | zero => exact ⟨fun _ h => by omega, fun _ h => by omega⟩
  | succ n_ ih =>
    refine ⟨?_, ?_⟩
    · intro p_w h_ h2_
      have hbv := bulk_write p_w
      have := bulk_val p_w.fBefore
      have := bulk_space p_w.fDef
      have := bulk_val p_w.fDoc
      have := bulk_index p_w.fIndex
      have := bulk_val p_w.fKey
      have := len_ints p_w.fShards
      have := len_writes p_w.fWrites
      have e0 := (rollback_copyValue_id p_w.fKey (by omega))
      have e1 := (rollback_copyValue_id p_w.fDoc (by omega))
      have e2 := (rollback_copyValue_id p_w.fBefore (by omega))
      have e3 := (rollback_copySpace_id p_w.fDef (by omega))
      have e4 := (rollback_copyIndex_id p_w.fIndex (by omega))
      have e5 := (ih.2 p_w.fWrites (by omega) (by omega))
      have e6 := (rollback_copyInts_id p_w.fShards (by omega))
      simp only [RB6_F, Q89_T, Mo.den, sbind_eq, sbind2_eq, bcase_eq, gcase_eq, e0, e1, e2, e3, e4, e5, e6, Option.bind_some, List.length_nil]
      all_goals (cases p_w; rfl)
    · intro p_l h_ h2_
      have hl := len_writes p_l
      have h1 : Q55_L0 (RB6_F n_) p_l 0 (List.replicate (p_l.length : Int).toNat GWrite.z) = some p_l := copy_loop p_l (fun x => (RB6_F n_).m1 x) _ _ (by simp) (by omega) (fun x hx => ih.1 x (by have := mem_write hx; omega) (by have := mem_write hx; omega)) (fun k s => by simp only [Q55_L0_T, Mo.den, sbind_eq, sbind2_eq, bcase_eq, gcase_eq])
      simp only [RB6_F, Q55_T, Mo.den, sbind_eq, sbind2_eq, bcase_eq, gcase_eq, h1]
      exact copyAll_fin p_l _ ⟨by omega, by omega, by unfold maxLen; omega⟩
theorem rollback_copyWrite_id (p_w : GWrite) (h_ : bulkL p_w.lf1 ≤ 100000000) : Q89 p_w = some p_w := (rollback_copyWrite_ids FU).1 p_w (lt_FU (by omega)) h_
theorem rollback_copyEntry_id (p_e : GEntry) (h_ : bulkL p_e.lf1 ≤ 100000000) : Q102 p_e = some p_e := by
  have hbv := bulk_entry p_e
  have := bulk_write p_e.fWrite
  have e0 := (rollback_copyWrite_id p_e.fWrite (by omega))
  simp only [Q102, Q102_T, Mo.den, sbind_eq, sbind2_eq, bcase_eq, gcase_eq, e0, Option.bind_some, List.length_nil]
  all_goals (cases p_e; rfl)
theorem rollback_copyAll_api_Entry_id (p_l : List GEntry) (h_ : bulkR (p_l.map GEntry.lf) ≤ 100000000) : Q36 p_l = some p_l := by
  have hl := len_entries p_l
  have h1 : Q36_L0 p_l 0 (List.replicate (p_l.length : Int).toNat (GEntry.mk 0 0 ⟨#[]⟩ 0 GWrite.z)) = some p_l := copy_loop p_l (fun x => Q102 x) _ _ (by simp) (by omega) (fun x hx => rollback_copyEntry_id x (by have := mem_entry hx; omega)) (fun k s => by simp only [Q36_L0_T, Mo.den, sbind_eq, sbind2_eq, bcase_eq, gcase_eq])
  simp only [Q36, Q36_T, Mo.den, sbind_eq, sbind2_eq, bcase_eq, gcase_eq, h1]
  exact copyAll_fin p_l _ ⟨by omega, by omega, by unfold maxLen; omega⟩
theorem rollback_copyMember_id (p_m : GMember) (h_ : bulkL p_m.lf1 ≤ 100000000) : Q96 p_m = some p_m := by
  have hbv := bulk_member p_m
  have := len_entries p_m.fLog
  have := len_ints p_m.fMatch
  have := len_ints p_m.fNext
  have e0 := (rollback_copyAll_api_Entry_id p_m.fLog (by omega))
  have e1 := (rollback_copyInts_id p_m.fNext (by omega))
  have e2 := (rollback_copyInts_id p_m.fMatch (by omega))
  simp only [Q96, Q96_T, Mo.den, sbind_eq, sbind2_eq, bcase_eq, gcase_eq, e0, e1, e2, Option.bind_some, List.length_nil]
  all_goals (cases p_m; rfl)
end Go.Proofs.YtdnafbfmaphhhaaGreatDoor
set_option linter.unusedSimpArgs false
set_option linter.unusedVariables false
namespace Go.Proofs.YtdnafbfmaphhhaaGreatDoor
open Go.RowKit
mutual
noncomputable def wrF : Lf → ByteArray
  | .int _ n => numE n
  | .str s => numE (s.size : Int) ++ s
  | .bool b => if b then ⟨#[1]⟩ else ⟨#[0]⟩
  | .rows _ l => numE (l.length : Int) ++ wrQ l
noncomputable def wrQ : List (List Lf) → ByteArray
  | [] => ByteArray.empty
  | r :: q => wrL r ++ wrQ q
noncomputable def wrL : List Lf → ByteArray
  | [] => ByteArray.empty
  | x :: r => wrF x ++ wrL r
end
theorem wrL_app (r s : List Lf) : wrL (r ++ s) = wrL r ++ wrL s := by
  induction r with
  | nil => simp [wrL]
  | cons x r ih => simp only [List.cons_append, wrL, ih, ByteArray.append_assoc]
theorem size1 (b : UInt8) : (⟨#[b]⟩ : ByteArray).size = 1 := rfl
mutual
theorem wrF_le : ∀ x : Lf, (wrF x).size ≤ 12 * x.bulk
  | .int _ n => by have := numE_size n; simp only [wrF, Lf.bulk]; omega
  | .str s => by have := numE_size (s.size : Int); simp only [wrF, Lf.bulk, ByteArray.size_append]; omega
  | .bool b => by cases b <;> simp [wrF, Lf.bulk, size1]
  | .rows _ l => by have := numE_size (l.length : Int); have := wrQ_le l; simp only [wrF, Lf.bulk, ByteArray.size_append]; omega
theorem wrQ_le : ∀ l : List (List Lf), (wrQ l).size ≤ 12 * bulkR l
  | [] => by simp [wrQ, bulkR]
  | r :: q => by have := wrL_le r; have := wrQ_le q; simp only [wrQ, bulkR, ByteArray.size_append]; omega
theorem wrL_le : ∀ l : List Lf, (wrL l).size ≤ 12 * bulkL l
  | [] => by simp [wrL, bulkL]
  | x :: r => by have := wrF_le x; have := wrL_le r; simp only [wrL, bulkL, ByteArray.size_append]; omega
end
/-- m appends s -/
def Ap (m : GRef40Out → Option GRef40Out) (s : ByteArray) : Prop := ∀ b, b.fRaw = true → b.fS.size + s.size ≤ 4611686018427387904 → m b = some ⟨b.fS ++ s, b.fBad, b.fRaw⟩
theorem Ap.bind {m k : GRef40Out → Option GRef40Out} {s t : ByteArray} (h : Ap m s) (h2 : Ap k t) : Ap (fun b => (m b).bind k) (s ++ t) := by
  intro b hb hs
  rw [ByteArray.size_append] at hs
  show (m b).bind k = _
  rw [h b hb (by omega), Option.bind_some]
  refine (h2 ⟨b.fS ++ s, b.fBad, b.fRaw⟩ hb (by simp only [ByteArray.size_append]; omega)).trans ?_
  simp only [ByteArray.append_assoc]
theorem Ap.to {m : GRef40Out → Option GRef40Out} {s t : ByteArray} (h : Ap m s) (e : s = t) : Ap m t := e ▸ h
theorem Ap.nil : Ap some ByteArray.empty := fun b _ _ => by rw [ByteArray.append_empty]
theorem Ap.of {m k : GRef40Out → Option GRef40Out} {s : ByteArray} (h : Ap k s) (e : ∀ b, b.fRaw = true → m b = k b) : Ap m s := fun b hb hs => by rw [e b hb]; exact h b hb hs
theorem Ap.loop {α : Type} (f : α → List Lf) (l : List α) (g : α → GRef40Out → Option GRef40Out) (T : Int × GRef40Out → Option ((Int × GRef40Out) ⊕ GRef40Out)) (hl : l.length ≤ 1000000000)
    (hg : ∀ x ∈ l, Ap (g x) (wrL (f x)))
    (hT : ∀ (k : Nat) s, (∀ x, l[k]? = some x → T ((k : Int), s) = (g x s).bind fun r => some (.inl (IntKind.wrap .i64 ((k : Int) + 1), r))) ∧ (l[k]? = none → T ((k : Int), s) = some (.inr s))) :
    Ap (fun b => loopM T FU (0, b)) (wrQ (l.map f)) := by
  intro b hb hs
  have key : ∀ (m : List α) (k : Nat) (b : GRef40Out) (n : Nat), l.drop k = m → m.length < n → b.fRaw = true → b.fS.size + (wrQ (m.map f)).size ≤ 4611686018427387904 →
      loopM T n ((k : Int), b) = some ⟨b.fS ++ wrQ (m.map f), b.fBad, b.fRaw⟩ := by
    intro m
    induction m with
    | nil =>
      intro k b n hd hn hb hs
      obtain ⟨n, rfl⟩ : ∃ j, n = j + 1 := ⟨n - 1, by simp at hn; omega⟩
      have h1 : l[k]? = none := by
        have := congrArg List.length hd
        simp only [List.length_drop, List.length_nil] at this
        rw [List.getElem?_eq_none]; omega
      unfold loopM
      rw [(hT k b).2 h1]
      simp only [List.map_nil, wrQ, ByteArray.append_empty, Option.bind_some]
    | cons x m ih =>
      intro k b n hd hn hb hs
      obtain ⟨n, rfl⟩ : ∃ j, n = j + 1 := ⟨n - 1, by simp at hn; omega⟩
      have h1 : l[k]? = some x := by rw [← List.head?_drop, hd]; rfl
      have h2 : l.drop (k + 1) = m := by rw [← List.tail_drop, hd]; rfl
      have hk : k < l.length := (List.getElem?_eq_some_iff.1 h1).1
      simp only [List.map_cons, wrQ, ByteArray.size_append] at hs
      unfold loopM
      rw [(hT k b).1 x h1, hg x (List.mem_of_getElem? h1) b hb (by omega)]
      simp only [Option.bind_some]
      rw [inc k (by omega)]
      refine (ih (k + 1) ⟨b.fS ++ wrL (f x), b.fBad, b.fRaw⟩ n h2 (by simp at hn; omega) hb (by simp only [ByteArray.size_append]; omega)).trans ?_
      simp only [List.map_cons, wrQ, ByteArray.append_assoc]
  exact key l 0 b FU rfl (lt_FU (by omega)) hb hs
theorem Ap_num (n : Int) : Ap (Q8 n) (numE n) := by
  intro b _ hs
  unfold Q8 Q8_T
  simp only [Mo.den, sbind_eq, gcase_eq, Num_val, Option.bind_some]
  rw [if_pos (by omega)]
theorem Ap_str (s : ByteArray) : Ap (Q51 s) (numE (s.size : Int) ++ s) := by
  intro b hb hs
  rw [ByteArray.size_append] at hs
  unfold Q51 Q51_T
  simp only [Mo.den, sbind_eq, gcase_eq]
  rw [Ap_num _ b hb (by omega)]
  simp only [Option.bind_some, ByteArray.size_append]
  rw [if_pos (by omega)]
  simp only [ByteArray.append_assoc]
theorem Ap_flag (c : Bool) : Ap (Q63 c) (wrF (.bool c)) := by
  intro b hb hs
  unfold Q63 Q63_T
  simp only [Mo.den, sbind_eq, bcase_eq, gcase_eq, size1]
  cases c
  · simp only [wrF, cond_false, Bool.false_eq_true, if_false, size1] at hs ⊢; rw [if_pos (by omega)]
  · simp only [wrF, cond_true, if_true, size1] at hs ⊢; rw [if_pos (by omega)]
theorem loop_case {α : Type} (l : List α) (k : Nat) : (∀ x, l[k]? = some x → decide ((k : Int) < (l.length : Int)) = true ∧ gidx l (k : Int) = some x) ∧ (l[k]? = none → decide ((k : Int) < (l.length : Int)) = false) := by
  refine ⟨fun x h => ?_, fun h => ?_⟩
  · have := (List.getElem?_eq_some_iff.1 h).1
    exact ⟨iLt this, by rw [gidx_nat, h]⟩
  · rw [List.getElem?_eq_none_iff] at h
    exact iNlt (by omega)
theorem Ap.of' {m k : GRef40Out → Option GRef40Out} {s t : ByteArray} (e : ∀ b, b.fRaw = true → m b = k b) (h : Ap k s) (hs : s = t) : Ap m t := hs ▸ Ap.of h e
theorem Ap_strs (l : List ByteArray) (hl : l.length ≤ 1000000000) : Ap (Q27 l) (wrF (.rows 1 (l.map lfS))) := by
  have hL : Ap (Q27_L0 l 0) (wrQ (l.map lfS)) := by
    refine Ap.of' (fun b hb => by unfold Q27_L0; rfl) (Ap.loop lfS l Q51 _ hl (fun x _ => (Ap_str x).to (by simp only [lfS, wrL, wrF, ByteArray.append_empty])) fun k s => ⟨fun x h => ?_, fun h => ?_⟩) rfl
    · obtain ⟨h1, h2⟩ := (loop_case l k).1 x h
      simp only [Q27_L0_T, Mo.den, sbind_eq, bcase_eq, h1, h2, cond_true, Option.bind_some]
    · simp only [Q27_L0_T, Mo.den, sbind_eq, bcase_eq, (loop_case l k).2 h, cond_false]
  refine Ap.of' (fun b hb => ?_) (Ap.bind (Ap_num (l.length : Int)) (Ap.bind hL Ap.nil)) ?_
  · simp only [Q27, Q27_T, Mo.den, sbind_eq]
  · simp only [wrF, List.length_map, ByteArray.append_empty]
end Go.Proofs.YtdnafbfmaphhhaaGreatDoor
set_option linter.unusedSimpArgs false
set_option linter.unusedVariables false
namespace Go.Proofs.YtdnafbfmaphhhaaGreatDoor
open Go.RowKit
theorem Ap_shape (x : GShape) (hb : bulkL x.lf1 ≤ 100000000) : Ap (Q47 x) (wrL x.lf1) := by
  have hl := len_points x.fPoints
  rw [bulk_shape] at hb
  have hL : Ap (Q47_L0 x 0) (wrQ (x.fPoints.map GPoint.lf)) := by
    refine Ap.of' (fun b hb => by unfold Q47_L0; rfl) (Ap.loop GPoint.lf x.fPoints (fun p b => (Q8 p.fX b).bind fun r => Q8 p.fY r) _ (by omega) (fun x hx => (Ap.bind (Ap_num _) (Ap_num _)).to (by simp only [GPoint.lf, GPoint.lf1, wrL, wrF, ByteArray.append_empty])) fun k s => ⟨fun y h => ?_, fun h => ?_⟩) rfl
    · obtain ⟨h1, h2⟩ := (loop_case x.fPoints k).1 y h
      simp only [Q47_L0_T, Mo.den, sbind_eq, bcase_eq, h1, h2, cond_true, Option.bind_some, Option.bind_assoc]
    · simp only [Q47_L0_T, Mo.den, sbind_eq, bcase_eq, (loop_case x.fPoints k).2 h, cond_false]
  refine Ap.of' (fun b hb => ?_) (Ap.bind (Ap_num (x.fKind)) (Ap.bind (Ap_num ((x.fPoints.length : Int))) (Ap.bind hL (Ap.bind (Ap_num (x.fR)) Ap.nil)))) ?_
  · simp only [Q47, Q47_T, Mo.den, sbind_eq, bcase_eq]
  · simp only [GShape.lf1, wrL, wrF, List.length_map, ByteArray.append_empty, ByteArray.append_assoc]
theorem Ap_val2 : ∀ n, (∀ v : GValue, 2 * bulkL v.lf1 < n → bulkL v.lf1 ≤ 100000000 → Ap ((RB12_F n).m1 v) (wrL v.lf1)) ∧ ∀ l : List GValue, 2 * bulkR (l.map GValue.lf) + 1 < n → bulkR (l.map GValue.lf) ≤ 100000000 → Ap ((RB12_F n).m2 l) (wrF (.rows 5 (l.map GValue.lf)))
  | 0 => ⟨fun v h => by omega, fun l h => by omega⟩
  | n + 1 => by
    have ih := Ap_val2 n
    refine ⟨fun x h hb => ?_, fun l h hb => ?_⟩
    · have hl := len_fields x.fDoc
      rw [bulk_val] at h hb
      have hL : Ap (Q13_L0 (RB12_F n) x 0) (wrQ (x.fDoc.map GField.lf)) := by
        refine Ap.of' (fun b hb => by unfold Q13_L0; rfl) (Ap.loop GField.lf x.fDoc (fun p b => (Q51 p.fName b).bind fun r => (RB12_F n).m1 p.fValue r) _ (by omega) (fun x hx => by have h1 := mem_field hx; rw [bulk_field] at h1; exact (Ap.bind (Ap_str _) (ih.1 _ (by omega) (by omega))).to (by rw [GField.lf_eq]; simp only [GField.lf1, wrL_app, wrL, wrF, ByteArray.append_empty])) fun k s => ⟨fun y h => ?_, fun h => ?_⟩) rfl
        · obtain ⟨h1, h2⟩ := (loop_case x.fDoc k).1 y h
          simp only [Q13_L0_T, Mo.den, sbind_eq, bcase_eq, h1, h2, cond_true, Option.bind_some, Option.bind_assoc]
        · simp only [Q13_L0_T, Mo.den, sbind_eq, bcase_eq, (loop_case x.fDoc k).2 h, cond_false]
      refine Ap.of' (fun b hr => ?_) (Ap.bind (Ap_num (x.fKind)) (Ap.bind (Ap_num (x.fInt)) (Ap.bind (Ap_str (x.fText)) (Ap.bind (ih.2 x.fList (by omega) (by omega)) (Ap.bind (Ap_num ((x.fDoc.length : Int))) (Ap.bind hL Ap.nil)))))) ?_
      · simp only [RB12_F, Q13_T, Mo.den, sbind_eq, bcase_eq, hr, cond_true]
      · simp only [GValue.lf1, wrL, wrF, List.length_map, ByteArray.append_empty, ByteArray.append_assoc]
    · have hl := len_vals l
      have hL : Ap (Q34_L0 (RB12_F n) l 0) (wrQ (l.map GValue.lf)) := by
        refine Ap.of' (fun b hb => by unfold Q34_L0; rfl) (Ap.loop GValue.lf l (fun p b => (RB12_F n).m1 p b) _ (by omega) (fun x hx => by have h1 := mem_val hx; exact (ih.1 _ (by omega) (by omega)).to (by rw [GValue.lf_eq])) fun k s => ⟨fun y h => ?_, fun h => ?_⟩) rfl
        · obtain ⟨h1, h2⟩ := (loop_case l k).1 y h
          simp only [Q34_L0_T, Mo.den, sbind_eq, bcase_eq, h1, h2, cond_true, Option.bind_some, Option.bind_assoc]
        · simp only [Q34_L0_T, Mo.den, sbind_eq, bcase_eq, (loop_case l k).2 h, cond_false]
      refine Ap.of' (fun b hr => ?_) (Ap.bind (Ap_num ((l.length : Int))) (Ap.bind hL Ap.nil)) ?_
      · simp only [RB12_F, Q34_T, Mo.den, sbind_eq, bcase_eq]
      · simp only [wrF, List.length_map, ByteArray.append_empty]
theorem Ap_value (v : GValue) (hb : bulkL v.lf1 ≤ 100000000) : Ap (Q13 v) (wrL v.lf1) := (Ap_val2 FU).1 v (lt_FU (by omega)) hb
theorem Ap_values (l : List GValue) (hb : bulkR (l.map GValue.lf) ≤ 100000000) : Ap (Q34 l) (wrF (.rows 5 (l.map GValue.lf))) := (Ap_val2 FU).2 l (lt_FU (by omega)) hb
theorem Ap_expr2 (n : Nat) : ∀ x : GExpr, bulkL x.lf1 < n → bulkL x.lf1 ≤ 100000000 → Ap ((RB18_F n).m1 x) (wrL x.lf1) := by
  induction n with
  | zero => intro x h _; omega
  | succ n ih =>
    intro x h hb
    have hl := len_exprs x.fKids
    have hl1 := len_strs x.fPath
    have hl2 := len_strs x.fNames
    rw [bulk_expr] at h hb
    have hL : Ap (Q39_L0 (RB18_F n) x 0) (wrQ (x.fKids.map GExpr.lf)) := by
      refine Ap.of' (fun b hb => by unfold Q39_L0; rfl) (Ap.loop GExpr.lf x.fKids (fun p b => (RB18_F n).m1 p b) _ (by omega) (fun x hx => by have h1 := mem_expr hx; exact (ih _ (by omega) (by omega)).to (by rw [GExpr.lf_eq])) fun k s => ⟨fun y h => ?_, fun h => ?_⟩) rfl
      · obtain ⟨h1, h2⟩ := (loop_case x.fKids k).1 y h
        simp only [Q39_L0_T, Mo.den, sbind_eq, bcase_eq, h1, h2, cond_true, Option.bind_some, Option.bind_assoc]
      · simp only [Q39_L0_T, Mo.den, sbind_eq, bcase_eq, (loop_case x.fKids k).2 h, cond_false]
    refine Ap.of' (fun b hr => ?_) (Ap.bind (Ap_num (x.fOp)) (Ap.bind (Ap_strs (x.fPath) (by omega)) (Ap.bind (Ap_str (x.fName)) (Ap.bind (Ap_strs (x.fNames) (by omega)) (Ap.bind (Ap_value (x.fArg) (by omega)) (Ap.bind (Ap_num (x.fN)) (Ap.bind (Ap_num ((x.fKids.length : Int))) (Ap.bind hL Ap.nil)))))))) ?_
    · simp only [RB18_F, Q39_T, Mo.den, sbind_eq, bcase_eq]
    · simp only [GExpr.lf1, wrL_app, wrL, wrF, List.length_map, ByteArray.append_empty, ByteArray.append_assoc]
theorem Ap_expr (v : GExpr) (hb : bulkL v.lf1 ≤ 100000000) : Ap (Q39 v) (wrL v.lf1) := Ap_expr2 FU v (lt_FU (by omega)) hb
theorem Ap_pred2 (n : Nat) : ∀ x : GPred, bulkL x.lf1 < n → bulkL x.lf1 ≤ 100000000 → Ap ((RB17_F n).m1 x) (wrL x.lf1) := by
  induction n with
  | zero => intro x h _; omega
  | succ n ih =>
    intro x h hb
    have hl := len_preds x.fKids
    have hl1 := len_strs x.fPath
    rw [bulk_pred] at h hb
    have hL : Ap (Q40_L0 (RB17_F n) x 0) (wrQ (x.fKids.map GPred.lf)) := by
      refine Ap.of' (fun b hb => by unfold Q40_L0; rfl) (Ap.loop GPred.lf x.fKids (fun p b => (RB17_F n).m1 p b) _ (by omega) (fun x hx => by have h1 := mem_pred hx; exact (ih _ (by omega) (by omega)).to (by rw [GPred.lf_eq])) fun k s => ⟨fun y h => ?_, fun h => ?_⟩) rfl
      · obtain ⟨h1, h2⟩ := (loop_case x.fKids k).1 y h
        simp only [Q40_L0_T, Mo.den, sbind_eq, bcase_eq, h1, h2, cond_true, Option.bind_some, Option.bind_assoc]
      · simp only [Q40_L0_T, Mo.den, sbind_eq, bcase_eq, (loop_case x.fKids k).2 h, cond_false]
    refine Ap.of' (fun b hr => ?_) (Ap.bind (Ap_num (x.fOp)) (Ap.bind (Ap_strs (x.fPath) (by omega)) (Ap.bind (Ap_value (x.fArg) (by omega)) (Ap.bind (Ap_values (x.fArgs) (by omega)) (Ap.bind (Ap_num (x.fN)) (Ap.bind (Ap_num (x.fM)) (Ap.bind (Ap_shape (x.fShape) (by omega)) (Ap.bind (Ap_expr (x.fExpr) (by omega)) (Ap.bind (Ap_num ((x.fKids.length : Int))) (Ap.bind hL Ap.nil)))))))))) ?_
    · simp only [RB17_F, Q40_T, Mo.den, sbind_eq, bcase_eq]
    · simp only [GPred.lf1, wrL_app, wrL, wrF, List.length_map, ByteArray.append_empty, ByteArray.append_assoc]
theorem Ap_pred (v : GPred) (hb : bulkL v.lf1 ≤ 100000000) : Ap (Q40 v) (wrL v.lf1) := Ap_pred2 FU v (lt_FU (by omega)) hb
theorem Ap_index (x : GIndex) (hb : bulkL x.lf1 ≤ 100000000) : Ap (Q38 x) (wrL x.lf1) := by
  have hl := len_orders x.fKeys
  rw [bulk_index] at hb
  have hL : Ap (Q38_L0 x 0) (wrQ (x.fKeys.map GOrder.lf)) := by
    refine Ap.of' (fun b hb => by unfold Q38_L0; rfl) (Ap.loop GOrder.lf x.fKeys (fun p b => (Q27 p.fPath b).bind fun r => Q63 p.fDesc r) _ (by omega) (fun x hx => by have h1 := mem_order hx; rw [bulk_order] at h1; have h2 := len_strs x.fPath; exact (Ap.bind (Ap_strs _ (by omega)) (Ap_flag _)).to (by simp only [GOrder.lf, GOrder.lf1, wrL, ByteArray.append_empty])) fun k s => ⟨fun y h => ?_, fun h => ?_⟩) rfl
    · obtain ⟨h1, h2⟩ := (loop_case x.fKeys k).1 y h
      simp only [Q38_L0_T, Mo.den, sbind_eq, bcase_eq, h1, h2, cond_true, Option.bind_some, Option.bind_assoc]
    · simp only [Q38_L0_T, Mo.den, sbind_eq, bcase_eq, (loop_case x.fKeys k).2 h, cond_false]
  refine Ap.of' (fun b hb => ?_) (Ap.bind (Ap_str (x.fName)) (Ap.bind (Ap_num (x.fKind)) (Ap.bind (Ap_num ((x.fKeys.length : Int))) (Ap.bind hL (Ap.bind (Ap_flag (x.fUnique)) (Ap.bind (Ap_flag (x.fSparse)) (Ap.bind (Ap_flag (x.fPartial)) (Ap.bind (Ap_pred (x.fWhere) (by omega)) Ap.nil)))))))) ?_
  · simp only [Q38, Q38_T, Mo.den, sbind_eq, bcase_eq]
  · simp only [GIndex.lf1, wrL_app, wrL, wrF, List.length_map, ByteArray.append_empty, ByteArray.append_assoc]
theorem Ap_schema2 (n : Nat) : ∀ x : GSchema, bulkL x.lf1 < n → bulkL x.lf1 ≤ 100000000 → Ap ((RB19_F n).m1 x) (wrL x.lf1) := by
  induction n with
  | zero => intro x h _; omega
  | succ n ih =>
    intro x h hb
    have hl := len_props x.fProps
    have hl1 := len_schemas x.fItems
    have hl2 := len_strs x.fRequired
    rw [bulk_schema] at h hb
    have hL : Ap (Q15_L0 (RB19_F n) x 0) (wrQ (x.fProps.map GProp.lf)) := by
      refine Ap.of' (fun b hb => by unfold Q15_L0; rfl) (Ap.loop GProp.lf x.fProps (fun p b => (Q51 p.fName b).bind fun r => (RB19_F n).m1 p.fSchema r) _ (by omega) (fun x hx => by have h1 := mem_prop hx; rw [bulk_prop] at h1; exact (Ap.bind (Ap_str _) (ih _ (by omega) (by omega))).to (by rw [GProp.lf_eq]; simp only [GProp.lf1, wrL_app, wrL, wrF, ByteArray.append_empty])) fun k s => ⟨fun y h => ?_, fun h => ?_⟩) rfl
      · obtain ⟨h1, h2⟩ := (loop_case x.fProps k).1 y h
        simp only [Q15_L0_T, Mo.den, sbind_eq, bcase_eq, h1, h2, cond_true, Option.bind_some, Option.bind_assoc]
      · simp only [Q15_L0_T, Mo.den, sbind_eq, bcase_eq, (loop_case x.fProps k).2 h, cond_false]
    have hL2 : Ap (Q15_L6 (RB19_F n) x 0) (wrQ (x.fItems.map GSchema.lf)) := by
      refine Ap.of' (fun b hb => by unfold Q15_L6; rfl) (Ap.loop GSchema.lf x.fItems (fun p b => (RB19_F n).m1 p b) _ (by omega) (fun x hx => by have h1 := mem_schema hx; exact (ih _ (by omega) (by omega)).to (by rw [GSchema.lf_eq])) fun k s => ⟨fun y h => ?_, fun h => ?_⟩) rfl
      · obtain ⟨h1, h2⟩ := (loop_case x.fItems k).1 y h
        simp only [Q15_L6_T, Mo.den, sbind_eq, bcase_eq, h1, h2, cond_true, Option.bind_some, Option.bind_assoc]
      · simp only [Q15_L6_T, Mo.den, sbind_eq, bcase_eq, (loop_case x.fItems k).2 h, cond_false]
    refine Ap.of' (fun b hr => ?_) (Ap.bind (Ap_num (x.fKinds)) (Ap.bind (Ap_flag (x.fHasMin)) (Ap.bind (Ap_value (x.fMin) (by omega)) (Ap.bind (Ap_flag (x.fHasMax)) (Ap.bind (Ap_value (x.fMax) (by omega)) (Ap.bind (Ap_values (x.fEnum) (by omega)) (Ap.bind (Ap_num (x.fMinLen)) (Ap.bind (Ap_num (x.fMaxLen)) (Ap.bind (Ap_strs (x.fRequired) (by omega)) (Ap.bind (Ap_num ((x.fProps.length : Int))) (Ap.bind hL (Ap.bind (Ap_flag (x.fClosed)) (Ap.bind (Ap_num ((x.fItems.length : Int))) (Ap.bind hL2 (Ap.bind (Ap_flag (x.fUnique)) Ap.nil))))))))))))))) ?_
    · simp only [RB19_F, Q15_T, Mo.den, sbind_eq, bcase_eq]
    · simp only [GSchema.lf1, wrL_app, wrL, wrF, List.length_map, ByteArray.append_empty, ByteArray.append_assoc]
theorem Ap_schema (v : GSchema) (hb : bulkL v.lf1 ≤ 100000000) : Ap (Q15 v) (wrL v.lf1) := Ap_schema2 FU v (lt_FU (by omega)) hb
theorem Ap_space (x : GSpace) (hb : bulkL x.lf1 ≤ 100000000) : Ap (Q48 x) (wrL x.lf1) := by
  have hl := len_indexes x.fIndexes
  rw [bulk_space] at hb
  have hL : Ap (Q48_L0 x 0) (wrQ (x.fIndexes.map GIndex.lf)) := by
    refine Ap.of' (fun b hb => by unfold Q48_L0; rfl) (Ap.loop GIndex.lf x.fIndexes (fun p b => Q38 p b) _ (by omega) (fun x hx => by have h1 := mem_index hx; exact Ap_index _ (by omega)) fun k s => ⟨fun y h => ?_, fun h => ?_⟩) rfl
    · obtain ⟨h1, h2⟩ := (loop_case x.fIndexes k).1 y h
      simp only [Q48_L0_T, Mo.den, sbind_eq, bcase_eq, h1, h2, cond_true, Option.bind_some, Option.bind_assoc]
    · simp only [Q48_L0_T, Mo.den, sbind_eq, bcase_eq, (loop_case x.fIndexes k).2 h, cond_false]
  refine Ap.of' (fun b hb => ?_) (Ap.bind (Ap_str (x.fName)) (Ap.bind (Ap_num ((x.fIndexes.length : Int))) (Ap.bind hL (Ap.bind (Ap_schema (x.fSchema) (by omega)) (Ap.bind (Ap_num (x.fLevel)) (Ap.bind (Ap_num (x.fAction)) Ap.nil)))))) ?_
  · simp only [Q48, Q48_T, Mo.den, sbind_eq, bcase_eq]
  · simp only [GSpace.lf1, wrL_app, wrL, wrF, List.length_map, ByteArray.append_empty, ByteArray.append_assoc]
end Go.Proofs.YtdnafbfmaphhhaaGreatDoor
set_option linter.unusedSimpArgs false
set_option linter.unusedVariables false
namespace Go.Proofs.YtdnafbfmaphhhaaGreatDoor
open Go.RowKit
theorem Ap_write2 (n : Nat) : ∀ x : GWrite, bulkL x.lf1 < n → bulkL x.lf1 ≤ 100000000 → Ap ((RB11_F n).m1 x) (wrL x.lf1) := by
  induction n with
  | zero => intro x h _; omega
  | succ n ih =>
    intro x h hb
    have hl := len_writes x.fWrites
    have hl1 := len_ints x.fShards
    rw [bulk_write] at h hb
    have hL : Ap (Q16_L0 (RB11_F n) x 0) (wrQ (x.fWrites.map GWrite.lf)) := by
      refine Ap.of' (fun b hb => by unfold Q16_L0; rfl) (Ap.loop GWrite.lf x.fWrites (fun p b => (RB11_F n).m1 p b) _ (by omega) (fun x hx => by have h1 := mem_write hx; exact (ih _ (by omega) (by omega)).to (by rw [GWrite.lf_eq])) fun k s => ⟨fun y h => ?_, fun h => ?_⟩) rfl
      · obtain ⟨h1, h2⟩ := (loop_case x.fWrites k).1 y h
        simp only [Q16_L0_T, Mo.den, sbind_eq, bcase_eq, h1, h2, cond_true, Option.bind_some, Option.bind_assoc]
      · simp only [Q16_L0_T, Mo.den, sbind_eq, bcase_eq, (loop_case x.fWrites k).2 h, cond_false]
    have hL2 : Ap (Q16_L6 (RB11_F n) x 0) (wrQ (x.fShards.map lfI)) := by
      refine Ap.of' (fun b hb => by unfold Q16_L6; rfl) (Ap.loop lfI x.fShards (fun p b => Q8 p b) _ (by omega) (fun x hx => (Ap_num x).to (by simp only [lfI, wrL, wrF, ByteArray.append_empty])) fun k s => ⟨fun y h => ?_, fun h => ?_⟩) rfl
      · obtain ⟨h1, h2⟩ := (loop_case x.fShards k).1 y h
        simp only [Q16_L6_T, Mo.den, sbind_eq, bcase_eq, h1, h2, cond_true, Option.bind_some, Option.bind_assoc]
      · simp only [Q16_L6_T, Mo.den, sbind_eq, bcase_eq, (loop_case x.fShards k).2 h, cond_false]
    refine Ap.of' (fun b hr => ?_) (Ap.bind (Ap_num (x.fKind)) (Ap.bind (Ap_str (x.fSpace)) (Ap.bind (Ap_value (x.fKey) (by omega)) (Ap.bind (Ap_value (x.fDoc) (by omega)) (Ap.bind (Ap_value (x.fBefore) (by omega)) (Ap.bind (Ap_space (x.fDef) (by omega)) (Ap.bind (Ap_index (x.fIndex) (by omega)) (Ap.bind (Ap_str (x.fTxn)) (Ap.bind (Ap_num (x.fStamp)) (Ap.bind (Ap_num ((x.fWrites.length : Int))) (Ap.bind hL (Ap.bind (Ap_num ((x.fShards.length : Int))) (Ap.bind hL2 (Ap.bind (Ap_flag (x.fSilent)) Ap.nil)))))))))))))) ?_
    · simp only [RB11_F, Q16_T, Mo.den, sbind_eq, bcase_eq]
    · simp only [GWrite.lf1, wrL_app, wrL, wrF, List.length_map, ByteArray.append_empty, ByteArray.append_assoc]
theorem Ap_write (v : GWrite) (hb : bulkL v.lf1 ≤ 100000000) : Ap (Q16 v) (wrL v.lf1) := Ap_write2 FU v (lt_FU (by omega)) hb
theorem Ap_entry (x : GEntry) (hb : bulkL x.lf1 ≤ 100000000) : Ap (Q87 x) (wrL x.lf1) := by
  rw [bulk_entry] at hb
  refine Ap.of' (fun b hb => ?_) (Ap.bind (Ap_num (x.fTerm)) (Ap.bind (Ap_num (x.fStamp)) (Ap.bind (Ap_str (x.fSession)) (Ap.bind (Ap_num (x.fNumber)) (Ap.bind (Ap_write (x.fWrite) (by omega)) Ap.nil))))) ?_
  · simp only [Q87, Q87_T, Mo.den, sbind_eq, bcase_eq]
  · simp only [GEntry.lf1, wrL_app, wrL, wrF, ByteArray.append_empty, ByteArray.append_assoc]
theorem Code_val (x : GEntry) (hb : bulkL x.lf1 ≤ 100000000) : Q90 x = some (wrL x.lf1) := by
  have h1 := wrL_le x.lf1
  have h2 := Ap_entry x hb ⟨⟨#[]⟩, false, true⟩ rfl (by show 0 + _ ≤ _; omega)
  simp only [Q90, Q90_T, Mo.den, sbind_eq, sbind2_eq, sbind3_eq, bcase_eq, gcase_eq, h2, Option.bind_some]
  exact congrArg some ByteArray.empty_append
end Go.Proofs.YtdnafbfmaphhhaaGreatDoor
set_option linter.unusedSimpArgs false
set_option linter.unusedVariables false
namespace Go.Proofs.YtdnafbfmaphhhaaGreatDoor
open Go.RowKit
theorem awake_val : Q6 = some true := by kernel_rfl
namespace T
theorem orc0 {p q : Prop} [Decidable p] [Decidable q] : Tot (bif decide p then some true else some (decide q)) (fun b => b = false → ¬ p ∧ ¬ q) :=
  ite (fun h => ret (by simp)) (fun h => ret fun h2 => ⟨of_decide_eq_false h, of_decide_eq_false h2⟩)
theorem orc {r : Bool} {p A : Prop} [Decidable p] (hr : r = false → A) : Tot (bif r then some true else some (decide p)) (fun b => b = false → A ∧ ¬ p) :=
  ite (fun h => ret (by simp)) (fun h => ret fun h2 => ⟨hr h, of_decide_eq_false h2⟩)
theorem andc {r : Bool} {x : Bool} {A : Prop} (hr : r = true → A) : Tot (bif r then some x else some false) (fun b => b = true → A ∧ x = true) :=
  ite (fun h => ret fun h2 => ⟨hr h, h2⟩) (fun h => ret (by simp))
theorem andm {r : Bool} {m : Option Bool} {A : Prop} {Q : Prop} (hr : r = true → A) (hm : Tot m (fun b => b = true → Q)) : Tot (bif r then m.bind fun a => some a else some false) (fun b => b = true → A ∧ Q) :=
  ite (fun h => bind hm fun a ha => ret fun h2 => ⟨hr h, ha h2⟩) (fun h => ret (by simp))
end T
theorem places_tot (l : List Int) (most : Int) (hl : l.length ≤ 100000000) : Tot (Q19 l most) (fun b => b = true → ∀ x ∈ l, 0 ≤ x ∧ x ≤ most) := by
  have h1 : Tot (Q19_L5 l most 0) (LP (fun _ => True) (fun _ => ∀ x ∈ l, 0 ≤ x ∧ x ≤ most)) := by
    refine T.forP l.length (by omega) (fun k s => s = (k : Int) ∧ ∀ x ∈ l.take k, 0 ≤ x ∧ x ≤ most) _ ⟨rfl, by simp⟩ ?_ ?_
    · rintro k s hk ⟨rfl, hs⟩
      have hx := List.getElem?_eq_getElem hk
      simp only [Q19_L5_T, Q19_J0, Q19_J0_T, Mo.den, sbind_eq, sbind2_eq, sbind3_eq, bcase_eq, gcase_eq, ltt hx, gid hx, cond_true, Option.bind_some]
      refine T.bind T.orc0 fun b hb => T.ite (fun _ => T.ret trivial) fun h => T.ret ⟨inc k (by omega), fun x hx2 => ?_⟩
      have hb := hb h
      rw [List.take_succ_eq_append_getElem hk] at hx2
      rcases List.mem_append.1 hx2 with h2 | h2
      · exact hs x h2
      · obtain rfl : x = l[k] := by simpa using h2
        omega
    · rintro s ⟨rfl, hs⟩
      simp only [Q19_L5_T, Mo.den, sbind_eq, sbind2_eq, sbind3_eq, bcase_eq, gcase_eq, ltn, cond_false]
      rw [List.take_length] at hs
      exact T.ret hs
  unfold Q19 Q19_T
  simp only [Mo.den, sbind_eq, sbind2_eq, sbind3_eq, bcase_eq, gcase_eq]
  refine T.bind h1 ?_
  rintro (r | r) hr
  · exact T.ret (by simp)
  · exact T.ret fun _ => hr
theorem logged_tot (m : GMember) : Tot (Q4 m) (fun b => b = true → m.fLog.length ≤ 16384 ∧ 0 ≤ m.fCommit ∧ m.fCommit ≤ m.fLog.length) := by
  unfold Q4 Q4_T
  simp only [Mo.den, sbind_eq, sbind2_eq, sbind3_eq, bcase_eq, gcase_eq]
  refine T.ite (fun _ => T.ret (by simp)) fun h0 => ?_
  have h0 := of_decide_eq_false h0
  refine T.bind (R := Any) ?_ ?_
  · refine T.forP m.fLog.length (by omega) (fun k s => s.2.2 = (k : Int)) _ rfl ?_ ?_
    · rintro k ⟨a, b, i⟩ hk rfl
      have hx := List.getElem?_eq_getElem hk
      simp only [Q4, Q4_T, Q4_J26, Q4_J26_T, Q4_J21, Q4_J21_T, Q4_L15, Q4_L15_T, Q4_J10, Q4_J10_T, Q4_J5, Q4_J5_T, Q4_J0, Q4_J0_T, Mo.den, sbind_eq, sbind2_eq, sbind3_eq, bcase_eq, gcase_eq, ltt hx, gid hx, cond_true, Option.bind_some]
      refine T.bind (R := Any) (T.wk T.orc0) fun r _ => T.bind (R := Any) (T.wk (T.orc (A := True) fun _ => trivial)) fun r _ => T.bind (R := Any) (T.wk (T.orc (A := True) fun _ => trivial)) fun r _ => T.ite (fun _ => T.ret trivial) fun _ => T.ret ?_
      exact inc k (by omega)
    · rintro ⟨a, b, i⟩ rfl
      simp only [Q4, Q4_T, Q4_J26, Q4_J26_T, Q4_J21, Q4_J21_T, Q4_L15, Q4_L15_T, Q4_J10, Q4_J10_T, Q4_J5, Q4_J5_T, Q4_J0, Q4_J0_T, Mo.den, sbind_eq, sbind2_eq, sbind3_eq, bcase_eq, gcase_eq, ltn, cond_false]
      exact T.ret trivial
  · rintro (r | r) _
    · exact T.ret (by simp)
    · simp only [Q4, Q4_T, Q4_J26, Q4_J26_T, Q4_J21, Q4_J21_T, Q4_L15, Q4_L15_T, Q4_J10, Q4_J10_T, Q4_J5, Q4_J5_T, Q4_J0, Q4_J0_T, Mo.den, sbind_eq, sbind2_eq, sbind3_eq, bcase_eq, gcase_eq, Option.bind_some]
      refine T.bind (T.ite (fun h => T.ret (Q := fun b => b = true → 0 ≤ m.fCommit ∧ m.fCommit ≤ m.fLog.length) fun h2 => ⟨of_decide_eq_true h, of_decide_eq_true h2⟩) (fun h => T.ret (by simp))) fun b hb => T.ret fun h => ⟨by omega, hb h⟩
theorem votes_tot (s n : Int) (hn : n ≤ 1000) : Tot (Q65 s n) Any := by
  unfold Q65 Q65_T
  simp only [Mo.den, sbind_eq, sbind2_eq, sbind3_eq, bcase_eq, gcase_eq]
  refine T.bind (R := Any) (T.cntR _ fun a k hk => ?_) fun r _ => T.any
  simp only [Q65_L0_T, Mo.den, sbind_eq, sbind2_eq, sbind3_eq, bcase_eq, gcase_eq]
  refine T.ite (fun h => T.grd (by omega) (T.ret ⟨rfl, ?_⟩)) fun _ => T.ret trivial
  have := of_decide_eq_true h; omega
def maj (n : Int) : Int := if n < 1 ∨ 7 < n then 0 else n / 2 + 1
theorem RMajority_val (n : Int) : Q64 n = some (maj n) := by
  simp only [Q64, Q64_T, Q64_J0, Q64_J0_T, Mo.den, sbind_eq, sbind2_eq, sbind3_eq, bcase_eq, gcase_eq, maj]
  by_cases h1 : n < 1
  · rw [decide_eq_true h1, if_pos (.inl h1)]; rfl
  rw [decide_eq_false h1]
  by_cases h2 : 7 < n
  · rw [decide_eq_true h2, if_pos (.inr h2)]; rfl
  rw [decide_eq_false h2, if_neg (by omega)]
  simp only [cond_false, Option.bind_some]
  obtain ⟨k, rfl⟩ := Int.eq_ofNat_of_zero_le (show 0 ≤ n by omega)
  rw [show Int.tdiv (k : Int) 2 = (k : Int) / 2 from Int.tdiv_eq_ediv_of_nonneg (by omega), w64 (x := (k : Int) / 2) (by omega) (by omega), w64 (by omega) (by omega)]
/-- what is known of a member that is examined -/
structure Good (m : GMember) : Prop where
  s1 : 1 ≤ m.fSize
  s7 : m.fSize ≤ 7
  i0 : 0 ≤ m.fID
  i1 : m.fID < m.fSize
  t0 : 0 ≤ m.fTerm
  tm : 0 ≤ m.fTimer
  lg : m.fLog.length ≤ 200
  c0 : 0 ≤ m.fCommit
  c1 : m.fCommit ≤ m.fLog.length
  pr : m.fRole = 2 → (m.fNext.length : Int) = m.fSize ∧ (m.fMatch.length : Int) = m.fSize ∧ (∀ x ∈ m.fNext, 0 ≤ x ∧ x ≤ m.fLog.length) ∧ ∀ x ∈ m.fMatch, 0 ≤ x ∧ x ≤ m.fLog.length
theorem good_tot (m : GMember) (hb : bulkL m.lf1 ≤ 100000000) : Tot (Q105 m) (fun b => b = true → Good m) := by
  rw [bulk_member] at hb
  have hl1 := len_ints m.fNext
  have hl2 := len_ints m.fMatch
  simp only [Q105, Q105_T, Mo.den, sbind_eq, sbind2_eq, sbind3_eq, bcase_eq, gcase_eq]
  refine T.ite (fun h200 => ?_) fun _ => T.ret (by simp)
  have h200 := of_decide_eq_true h200
  refine T.bind (R := fun b => b = true → Good m) ?_ fun b hb => T.ret hb
  simp only [Q0, Q0_T, Q0_J85, Q0_J85_T, Q0_J80, Q0_J80_T, Q0_J75, Q0_J75_T, Q0_J70, Q0_J70_T, Q0_J65, Q0_J65_T, Q0_J60, Q0_J60_T, Q0_J55, Q0_J55_T, Q0_J50, Q0_J50_T, Q0_J45, Q0_J45_T, Q0_J40, Q0_J40_T, Q0_J35, Q0_J35_T, Q0_J30, Q0_J30_T, Q0_J25, Q0_J25_T, Q0_J20, Q0_J20_T, Q0_J15, Q0_J15_T, Q0_J10, Q0_J10_T, Q0_J5, Q0_J5_T, Q0_J0, Q0_J0_T, Mo.den, sbind_eq, sbind2_eq, sbind3_eq, bcase_eq, gcase_eq, RMajority_val, Option.bind_some]
  refine T.bind T.orc0 fun r h => T.bind (T.orc h) fun r h => T.bind (T.orc h) fun r h => T.bind (T.orc h) fun r h => T.bind (T.orc h) fun r h => T.bind (T.orc h) fun r h => T.bind (T.orc h) fun r h => T.bind (T.orc h) fun r h => T.ite (fun _ => T.ret (by simp)) fun hr => ?_
  have h := h hr
  refine T.bind (R := fun b => b = false → 0 ≤ m.fTimer ∧ m.fLog.length ≤ 16384 ∧ 0 ≤ m.fCommit ∧ m.fCommit ≤ m.fLog.length) ?_ fun r2 h2 => T.ite (fun _ => T.ret (by simp)) fun hr2 => ?_
  · refine T.ite (fun _ => T.ret (by simp)) fun _ => T.ite (fun _ => T.ret (by simp)) fun _ => T.ite (fun _ => T.ret (by simp)) fun ht => T.ite (fun _ => T.ret (by simp)) fun _ => T.grd (by omega) (T.ite (fun _ => T.ret (by simp)) fun _ => ?_)
    have ht := of_decide_eq_false ht
    exact T.bind (logged_tot m) fun b hb => T.ret fun h => ⟨by omega, hb (by simpa using h)⟩
  have h2 := h2 hr2
  refine T.bind (R := Any) (T.ite (fun _ => T.ite (fun _ => T.any) fun _ => T.ite (fun _ => T.any) fun _ => T.grd (by omega) T.any) fun _ => T.any) fun _ _ => T.ite (fun _ => T.ret (by simp)) fun _ => ?_
  refine T.bind (votes_tot _ _ (by omega)) fun v _ => ?_
  have G : (m.fRole = 2 → (m.fNext.length : Int) = m.fSize ∧ (m.fMatch.length : Int) = m.fSize ∧ (∀ x ∈ m.fNext, 0 ≤ x ∧ x ≤ m.fLog.length) ∧ ∀ x ∈ m.fMatch, 0 ≤ x ∧ x ≤ m.fLog.length) → Good m := fun hp => ⟨by omega, by omega, by omega, by omega, by omega, by omega, by omega, by omega, by omega, hp⟩
  refine T.bind (R := LP (fun b => b = true → Good m) (fun _ => ¬ m.fRole = 2)) ?_ ?_
  · refine T.ite (fun h1 => ?_) fun _ => T.ite (fun h3 => ?_) fun h3 => T.ret (by show ¬ m.fRole = 2; simpa using h3)
    · have h1 : m.fRole = 1 := by simpa using h1
      refine T.bind (R := Any) (T.ite (fun _ => T.any) fun _ => T.any) fun _ _ => T.ite (fun _ => T.ret (by show false = true → _; simp)) fun _ => T.ret (by show ¬ m.fRole = 2; omega)
    · refine T.bind (R := Any) (T.ite (fun _ => T.any) fun _ => T.any) fun r0 _ => T.bind (T.andc (A := True) fun _ => trivial) fun r1 k1 => T.bind (T.andc k1) fun r2 k2 => T.bind (T.andm k2 (places_tot _ _ (by omega))) fun r3 k3 => T.bind (T.andm k3 (places_tot _ _ (by omega))) fun r4 k4 => T.ret fun h5 => G fun _ => ?_
      have k := k4 h5
      exact ⟨by simpa using k.1.1.1.2, by simpa using k.1.1.2, k.1.2, k.2⟩
  · rintro (b | u) hb2
    · exact T.ret hb2
    · exact T.ite (fun _ => T.ret fun _ => G fun h => absurd h hb2) fun _ => T.ret (by simp)
theorem SameEntries_refl (l : List GEntry) (hb : bulkR (l.map GEntry.lf) ≤ 100000000) : Q24 l l = some true := by
  have hl := len_entries l
  have e1 : Tot (Q24_L0 l l 0) (fun r => r = .inr ()) := by
    refine T.forL l (by omega) _ (fun k x hx => ?_) ?_
    · have hm := mem_entry (mem_at hx)
      simp only [Q24_L0_T, Mo.den, sbind_eq, sbind2_eq, sbind3_eq, bcase_eq, gcase_eq, ltt hx, gid hx, cond_true, Option.bind_some, Code_val x (by omega), decide_true, Bool.not_true, cond_false]; exact T.ret rfl
    · simp only [Q24_L0_T, Mo.den, sbind_eq, sbind2_eq, sbind3_eq, bcase_eq, gcase_eq, ltn, cond_false]; exact T.ret rfl
  obtain ⟨_, e1, rfl⟩ := e1
  simp only [Q24, Q24_T, Mo.den, sbind_eq, sbind2_eq, sbind3_eq, bcase_eq, gcase_eq, bne_self_eq_false, cond_false, e1, Option.bind_some]
theorem SameNumbers_refl (l : List Int) (hl : l.length ≤ 100000000) : Q25 l l = some true := by
  have e1 : Tot (Q25_L0 l l 0) (fun r => r = .inr ()) := by
    refine T.forL l (by omega) _ (fun k x hx => ?_) ?_
    · simp only [Q25_L0_T, Mo.den, sbind_eq, sbind2_eq, sbind3_eq, bcase_eq, gcase_eq, ltt hx, gid hx, cond_true, Option.bind_some, bne_self_eq_false, cond_false]; exact T.ret rfl
    · simp only [Q25_L0_T, Mo.den, sbind_eq, sbind2_eq, sbind3_eq, bcase_eq, gcase_eq, ltn, cond_false]; exact T.ret rfl
  obtain ⟨_, e1, rfl⟩ := e1
  simp only [Q25, Q25_T, Mo.den, sbind_eq, sbind2_eq, sbind3_eq, bcase_eq, gcase_eq, bne_self_eq_false, cond_false, e1, Option.bind_some]
theorem SameMember_refl (m : GMember) (hb : bulkL m.lf1 ≤ 100000000) : Q2 m m = some true := by
  rw [bulk_member] at hb
  have hl1 := len_ints m.fNext
  have hl2 := len_ints m.fMatch
  unfold Q2 Q2_T Q2_J55 Q2_J55_T Q2_J50 Q2_J50_T Q2_J45 Q2_J45_T Q2_J40 Q2_J40_T Q2_J35 Q2_J35_T Q2_J30 Q2_J30_T Q2_J25 Q2_J25_T Q2_J20 Q2_J20_T Q2_J15 Q2_J15_T Q2_J10 Q2_J10_T Q2_J5 Q2_J5_T Q2_J0 Q2_J0_T
  simp only [Mo.den, sbind_eq, sbind2_eq, sbind3_eq, bcase_eq, gcase_eq, BEq.rfl, cond_true, Option.bind_some, SameNumbers_refl _ (show m.fNext.length ≤ 100000000 by omega), SameNumbers_refl _ (show m.fMatch.length ≤ 100000000 by omega), SameEntries_refl _ (show bulkR (m.fLog.map GEntry.lf) ≤ 100000000 by omega)]
theorem SameMessages_refl (l : List GMessage) (hl : l.length ≤ 100000000) (hb : ∀ x ∈ l, bulkR (x.fEntries.map GEntry.lf) ≤ 100000000) : Q1 l l = some true := by
  have e1 : Tot (Q1_L40 l l 0) (fun r => r = .inr ()) := by
    refine T.forL l (by omega) _ (fun k x hx => ?_) ?_
    · simp only [Q1, Q1_T, Q1_L40, Q1_L40_T, Q1_J35, Q1_J35_T, Q1_J30, Q1_J30_T, Q1_J25, Q1_J25_T, Q1_J20, Q1_J20_T, Q1_J15, Q1_J15_T, Q1_J10, Q1_J10_T, Q1_J5, Q1_J5_T, Q1_J0, Q1_J0_T, Mo.den, sbind_eq, sbind2_eq, sbind3_eq, bcase_eq, gcase_eq, ltt hx, gid hx, cond_true, Option.bind_some, bne_self_eq_false, cond_false, BEq.rfl, Bool.not_true, SameEntries_refl _ (hb x (mem_at hx))]; exact T.ret rfl
    · simp only [Q1, Q1_T, Q1_L40, Q1_L40_T, Q1_J35, Q1_J35_T, Q1_J30, Q1_J30_T, Q1_J25, Q1_J25_T, Q1_J20, Q1_J20_T, Q1_J15, Q1_J15_T, Q1_J10, Q1_J10_T, Q1_J5, Q1_J5_T, Q1_J0, Q1_J0_T, Mo.den, sbind_eq, sbind2_eq, sbind3_eq, bcase_eq, gcase_eq, ltn, cond_false]; exact T.ret rfl
  obtain ⟨_, e1, rfl⟩ := e1
  simp only [Q1, Q1_T, Mo.den, sbind_eq, sbind2_eq, sbind3_eq, bcase_eq, gcase_eq, bne_self_eq_false, cond_false, e1, Option.bind_some]
end Go.Proofs.YtdnafbfmaphhhaaGreatDoor
set_option linter.unusedSimpArgs false
set_option linter.unusedVariables false
namespace Go.Proofs.YtdnafbfmaphhhaaGreatDoor
open Go.RowKit
theorem bulkR_ints : ∀ l : List Int, bulkR (l.map lfI) = l.length
  | [] => rfl
  | x :: r => by simp only [List.map_cons, bulkR, bulkR_ints r, lfI, bulkL, Lf.bulk, List.length_cons]; omega
theorem bulkR_drop_le {α : Type} (f : α → List Lf) (l : List α) (k : Nat) : bulkR ((l.drop k).map f) ≤ bulkR (l.map f) := by
  have := bulkR_app ((l.take k).map f) ((l.drop k).map f)
  rw [← List.map_append, List.take_append_drop] at this; omega
theorem copyMember_val (m : GMember) (hb : bulkL m.lf1 ≤ 100000000) : Q77 m = some m := by
  simp only [Q77, Q77_T, Mo.den, sbind_eq, sbind2_eq, sbind3_eq, bcase_eq, gcase_eq, Q112, Q112_T, Mo.den, sbind_eq, sbind2_eq, sbind3_eq, bcase_eq, gcase_eq, Q73, Q73_T, Q73_J0, Q73_J0_T, Mo.den, sbind_eq, sbind2_eq, sbind3_eq, bcase_eq, gcase_eq, election_copyMember_id m hb, Option.bind_some, decide_eq_true (show m.fTerm ≤ m.fTerm by omega), cond_true]
theorem copyEntries_val (l : List GEntry) (hb : bulkR (l.map GEntry.lf) ≤ 10000000) : Q78 l = some l := by
  have h0 : ¬ ((l.length : Int) < 0) := by omega
  have e1 : (GMember.sLog GMember.z l).fLog = l := rfl
  have e2 : (GMember.sLog GMember.z l).fCommit = 0 := rfl
  have e3 := rollback_copyAll_api_Entry_id l (by omega)
  have hz : bulkL ((GMember.sLog GMember.z l).sLog []).lf1 = 12 := by kernel_rfl
  have e4 := rollback_copyMember_id ((GMember.sLog GMember.z l).sLog []) (by omega)
  simp only [Q78, Q78_T, Mo.den, sbind_eq, sbind2_eq, sbind3_eq, bcase_eq, gcase_eq, Q114, Q114_T, Mo.den, sbind_eq, sbind2_eq, sbind3_eq, bcase_eq, gcase_eq, e1, e2, gt_iff_lt, Int.lt_irrefl, if_false, h0, Int.toNat_zero, List.drop_zero, List.take_zero, e3, e4, Option.bind_some]
  rw [if_pos (by omega), if_pos (by omega)]; rfl
def befS (l : List GEntry) (n : Int) : Int := if 1 ≤ n then (match l[(n - 1).toNat]? with | some e => e.fTerm | none => 0) else 0
theorem termBefore_val (l : List GEntry) (n : Int) (hl : l.length ≤ 1000000) : Q67 l n = some (befS l n) := by
  simp only [Q67, Q67_T, Q67_J0, Q67_J0_T, Mo.den, sbind_eq, sbind2_eq, sbind3_eq, bcase_eq, gcase_eq, befS]
  by_cases h1 : n < 1
  · rw [decide_eq_true h1, if_neg (by omega)]; rfl
  rw [decide_eq_false h1, if_pos (by omega)]
  simp only [cond_false, Option.bind_some]
  by_cases h2 : (l.length : Int) < n
  · rw [decide_eq_true h2, List.getElem?_eq_none (by omega)]; rfl
  · rw [decide_eq_false h2, w64 (by omega) (by omega)]
    obtain ⟨x, h3, h4⟩ := gidx_of (l := l) (i := n - 1) (by omega) (by omega)
    simp only [cond_false, h3, h4, Option.bind_some]
theorem before_val (l : List GEntry) (n : Int) (hl : l.length ≤ 1000000) : Q66 l n = some (befS l n) := by
  simp only [Q66, Q66_T, Q66_J0, Q66_J0_T, Mo.den, sbind_eq, sbind2_eq, sbind3_eq, bcase_eq, gcase_eq, befS]
  by_cases h1 : n < 1
  · rw [decide_eq_true h1, if_neg (by omega)]; rfl
  rw [decide_eq_false h1, if_pos (by omega)]
  simp only [cond_false, Option.bind_some]
  by_cases h2 : (l.length : Int) < n
  · rw [decide_eq_true h2, List.getElem?_eq_none (by omega)]; rfl
  · rw [decide_eq_false h2, w64 (by omega) (by omega)]
    obtain ⟨x, h3, h4⟩ := gidx_of (l := l) (i := n - 1) (by omega) (by omega)
    simp only [cond_false, h3, h4, Option.bind_some]
/-- a beat's messages -/
def nxt (m : GMember) (i : Nat) : Int := m.fNext[i]?.getD 0
def part16 (l : List GEntry) (n : Int) : List GEntry := (l.take (if (l.length : Int) < n + 16 then (l.length : Int) else n + 16).toNat).drop n.toNat
def msgS (m : GMember) (i : Nat) : GMessage := ⟨m.fID, (i : Int), 3, m.fTerm, nxt m i, befS m.fLog (nxt m i), m.fCommit, part16 m.fLog (nxt m i), false⟩
def beats (m : GMember) : Nat → List GMessage
  | 0 => []
  | k + 1 => beats m k ++ (if (k : Int) = m.fID then [] else [msgS m k])
theorem beats_len (m : GMember) : ∀ k, (beats m k).length ≤ k
  | 0 => by simp [beats]
  | k + 1 => by
    have := beats_len m k
    simp only [beats, List.length_append]
    split <;> simp <;> omega
theorem part_bulk (l : List GEntry) (n : Int) : bulkR ((part16 l n).map GEntry.lf) ≤ bulkR (l.map GEntry.lf) := by
  unfold part16
  exact Nat.le_trans (bulkR_drop_le _ _ _) (bulkR_take_le _ _ _)
theorem beats_small (m : GMember) : ∀ k, ∀ x ∈ beats m k, bulkR (x.fEntries.map GEntry.lf) ≤ bulkR (m.fLog.map GEntry.lf)
  | 0, x, h => by simp [beats] at h
  | k + 1, x, h => by
    simp only [beats, List.mem_append] at h
    rcases h with h | h
    · exact beats_small m k x h
    · split at h
      · simp at h
      · obtain rfl : x = msgS m k := by simpa using h
        exact part_bulk _ _
def beatS (m : GMember) : List GMessage := if m.fRole = 2 then beats m m.fSize.toNat else []
theorem Beat_val (m : GMember) (g : Good m) (hb : bulkL m.lf1 ≤ 10000000) : Q26 m = some (beatS m) := by
  rw [bulk_member] at hb
  have g1 := g.s1; have g7 := g.s7; have gl := g.lg
  unfold Q26 Q26_T beatS
  simp only [Mo.den, sbind_eq, sbind2_eq, sbind3_eq, bcase_eq, gcase_eq]
  by_cases hr : m.fRole = 2
  · obtain ⟨hn, _, hp, _⟩ := g.pr hr
    rw [show (m.fRole != 2) = false by simpa using hr, if_pos hr]
    simp only [cond_false]
    have : Tot (Q26_L10 m 0 []) (fun r => r = beats m m.fSize.toNat) := by
      refine T.forP m.fSize.toNat (by omega) (fun k s => s = ((k : Int), beats m k)) _ rfl ?_ ?_
      · rintro k s hk rfl
        have hx := List.getElem?_eq_getElem (show k < m.fNext.length by omega)
        obtain ⟨h0, h1⟩ := hp _ (mem_at hx)
        have hbl := beats_len m k
        have en : nxt m k = m.fNext[k] := by unfold nxt; rw [hx]; rfl
        simp only [Q26_L10_T, Q26_J0, Q26_J0_T, Q26_J5, Q26_J5_T, Mo.den, sbind_eq, sbind2_eq, sbind3_eq, bcase_eq, gcase_eq, decide_eq_true (show (k : Int) < m.fSize by omega), decide_eq_true (show (k : Int) < (m.fNext.length : Int) by omega), cond_true, Option.bind_some, gid hx]
        rw [inc k (by omega)]
        by_cases hi : (k : Int) = m.fID
        · rw [show ((k : Int) == m.fID) = true by simpa using hi]
          exact T.ret (show _ = _ by simp only [beats, if_pos hi, List.append_nil])
        · rw [show ((k : Int) == m.fID) = false by simpa using hi]
          simp only [cond_false]
          have e1 : (if (if (m.fLog.length : Int) < m.fNext[k] then (m.fLog.length : Int) else m.fNext[k]) > 0 then (if (m.fLog.length : Int) < m.fNext[k] then (m.fLog.length : Int) else m.fNext[k]) else 0) = m.fNext[k] := by
            rw [if_neg (show ¬ (m.fLog.length : Int) < m.fNext[k] by omega)]; split <;> omega
          simp only [e1]
          rw [w64 (x := m.fNext[k] + 16) (by omega) (by omega)]
          have e2 := copyEntries_val (part16 m.fLog m.fNext[k]) (by have := part_bulk m.fLog m.fNext[k]; omega)
          unfold part16 at e2
          rw [if_pos (by split <;> omega)]
          simp only [termBefore_val m.fLog _ (by omega), e2, Option.bind_some, List.length_cons, List.length_nil]
          rw [if_pos (by omega)]
          refine T.ret (show _ = _ from ?_)
          simp only [beats, if_neg hi, msgS, en]; rfl
      · rintro s rfl
        simp only [Q26_L10_T, Q26_J0, Q26_J0_T, Mo.den, sbind_eq, sbind2_eq, sbind3_eq, bcase_eq, gcase_eq, decide_eq_false (show ¬ ((m.fSize.toNat : Nat) : Int) < m.fSize by omega), cond_false, Option.bind_some]
        exact T.ret rfl
    obtain ⟨_, h, rfl⟩ := this
    simp only [h, Option.bind_some]
  · rw [show (m.fRole != 2) = true by simpa using hr, if_neg hr]; rfl
theorem RBeat_val (m : GMember) (g : Good m) (hb : bulkL m.lf1 ≤ 10000000) : Q17 m = some (beatS m) := by
  rw [bulk_member] at hb
  have g1 := g.s1; have g7 := g.s7; have gl := g.lg
  unfold Q17 Q17_T beatS
  simp only [Mo.den, sbind_eq, sbind2_eq, sbind3_eq, bcase_eq, gcase_eq]
  by_cases hr : m.fRole = 2
  · obtain ⟨hn, _, hp, _⟩ := g.pr hr
    rw [show (m.fRole != 2) = false by simpa using hr, if_pos hr]
    simp only [cond_false]
    have : Tot (Q17_L10 m 0 []) (fun r => r = beats m m.fSize.toNat) := by
      refine T.forP m.fSize.toNat (by omega) (fun k s => s = ((k : Int), beats m k)) _ rfl ?_ ?_
      · rintro k s hk rfl
        have hx := List.getElem?_eq_getElem (show k < m.fNext.length by omega)
        obtain ⟨h0, h1⟩ := hp _ (mem_at hx)
        have hbl := beats_len m k
        have en : nxt m k = m.fNext[k] := by unfold nxt; rw [hx]; rfl
        have ea : Q70 m.fNext (k : Int) = some m.fNext[k] := by
          simp only [Q70, Q70_T, Q70_J0, Q70_J0_T, Mo.den, sbind_eq, sbind2_eq, sbind3_eq, bcase_eq, gcase_eq, decide_eq_false (show ¬ (k : Int) < 0 by omega), decide_eq_false (show ¬ (m.fNext.length : Int) ≤ (k : Int) by omega), cond_false, Option.bind_some, gid hx]
        simp only [Q17_L10_T, Q17_J0, Q17_J0_T, Q17_J5, Q17_J5_T, Mo.den, sbind_eq, sbind2_eq, sbind3_eq, bcase_eq, gcase_eq, decide_eq_true (show (k : Int) < m.fSize by omega), decide_eq_true (show (k : Int) < 7 by omega), cond_true, Option.bind_some, ea]
        rw [inc k (by omega)]
        by_cases hi : (k : Int) = m.fID
        · rw [show ((k : Int) == m.fID) = true by simpa using hi]
          exact T.ret (show _ = _ by simp only [beats, if_pos hi, List.append_nil])
        · rw [show ((k : Int) == m.fID) = false by simpa using hi]
          simp only [cond_false]
          have e0 : (if 0 > m.fNext[k] then 0 else m.fNext[k]) = m.fNext[k] := by split <;> omega
          have e1 : (if (m.fLog.length : Int) < m.fNext[k] then (m.fLog.length : Int) else m.fNext[k]) = m.fNext[k] := by split <;> omega
          simp only [e0, e1]
          rw [w64 (x := m.fNext[k] + 16) (by omega) (by omega)]
          simp only [before_val m.fLog _ (show m.fLog.length ≤ 1000000 by omega), Option.bind_some, List.length_cons, List.length_nil]
          have hlen : ((m.fLog.take (if (m.fLog.length : Int) < m.fNext[k] + 16 then (m.fLog.length : Int) else m.fNext[k] + 16).toNat).drop m.fNext[k].toNat).length ≤ 200 := by
            simp only [List.length_drop, List.length_take]; omega
          rw [if_pos (by split <;> omega), if_pos (by omega), if_pos (by omega)]
          refine T.ret (show _ = _ from ?_)
          simp only [beats, if_neg hi, msgS, en]; rfl
      · rintro s rfl
        simp only [Q17_L10_T, Q17_J0, Q17_J0_T, Mo.den, sbind_eq, sbind2_eq, sbind3_eq, bcase_eq, gcase_eq, decide_eq_false (show ¬ ((m.fSize.toNat : Nat) : Int) < m.fSize by omega), cond_false, Option.bind_some]
        exact T.ret rfl
    obtain ⟨_, h, rfl⟩ := this
    simp only [h, Option.bind_some]
  · rw [show (m.fRole != 2) = true by simpa using hr, if_neg hr]; rfl
/-- a campaign -/
def lastS (l : List GEntry) : Int := match l[l.length - 1]? with | some e => e.fTerm | none => 0
theorem lastTerm_val (l : List GEntry) (hl : l.length ≤ 1000000) : Q97 l = some (lastS l) := by
  simp only [Q97, Q97_T, Mo.den, sbind_eq, sbind2_eq, sbind3_eq, bcase_eq, gcase_eq, lastS]
  by_cases h : l.length = 0
  · rw [show ((l.length : Int) == 0) = true by simp; exact List.length_eq_zero_iff.1 h, List.getElem?_eq_none (by omega)]; rfl
  · rw [show ((l.length : Int) == 0) = false by simp; intro h2; exact h (by rw [h2]; rfl), w64 (by omega) (by omega), show (l.length : Int) - 1 = ((l.length - 1 : Nat) : Int) by omega]
    have hx := List.getElem?_eq_getElem (show l.length - 1 < l.length by omega)
    simp only [cond_false, gid hx, hx, Option.bind_some]
theorem last_val (m : GMember) (hl : m.fLog.length ≤ 1000000) : Q103 m = some (lastS m.fLog) := by
  have h := lastTerm_val m.fLog hl
  simp only [Q97, Q97_T, Mo.den, sbind_eq, sbind2_eq, sbind3_eq, bcase_eq, gcase_eq] at h
  simp only [Q103, Q103_T, Mo.den, sbind_eq, sbind2_eq, sbind3_eq, bcase_eq, gcase_eq]
  exact h
def winS (m : GMember) : GMember := GMember.sMatch (GMember.sNext (GMember.sTimer (GMember.sLeader (GMember.sRole m 2) m.fID) 1) (List.replicate m.fSize.toNat (m.fLog.length : Int))) ((List.replicate m.fSize.toNat (0 : Int)).set m.fID.toNat (m.fLog.length : Int))
theorem win_val (m : GMember) (s1 : 1 ≤ m.fSize) (s7 : m.fSize ≤ 7) (i0 : 0 ≤ m.fID) (i1 : m.fID < m.fSize) : Q72 m = some (winS m) := by
  have : Tot (Q72_L0 m 0 (List.replicate m.fSize.toNat 0)) (fun r => r = List.replicate m.fSize.toNat (m.fLog.length : Int)) := by
    refine T.forP m.fSize.toNat (by omega) (fun k s => s.1 = (k : Int) ∧ s.2.length = m.fSize.toNat ∧ ∀ j, j < k → s.2[j]? = some (m.fLog.length : Int)) _ ⟨rfl, by simp, fun j h => by omega⟩ ?_ ?_
    · rintro k ⟨i, s⟩ hk ⟨h1, h2, h3⟩
      obtain rfl : i = (k : Int) := h1
      have h2 : s.length = m.fSize.toNat := h2
      have hy := List.getElem?_eq_getElem (show k < s.length by omega)
      simp only [Q72_L0_T, Mo.den, sbind_eq, sbind2_eq, sbind3_eq, bcase_eq, gcase_eq, List.length_replicate, iLt hk, gid hy, cond_true, Option.bind_some, Int.toNat_natCast]
      refine T.ret ⟨inc k (by omega), by simp [h2], fun j hj => ?_⟩
      show (s.set k _)[j]? = _
      rcases Nat.lt_succ_iff_lt_or_eq.1 hj with h | rfl
      · rw [List.getElem?_set_ne (by omega)]; exact h3 j h
      · rw [List.getElem?_set_self (by omega)]
    · rintro ⟨i, s⟩ ⟨h1, h2, h3⟩
      obtain rfl : i = ((m.fSize.toNat : Nat) : Int) := h1
      have h2 : s.length = m.fSize.toNat := h2
      simp only [Q72_L0_T, Mo.den, sbind_eq, sbind2_eq, sbind3_eq, bcase_eq, gcase_eq, List.length_replicate, ltn, cond_false]
      refine T.ret (show s = _ from List.ext_getElem? fun j => ?_)
      by_cases hj : j < m.fSize.toNat
      · rw [h3 j hj, List.getElem?_replicate, if_pos hj]
      · rw [List.getElem?_eq_none (by omega), List.getElem?_eq_none (by simp; omega)]
  obtain ⟨_, h, rfl⟩ := this
  unfold Q72 Q72_T winS
  simp only [Mo.den, sbind_eq, sbind2_eq, sbind3_eq, bcase_eq, gcase_eq, h, Option.bind_some]
  obtain ⟨x, h3, _⟩ := gidx_of (l := List.replicate m.fSize.toNat (0 : Int)) (i := m.fID) i0 (by simp; omega)
  rw [if_pos ⟨by omega, by omega, by unfold maxLen; omega⟩, if_pos ⟨by omega, by omega, by unfold maxLen; omega⟩, h3]; rfl
theorem primary_val (m : GMember) (s1 : 1 ≤ m.fSize) (s7 : m.fSize ≤ 7) (i0 : 0 ≤ m.fID) (i1 : m.fID < m.fSize) : Q22 m = some (winS m) := by
  have : Tot (Q22_L5 m 0 [] []) (fun r => r = (List.replicate m.fSize.toNat (m.fLog.length : Int), (List.replicate m.fSize.toNat (0 : Int)).set m.fID.toNat (m.fLog.length : Int))) := by
    refine T.forP m.fSize.toNat (by omega) (fun k s => s.1 = (k : Int) ∧ s.2.1 = List.replicate k (m.fLog.length : Int) ∧ s.2.2.length = k ∧ ∀ j, j < k → s.2.2[j]? = some (if (j : Int) = m.fID then (m.fLog.length : Int) else 0)) _ ⟨rfl, rfl, rfl, fun j h => by omega⟩ ?_ ?_
    · rintro k ⟨i, a, b⟩ hk ⟨h1, h2, h3, h4⟩
      obtain rfl : i = (k : Int) := h1
      obtain rfl : a = List.replicate k (m.fLog.length : Int) := h2
      have h3 : b.length = k := h3
      simp only [Q22_L5_T, Q22_J0, Q22_J0_T, Mo.den, sbind_eq, sbind2_eq, sbind3_eq, bcase_eq, gcase_eq, decide_eq_true (show (k : Int) < m.fSize by omega), cond_true, List.length_replicate, List.length_cons, List.length_nil, h3]
      rw [if_pos (show (k + (0 + 1)) * 8 ≤ 140737488355328 by omega)]
      have fin : ∀ v : Int, v = (if (k : Int) = m.fID then (m.fLog.length : Int) else 0) → Tot ((some (b ++ [v])).bind fun a => some (Sum.inl (IntKind.wrap .i64 ((k : Int) + 1), List.replicate k (m.fLog.length : Int) ++ [(m.fLog.length : Int)], a))) (LP (fun s : Int × List Int × List Int => s.1 = ((k + 1 : Nat) : Int) ∧ s.2.1 = List.replicate (k + 1) (m.fLog.length : Int) ∧ s.2.2.length = k + 1 ∧ ∀ j, j < k + 1 → s.2.2[j]? = some (if (j : Int) = m.fID then (m.fLog.length : Int) else 0)) (fun r : List Int × List Int => r = (List.replicate m.fSize.toNat (m.fLog.length : Int), (List.replicate m.fSize.toNat (0 : Int)).set m.fID.toNat (m.fLog.length : Int)))) := by
        intro v hv
        refine T.ret ⟨inc k (by omega), by rw [List.replicate_succ'], by simp [h3], fun j hj => ?_⟩
        show (b ++ [v])[j]? = _
        rcases Nat.lt_succ_iff_lt_or_eq.1 hj with h | rfl
        · rw [List.getElem?_append_left (by omega)]; exact h4 j h
        · rw [List.getElem?_append_right (by omega), h3]; simp [hv]
      by_cases hi : (k : Int) = m.fID
      · rw [show ((k : Int) == m.fID) = true by simpa using hi]
        simp only [cond_true]
        rw [if_pos (show (k + (0 + 1)) * 8 ≤ 140737488355328 by omega)]
        exact fin _ (by rw [if_pos hi])
      · rw [show ((k : Int) == m.fID) = false by simpa using hi]
        simp only [cond_false]
        rw [if_pos (show (k + (0 + 1)) * 8 ≤ 140737488355328 by omega)]
        exact fin _ (by rw [if_neg hi])
    · rintro ⟨i, a, b⟩ ⟨h1, h2, h3, h4⟩
      obtain rfl : i = ((m.fSize.toNat : Nat) : Int) := h1
      obtain rfl : a = List.replicate m.fSize.toNat (m.fLog.length : Int) := h2
      have h3 : b.length = m.fSize.toNat := h3
      simp only [Q22_L5_T, Mo.den, sbind_eq, sbind2_eq, sbind3_eq, bcase_eq, gcase_eq, decide_eq_false (show ¬ ((m.fSize.toNat : Nat) : Int) < m.fSize by omega), cond_false]
      refine T.ret (show (_, b) = (_, _) from Prod.ext rfl (List.ext_getElem? fun j => ?_))
      show b[j]? = ((List.replicate m.fSize.toNat (0 : Int)).set m.fID.toNat (m.fLog.length : Int))[j]?
      by_cases hj : j < m.fSize.toNat
      · rw [h4 j hj]
        by_cases hi : (j : Int) = m.fID
        · rw [if_pos hi, show m.fID.toNat = j by omega, List.getElem?_set_self (by simp; omega)]
        · rw [if_neg hi, List.getElem?_set_ne (by omega), List.getElem?_replicate, if_pos hj]
      · rw [List.getElem?_eq_none (by omega), List.getElem?_eq_none (by simp; omega)]
  obtain ⟨_, h, rfl⟩ := this
  unfold Q22 Q22_T winS
  simp only [Mo.den, sbind_eq, sbind2_eq, sbind3_eq, bcase_eq, gcase_eq, h, Option.bind_some]
def canS (m : GMember) : GMember := ⟨m.fID, m.fSize, IntKind.wrap .i64 (m.fTerm + 1), m.fID, 1, -1, IntKind.wrap .i64 (10 + IntKind.wrap .i64 (3 * m.fID)), ishl .i64 1 m.fID, m.fLog, m.fCommit, [], []⟩
def askS (m : GMember) (i : Nat) : GMessage := GMessage.sLast (GMessage.sIndex (GMessage.sTerm (GMessage.sKind (GMessage.sTo (GMessage.sFrom GMessage.z m.fID) (i : Int)) 1) (IntKind.wrap .i64 (m.fTerm + 1))) (m.fLog.length : Int)) (lastS m.fLog)
def asks (m : GMember) : Nat → List GMessage
  | 0 => []
  | k + 1 => asks m k ++ (if (k : Int) = m.fID then [] else [askS m k])
theorem asks_len (m : GMember) : ∀ k, (asks m k).length ≤ k
  | 0 => by simp [asks]
  | k + 1 => by
    have := asks_len m k
    simp only [asks, List.length_append]
    split <;> simp <;> omega
theorem asks_small (m : GMember) : ∀ k, ∀ x ∈ asks m k, x.fEntries = []
  | 0, x, h => by simp [asks] at h
  | k + 1, x, h => by
    simp only [asks, List.mem_append] at h
    rcases h with h | h
    · exact asks_small m k x h
    · split at h
      · simp at h
      · obtain rfl : x = askS m k := by simpa using h
        rfl
def camS (m : GMember) : GMember × List GMessage := if m.fSize = 1 then (winS (canS m), []) else (canS m, asks m m.fSize.toNat)
theorem Campaign_val (m : GMember) (g : Good m) (hb : bulkL m.lf1 ≤ 10000000) : Q33 m = some (camS m) := by
  have g1 := g.s1; have g7 := g.s7; have gl := g.lg; have gi := g.i0; have gj := g.i1
  have ek : Q18 m = some true := by
    simp only [Q18, Q18_T, Q18_J15, Q18_J15_T, Q18_J10, Q18_J10_T, Q18_J5, Q18_J5_T, Q18_J0, Q18_J0_T, Mo.den, sbind_eq, sbind2_eq, sbind3_eq, bcase_eq, gcase_eq, decide_eq_true g1, decide_eq_true g7, decide_eq_true gi, decide_eq_true gj, cond_true, Option.bind_some]
  unfold Q33 Q33_T camS
  simp only [Mo.den, sbind_eq, sbind2_eq, sbind3_eq, bcase_eq, gcase_eq, election_copyMember_id m (by omega), ek, Option.bind_some, Bool.not_true, cond_false, Q110, Q110_T, Mo.den, sbind_eq, sbind2_eq, sbind3_eq, bcase_eq, gcase_eq]
  rw [if_pos gi]
  by_cases h1 : m.fSize = 1
  · rw [show (m.fSize == 1) = true by simpa using h1, if_pos h1]
    have ew := win_val (canS m) (by show 1 ≤ m.fSize; omega) (by show m.fSize ≤ 7; omega) (by show 0 ≤ m.fID; omega) (by show m.fID < m.fSize; omega)
    unfold canS at ew ⊢
    simp only [cond_true, ew, Option.bind_some]
  · rw [show (m.fSize == 1) = false by simpa using h1, if_neg h1]
    simp only [cond_false]
    have : Tot (Q33_L5 m (IntKind.wrap .i64 (10 + IntKind.wrap .i64 (3 * m.fID))) 0 []) (fun r => r = asks m m.fSize.toNat) := by
      refine T.forP m.fSize.toNat (by omega) (fun k s => s = ((k : Int), asks m k)) _ rfl ?_ ?_
      · rintro k s hk rfl
        have hbl := asks_len m k
        simp only [Q33_L5_T, Q33_J0, Q33_J0_T, Mo.den, sbind_eq, sbind2_eq, sbind3_eq, bcase_eq, gcase_eq, decide_eq_true (show (k : Int) < m.fSize by omega), cond_true, lastTerm_val m.fLog (by omega), Option.bind_some, List.length_cons, List.length_nil]
        rw [inc k (by omega), if_pos (by omega)]
        by_cases hi : (k : Int) = m.fID
        · rw [show ((k : Int) != m.fID) = false by simpa using hi]
          exact T.ret (show _ = _ by simp only [asks, if_pos hi, List.append_nil])
        · rw [show ((k : Int) != m.fID) = true by simpa using hi]
          exact T.ret (show _ = _ by simp only [asks, if_neg hi]; rfl)
      · rintro s rfl
        simp only [Q33_L5_T, Mo.den, sbind_eq, sbind2_eq, sbind3_eq, bcase_eq, gcase_eq, decide_eq_false (show ¬ ((m.fSize.toNat : Nat) : Int) < m.fSize by omega), cond_false]
        exact T.ret rfl
    obtain ⟨_, h, rfl⟩ := this
    simp only [h, Option.bind_some]; rfl
theorem RCampaign_val (m : GMember) (t : Int) (g : Good m) : Q21 (GMember.sTimer m t) = some (camS m) := by
  have g1 := g.s1; have g7 := g.s7; have gl := g.lg; have gi := g.i0; have gj := g.i1
  unfold Q21 Q21_T camS
  simp only [Mo.den, sbind_eq, sbind2_eq, sbind3_eq, bcase_eq, gcase_eq, Q95, Q95_T, Mo.den, sbind_eq, sbind2_eq, sbind3_eq, bcase_eq, gcase_eq, Option.bind_some]
  rw [if_pos (show 0 ≤ (GMember.sTimer m t).fID from gi)]
  by_cases h1 : m.fSize = 1
  · rw [show ((GMember.sTimer m t).fSize == 1) = true from (show (m.fSize == 1) = true by simpa using h1), if_pos h1]
    have ew := primary_val (canS m) (by show 1 ≤ m.fSize; omega) (by show m.fSize ≤ 7; omega) (by show 0 ≤ m.fID; omega) (by show m.fID < m.fSize; omega)
    show (Q22 (canS m)).bind (fun a => some (a, [])) = _
    rw [ew]; rfl
  · rw [show ((GMember.sTimer m t).fSize == 1) = false from (show (m.fSize == 1) = false by simpa using h1), if_neg h1]
    simp only [cond_false]
    have : Tot (Q21_L5 (GMember.sTimer m t) (IntKind.wrap .i64 (10 + IntKind.wrap .i64 (3 * (GMember.sTimer m t).fID))) 0 []) (fun r => r = asks m m.fSize.toNat) := by
      refine T.forP m.fSize.toNat (by omega) (fun k s => s = ((k : Int), asks m k)) _ rfl ?_ ?_
      · rintro k s hk rfl
        have hbl := asks_len m k
        simp only [Q21_L5_T, Q21_J0, Q21_J0_T, Mo.den, sbind_eq, sbind2_eq, sbind3_eq, bcase_eq, gcase_eq, decide_eq_true (show (k : Int) < (GMember.sTimer m t).fSize from (show (k : Int) < m.fSize by omega)), cond_true, Option.bind_some, List.length_cons, List.length_nil]
        have el : Q103 (GMember.mk (GMember.sTimer m t).fID (GMember.sTimer m t).fSize (IntKind.wrap .i64 ((GMember.sTimer m t).fTerm + 1)) (GMember.sTimer m t).fID 1 (-1) (IntKind.wrap .i64 (10 + IntKind.wrap .i64 (3 * (GMember.sTimer m t).fID))) (ishl .i64 1 (GMember.sTimer m t).fID) (GMember.sTimer m t).fLog (GMember.sTimer m t).fCommit [] []) = some (lastS m.fLog) := last_val (canS m) (by show m.fLog.length ≤ _; omega)
        rw [el]
        simp only [Option.bind_some]
        rw [inc k (by omega), if_pos (by omega)]
        by_cases hi : (k : Int) = m.fID
        · rw [show ((k : Int) != (GMember.sTimer m t).fID) = false from (show ((k : Int) != m.fID) = false by simpa using hi)]
          exact T.ret (show _ = _ by simp only [asks, if_pos hi, List.append_nil])
        · rw [show ((k : Int) != (GMember.sTimer m t).fID) = true from (show ((k : Int) != m.fID) = true by simpa using hi)]
          exact T.ret (show _ = _ by simp only [asks, if_neg hi]; rfl)
      · rintro s rfl
        simp only [Q21_L5_T, Mo.den, sbind_eq, sbind2_eq, sbind3_eq, bcase_eq, gcase_eq, decide_eq_false (show ¬ ((m.fSize.toNat : Nat) : Int) < (GMember.sTimer m t).fSize from (show ¬ ((m.fSize.toNat : Nat) : Int) < m.fSize by omega)), cond_false]
        exact T.ret rfl
    obtain ⟨_, h, rfl⟩ := this
    simp only [h, Option.bind_some]; rfl
theorem Good.timer {m : GMember} (g : Good m) (t : Int) (h : 0 ≤ t) : Good (GMember.sTimer m t) := ⟨g.s1, g.s7, g.i0, g.i1, g.t0, h, g.lg, g.c0, g.c1, g.pr⟩
noncomputable def tickS (m : GMember) : GMember × List GMessage := if 1 < m.fTimer then (GMember.sTimer m (m.fTimer - 1), []) else if m.fRole = 2 then (GMember.sTimer m 2, beatS (GMember.sTimer m 2)) else camS m
theorem bulk_timer (m : GMember) (t : Int) : bulkL (GMember.sTimer m t).lf1 = bulkL m.lf1 := by rw [bulk_member, bulk_member]; rfl
theorem Tick_val (m : GMember) (g : Good m) (hb : bulkL m.lf1 ≤ 10000000) (ht : m.fTimer ≤ 9223372036854775807) : Q111 m = some (tickS m) := by
  have gt := g.tm
  unfold Q111 Q111_T tickS
  simp only [Mo.den, sbind_eq, sbind2_eq, sbind3_eq, bcase_eq, gcase_eq, copyMember_val m (by omega), Option.bind_some]
  by_cases h1 : 1 < m.fTimer
  · rw [decide_eq_true h1, if_pos h1, w64 (by omega) (by omega)]; rfl
  rw [decide_eq_false h1, if_neg h1]
  simp only [cond_false]
  by_cases hr : m.fRole = 2
  · rw [show (m.fRole != 2) = false by simpa using hr, if_pos hr]
    simp only [cond_false, Beat_val (GMember.sTimer m 2) (g.timer 2 (by omega)) (by rw [bulk_timer]; omega), Option.bind_some]
  · rw [show (m.fRole != 2) = true by simpa using hr, if_neg hr]
    simp only [cond_true, Campaign_val m g hb, Option.bind_some]
theorem RTick_val (m : GMember) (g : Good m) (hb : bulkL m.lf1 ≤ 10000000) (ht : m.fTimer ≤ 9223372036854775807) : Q109 m = some (tickS m) := by
  have gt := g.tm
  unfold Q109 Q109_T tickS
  simp only [Mo.den, sbind_eq, sbind2_eq, sbind3_eq, bcase_eq, gcase_eq]
  rw [w64 (x := m.fTimer - 1) (by omega) (by omega)]
  by_cases h1 : 1 < m.fTimer
  · rw [decide_eq_true (show 0 < m.fTimer - 1 by omega), if_pos h1]; rfl
  rw [decide_eq_false (show ¬ 0 < m.fTimer - 1 by omega), if_neg h1]
  simp only [cond_false]
  by_cases hr : m.fRole = 2
  · rw [show (m.fRole == 2) = true by simpa using hr, if_pos hr]
    simp only [cond_true, RBeat_val (GMember.sTimer m 2) (g.timer 2 (by omega)) (by rw [bulk_timer]; omega), Option.bind_some]
  · rw [show (m.fRole == 2) = false by simpa using hr, if_neg hr]
    simp only [cond_false, RCampaign_val m _ g, Option.bind_some]
theorem tick_same (m : GMember) (g : Good m) (hb : bulkL m.lf1 ≤ 10000000) : Q2 (tickS m).1 (tickS m).1 = some true ∧ Q1 (tickS m).2 (tickS m).2 = some true := by
  have g7 := g.s7
  have hbm := bulk_member m
  have sm : ∀ t, Q2 (GMember.sTimer m t) (GMember.sTimer m t) = some true := fun t => SameMember_refl _ (by rw [bulk_timer]; omega)
  have nil : Q1 [] [] = some true := SameMessages_refl [] (by simp) (by simp)
  unfold tickS
  split
  · exact ⟨sm _, nil⟩
  · split
    · refine ⟨sm _, ?_⟩
      show Q1 (beatS (GMember.sTimer m 2)) (beatS (GMember.sTimer m 2)) = some true
      unfold beatS
      split
      · have h1 := beats_len (GMember.sTimer m 2) (GMember.sTimer m 2).fSize.toNat
        have h2 : (GMember.sTimer m 2).fSize.toNat ≤ 7 := by show m.fSize.toNat ≤ 7; omega
        refine SameMessages_refl _ (by omega) fun x hx => ?_
        have h3 := beats_small _ _ x hx
        have h4 : bulkR ((GMember.sTimer m 2).fLog.map GEntry.lf) = bulkR (m.fLog.map GEntry.lf) := rfl
        omega
      · exact nil
    · unfold camS
      split
      · refine ⟨SameMember_refl _ ?_, nil⟩
        rw [bulk_member]
        show 12 + bulkR (m.fLog.map GEntry.lf) + bulkR ((List.replicate m.fSize.toNat (m.fLog.length : Int)).map lfI) + bulkR (((List.replicate m.fSize.toNat (0 : Int)).set m.fID.toNat (m.fLog.length : Int)).map lfI) ≤ _
        rw [bulkR_ints, bulkR_ints, List.length_set, List.length_replicate, List.length_replicate]; omega
      · refine ⟨SameMember_refl _ ?_, ?_⟩
        · rw [bulk_member]
          show 12 + bulkR (m.fLog.map GEntry.lf) + 0 + 0 ≤ _
          omega
        · have h1 := asks_len m m.fSize.toNat
          refine SameMessages_refl _ (by show (asks m m.fSize.toNat).length ≤ _; omega) fun x hx => ?_
          rw [asks_small m _ x hx]; exact Nat.zero_le _
theorem ticks_law (m : GMember) (hb : bulkL m.lf1 ≤ 10000000) (ht : m.fTimer ≤ 9223372036854775807) : Q85 m = some true := by
  unfold Q85 Q85_T
  obtain ⟨b, hg, hG⟩ := good_tot m (by omega)
  simp only [Mo.den, sbind_eq, sbind2_eq, sbind3_eq, bcase_eq, gcase_eq, hg, Option.bind_some, awake_val]
  cases b with
  | false => rfl
  | true =>
    have g := hG rfl
    have h := tick_same m g hb
    simp only [Bool.not_true, cond_false, Tick_val m g hb ht, RTick_val m g hb ht, h.1, h.2, Option.bind_some, cond_true]
end Go.Proofs.YtdnafbfmaphhhaaGreatDoor
