/- twophase.Vote, Ack: the contracts of the hand walks in the printed ones' form. -/
import Derived.Test.YtplokbmdcfakbaaDoorQR5
import Derived.Test.YtplokbmdcfakbaaDoorQRTw4
import Derived.Test.YtplokbmdcfakbaaDoorQR4
set_option linter.unusedSimpArgs false
set_option linter.unusedVariables false
namespace Go.Proofs.YtplokbmdcfakbaaDoor
open Go.RowKit
def toDec (d : GDecision) : Dec := ⟨d.fID, d.fShards, d.fVotes, d.fState, d.fCommit, d.fAcked⟩
def ofDec (d : Dec) : GDecision := ⟨d.id, d.sh, d.vo, d.st, d.co, d.ak⟩
theorem dr_of {I : Gh} {d : GDecision} {v : Value} (hv : VR (env0 I) (.dat d.lf1) v) (h1 : d.fID.size ≤ 16777216) (h2 : d.fShards.length ≤ 16777216) (h3 : d.fVotes.length ≤ 16777216) (h4 : d.fAcked.length ≤ 16777216) : DR I (toDec d) v := by
  obtain ⟨cs, rfl, hc⟩ := VR.dat.1 hv
  obtain ⟨c1, q1, rfl, k1, hc⟩ := hc
  obtain ⟨c2, q2, rfl, k2, hc⟩ := hc
  obtain ⟨c3, q3, rfl, k3, hc⟩ := hc
  obtain ⟨c4, q4, rfl, k4, hc⟩ := hc
  obtain ⟨c5, q5, rfl, k5, hc⟩ := hc
  obtain ⟨c6, q6, rfl, k6, hc⟩ := hc
  obtain rfl : q6 = [] := hc
  obtain ⟨a1, p1, e1, _, _⟩ := LRp.slice k2
  obtain ⟨a2, p2, e2, _, _⟩ := LRp.slice k3
  obtain ⟨a3, p3, e3, _, _⟩ := LRp.slice k6
  rw [List.length_map] at e1 e2 e3
  subst e1 e2 e3
  obtain ⟨rfl, _⟩ := LRp.str k1
  obtain ⟨rfl, w4⟩ := LRp.int k4
  obtain ⟨rfl, w5⟩ := LRp.int k5
  have i64 : ∀ {n : Int}, (Lit.int .i64 n).wf = true → I64 n := fun {n} h => by
    have a1 : IntKind.min .i64 = -9223372036854775808 := by kernel_rfl
    have a2 : IntKind.max .i64 = 9223372036854775807 := by kernel_rfl
    simp only [Lit.wf, Bool.and_eq_true, decide_eq_true_eq] at h
    unfold I64; omega
  exact ⟨a1, p1, a2, p2, a3, p3, rfl, k2, k3, k6, h1, h2, h3, h4, i64 w4, i64 w5⟩
theorem of_dr {I : Gh} {d : Dec} {v : Value} (h : DR I d v) : VR (env0 I) (.dat (ofDec d).lf1) v := by
  obtain ⟨a1, c1, a2, c2, a3, c3, rfl, h1, h2, h3, hs⟩ := h
  have wf : ∀ {n : Int}, I64 n → (Lit.int .i64 n).wf = true := fun {n} h => by
    have a1 : IntKind.min .i64 = -9223372036854775808 := by kernel_rfl
    have a2 : IntKind.max .i64 = 9223372036854775807 := by kernel_rfl
    simp only [Lit.wf, Bool.and_eq_true, decide_eq_true_eq]
    unfold I64 at h; omega
  obtain ⟨s1, _, _, _, s5, s6⟩ := hs
  refine VR.dat.2 ⟨[_, _, _, _, _, _], rfl, ⟨_, _, rfl, ?_, _, _, rfl, h1, _, _, rfl, h2, _, _, rfl, ?_, _, _, rfl, ?_, _, _, rfl, h3, rfl⟩⟩
  · unfold LRp; exact ⟨rfl, by unfold maxLen; show d.id.size ≤ _; omega⟩
  · unfold LRp; exact ⟨rfl, wf s5⟩
  · unfold LRp; exact ⟨rfl, wf s6⟩
def smallD (d : GDecision) : Prop := d.fID.size ≤ 16777216 ∧ d.fShards.length ≤ 16777216 ∧ d.fVotes.length ≤ 16777216 ∧ d.fAcked.length ≤ 16777216
instance (d : GDecision) : Decidable (smallD d) := by unfold smallD; infer_instance
theorem dpost {I : Gh} {w w' : World} {x : Dec × Int} {e : Ending} (hx : (Lit.int .i64 x.2).wf = true) (h : DPost I w x e w') : ∃ I' v, e = .returned v ∧ Gr I I' w w' ∧ VR (env0 I') (.tup [.dat (ofDec x.1).lf1, .lf (.int .i64 x.2)]) v := by
  obtain ⟨I', v, g, rfl, hd⟩ := h
  exact ⟨I', _, rfl, g, VR.tup.2 ⟨[v, .int .i64 x.2], rfl, VRs.cons (of_dr hd) (VRs.one (VR.lf.2 (by unfold LRp; exact ⟨rfl, hx⟩)))⟩⟩
noncomputable def M_twophase_Vote (d : GDecision) (s p : Int) : Option (GDecision × Int) := if smallD d then some (ofDec (voteE (toDec d) s p).1, (voteE (toDec d) s p).2) else none
theorem M_twophase_Vote_ok (d : GDecision) (s p : Int) (r : GDecision × Int) (h : M_twophase_Vote d s p = some r) : Fn Tryd.prog GI 8 [.dat d.lf1, .lf (.int .i64 s), .lf (.int .i64 p)] (.tup [.dat r.1.lf1, .lf (.int .i64 r.2)]) := by
  obtain ⟨hs, h⟩ := guard_some h
  injection h with h; subst h
  refine Fn.of (by kernel_rfl) fun I w vs hG hi hvs => ?_
  obtain ⟨v, q, rfl, h1, h2⟩ := VRs.cons1 hvs
  obtain ⟨v2, q, rfl, h3, h2⟩ := VRs.cons1 h2
  obtain ⟨v3, q, rfl, h4, h2⟩ := VRs.cons1 h2
  obtain rfl := VRs.nil1 h2
  obtain ⟨rfl, _⟩ := (VR.lf.1 h3).int
  obtain ⟨rfl, w4⟩ := (VR.lf.1 h4).int
  have hsp : I64 p := by
    have a1 : IntKind.min .i64 = -9223372036854775808 := by kernel_rfl
    have a2 : IntKind.max .i64 = 9223372036854775807 := by kernel_rfl
    simp only [Lit.wf, Bool.and_eq_true, decide_eq_true_eq] at w4
    unfold I64; omega
  refine (Vote_ok (toDec d) s p v I w (dr_of h1 hs.1 hs.2.1 hs.2.2.1 hs.2.2.2) hi hsp).mono fun e w' hd => dpost ?_ hd
  unfold voteE; split
  · decide
  · split
    · decide
    · show (Lit.int .i64 0).wf = true; decide
noncomputable def M_twophase_Ack (d : GDecision) (s : Int) : Option (GDecision × Int) := if smallD d then some (ofDec (ackE (toDec d) s).1, (ackE (toDec d) s).2) else none
theorem M_twophase_Ack_ok (d : GDecision) (s : Int) (r : GDecision × Int) (h : M_twophase_Ack d s = some r) : Fn Tryd.prog GI 16 [.dat d.lf1, .lf (.int .i64 s)] (.tup [.dat r.1.lf1, .lf (.int .i64 r.2)]) := by
  obtain ⟨hs, h⟩ := guard_some h
  injection h with h; subst h
  refine Fn.of (by kernel_rfl) fun I w vs hG hi hvs => ?_
  obtain ⟨v, q, rfl, h1, h2⟩ := VRs.cons1 hvs
  obtain ⟨v2, q, rfl, h3, h2⟩ := VRs.cons1 h2
  obtain rfl := VRs.nil1 h2
  obtain ⟨rfl, _⟩ := (VR.lf.1 h3).int
  refine (Ack_ok (toDec d) s v I w (dr_of h1 hs.1 hs.2.1 hs.2.2.1 hs.2.2.2) hi).mono fun e w' hd => dpost ?_ hd
  unfold ackE; split
  · decide
  · split
    · decide
    · show (Lit.int .i64 0).wf = true; decide
end Go.Proofs.YtplokbmdcfakbaaDoor
set_option linter.unusedSimpArgs false
set_option linter.unusedVariables false
namespace Go.Proofs.YtplokbmdcfakbaaDoor
open Go.RowKit
set_option maxRecDepth 20000 in
set_option maxHeartbeats 4000000 in
noncomputable def M_twophase_Start_J0_T (p_id : ByteArray) (p_shards : List Int) (v70 : Int) (x72 : Int) : Mo ((Bool)) :=
  .ite (decide ((x72 : Int) < 0)) (fun c74 =>
    .say [.gd 18002 true] (okc c74 ok0) <|
    .ret ⟨[], [0, 1, 4, 18, 19, 20, 43], [], 1⟩ (true)) fun c74 =>
  .say [.gd 18002 false] (okc c74 ok0) <|
  .ite (decide ((8 : Int) ≤ x72)) (fun c75 =>
    .say [.gd 18006 true] (okc c75 ok0) <|
    .ret ⟨[], [0, 1, 4, 18, 19, 20, 43], [], 1⟩ (true)) fun c75 =>
  .say [.gd 18006 false] (okc c75 ok0) <|
  .ite (decide ((0 : Int) < v70)) (fun c76 =>
    .say [.gd 18009 true] (okc c76 ok0) <|
    .ask (gidx p_shards (IntKind.wrap .i64 (v70 - 1))) fun x77 h78 =>
    .say [.row (lfI x77)] (okc (gidx_ok (fun _ => rfl) h78 : (0 : Int) ≤ (IntKind.wrap .i64 (v70 - 1)) ∧ (p_shards.map lfI)[(IntKind.wrap .i64 (v70 - 1)).toNat]? = some (lfI x77)) ok0) <|
    .ret ⟨[], [0, 1, 4, 18, 19, 20, 43], [], 1⟩ (decide ((x72 : Int) ≤ x77))) fun c76 =>
  .say [.gd 18009 false] (okc c76 ok0) <|
  .ret ⟨[], [0, 1, 4, 18, 19, 20, 43], [], 1⟩ (false)
noncomputable def M_twophase_Start_J0 (p_id : ByteArray) (p_shards : List Int) (v70 : Int) (x72 : Int) : Option ((Bool)) := Mo.den (M_twophase_Start_J0_T p_id p_shards v70 x72)
noncomputable def M_twophase_Start_J0_X (r_ : (Bool)) : Exit := .normal
noncomputable def M_twophase_Start_J0_S (p_id : ByteArray) (p_shards : List Int) (v70 : Int) (r_ : (Bool)) : St := ⟨[(0, .lf (.str p_id)), (1, .lf (.rows 1 (p_shards.map lfI))), (4, .ptr 0 0), (18, .lf (.rows 1 (p_shards.map lfI))), (19, .lf (.int .i64 (p_shards.length : Int))), (20, .lf (.int .i64 v70)), (43, .lf (.bool r_))], [.box 27 (Z27)]⟩
set_option maxRecDepth 20000 in
set_option maxHeartbeats 4000000 in
theorem M_twophase_Start_J0_W {p_id : ByteArray} {p_shards : List Int} {v70 : Int} {x72 : Int} {r_ : (Bool)} (h : M_twophase_Start_J0 p_id p_shards v70 x72 = some r_) : AWa Tryd.prog GI TTc Tryd.f7.ntmps (Code.sub (bodyC Tryd.f7) [1, 1, 1, 0, 1, 0, 0, 1, 1, 0, 0, 1, 0]) (M_twophase_Start_J0_X r_) (M_twophase_Start_J0_S p_id p_shards v70 r_) ⟨[(0, .lf (.str p_id)), (1, .lf (.rows 1 (p_shards.map lfI))), (4, .ptr 0 0), (6, .lf (.int .i64 v70)), (7, .lf (.int .i64 x72)), (18, .lf (.rows 1 (p_shards.map lfI))), (19, .lf (.int .i64 (p_shards.length : Int))), (20, .lf (.int .i64 v70))], [.box 27 (Z27)]⟩ :=
  part_T BaseK (M_twophase_Start_J0_T p_id p_shards v70 x72) M_twophase_Start_J0_X (M_twophase_Start_J0_S p_id p_shards v70) (by kernel_rfl) h
set_option maxRecDepth 20000 in
set_option maxHeartbeats 4000000 in
noncomputable def M_twophase_Start_L5_T (p_id : ByteArray) (p_shards : List Int) : (Int) → Mo ((Int) ⊕ (Unit ⊕ Unit)) := fun (v70) =>
  .ite (decide ((v70 : Int) < (p_shards.length : Int))) (fun c71 =>
    .say [.br true] (okc c71 ok0) <|
    .ask (gidx p_shards v70) fun x72 h73 =>
    .say [.row (lfI x72)] (okc (gidx_ok (fun _ => rfl) h73 : (0 : Int) ≤ v70 ∧ (p_shards.map lfI)[v70.toNat]? = some (lfI x72)) ok0) <|
    .ask (M_twophase_Start_J0 p_id p_shards v70 x72) fun r80 h81 =>
    .say [.part [] 23 [0, 1, 4, 6, 7, 18, 19, 20] 1 (M_twophase_Start_J0_X r80) (M_twophase_Start_J0_S p_id p_shards v70 r80).T (M_twophase_Start_J0_S p_id p_shards v70 r80).H] (okc (M_twophase_Start_J0_W h81) ok0) <|
    .ite (r80) (fun c82 =>
      .say [.br true] (okc c82 ok0) <|
      .ret ⟨[], [4, 5], [], 1⟩ (.inr (.inl ()))) fun c82 =>
    .say [.br false] (okc c82 ok0) <|
    .ret ⟨[], [0, 1, 4, 18, 19, 20], [], 1⟩ (.inl (IntKind.wrap .i64 (v70 + 1)))) fun c71 =>
  .say [.br false] (okc c71 ok0) <|
  .ret ⟨[], [0, 1, 4], [], 1⟩ (.inr (.inr (())))
noncomputable def M_twophase_Start_L5 (p_id : ByteArray) (p_shards : List Int) (v70 : Int) : Option (Unit ⊕ Unit) := loopM (fun v_ => (M_twophase_Start_L5_T p_id p_shards v_).den) FU (v70)
noncomputable def M_twophase_Start_L5_H (p_id : ByteArray) (p_shards : List Int) : (Int) → St := fun (v70) => ⟨[(0, .lf (.str p_id)), (1, .lf (.rows 1 (p_shards.map lfI))), (4, .ptr 0 0), (18, .lf (.rows 1 (p_shards.map lfI))), (19, .lf (.int .i64 (p_shards.length : Int))), (20, .lf (.int .i64 v70))], [.box 27 (Z27)]⟩
noncomputable def M_twophase_Start_L5_X (r_ : Unit ⊕ Unit) : Exit := match r_ with
  | .inl o_ => .ret
  | .inr (o_) => .exit 0
noncomputable def M_twophase_Start_L5_S (p_id : ByteArray) (p_shards : List Int) (r_ : Unit ⊕ Unit) : St := match r_ with
  | .inl o_ => ⟨[(4, .ptr 0 0), (5, .lf (.int .i64 1))], [.box 27 (Z27)]⟩
  | .inr (o_) => ⟨[(0, .lf (.str p_id)), (1, .lf (.rows 1 (p_shards.map lfI))), (4, .ptr 0 0)], [.box 27 (Z27)]⟩
set_option maxRecDepth 20000 in
set_option maxHeartbeats 4000000 in
theorem M_twophase_Start_L5_W {p_id : ByteArray} {p_shards : List Int} {v70 : Int} {r_ : Unit ⊕ Unit} (h : M_twophase_Start_L5 p_id p_shards v70 = some r_) : AWa Tryd.prog GI TTc Tryd.f7.ntmps (Code.sub (bodyC Tryd.f7) [1, 1, 1, 0, 1, 0]) (M_twophase_Start_L5_X r_) (M_twophase_Start_L5_S p_id p_shards r_) (M_twophase_Start_L5_H p_id p_shards (v70)) :=
  loop_T BaseK (body := (Code.sub (bodyC Tryd.f7) [1, 1, 1, 0, 1, 0, 0])) (by kernel_rfl) (M_twophase_Start_L5_T p_id p_shards) (M_twophase_Start_L5_H p_id p_shards) M_twophase_Start_L5_X (M_twophase_Start_L5_S p_id p_shards) (fun r_ => by rcases r_ with _ | _ <;> rfl) (fun v_ => by kernel_rfl) h
set_option maxRecDepth 20000 in
set_option maxHeartbeats 4000000 in
noncomputable def M_twophase_Start_T (p_id : ByteArray) (p_shards : List Int) : Mo (GDecision × Int) :=
  .ask (M_twophase_named p_id) fun r3 h4 =>
  .say [.res (.lf (.bool r3))] (okc (M_twophase_named_ok _ _ h4) ok0) <|
  .ite (!r3) (fun c6 =>
    .say [.br true] (okc c6 ok0) <|
    .ret fit0 (GDecision.z, 9)) fun c6 =>
  .say [.br false, .num p_shards.length] (okc c6 (okc (by simp : p_shards.length = (p_shards.map lfI).length) ok0)) <|
  .ite ((p_shards.length : Int) == 0) (fun c8 =>
    .say [.br true] (okc c8 ok0) <|
    .ret fit0 (GDecision.z, 1)) fun c8 =>
  .say [.br false, .num p_shards.length] (okc c8 (okc (by simp : p_shards.length = (p_shards.map lfI).length) ok0)) <|
  .ask2 (M_twophase_Start_L5 p_id p_shards 0) (fun o85 h84 =>
    .say [.part [] 0 [0, 1, 4, 18, 19, 20] 1 (M_twophase_Start_L5_X (.inl o85)) (M_twophase_Start_L5_S p_id p_shards (.inl o85)).T (M_twophase_Start_L5_S p_id p_shards (.inl o85)).H] (okc (M_twophase_Start_L5_W h84) ok0) <|
    .ret fit0 (GDecision.z, 1)) fun o86 h84 =>
  .say [.part [] 0 [0, 1, 4, 18, 19, 20] 1 (M_twophase_Start_L5_X (.inr (o86))) (M_twophase_Start_L5_S p_id p_shards (.inr (o86))).T (M_twophase_Start_L5_S p_id p_shards (.inr (o86))).H, .num p_shards.length] (okc (M_twophase_Start_L5_W h84) (okc (by simp : p_shards.length = (p_shards.map lfI).length) ok0)) <|
  .ask (M_slices_Clone_int p_shards) fun r89 h90 =>
  .say [.res (.lf (.rows 1 (r89.map lfI))), .rows ((List.replicate (p_shards.length : Int).toNat 0).map lfI), .rows ((List.replicate (p_shards.length : Int).toNat false).map lfB), .at_ 0 0, .frz 2, .frz 3] (okc (M_slices_Clone_int_ok _ _ h90) (okc (by simp [lfI, lfK] : (List.replicate (p_shards.length : Int).toNat 0).map lfI = List.replicate (p_shards.length : Int).toNat (lfI 0)) ok0)) <|
  .grd ((0 : Int) ≤ (p_shards.length : Int) ∧ 8 * (p_shards.length : Int).toNat ≤ 281474976710656 ∧ (p_shards.length : Int).toNat ≤ maxLen) fun h92 =>
  .say [] (okc (⟨rfl, h92⟩ : ((p_shards.length : Int) : Int) = (p_shards.length : Int) ∧ (0 : Int) ≤ (p_shards.length : Int) ∧ 8 * (p_shards.length : Int).toNat ≤ 281474976710656 ∧ (p_shards.length : Int).toNat ≤ maxLen) (okc (by simp [lfB] : (List.replicate (p_shards.length : Int).toNat false).map lfB = List.replicate (p_shards.length : Int).toNat (lfB false)) ok0)) <|
  .grd ((0 : Int) ≤ (p_shards.length : Int) ∧ 1 * (p_shards.length : Int).toNat ≤ 281474976710656 ∧ (p_shards.length : Int).toNat ≤ maxLen) fun h94 =>
  .say [] (okc (⟨rfl, h94⟩ : ((p_shards.length : Int) : Int) = (p_shards.length : Int) ∧ (0 : Int) ≤ (p_shards.length : Int) ∧ 1 * (p_shards.length : Int).toNat ≤ 281474976710656 ∧ (p_shards.length : Int).toNat ≤ maxLen) (okc (fun _ h => h : ∀ g : Nat, ¬ (fun _ : Nat => False) g) (okc (fun _ h => h : ∀ g : Nat, ¬ (fun _ : Nat => False) g) ok0))) <|
  .ret fit0 (GDecision.mk p_id r89 (List.replicate (p_shards.length : Int).toNat 0) 1 0 (List.replicate (p_shards.length : Int).toNat false), 0)
noncomputable def M_twophase_Start (p_id : ByteArray) (p_shards : List Int) : Option (GDecision × Int) := Mo.den (M_twophase_Start_T p_id p_shards)
set_option maxRecDepth 20000 in
set_option maxHeartbeats 4000000 in
theorem M_twophase_Start_ok (p_id : ByteArray) (p_shards : List Int) (r : GDecision × Int) (h : M_twophase_Start p_id p_shards = some r) : Fn Tryd.prog GI 7 [.lf (.str p_id), .lf (.rows 1 (p_shards.map lfI))] (.tup [.dat (GDecision.lf1 r.1), .lf (.int .i64 r.2)]) :=
  fn_T BaseK Tryd.func7 (by kernel_rfl) (by kernel_rfl) (by kernel_rfl) (by kernel_rfl) (M_twophase_Start_T p_id p_shards) (fun r => [.dat (GDecision.lf1 r.1), .lf (.int .i64 r.2)]) (by kernel_rfl) h
set_option maxRecDepth 20000 in
set_option maxHeartbeats 4000000 in
noncomputable def M_slices_Index_int_L0_T (p_s : List Int) (p_v : Int) : (Int) → Mo ((Int) ⊕ (Int) ⊕ Unit) := fun (v120) =>
  .ite (decide ((v120 : Int) < (p_s.length : Int))) (fun c121 =>
    .say [.br true] (okc c121 ok0) <|
    .ask (gidx p_s v120) fun x122 h123 =>
    .say [.row (lfI x122)] (okc (gidx_ok (fun _ => rfl) h123 : (0 : Int) ≤ v120 ∧ (p_s.map lfI)[v120.toNat]? = some (lfI x122)) ok0) <|
    .ite (p_v == x122) (fun c124 =>
      .say [.br true] (okc c124 ok0) <|
      .ret ⟨[], [4], [], 0⟩ (.inr (.inl (v120)))) fun c124 =>
    .say [.br false] (okc c124 ok0) <|
    .ret ⟨[], [0, 1, 7, 8], [], 0⟩ (.inl (IntKind.wrap .i64 (v120 + 1)))) fun c121 =>
  .say [.br false] (okc c121 ok0) <|
  .ret ⟨[], [], [], 0⟩ (.inr (.inr (())))
noncomputable def M_slices_Index_int_L0 (p_s : List Int) (p_v : Int) (v120 : Int) : Option ((Int) ⊕ Unit) := loopM (fun v_ => (M_slices_Index_int_L0_T p_s p_v v_).den) FU (v120)
noncomputable def M_slices_Index_int_L0_H (p_s : List Int) (p_v : Int) : (Int) → St := fun (v120) => ⟨[(0, .lf (.rows 1 (p_s.map lfI))), (1, .lf (.int .i64 p_v)), (7, .lf (.int .i64 (p_s.length : Int))), (8, .lf (.int .i64 v120))], []⟩
noncomputable def M_slices_Index_int_L0_X (r_ : (Int) ⊕ Unit) : Exit := match r_ with
  | .inl o_ => .ret
  | .inr (o_) => .exit 0
noncomputable def M_slices_Index_int_L0_S  (r_ : (Int) ⊕ Unit) : St := match r_ with
  | .inl o_ => ⟨[(4, .lf (.int .i64 o_))], []⟩
  | .inr (o_) => ⟨[], []⟩
set_option maxRecDepth 20000 in
set_option maxHeartbeats 4000000 in
theorem M_slices_Index_int_L0_W {p_s : List Int} {p_v : Int} {v120 : Int} {r_ : (Int) ⊕ Unit} (h : M_slices_Index_int_L0 p_s p_v v120 = some r_) : AWa Tryd.prog GI TTc Tryd.f20.ntmps (Code.sub (bodyC Tryd.f20) [1, 0, 1, 0]) (M_slices_Index_int_L0_X r_) (M_slices_Index_int_L0_S r_) (M_slices_Index_int_L0_H p_s p_v (v120)) :=
  loop_T BaseK (body := (Code.sub (bodyC Tryd.f20) [1, 0, 1, 0, 0])) (by kernel_rfl) (M_slices_Index_int_L0_T p_s p_v) (M_slices_Index_int_L0_H p_s p_v) M_slices_Index_int_L0_X M_slices_Index_int_L0_S (fun r_ => by rcases r_ with _ | _ <;> rfl) (fun v_ => by kernel_rfl) h
set_option maxRecDepth 20000 in
set_option maxHeartbeats 4000000 in
noncomputable def M_slices_Index_int_T (p_s : List Int) (p_v : Int) : Mo (Int) :=
  .say [.num p_s.length] (okc (by simp : p_s.length = (p_s.map lfI).length) ok0) <|
  .ask2 (M_slices_Index_int_L0 p_s p_v 0) (fun o128 h127 =>
    .say [.part [] 0 [0, 1, 7, 8] 0 (M_slices_Index_int_L0_X (.inl o128)) (M_slices_Index_int_L0_S (.inl o128)).T (M_slices_Index_int_L0_S (.inl o128)).H] (okc (M_slices_Index_int_L0_W h127) ok0) <|
    .ret fit0 (o128)) fun o129 h127 =>
  .say [.part [] 0 [0, 1, 7, 8] 0 (M_slices_Index_int_L0_X (.inr (o129))) (M_slices_Index_int_L0_S (.inr (o129))).T (M_slices_Index_int_L0_S (.inr (o129))).H] (okc (M_slices_Index_int_L0_W h127) ok0) <|
  .ret fit0 ((-1))
noncomputable def M_slices_Index_int (p_s : List Int) (p_v : Int) : Option (Int) := Mo.den (M_slices_Index_int_T p_s p_v)
set_option maxRecDepth 20000 in
set_option maxHeartbeats 4000000 in
theorem M_slices_Index_int_ok (p_s : List Int) (p_v : Int) (r : Int) (h : M_slices_Index_int p_s p_v = some r) : Fn Tryd.prog GI 20 [.lf (.rows 1 (p_s.map lfI)), .lf (.int .i64 p_v)] (.lf (.int .i64 r)) :=
  fn_T BaseK Tryd.func20 (by kernel_rfl) (by kernel_rfl) (by kernel_rfl) (by kernel_rfl) (M_slices_Index_int_T p_s p_v) (fun r => [.lf (.int .i64 r)]) (by kernel_rfl) h
set_option maxRecDepth 20000 in
set_option maxHeartbeats 4000000 in
noncomputable def M_slices_Contains_int_T (p_s : List Int) (p_v : Int) : Mo (Bool) :=
  .ask (M_slices_Index_int p_s p_v) fun r130 h131 =>
  .say [.res (.lf (.int .i64 r130))] (okc (M_slices_Index_int_ok _ _ _ h131) ok0) <|
  .ret fit0 (decide ((0 : Int) ≤ r130))
noncomputable def M_slices_Contains_int (p_s : List Int) (p_v : Int) : Option (Bool) := Mo.den (M_slices_Contains_int_T p_s p_v)
set_option maxRecDepth 20000 in
set_option maxHeartbeats 4000000 in
theorem M_slices_Contains_int_ok (p_s : List Int) (p_v : Int) (r : Bool) (h : M_slices_Contains_int p_s p_v = some r) : Fn Tryd.prog GI 22 [.lf (.rows 1 (p_s.map lfI)), .lf (.int .i64 p_v)] (.lf (.bool r)) :=
  fn_T BaseK Tryd.func22 (by kernel_rfl) (by kernel_rfl) (by kernel_rfl) (by kernel_rfl) (M_slices_Contains_int_T p_s p_v) (fun r => [.lf (.bool r)]) (by kernel_rfl) h
set_option maxRecDepth 20000 in
set_option maxHeartbeats 4000000 in
noncomputable def M_twophase_copied_T (p_d : GDecision) : Mo (GDecision) :=
  .ask (M_slices_Clone_int p_d.fShards) fun r134 h135 =>
  .say [.res (.lf (.rows 1 (r134.map lfI)))] (okc (M_slices_Clone_int_ok _ _ h135) ok0) <|
  .ask (M_slices_Clone_int p_d.fVotes) fun r138 h139 =>
  .say [.res (.lf (.rows 1 (r138.map lfI)))] (okc (M_slices_Clone_int_ok _ _ h139) ok0) <|
  .ask (M_slices_Clone_bool p_d.fAcked) fun r142 h143 =>
  .say [.res (.lf (.rows 1 (r142.map lfB)))] (okc (M_slices_Clone_bool_ok _ _ h143) ok0) <|
  .ret fit0 (GDecision.mk p_d.fID r134 r138 p_d.fState p_d.fCommit r142)
noncomputable def M_twophase_copied (p_d : GDecision) : Option (GDecision) := Mo.den (M_twophase_copied_T p_d)
set_option maxRecDepth 20000 in
set_option maxHeartbeats 4000000 in
theorem M_twophase_copied_ok (p_d : GDecision) (r : GDecision) (h : M_twophase_copied p_d = some r) : Fn Tryd.prog GI 21 [.dat (GDecision.lf1 p_d)] (.dat (GDecision.lf1 r)) :=
  fn_T BaseK Tryd.func21 (by kernel_rfl) (by kernel_rfl) (by kernel_rfl) (by kernel_rfl) (M_twophase_copied_T p_d) (fun r => [.dat (GDecision.lf1 r)]) (by kernel_rfl) h
set_option maxRecDepth 20000 in
set_option maxHeartbeats 4000000 in
noncomputable def M_twophase_Decide_J0_T (p_d : GDecision) (r146 : Bool) : Mo ((Bool)) :=
  .ite (p_d.fState != 1) (fun c152 =>
    .say [.gd 6003 true] (okc c152 ok0) <|
    .ret ⟨[], [1, 2, 3, 5, 22], [], 3⟩ (true)) fun c152 =>
  .say [.gd 6003 false] (okc c152 ok0) <|
  .ite (!r146) (fun c153 =>
    .say [.gd 6006 true] (okc c153 ok0) <|
    .ask (M_slices_Contains_int p_d.fVotes 0) fun r154 h155 =>
    .say [.res (.lf (.bool r154))] (okc (M_slices_Contains_int_ok _ _ _ h155) ok0) <|
    .ret ⟨[], [1, 2, 3, 5, 22], [], 3⟩ (r154)) fun c153 =>
  .say [.gd 6006 false] (okc c153 ok0) <|
  .ret ⟨[], [1, 2, 3, 5, 22], [], 3⟩ (false)
noncomputable def M_twophase_Decide_J0 (p_d : GDecision) (r146 : Bool) : Option ((Bool)) := Mo.den (M_twophase_Decide_J0_T p_d r146)
noncomputable def M_twophase_Decide_J0_X (r_ : (Bool)) : Exit := .normal
noncomputable def M_twophase_Decide_J0_S (p_d : GDecision) (r146 : Bool) (r_ : (Bool)) : St := ⟨[(1, .ptr 0 0), (2, .ptr 1 0), (3, .ptr 2 0), (5, .lf (.bool r146)), (22, .lf (.bool r_))], [.box 27 (.dat (GDecision.lf1 p_d)), .box 27 (Z27), .box 60 (Z60)]⟩
set_option maxRecDepth 20000 in
set_option maxHeartbeats 4000000 in
theorem M_twophase_Decide_J0_W {p_d : GDecision} {r146 : Bool} {r_ : (Bool)} (h : M_twophase_Decide_J0 p_d r146 = some r_) : AWa Tryd.prog GI TTc Tryd.f9.ntmps (Code.sub (bodyC Tryd.f9) [1, 1, 0, 0]) (M_twophase_Decide_J0_X r_) (M_twophase_Decide_J0_S p_d r146 r_) ⟨[(1, .ptr 0 0), (2, .ptr 1 0), (3, .ptr 2 0), (5, .lf (.bool r146))], [.box 27 (.dat (GDecision.lf1 p_d)), .box 27 (Z27), .box 60 (Z60)]⟩ :=
  part_T BaseK (M_twophase_Decide_J0_T p_d r146) M_twophase_Decide_J0_X (M_twophase_Decide_J0_S p_d r146) (by kernel_rfl) h
set_option maxRecDepth 20000 in
set_option maxHeartbeats 4000000 in
noncomputable def M_twophase_Decide_L5_T (r146 : Bool) (r163 : GDecision) : (Int × GDecision) → Mo ((Int × GDecision) ⊕ (GDecision)) := fun (v184, s185) =>
  .ite (decide ((v184 : Int) < (r163.fVotes.length : Int))) (fun c186 =>
    .say [.br true] (okc c186 ok0) <|
    .ask (gidx r163.fVotes v184) fun x187 h188 =>
    .say [.row (lfI x187)] (okc (gidx_ok (fun _ => rfl) h188 : (0 : Int) ≤ v184 ∧ (r163.fVotes.map lfI)[v184.toNat]? = some (lfI x187)) ok0) <|
    .ret ⟨[], [1, 2, 3, 5, 30, 31, 32], [], 3⟩ (.inl (IntKind.wrap .i64 (v184 + 1), GDecision.sCommit s185 (if x187 > s185.fCommit then x187 else s185.fCommit)))) fun c186 =>
  .say [.br false] (okc c186 ok0) <|
  .ret ⟨[], [1, 2, 3, 5], [], 3⟩ (.inr (s185))
noncomputable def M_twophase_Decide_L5 (r146 : Bool) (r163 : GDecision) (v184 : Int) (s185 : GDecision) : Option ((GDecision)) := loopM (fun v_ => (M_twophase_Decide_L5_T r146 r163 v_).den) FU (v184, s185)
noncomputable def M_twophase_Decide_L5_H (r146 : Bool) (r163 : GDecision) : (Int × GDecision) → St := fun (v184, s185) => ⟨[(1, .ptr 0 0), (2, .ptr 1 0), (3, .ptr 2 0), (5, .lf (.bool r146)), (30, .lf (.rows 1 (r163.fVotes.map lfI))), (31, .lf (.int .i64 (r163.fVotes.length : Int))), (32, .lf (.int .i64 v184))], [.box 27 (.dat (GDecision.lf1 s185)), .box 27 (Z27), .box 60 (Z60)]⟩
noncomputable def M_twophase_Decide_L5_X (r_ : (GDecision)) : Exit := .exit 0
noncomputable def M_twophase_Decide_L5_S (r146 : Bool) (r_ : (GDecision)) : St := ⟨[(1, .ptr 0 0), (2, .ptr 1 0), (3, .ptr 2 0), (5, .lf (.bool r146))], [.box 27 (.dat (GDecision.lf1 r_)), .box 27 (Z27), .box 60 (Z60)]⟩
set_option maxRecDepth 20000 in
set_option maxHeartbeats 4000000 in
theorem M_twophase_Decide_L5_W {r146 : Bool} {r163 : GDecision} {v184 : Int} {s185 : GDecision} {r_ : (GDecision)} (h : M_twophase_Decide_L5 r146 r163 v184 s185 = some r_) : AWa Tryd.prog GI TTc Tryd.f9.ntmps (Code.sub (bodyC Tryd.f9) [1, 1, 1, 1, 1, 1, 0, 1, 0]) (M_twophase_Decide_L5_X r_) (M_twophase_Decide_L5_S r146 r_) (M_twophase_Decide_L5_H r146 r163 (v184, s185)) :=
  loop_T BaseK (body := (Code.sub (bodyC Tryd.f9) [1, 1, 1, 1, 1, 1, 0, 1, 0, 0])) (by kernel_rfl) (M_twophase_Decide_L5_T r146 r163) (M_twophase_Decide_L5_H r146 r163) M_twophase_Decide_L5_X (M_twophase_Decide_L5_S r146) (fun r_ => rfl) (fun v_ => by kernel_rfl) h
set_option maxRecDepth 20000 in
set_option maxHeartbeats 4000000 in
noncomputable def M_twophase_Decide_J11_T (r146 : Bool) (r190 : (GDecision)) : Mo ((GDecision)) :=
  .ite (r146) (fun c193 =>
    .say [.br true] (okc c193 ok0) <|
    .ret ⟨[], [1, 2, 3], [], 3⟩ (GDecision.sCommit (GDecision.sState r190 4) 0)) fun c193 =>
  .say [.br false] (okc c193 ok0) <|
  .ret ⟨[], [1, 2, 3], [], 3⟩ (r190)
noncomputable def M_twophase_Decide_J11 (r146 : Bool) (r190 : (GDecision)) : Option ((GDecision)) := Mo.den (M_twophase_Decide_J11_T r146 r190)
noncomputable def M_twophase_Decide_J11_X (r_ : (GDecision)) : Exit := .normal
noncomputable def M_twophase_Decide_J11_S  (r_ : (GDecision)) : St := ⟨[(1, .ptr 0 0), (2, .ptr 1 0), (3, .ptr 2 0)], [.box 27 (.dat (GDecision.lf1 r_)), .box 27 (Z27), .box 60 (Z60)]⟩
set_option maxRecDepth 20000 in
set_option maxHeartbeats 4000000 in
theorem M_twophase_Decide_J11_W {r146 : Bool} {r190 : (GDecision)} {r_ : (GDecision)} (h : M_twophase_Decide_J11 r146 r190 = some r_) : AWa Tryd.prog GI TTc Tryd.f9.ntmps (Code.sub (bodyC Tryd.f9) [1, 1, 1, 1, 1, 1, 1, 0, 1]) (M_twophase_Decide_J11_X r_) (M_twophase_Decide_J11_S r_) ⟨[(1, .ptr 0 0), (2, .ptr 1 0), (3, .ptr 2 0), (42, .lf (.bool r146))], [.box 27 (.dat (GDecision.lf1 r190)), .box 27 (Z27), .box 60 (Z60)]⟩ :=
  part_T BaseK (M_twophase_Decide_J11_T r146 r190) M_twophase_Decide_J11_X M_twophase_Decide_J11_S (by kernel_rfl) h
set_option maxRecDepth 20000 in
set_option maxHeartbeats 4000000 in
noncomputable def M_twophase_Decide_T (p_d : GDecision) : Mo (GDecision × GWrite × Int) :=
  .ask (M_slices_Contains_int p_d.fVotes (-1)) fun r146 h147 =>
  .say [.res (.lf (.bool r146))] (okc (M_slices_Contains_int_ok _ _ _ h147) ok0) <|
  .ask (M_twophase_Decide_J0 p_d r146) fun r157 h158 =>
  .say [.part [] 11 [1, 2, 3, 5] 3 (M_twophase_Decide_J0_X r157) (M_twophase_Decide_J0_S p_d r146 r157).T (M_twophase_Decide_J0_S p_d r146 r157).H] (okc (M_twophase_Decide_J0_W h158) ok0) <|
  .ite (r157) (fun c160 =>
    .say [.br true] (okc c160 ok0) <|
    .ret fit0 (GDecision.z, GWrite.z, 23)) fun c160 =>
  .say [.br false] (okc c160 ok0) <|
  .ask (M_twophase_copied p_d) fun r163 h164 =>
  .say [.res (.dat (GDecision.lf1 r163)), .num r163.fVotes.length] (okc (M_twophase_copied_ok _ _ h164) (okc (by simp : r163.fVotes.length = (r163.fVotes.map lfI).length) ok0)) <|
  .ask (M_twophase_Decide_L5 r146 r163 0 (GDecision.sCommit (GDecision.sState r163 3) 0)) fun r190 h191 =>
  .say [.part [] 0 [1, 2, 3, 5, 30, 31, 32] 3 (M_twophase_Decide_L5_X r190) (M_twophase_Decide_L5_S r146 r190).T (M_twophase_Decide_L5_S r146 r190).H] (okc (M_twophase_Decide_L5_W h191) ok0) <|
  .ask (M_twophase_Decide_J11 r146 r190) fun r195 h196 =>
  .say [.part [] 1 [1, 2, 3, 42] 3 (M_twophase_Decide_J11_X r195) (M_twophase_Decide_J11_S r195).T (M_twophase_Decide_J11_S r195).H] (okc (M_twophase_Decide_J11_W h196) ok0) <|
  .ask (M_slices_Clone_int r195.fShards) fun r197 h198 =>
  .say [.orderT (.q 0 (.q 1 (.q 2 (.q 3 (.q 4 (.q 5 (.q 6 (.l 7 (.q 8 (.l 9 (.l 10 (.q 11 .fin)))))))))))) (some 10) [1] [.res (.lf (.rows 1 (r197.map lfI)))] [2, 3, 4] 3 [(2, .ptr 1 0), (3, .ptr 2 0), (4, .lf (.int .i64 0))] [.box 27 (.dat (GDecision.lf1 r195)), .box 27 (.agg ((GDecision.lf1 r195).map AV.lf)), .box 60 (aggS Z60 [(0, .lf (.int .i64 12)), (73, .lf (.str r195.fID)), (74, .lf (.int .i64 r195.fCommit)), (76, .lf (.rows 1 (r197.map lfI)))])]] (okc (M_slices_Clone_int_ok _ _ h198) (okc (rfl : (some ⟨[(2, .ptr 1 0), (3, .ptr 2 0), (4, .lf (.int .i64 0))], [.box 27 (.dat (GDecision.lf1 r195)), .box 27 (.agg ((GDecision.lf1 r195).map AV.lf)), .box 60 (aggS Z60 [(0, .lf (.int .i64 12)), (73, .lf (.str r195.fID)), (74, .lf (.int .i64 r195.fCommit)), (76, .lf (.rows 1 (r197.map lfI)))])]⟩ : Option St) = some ⟨[(2, .ptr 1 0), (3, .ptr 2 0), (4, .lf (.int .i64 0))], [.box 27 (.dat (GDecision.lf1 r195)), .box 27 (.agg ((GDecision.lf1 r195).map AV.lf)), .box 60 (aggS Z60 [(0, .lf (.int .i64 12)), (73, .lf (.str r195.fID)), (74, .lf (.int .i64 r195.fCommit)), (76, .lf (.rows 1 (r197.map lfI)))])]⟩) ok0)) <|
  .ret fit0 (r195, GWrite.sShards (GWrite.sStamp (GWrite.sTxn (GWrite.sKind GWrite.z 12) r195.fID) r195.fCommit) r197, 0)
noncomputable def M_twophase_Decide (p_d : GDecision) : Option (GDecision × GWrite × Int) := Mo.den (M_twophase_Decide_T p_d)
set_option maxRecDepth 20000 in
set_option maxHeartbeats 4000000 in
theorem M_twophase_Decide_ok (p_d : GDecision) (r : GDecision × GWrite × Int) (h : M_twophase_Decide p_d = some r) : Fn Tryd.prog GI 9 [.dat (GDecision.lf1 p_d)] (.tup [.dat (GDecision.lf1 r.1), .dat (GWrite.lf1 r.2.1), .lf (.int .i64 r.2.2)]) :=
  fn_T BaseK Tryd.func9 (by kernel_rfl) (by kernel_rfl) (by kernel_rfl) (by kernel_rfl) (M_twophase_Decide_T p_d) (fun r => [.dat (GDecision.lf1 r.1), .dat (GWrite.lf1 r.2.1), .lf (.int .i64 r.2.2)]) (by kernel_rfl) h
set_option maxRecDepth 20000 in
set_option maxHeartbeats 4000000 in
noncomputable def M_twophase_Order_T (p_d : GDecision) (p_shard : Int) : Mo (GWrite × Int) :=
  .ask (M_slices_Contains_int p_d.fShards p_shard) fun r201 h202 =>
  .say [.res (.lf (.bool r201))] (okc (M_slices_Contains_int_ok _ _ _ h202) ok0) <|
  .ite (!r201) (fun c204 =>
    .say [.br true] (okc c204 ok0) <|
    .ret fit0 (GWrite.z, 1)) fun c204 =>
  .say [.br false] (okc c204 ok0) <|
  .ite (p_d.fState == 1) (fun c209 =>
    .say [.br true] (okc c209 ok0) <|
    .ret fit0 (GWrite.z, 23)) fun c209 =>
  .say [.br false] (okc c209 ok0) <|
  .ite (p_d.fState == 3) (fun c211 =>
    .say [.br true] (okc c211 ok0) <|
    .ret fit0 (GWrite.sStamp (GWrite.sTxn (GWrite.sKind GWrite.z 10) p_d.fID) p_d.fCommit, 0)) fun c211 =>
  .say [.br false] (okc c211 ok0) <|
  .ret fit0 (GWrite.sTxn (GWrite.sKind GWrite.z 11) p_d.fID, 0)
noncomputable def M_twophase_Order (p_d : GDecision) (p_shard : Int) : Option (GWrite × Int) := Mo.den (M_twophase_Order_T p_d p_shard)
set_option maxRecDepth 20000 in
set_option maxHeartbeats 4000000 in
theorem M_twophase_Order_ok (p_d : GDecision) (p_shard : Int) (r : GWrite × Int) (h : M_twophase_Order p_d p_shard = some r) : Fn Tryd.prog GI 11 [.dat (GDecision.lf1 p_d), .lf (.int .i64 p_shard)] (.tup [.dat (GWrite.lf1 r.1), .lf (.int .i64 r.2)]) :=
  fn_T BaseK Tryd.func11 (by kernel_rfl) (by kernel_rfl) (by kernel_rfl) (by kernel_rfl) (M_twophase_Order_T p_d p_shard) (fun r => [.dat (GWrite.lf1 r.1), .lf (.int .i64 r.2)]) (by kernel_rfl) h
set_option maxRecDepth 20000 in
set_option maxHeartbeats 4000000 in
noncomputable def M_twophase_Recover_J0_T (m249 : List (ByteArray × Int)) (p_l : List GEntry) (v248 : Int) : Mo (((List (ByteArray × Int)))) :=
  .ask (gidx p_l v248) fun x251 h252 =>
  .say [.row (GEntry.lf1 x251)] (okc (gidx_ok GEntry.lf_eq h252 : (0 : Int) ≤ v248 ∧ (p_l.map GEntry.lf)[v248.toNat]? = some (GEntry.lf1 x251)) ok0) <|
  .ite (x251.fWrite.fKind == 12) (fun c253 =>
    .say [.br true] (okc c253 (okc (rfl : Tryd.prog = Tryd.prog) ok0)) <|
    .grd (m249.length < maxLen) fun h254 =>
    .say [] (okc (by simpa using h254 : (m249.map (mvI .i64)).length < maxLen) ok0) <|
    .ret ⟨[], [0, 3, 13, 14, 15], [], 1⟩ ((x251.fWrite.fTxn, v248) :: m249)) fun c253 =>
  .say [.br false] (okc c253 ok0) <|
  .ret ⟨[], [0, 3, 13, 14, 15], [], 1⟩ (m249)
noncomputable def M_twophase_Recover_J0 (m249 : List (ByteArray × Int)) (p_l : List GEntry) (v248 : Int) : Option (((List (ByteArray × Int)))) := Mo.den (M_twophase_Recover_J0_T m249 p_l v248)
noncomputable def M_twophase_Recover_J0_X (r_ : ((List (ByteArray × Int)))) : Exit := .normal
noncomputable def M_twophase_Recover_J0_S (p_l : List GEntry) (v248 : Int) (r_ : ((List (ByteArray × Int)))) : St := ⟨[(0, .lf (.rows 82 (p_l.map GEntry.lf))), (3, .mp 0), (13, .lf (.rows 82 (p_l.map GEntry.lf))), (14, .lf (.int .i64 (p_l.length : Int))), (15, .lf (.int .i64 v248))], [.map Tryd.prog 9 3 (r_.map (mvI .i64))]⟩
set_option maxRecDepth 20000 in
set_option maxHeartbeats 4000000 in
theorem M_twophase_Recover_J0_W {m249 : List (ByteArray × Int)} {p_l : List GEntry} {v248 : Int} {r_ : ((List (ByteArray × Int)))} (h : M_twophase_Recover_J0 m249 p_l v248 = some r_) : AWa Tryd.prog GI TTc Tryd.f10.ntmps (Code.sub (bodyC Tryd.f10) [1, 1, 0, 1, 0, 0, 1, 1, 0]) (M_twophase_Recover_J0_X r_) (M_twophase_Recover_J0_S p_l v248 r_) ⟨[(0, .lf (.rows 82 (p_l.map GEntry.lf))), (3, .mp 0), (13, .lf (.rows 82 (p_l.map GEntry.lf))), (14, .lf (.int .i64 (p_l.length : Int))), (15, .lf (.int .i64 v248))], [.map Tryd.prog 9 3 (m249.map (mvI .i64))]⟩ :=
  part_T BaseK (M_twophase_Recover_J0_T m249 p_l v248) M_twophase_Recover_J0_X (M_twophase_Recover_J0_S p_l v248) (by kernel_rfl) h
set_option maxRecDepth 20000 in
set_option maxHeartbeats 4000000 in
noncomputable def M_twophase_Recover_L5_T (p_l : List GEntry) : (Int × (List (ByteArray × Int))) → Mo ((Int × (List (ByteArray × Int))) ⊕ ((List (ByteArray × Int)))) := fun (v248, m249) =>
  .ite (decide ((v248 : Int) < (p_l.length : Int))) (fun c250 =>
    .say [.br true] (okc c250 ok0) <|
    .ask (M_twophase_Recover_J0 m249 p_l v248) fun r256 h257 =>
    .say [.part [] 8 [0, 3, 13, 14, 15] 1 (M_twophase_Recover_J0_X r256) (M_twophase_Recover_J0_S p_l v248 r256).T (M_twophase_Recover_J0_S p_l v248 r256).H] (okc (M_twophase_Recover_J0_W h257) ok0) <|
    .ret ⟨[], [0, 3, 13, 14, 15], [], 1⟩ (.inl (IntKind.wrap .i64 (v248 + 1), r256))) fun c250 =>
  .say [.br false] (okc c250 ok0) <|
  .ret ⟨[], [0, 3], [], 1⟩ (.inr (m249))
noncomputable def M_twophase_Recover_L5 (p_l : List GEntry) (v248 : Int) (m249 : List (ByteArray × Int)) : Option (((List (ByteArray × Int)))) := loopM (fun v_ => (M_twophase_Recover_L5_T p_l v_).den) FU (v248, m249)
noncomputable def M_twophase_Recover_L5_H (p_l : List GEntry) : (Int × (List (ByteArray × Int))) → St := fun (v248, m249) => ⟨[(0, .lf (.rows 82 (p_l.map GEntry.lf))), (3, .mp 0), (13, .lf (.rows 82 (p_l.map GEntry.lf))), (14, .lf (.int .i64 (p_l.length : Int))), (15, .lf (.int .i64 v248))], [.map Tryd.prog 9 3 (m249.map (mvI .i64))]⟩
noncomputable def M_twophase_Recover_L5_X (r_ : ((List (ByteArray × Int)))) : Exit := .exit 0
noncomputable def M_twophase_Recover_L5_S (p_l : List GEntry) (r_ : ((List (ByteArray × Int)))) : St := ⟨[(0, .lf (.rows 82 (p_l.map GEntry.lf))), (3, .mp 0)], [.map Tryd.prog 9 3 (r_.map (mvI .i64))]⟩
set_option maxRecDepth 20000 in
set_option maxHeartbeats 4000000 in
theorem M_twophase_Recover_L5_W {p_l : List GEntry} {v248 : Int} {m249 : List (ByteArray × Int)} {r_ : ((List (ByteArray × Int)))} (h : M_twophase_Recover_L5 p_l v248 m249 = some r_) : AWa Tryd.prog GI TTc Tryd.f10.ntmps (Code.sub (bodyC Tryd.f10) [1, 1, 0, 1, 0]) (M_twophase_Recover_L5_X r_) (M_twophase_Recover_L5_S p_l r_) (M_twophase_Recover_L5_H p_l (v248, m249)) :=
  loop_T BaseK (body := (Code.sub (bodyC Tryd.f10) [1, 1, 0, 1, 0, 0])) (by kernel_rfl) (M_twophase_Recover_L5_T p_l) (M_twophase_Recover_L5_H p_l) M_twophase_Recover_L5_X (M_twophase_Recover_L5_S p_l) (fun r_ => rfl) (fun v_ => by kernel_rfl) h
set_option maxRecDepth 20000 in
set_option maxHeartbeats 4000000 in
noncomputable def M_twophase_Recover_J11_T (l468 : List GDecision) (p_l : List GEntry) (r259 : ((List (ByteArray × Int)))) (v467 : Int) (x470 : GEntry) : Mo ((Bool)) :=
  .ite (x470.fWrite.fKind != 12) (fun c472 =>
    .say [.gd 28003 true] (okc c472 ok0) <|
    .ret ⟨[], [3, 6, 9, 30, 31, 32, 49], [], 4⟩ (true)) fun c472 =>
  .say [.gd 28003 false, .row [.int .i64 (mget r259 x470.fWrite.fTxn 0)]] (okc c472 (okc (rfl : Tryd.prog = Tryd.prog) (okc (mget_I _ _ _ _ : mapGet (r259.map (mvI .i64)) x470.fWrite.fTxn (.int .i64 0) = (.int .i64 (mget r259 x470.fWrite.fTxn 0))) ok0))) <|
  .ret ⟨[], [3, 6, 9, 30, 31, 32, 49], [], 4⟩ ((mget r259 x470.fWrite.fTxn 0) != v467)
noncomputable def M_twophase_Recover_J11 (l468 : List GDecision) (p_l : List GEntry) (r259 : ((List (ByteArray × Int)))) (v467 : Int) (x470 : GEntry) : Option ((Bool)) := Mo.den (M_twophase_Recover_J11_T l468 p_l r259 v467 x470)
noncomputable def M_twophase_Recover_J11_X (r_ : (Bool)) : Exit := .normal
noncomputable def M_twophase_Recover_J11_S (l468 : List GDecision) (p_l : List GEntry) (r259 : ((List (ByteArray × Int)))) (v467 : Int) (x470 : GEntry) (r_ : (Bool)) : St := ⟨[(3, .mp 0), (6, .own 1), (9, .ptr 3 0), (30, .lf (.rows 82 (p_l.map GEntry.lf))), (31, .lf (.int .i64 (p_l.length : Int))), (32, .lf (.int .i64 v467)), (49, .lf (.bool r_))], [.map Tryd.prog 9 3 (r259.map (mvI .i64)), .row 27 6 (l468.map GDecision.lf), .dead, .box 60 (.agg ((GWrite.lf1 x470.fWrite).map AV.lf))]⟩
set_option maxRecDepth 20000 in
set_option maxHeartbeats 4000000 in
theorem M_twophase_Recover_J11_W {l468 : List GDecision} {p_l : List GEntry} {r259 : ((List (ByteArray × Int)))} {v467 : Int} {x470 : GEntry} {r_ : (Bool)} (h : M_twophase_Recover_J11 l468 p_l r259 v467 x470 = some r_) : AWa Tryd.prog GI TTc Tryd.f10.ntmps (Code.sub (bodyC Tryd.f10) [1, 1, 1, 1, 0, 1, 0, 0, 1, 1, 0, 0, 1, 1, 0, 0]) (M_twophase_Recover_J11_X r_) (M_twophase_Recover_J11_S l468 p_l r259 v467 x470 r_) ⟨[(3, .mp 0), (6, .own 1), (7, .lf (.int .i64 v467)), (9, .ptr 3 0), (30, .lf (.rows 82 (p_l.map GEntry.lf))), (31, .lf (.int .i64 (p_l.length : Int))), (32, .lf (.int .i64 v467))], [.map Tryd.prog 9 3 (r259.map (mvI .i64)), .row 27 6 (l468.map GDecision.lf), .dead, .box 60 (.agg ((GWrite.lf1 x470.fWrite).map AV.lf))]⟩ :=
  part_T BaseK (M_twophase_Recover_J11_T l468 p_l r259 v467 x470) M_twophase_Recover_J11_X (M_twophase_Recover_J11_S l468 p_l r259 v467 x470) (by kernel_rfl) h
set_option maxRecDepth 20000 in
set_option maxHeartbeats 4000000 in
noncomputable def M_twophase_Recover_J16_T (l468 : List GDecision) (p_l : List GEntry) (r259 : ((List (ByteArray × Int)))) (r477 : List Int) (v467 : Int) (x470 : GEntry) : Mo ((Int)) :=
  .ite (x470.fWrite.fStamp == 0) (fun c481 =>
    .say [.br true] (okc c481 ok0) <|
    .ret ⟨[], [3, 6, 11, 30, 31, 32], [], 7⟩ (4)) fun c481 =>
  .say [.br false] (okc c481 ok0) <|
  .ret ⟨[], [3, 6, 11, 30, 31, 32], [], 7⟩ (3)
noncomputable def M_twophase_Recover_J16 (l468 : List GDecision) (p_l : List GEntry) (r259 : ((List (ByteArray × Int)))) (r477 : List Int) (v467 : Int) (x470 : GEntry) : Option ((Int)) := Mo.den (M_twophase_Recover_J16_T l468 p_l r259 r477 v467 x470)
noncomputable def M_twophase_Recover_J16_X (r_ : (Int)) : Exit := .normal
noncomputable def M_twophase_Recover_J16_S (l468 : List GDecision) (p_l : List GEntry) (r259 : ((List (ByteArray × Int)))) (r477 : List Int) (v467 : Int) (x470 : GEntry) (r_ : (Int)) : St := ⟨[(3, .mp 0), (6, .own 1), (11, .ptr 4 0), (30, .lf (.rows 82 (p_l.map GEntry.lf))), (31, .lf (.int .i64 (p_l.length : Int))), (32, .lf (.int .i64 v467))], [.map Tryd.prog 9 3 (r259.map (mvI .i64)), .row 27 6 (l468.map GDecision.lf), .dead, .dead, .box 27 (.agg [.lf (.str x470.fWrite.fTxn), .lf (.rows 1 (r477.map lfI)), .own 5, .lf (.int .i64 r_), .lf (.int .i64 x470.fWrite.fStamp), .own 6]), .row 3 1 ((List.replicate (x470.fWrite.fShards.length : Int).toNat 0).map lfI), .row 4 1 ((List.replicate (x470.fWrite.fShards.length : Int).toNat false).map lfB)]⟩
set_option maxRecDepth 20000 in
set_option maxHeartbeats 4000000 in
theorem M_twophase_Recover_J16_W {l468 : List GDecision} {p_l : List GEntry} {r259 : ((List (ByteArray × Int)))} {r477 : List Int} {v467 : Int} {x470 : GEntry} {r_ : (Int)} (h : M_twophase_Recover_J16 l468 p_l r259 r477 v467 x470 = some r_) : AWa Tryd.prog GI TTc Tryd.f10.ntmps (Code.sub (bodyC Tryd.f10) [1, 1, 1, 1, 0, 1, 0, 0, 1, 1, 0, 0, 1, 1, 1, 1, 1, 1, 1, 0, 1]) (M_twophase_Recover_J16_X r_) (M_twophase_Recover_J16_S l468 p_l r259 r477 v467 x470 r_) ⟨[(3, .mp 0), (6, .own 1), (11, .ptr 4 0), (30, .lf (.rows 82 (p_l.map GEntry.lf))), (31, .lf (.int .i64 (p_l.length : Int))), (32, .lf (.int .i64 v467)), (69, .lf (.bool (x470.fWrite.fStamp == 0)))], [.map Tryd.prog 9 3 (r259.map (mvI .i64)), .row 27 6 (l468.map GDecision.lf), .dead, .dead, .box 27 (.agg [.lf (.str x470.fWrite.fTxn), .lf (.rows 1 (r477.map lfI)), .own 5, .lf (.int .i64 3), .lf (.int .i64 x470.fWrite.fStamp), .own 6]), .row 3 1 ((List.replicate (x470.fWrite.fShards.length : Int).toNat 0).map lfI), .row 4 1 ((List.replicate (x470.fWrite.fShards.length : Int).toNat false).map lfB)]⟩ :=
  part_T BaseK (M_twophase_Recover_J16_T l468 p_l r259 r477 v467 x470) M_twophase_Recover_J16_X (M_twophase_Recover_J16_S l468 p_l r259 r477 v467 x470) (by kernel_rfl) h
set_option maxRecDepth 20000 in
set_option maxHeartbeats 4000000 in
noncomputable def M_twophase_Recover_J21_T (l468 : List GDecision) (p_l : List GEntry) (r259 : ((List (ByteArray × Int)))) (v467 : Int) : Mo (((List GDecision))) :=
  .ask (gidx p_l v467) fun x470 h471 =>
  .say [.row (GEntry.lf1 x470)] (okc (gidx_ok GEntry.lf_eq h471 : (0 : Int) ≤ v467 ∧ (p_l.map GEntry.lf)[v467.toNat]? = some (GEntry.lf1 x470)) ok0) <|
  .ask (M_twophase_Recover_J11 l468 p_l r259 v467 x470) fun r474 h475 =>
  .say [.part [.kill 2] 33 [3, 6, 7, 9, 30, 31, 32] 4 (M_twophase_Recover_J11_X r474) (M_twophase_Recover_J11_S l468 p_l r259 v467 x470 r474).T (M_twophase_Recover_J11_S l468 p_l r259 v467 x470 r474).H] (okc (M_twophase_Recover_J11_W h475) ok0) <|
  .ite (r474) (fun c476 =>
    .say [.br true] (okc c476 ok0) <|
    .ret ⟨[], [3, 6, 30, 31, 32], [], 2⟩ (l468)) fun c476 =>
  .say [.br false, .num x470.fWrite.fShards.length] (okc c476 (okc (by simp : x470.fWrite.fShards.length = (x470.fWrite.fShards.map lfI).length) ok0)) <|
  .ask (M_slices_Clone_int x470.fWrite.fShards) fun r477 h478 =>
  .say [.orderT (.q 0 (.q 1 (.q 2 (.q 3 (.q 5 (.q 6 (.alt 4 (.q 7 (.l 8 (.l 9 .fin))) (.l 8 (.l 4 (.q 7 (.l 9 .fin))))))))))) (some 9) [4] [.both [.at_ 32 4, .resv 1, .res (.lf (.rows 1 (r477.map lfI))), .slot 4] [.at_ 32 8, .resv 1, .slot 4, .res (.lf (.rows 1 (r477.map lfI)))]] [3, 6, 9, 10, 11, 30, 31, 32] 5 [(3, .mp 0), (6, .own 1), (9, .ptr 3 0), (10, .lf (.int .i64 (x470.fWrite.fShards.length : Int))), (11, .ptr 4 0), (30, .lf (.rows 82 (p_l.map GEntry.lf))), (31, .lf (.int .i64 (p_l.length : Int))), (32, .lf (.int .i64 v467))] [.map Tryd.prog 9 3 (r259.map (mvI .i64)), .row 27 6 (l468.map GDecision.lf), .dead, .box 60 (.agg ((GWrite.lf1 x470.fWrite).map AV.lf)), .box 27 (.agg [.lf (.str x470.fWrite.fTxn), .lf (.rows 1 (r477.map lfI)), .nils 1, .lf (.int .i64 3), .lf (.int .i64 x470.fWrite.fStamp), .nils 1])], .rows ((List.replicate (x470.fWrite.fShards.length : Int).toNat 0).map lfI), .rows ((List.replicate (x470.fWrite.fShards.length : Int).toNat false).map lfB)] (okc (M_slices_Clone_int_ok _ _ h478) (okc (rfl : (some ⟨[(3, .mp 0), (6, .own 1), (9, .ptr 3 0), (10, .lf (.int .i64 (x470.fWrite.fShards.length : Int))), (11, .ptr 4 0), (30, .lf (.rows 82 (p_l.map GEntry.lf))), (31, .lf (.int .i64 (p_l.length : Int))), (32, .lf (.int .i64 v467))], [.map Tryd.prog 9 3 (r259.map (mvI .i64)), .row 27 6 (l468.map GDecision.lf), .dead, .box 60 (.agg ((GWrite.lf1 x470.fWrite).map AV.lf)), .box 27 (.agg [.lf (.str x470.fWrite.fTxn), .lf (.rows 1 (r477.map lfI)), .nils 1, .lf (.int .i64 3), .lf (.int .i64 x470.fWrite.fStamp), .nils 1])]⟩ : Option St) = some ⟨[(3, .mp 0), (6, .own 1), (9, .ptr 3 0), (10, .lf (.int .i64 (x470.fWrite.fShards.length : Int))), (11, .ptr 4 0), (30, .lf (.rows 82 (p_l.map GEntry.lf))), (31, .lf (.int .i64 (p_l.length : Int))), (32, .lf (.int .i64 v467))], [.map Tryd.prog 9 3 (r259.map (mvI .i64)), .row 27 6 (l468.map GDecision.lf), .dead, .box 60 (.agg ((GWrite.lf1 x470.fWrite).map AV.lf)), .box 27 (.agg [.lf (.str x470.fWrite.fTxn), .lf (.rows 1 (r477.map lfI)), .nils 1, .lf (.int .i64 3), .lf (.int .i64 x470.fWrite.fStamp), .nils 1])]⟩) (okc (M_slices_Clone_int_ok _ _ h478) (okc (rfl : (some ⟨[(3, .mp 0), (6, .own 1), (9, .ptr 3 0), (10, .lf (.int .i64 (x470.fWrite.fShards.length : Int))), (11, .ptr 4 0), (30, .lf (.rows 82 (p_l.map GEntry.lf))), (31, .lf (.int .i64 (p_l.length : Int))), (32, .lf (.int .i64 v467))], [.map Tryd.prog 9 3 (r259.map (mvI .i64)), .row 27 6 (l468.map GDecision.lf), .dead, .box 60 (.agg ((GWrite.lf1 x470.fWrite).map AV.lf)), .box 27 (.agg [.lf (.str x470.fWrite.fTxn), .lf (.rows 1 (r477.map lfI)), .nils 1, .lf (.int .i64 3), .lf (.int .i64 x470.fWrite.fStamp), .nils 1])]⟩ : Option St) = some ⟨[(3, .mp 0), (6, .own 1), (9, .ptr 3 0), (10, .lf (.int .i64 (x470.fWrite.fShards.length : Int))), (11, .ptr 4 0), (30, .lf (.rows 82 (p_l.map GEntry.lf))), (31, .lf (.int .i64 (p_l.length : Int))), (32, .lf (.int .i64 v467))], [.map Tryd.prog 9 3 (r259.map (mvI .i64)), .row 27 6 (l468.map GDecision.lf), .dead, .box 60 (.agg ((GWrite.lf1 x470.fWrite).map AV.lf)), .box 27 (.agg [.lf (.str x470.fWrite.fTxn), .lf (.rows 1 (r477.map lfI)), .nils 1, .lf (.int .i64 3), .lf (.int .i64 x470.fWrite.fStamp), .nils 1])]⟩) (okc (by simp [lfI, lfK] : (List.replicate (x470.fWrite.fShards.length : Int).toNat 0).map lfI = List.replicate (x470.fWrite.fShards.length : Int).toNat (lfI 0)) ok0))))) <|
  .grd ((0 : Int) ≤ (x470.fWrite.fShards.length : Int) ∧ 8 * (x470.fWrite.fShards.length : Int).toNat ≤ 281474976710656 ∧ (x470.fWrite.fShards.length : Int).toNat ≤ maxLen) fun h479 =>
  .say [] (okc (⟨rfl, h479⟩ : ((x470.fWrite.fShards.length : Int) : Int) = (x470.fWrite.fShards.length : Int) ∧ (0 : Int) ≤ (x470.fWrite.fShards.length : Int) ∧ 8 * (x470.fWrite.fShards.length : Int).toNat ≤ 281474976710656 ∧ (x470.fWrite.fShards.length : Int).toNat ≤ maxLen) (okc (by simp [lfB] : (List.replicate (x470.fWrite.fShards.length : Int).toNat false).map lfB = List.replicate (x470.fWrite.fShards.length : Int).toNat (lfB false)) ok0)) <|
  .grd ((0 : Int) ≤ (x470.fWrite.fShards.length : Int) ∧ 1 * (x470.fWrite.fShards.length : Int).toNat ≤ 281474976710656 ∧ (x470.fWrite.fShards.length : Int).toNat ≤ maxLen) fun h480 =>
  .say [] (okc (⟨rfl, h480⟩ : ((x470.fWrite.fShards.length : Int) : Int) = (x470.fWrite.fShards.length : Int) ∧ (0 : Int) ≤ (x470.fWrite.fShards.length : Int) ∧ 1 * (x470.fWrite.fShards.length : Int).toNat ≤ 281474976710656 ∧ (x470.fWrite.fShards.length : Int).toNat ≤ maxLen) ok0) <|
  .ask (M_twophase_Recover_J16 l468 p_l r259 r477 v467 x470) fun r483 h484 =>
  .say [.part [.kill 3] 1 [3, 6, 11, 30, 31, 32, 69] 7 (M_twophase_Recover_J16_X r483) (M_twophase_Recover_J16_S l468 p_l r259 r477 v467 x470 r483).T (M_twophase_Recover_J16_S l468 p_l r259 r477 v467 x470 r483).H, .at_ 42 2, .frz 5, .frz 6, .rows ((l468 ++ [GDecision.mk x470.fWrite.fTxn r477 (List.replicate (x470.fWrite.fShards.length : Int).toNat 0) r483 x470.fWrite.fStamp (List.replicate (x470.fWrite.fShards.length : Int).toNat false)]).map GDecision.lf)] (okc (M_twophase_Recover_J16_W h484) (okc (fun _ h => h : ∀ g : Nat, ¬ (fun _ : Nat => False) g) (okc (fun _ h => h : ∀ g : Nat, ¬ (fun _ : Nat => False) g) (okc (by simp [GDecision.lf_eq] : (l468 ++ [GDecision.mk x470.fWrite.fTxn r477 (List.replicate (x470.fWrite.fShards.length : Int).toNat 0) r483 x470.fWrite.fStamp (List.replicate (x470.fWrite.fShards.length : Int).toNat false)]).map GDecision.lf = (l468.map GDecision.lf) ++ [(GDecision.lf1 (GDecision.mk x470.fWrite.fTxn r477 (List.replicate (x470.fWrite.fShards.length : Int).toNat 0) r483 x470.fWrite.fStamp (List.replicate (x470.fWrite.fShards.length : Int).toNat false)))]) ok0)))) <|
  .grd ((l468.length + [GDecision.mk x470.fWrite.fTxn r477 (List.replicate (x470.fWrite.fShards.length : Int).toNat 0) r483 x470.fWrite.fStamp (List.replicate (x470.fWrite.fShards.length : Int).toNat false)].length) * 104 ≤ 140737488355328) fun h485 =>
  .say [] (okc (by simpa using h485 : ((l468.map GDecision.lf).length + [(GDecision.lf1 (GDecision.mk x470.fWrite.fTxn r477 (List.replicate (x470.fWrite.fShards.length : Int).toNat 0) r483 x470.fWrite.fStamp (List.replicate (x470.fWrite.fShards.length : Int).toNat false)))].length) * 104 ≤ 140737488355328) ok0) <|
  .ret ⟨[], [3, 6, 30, 31, 32], [(8, 1)], 2⟩ (l468 ++ [GDecision.mk x470.fWrite.fTxn r477 (List.replicate (x470.fWrite.fShards.length : Int).toNat 0) r483 x470.fWrite.fStamp (List.replicate (x470.fWrite.fShards.length : Int).toNat false)])
noncomputable def M_twophase_Recover_J21 (l468 : List GDecision) (p_l : List GEntry) (r259 : ((List (ByteArray × Int)))) (v467 : Int) : Option (((List GDecision))) := Mo.den (M_twophase_Recover_J21_T l468 p_l r259 v467)
noncomputable def M_twophase_Recover_J21_X (r_ : ((List GDecision))) : Exit := .normal
noncomputable def M_twophase_Recover_J21_S (p_l : List GEntry) (r259 : ((List (ByteArray × Int)))) (v467 : Int) (r_ : ((List GDecision))) : St := ⟨[(3, .mp 0), (6, .own 1), (30, .lf (.rows 82 (p_l.map GEntry.lf))), (31, .lf (.int .i64 (p_l.length : Int))), (32, .lf (.int .i64 v467))], [.map Tryd.prog 9 3 (r259.map (mvI .i64)), .row 27 6 (r_.map GDecision.lf)]⟩
set_option maxRecDepth 20000 in
set_option maxHeartbeats 4000000 in
theorem M_twophase_Recover_J21_W {l468 : List GDecision} {p_l : List GEntry} {r259 : ((List (ByteArray × Int)))} {v467 : Int} {r_ : ((List GDecision))} (h : M_twophase_Recover_J21 l468 p_l r259 v467 = some r_) : AWa Tryd.prog GI TTc Tryd.f10.ntmps (Code.sub (bodyC Tryd.f10) [1, 1, 1, 1, 0, 1, 0, 0, 1, 1, 0]) (M_twophase_Recover_J21_X r_) (M_twophase_Recover_J21_S p_l r259 v467 r_) ⟨[(3, .mp 0), (6, .own 1), (30, .lf (.rows 82 (p_l.map GEntry.lf))), (31, .lf (.int .i64 (p_l.length : Int))), (32, .lf (.int .i64 v467))], [.map Tryd.prog 9 3 (r259.map (mvI .i64)), .row 27 6 (l468.map GDecision.lf)]⟩ :=
  part_T BaseK (M_twophase_Recover_J21_T l468 p_l r259 v467) M_twophase_Recover_J21_X (M_twophase_Recover_J21_S p_l r259 v467) (by kernel_rfl) h
set_option maxRecDepth 20000 in
set_option maxHeartbeats 4000000 in
noncomputable def M_twophase_Recover_L26_T (p_l : List GEntry) (r259 : ((List (ByteArray × Int)))) : (Int × (List GDecision)) → Mo ((Int × (List GDecision)) ⊕ ((List GDecision))) := fun (v467, l468) =>
  .ite (decide ((v467 : Int) < (p_l.length : Int))) (fun c469 =>
    .say [.br true] (okc c469 ok0) <|
    .ask (M_twophase_Recover_J21 l468 p_l r259 v467) fun r487 h488 =>
    .say [.part [] 12 [3, 6, 30, 31, 32] 2 (M_twophase_Recover_J21_X r487) (M_twophase_Recover_J21_S p_l r259 v467 r487).T (M_twophase_Recover_J21_S p_l r259 v467 r487).H] (okc (M_twophase_Recover_J21_W h488) ok0) <|
    .ret ⟨[], [3, 6, 30, 31, 32], [], 2⟩ (.inl (IntKind.wrap .i64 (v467 + 1), r487))) fun c469 =>
  .say [.br false] (okc c469 ok0) <|
  .ret ⟨[.kill 0], [6], [], 2⟩ (.inr (l468))
noncomputable def M_twophase_Recover_L26 (p_l : List GEntry) (r259 : ((List (ByteArray × Int)))) (v467 : Int) (l468 : List GDecision) : Option (((List GDecision))) := loopM (fun v_ => (M_twophase_Recover_L26_T p_l r259 v_).den) FU (v467, l468)
noncomputable def M_twophase_Recover_L26_H (p_l : List GEntry) (r259 : ((List (ByteArray × Int)))) : (Int × (List GDecision)) → St := fun (v467, l468) => ⟨[(3, .mp 0), (6, .own 1), (30, .lf (.rows 82 (p_l.map GEntry.lf))), (31, .lf (.int .i64 (p_l.length : Int))), (32, .lf (.int .i64 v467))], [.map Tryd.prog 9 3 (r259.map (mvI .i64)), .row 27 6 (l468.map GDecision.lf)]⟩
noncomputable def M_twophase_Recover_L26_X (r_ : ((List GDecision))) : Exit := .exit 2
noncomputable def M_twophase_Recover_L26_S  (r_ : ((List GDecision))) : St := ⟨[(6, .own 1)], [.dead, .row 27 6 (r_.map GDecision.lf)]⟩
set_option maxRecDepth 20000 in
set_option maxHeartbeats 4000000 in
theorem M_twophase_Recover_L26_W {p_l : List GEntry} {r259 : ((List (ByteArray × Int)))} {v467 : Int} {l468 : List GDecision} {r_ : ((List GDecision))} (h : M_twophase_Recover_L26 p_l r259 v467 l468 = some r_) : AWa Tryd.prog GI TTc Tryd.f10.ntmps (Code.sub (bodyC Tryd.f10) [1, 1, 1, 1, 0, 1, 0]) (M_twophase_Recover_L26_X r_) (M_twophase_Recover_L26_S r_) (M_twophase_Recover_L26_H p_l r259 (v467, l468)) :=
  loop_T BaseK (body := (Code.sub (bodyC Tryd.f10) [1, 1, 1, 1, 0, 1, 0, 0])) (by kernel_rfl) (M_twophase_Recover_L26_T p_l r259) (M_twophase_Recover_L26_H p_l r259) M_twophase_Recover_L26_X M_twophase_Recover_L26_S (fun r_ => rfl) (fun v_ => by kernel_rfl) h
set_option maxRecDepth 20000 in
set_option maxHeartbeats 4000000 in
noncomputable def M_twophase_Recover_T (p_l : List GEntry) : Mo (List GDecision) :=
  .say [.num p_l.length] (okc (by simp : p_l.length = (p_l.map GEntry.lf).length) ok0) <|
  .ask (M_twophase_Recover_L5 p_l 0 ([] : List (ByteArray × Int))) fun r259 h260 =>
  .say [.part [] 0 [0, 3, 13, 14, 15] 1 (M_twophase_Recover_L5_X r259) (M_twophase_Recover_L5_S p_l r259).T (M_twophase_Recover_L5_S p_l r259).H, .num p_l.length] (okc (M_twophase_Recover_L5_W h260) (okc (by simp : p_l.length = (p_l.map GEntry.lf).length) (okc (by simp [GDecision.lf_eq] : (([] : List GDecision).map GDecision.lf) = []) ok0))) <|
  .ask (M_twophase_Recover_L26 p_l r259 0 ([] : List GDecision)) fun r491 h492 =>
  .say [.part [.nrow 6 27 6, .rerow 1 (([] : List GDecision).map GDecision.lf)] 0 [3, 6, 30, 31, 32] 2 (M_twophase_Recover_L26_X r491) (M_twophase_Recover_L26_S r491).T (M_twophase_Recover_L26_S r491).H, .at_ 0 0, .frz 1] (okc (M_twophase_Recover_L26_W h492) (okc (fun _ h => h : ∀ g : Nat, ¬ (fun _ : Nat => False) g) ok0)) <|
  .ret fit0 (r491)
noncomputable def M_twophase_Recover (p_l : List GEntry) : Option (List GDecision) := Mo.den (M_twophase_Recover_T p_l)
set_option maxRecDepth 20000 in
set_option maxHeartbeats 4000000 in
theorem M_twophase_Recover_ok (p_l : List GEntry) (r : List GDecision) (h : M_twophase_Recover p_l = some r) : Fn Tryd.prog GI 10 [.lf (.rows 82 (p_l.map GEntry.lf))] (.lf (.rows 6 (r.map GDecision.lf))) :=
  fn_T BaseK Tryd.func10 (by kernel_rfl) (by kernel_rfl) (by kernel_rfl) (by kernel_rfl) (M_twophase_Recover_T p_l) (fun r => [.lf (.rows 6 (r.map GDecision.lf))]) (by kernel_rfl) h
set_option maxRecDepth 20000 in
set_option maxHeartbeats 4000000 in
noncomputable def M_slices_Index_bool_L0_T (p_s : List Bool) (p_v : Bool) : (Int) → Mo ((Int) ⊕ (Int) ⊕ Unit) := fun (v518) =>
  .ite (decide ((v518 : Int) < (p_s.length : Int))) (fun c519 =>
    .say [.br true] (okc c519 ok0) <|
    .ask (gidx p_s v518) fun x520 h521 =>
    .say [.row (lfB x520)] (okc (gidx_ok (fun _ => rfl) h521 : (0 : Int) ≤ v518 ∧ (p_s.map lfB)[v518.toNat]? = some (lfB x520)) ok0) <|
    .ite (p_v == x520) (fun c522 =>
      .say [.br true] (okc c522 ok0) <|
      .ret ⟨[], [4], [], 0⟩ (.inr (.inl (v518)))) fun c522 =>
    .say [.br false] (okc c522 ok0) <|
    .ret ⟨[], [0, 1, 7, 8], [], 0⟩ (.inl (IntKind.wrap .i64 (v518 + 1)))) fun c519 =>
  .say [.br false] (okc c519 ok0) <|
  .ret ⟨[], [], [], 0⟩ (.inr (.inr (())))
noncomputable def M_slices_Index_bool_L0 (p_s : List Bool) (p_v : Bool) (v518 : Int) : Option ((Int) ⊕ Unit) := loopM (fun v_ => (M_slices_Index_bool_L0_T p_s p_v v_).den) FU (v518)
noncomputable def M_slices_Index_bool_L0_H (p_s : List Bool) (p_v : Bool) : (Int) → St := fun (v518) => ⟨[(0, .lf (.rows 1 (p_s.map lfB))), (1, .lf (.bool p_v)), (7, .lf (.int .i64 (p_s.length : Int))), (8, .lf (.int .i64 v518))], []⟩
noncomputable def M_slices_Index_bool_L0_X (r_ : (Int) ⊕ Unit) : Exit := match r_ with
  | .inl o_ => .ret
  | .inr (o_) => .exit 0
noncomputable def M_slices_Index_bool_L0_S  (r_ : (Int) ⊕ Unit) : St := match r_ with
  | .inl o_ => ⟨[(4, .lf (.int .i64 o_))], []⟩
  | .inr (o_) => ⟨[], []⟩
set_option maxRecDepth 20000 in
set_option maxHeartbeats 4000000 in
theorem M_slices_Index_bool_L0_W {p_s : List Bool} {p_v : Bool} {v518 : Int} {r_ : (Int) ⊕ Unit} (h : M_slices_Index_bool_L0 p_s p_v v518 = some r_) : AWa Tryd.prog GI TTc Tryd.f37.ntmps (Code.sub (bodyC Tryd.f37) [1, 0, 1, 0]) (M_slices_Index_bool_L0_X r_) (M_slices_Index_bool_L0_S r_) (M_slices_Index_bool_L0_H p_s p_v (v518)) :=
  loop_T BaseK (body := (Code.sub (bodyC Tryd.f37) [1, 0, 1, 0, 0])) (by kernel_rfl) (M_slices_Index_bool_L0_T p_s p_v) (M_slices_Index_bool_L0_H p_s p_v) M_slices_Index_bool_L0_X M_slices_Index_bool_L0_S (fun r_ => by rcases r_ with _ | _ <;> rfl) (fun v_ => by kernel_rfl) h
set_option maxRecDepth 20000 in
set_option maxHeartbeats 4000000 in
noncomputable def M_slices_Index_bool_T (p_s : List Bool) (p_v : Bool) : Mo (Int) :=
  .say [.num p_s.length] (okc (by simp : p_s.length = (p_s.map lfB).length) ok0) <|
  .ask2 (M_slices_Index_bool_L0 p_s p_v 0) (fun o526 h525 =>
    .say [.part [] 0 [0, 1, 7, 8] 0 (M_slices_Index_bool_L0_X (.inl o526)) (M_slices_Index_bool_L0_S (.inl o526)).T (M_slices_Index_bool_L0_S (.inl o526)).H] (okc (M_slices_Index_bool_L0_W h525) ok0) <|
    .ret fit0 (o526)) fun o527 h525 =>
  .say [.part [] 0 [0, 1, 7, 8] 0 (M_slices_Index_bool_L0_X (.inr (o527))) (M_slices_Index_bool_L0_S (.inr (o527))).T (M_slices_Index_bool_L0_S (.inr (o527))).H] (okc (M_slices_Index_bool_L0_W h525) ok0) <|
  .ret fit0 ((-1))
noncomputable def M_slices_Index_bool (p_s : List Bool) (p_v : Bool) : Option (Int) := Mo.den (M_slices_Index_bool_T p_s p_v)
set_option maxRecDepth 20000 in
set_option maxHeartbeats 4000000 in
theorem M_slices_Index_bool_ok (p_s : List Bool) (p_v : Bool) (r : Int) (h : M_slices_Index_bool p_s p_v = some r) : Fn Tryd.prog GI 37 [.lf (.rows 1 (p_s.map lfB)), .lf (.bool p_v)] (.lf (.int .i64 r)) :=
  fn_T BaseK Tryd.func37 (by kernel_rfl) (by kernel_rfl) (by kernel_rfl) (by kernel_rfl) (M_slices_Index_bool_T p_s p_v) (fun r => [.lf (.int .i64 r)]) (by kernel_rfl) h
set_option maxRecDepth 20000 in
set_option maxHeartbeats 4000000 in
noncomputable def M_slices_Contains_bool_T (p_s : List Bool) (p_v : Bool) : Mo (Bool) :=
  .ask (M_slices_Index_bool p_s p_v) fun r528 h529 =>
  .say [.res (.lf (.int .i64 r528))] (okc (M_slices_Index_bool_ok _ _ _ h529) ok0) <|
  .ret fit0 (decide ((0 : Int) ≤ r528))
noncomputable def M_slices_Contains_bool (p_s : List Bool) (p_v : Bool) : Option (Bool) := Mo.den (M_slices_Contains_bool_T p_s p_v)
set_option maxRecDepth 20000 in
set_option maxHeartbeats 4000000 in
theorem M_slices_Contains_bool_ok (p_s : List Bool) (p_v : Bool) (r : Bool) (h : M_slices_Contains_bool p_s p_v = some r) : Fn Tryd.prog GI 32 [.lf (.rows 1 (p_s.map lfB)), .lf (.bool p_v)] (.lf (.bool r)) :=
  fn_T BaseK Tryd.func32 (by kernel_rfl) (by kernel_rfl) (by kernel_rfl) (by kernel_rfl) (M_slices_Contains_bool_T p_s p_v) (fun r => [.lf (.bool r)]) (by kernel_rfl) h
set_option maxRecDepth 20000 in
set_option maxHeartbeats 4000000 in
noncomputable def M_twophase_Over_T (p_d : GDecision) : Mo (Bool) :=
  .ite (p_d.fState != 1) (fun c530 =>
    .say [.gd 4003 true] (okc c530 ok0) <|
    .ask (M_slices_Contains_bool p_d.fAcked false) fun r531 h532 =>
    .say [.res (.lf (.bool r531))] (okc (M_slices_Contains_bool_ok _ _ _ h532) ok0) <|
    .ret fit0 (!r531)) fun c530 =>
  .say [.gd 4003 false] (okc c530 ok0) <|
  .ret fit0 (false)
noncomputable def M_twophase_Over (p_d : GDecision) : Option (Bool) := Mo.den (M_twophase_Over_T p_d)
set_option maxRecDepth 20000 in
set_option maxHeartbeats 4000000 in
theorem M_twophase_Over_ok (p_d : GDecision) (r : Bool) (h : M_twophase_Over p_d = some r) : Fn Tryd.prog GI 17 [.dat (GDecision.lf1 p_d)] (.lf (.bool r)) :=
  fn_T BaseK Tryd.func17 (by kernel_rfl) (by kernel_rfl) (by kernel_rfl) (by kernel_rfl) (M_twophase_Over_T p_d) (fun r => [.lf (.bool r)]) (by kernel_rfl) h
set_option maxRecDepth 20000 in
set_option maxHeartbeats 4000000 in
noncomputable def M_docstorelaw54_awake_T  : Mo (Bool) :=
  .say [.at_ 4 1, .frzr 0 ([0, 2].map lfI)] (okc (fun _ h => h : ∀ g : Nat, ¬ (fun _ : Nat => False) g) (okc (by simp [lfI, lfK] : [0, 2].map lfI = [(lfI 0), (lfI 2)]) ok0)) <|
  .ask (M_twophase_Start ⟨#[116]⟩ [0, 2]) fun r535 h536 =>
  .say [.res (.tup [.dat (GDecision.lf1 r535.1), .lf (.int .i64 r535.2)]), .at_ 6 1, .frzr 2 ([1, 0].map lfI)] (okc (M_twophase_Start_ok _ _ _ h536) (okc (fun _ h => h : ∀ g : Nat, ¬ (fun _ : Nat => False) g) (okc (by simp [lfI, lfK] : [1, 0].map lfI = [(lfI 1), (lfI 0)]) ok0))) <|
  .ask (M_twophase_Start ⟨#[116]⟩ [1, 0]) fun r539 h540 =>
  .say [.res (.tup [.dat (GDecision.lf1 r539.1), .lf (.int .i64 r539.2)])] (okc (M_twophase_Start_ok _ _ _ h540) ok0) <|
  .ask (M_twophase_Vote r535.1 0 5) fun r543 h544 =>
  .say [.res (.tup [.dat (GDecision.lf1 r543.1), .lf (.int .i64 r543.2)])] (okc (M_twophase_Vote_ok _ _ _ _ h544) ok0) <|
  .ask (M_twophase_Vote r543.1 2 7) fun r547 h548 =>
  .say [.res (.tup [.dat (GDecision.lf1 r547.1), .lf (.int .i64 r547.2)])] (okc (M_twophase_Vote_ok _ _ _ _ h548) ok0) <|
  .ask (M_twophase_Decide r547.1) fun r551 h552 =>
  .say [.res (.tup [.dat (GDecision.lf1 r551.1), .dat (GWrite.lf1 r551.2.1), .lf (.int .i64 r551.2.2)])] (okc (M_twophase_Decide_ok _ _ h552) ok0) <|
  .ask (M_twophase_Order r551.1 0) fun r555 h556 =>
  .say [.res (.tup [.dat (GWrite.lf1 r555.1), .lf (.int .i64 r555.2)]), .at_ 16 3, .frzr 6 ([GEntry.mk 1 8 ⟨#[]⟩ 0 r551.2.1].map GEntry.lf)] (okc (M_twophase_Order_ok _ _ _ h556) (okc (fun _ h => h : ∀ g : Nat, ¬ (fun _ : Nat => False) g) (okc (by simp [GEntry.lf_eq] : [GEntry.mk 1 8 ⟨#[]⟩ 0 r551.2.1].map GEntry.lf = [(GEntry.lf1 (GEntry.mk 1 8 ⟨#[]⟩ 0 r551.2.1))]) ok0))) <|
  .ask (M_twophase_Recover [GEntry.mk 1 8 ⟨#[]⟩ 0 r551.2.1]) fun r559 h560 =>
  .say [.res (.lf (.rows 6 (r559.map GDecision.lf)))] (okc (M_twophase_Recover_ok _ _ h560) ok0) <|
  .ite (r535.2 == 0) (fun c561 =>
    .say [.gd 18002 true] (okc c561 ok0) <|
    .ite (r539.2 == 1) (fun c562 =>
      .say [.gd 18006 true] (okc c562 ok0) <|
      .ite (r543.2 == 0) (fun c563 =>
        .say [.gd 18010 true] (okc c563 ok0) <|
        .ite (r547.2 == 0) (fun c564 =>
          .say [.gd 18014 true] (okc c564 ok0) <|
          .ite (r551.2.2 == 0) (fun c565 =>
            .say [.gd 18018 true] (okc c565 ok0) <|
            .ite (r555.2 == 0) (fun c566 =>
              .say [.gd 18022 true] (okc c566 ok0) <|
              .ite (r551.1.fState == 3) (fun c567 =>
                .say [.gd 18027 true] (okc c567 ok0) <|
                .ite (r551.1.fCommit == 7) (fun c568 =>
                  .say [.gd 18032 true] (okc c568 ok0) <|
                  .ite (r551.2.1.fKind == 12) (fun c569 =>
                    .say [.gd 18037 true] (okc c569 ok0) <|
                    .ite (r551.2.1.fStamp == 7) (fun c570 =>
                      .say [.gd 18042 true] (okc c570 ok0) <|
                      .ite (r555.1.fKind == 10) (fun c571 =>
                        .say [.gd 18047 true] (okc c571 ok0) <|
                        .ite (r555.1.fStamp == 7) (fun c572 =>
                          .say [.gd 18052 true, .num r559.length] (okc c572 (okc (by simp : r559.length = (r559.map GDecision.lf).length) ok0)) <|
                          .ite ((r559.length : Int) == 1) (fun c573 =>
                            .say [.gd 18057 true] (okc c573 ok0) <|
                            .ask (gidx r559 0) fun x574 h575 =>
                            .say [.row (GDecision.lf1 x574)] (okc (gidx_ok GDecision.lf_eq h575 : (0 : Int) ≤ 0 ∧ (r559.map GDecision.lf)[(0 : Int).toNat]? = some (GDecision.lf1 x574)) ok0) <|
                            .ite (x574.fCommit == 7) (fun c576 =>
                              .say [.gd 18064 true] (okc c576 ok0) <|
                              .ask (M_twophase_Over r551.1) fun r577 h578 =>
                              .say [.res (.lf (.bool r577))] (okc (M_twophase_Over_ok _ _ h578) ok0) <|
                              .ret fit0 (!r577)) fun c576 =>
                            .say [.gd 18064 false] (okc c576 ok0) <|
                            .ret fit0 (false)) fun c573 =>
                          .say [.gd 18057 false] (okc c573 ok0) <|
                          .ret fit0 (false)) fun c572 =>
                        .say [.gd 18052 false] (okc c572 ok0) <|
                        .ret fit0 (false)) fun c571 =>
                      .say [.gd 18047 false] (okc c571 ok0) <|
                      .ret fit0 (false)) fun c570 =>
                    .say [.gd 18042 false] (okc c570 ok0) <|
                    .ret fit0 (false)) fun c569 =>
                  .say [.gd 18037 false] (okc c569 ok0) <|
                  .ret fit0 (false)) fun c568 =>
                .say [.gd 18032 false] (okc c568 ok0) <|
                .ret fit0 (false)) fun c567 =>
              .say [.gd 18027 false] (okc c567 ok0) <|
              .ret fit0 (false)) fun c566 =>
            .say [.gd 18022 false] (okc c566 ok0) <|
            .ret fit0 (false)) fun c565 =>
          .say [.gd 18018 false] (okc c565 ok0) <|
          .ret fit0 (false)) fun c564 =>
        .say [.gd 18014 false] (okc c564 ok0) <|
        .ret fit0 (false)) fun c563 =>
      .say [.gd 18010 false] (okc c563 ok0) <|
      .ret fit0 (false)) fun c562 =>
    .say [.gd 18006 false] (okc c562 ok0) <|
    .ret fit0 (false)) fun c561 =>
  .say [.gd 18002 false] (okc c561 ok0) <|
  .ret fit0 (false)
noncomputable def M_docstorelaw54_awake  : Option (Bool) := Mo.den (M_docstorelaw54_awake_T )
set_option maxRecDepth 20000 in
set_option maxHeartbeats 4000000 in
theorem M_docstorelaw54_awake_ok  (r : Bool) (h : M_docstorelaw54_awake  = some r) : Fn Tryd.prog GI 6 [] (.lf (.bool r)) :=
  fn_T BaseK Tryd.func6 (by kernel_rfl) (by kernel_rfl) (by kernel_rfl) (by kernel_rfl) (M_docstorelaw54_awake_T ) (fun r => [.lf (.bool r)]) (by kernel_rfl) h
set_option maxRecDepth 20000 in
set_option maxHeartbeats 4000000 in
noncomputable def M_docstorelaw54_TwophaseOver_J0_T (p_acks : List Int) (p_id : ByteArray) (p_shards : List Int) : Mo ((Bool)) :=
  .say [.num p_shards.length] (okc (by simp : p_shards.length = (p_shards.map lfI).length) ok0) <|
  .ite (decide ((20 : Int) < (p_shards.length : Int))) (fun c580 =>
    .say [.gd 4003 true] (okc c580 ok0) <|
    .ret ⟨[], [0, 1, 2, 26], [], 0⟩ (true)) fun c580 =>
  .say [.gd 4003 false, .num p_acks.length] (okc c580 (okc (by simp : p_acks.length = (p_acks.map lfI).length) ok0)) <|
  .ret ⟨[], [0, 1, 2, 26], [], 0⟩ (decide ((60 : Int) < (p_acks.length : Int)))
noncomputable def M_docstorelaw54_TwophaseOver_J0 (p_acks : List Int) (p_id : ByteArray) (p_shards : List Int) : Option ((Bool)) := Mo.den (M_docstorelaw54_TwophaseOver_J0_T p_acks p_id p_shards)
noncomputable def M_docstorelaw54_TwophaseOver_J0_X (r_ : (Bool)) : Exit := .normal
noncomputable def M_docstorelaw54_TwophaseOver_J0_S (p_acks : List Int) (p_id : ByteArray) (p_shards : List Int) (r_ : (Bool)) : St := ⟨[(0, .lf (.str p_id)), (1, .lf (.rows 1 (p_shards.map lfI))), (2, .lf (.rows 1 (p_acks.map lfI))), (26, .lf (.bool r_))], []⟩
set_option maxRecDepth 20000 in
set_option maxHeartbeats 4000000 in
theorem M_docstorelaw54_TwophaseOver_J0_W {p_acks : List Int} {p_id : ByteArray} {p_shards : List Int} {r_ : (Bool)} (h : M_docstorelaw54_TwophaseOver_J0 p_acks p_id p_shards = some r_) : AWa Tryd.prog GI TTc Tryd.f5.ntmps (Code.sub (bodyC Tryd.f5) [1, 0, 0]) (M_docstorelaw54_TwophaseOver_J0_X r_) (M_docstorelaw54_TwophaseOver_J0_S p_acks p_id p_shards r_) ⟨[(0, .lf (.str p_id)), (1, .lf (.rows 1 (p_shards.map lfI))), (2, .lf (.rows 1 (p_acks.map lfI)))], []⟩ :=
  part_T BaseK (M_docstorelaw54_TwophaseOver_J0_T p_acks p_id p_shards) M_docstorelaw54_TwophaseOver_J0_X (M_docstorelaw54_TwophaseOver_J0_S p_acks p_id p_shards) (by kernel_rfl) h
set_option maxRecDepth 20000 in
set_option maxHeartbeats 4000000 in
noncomputable def M_docstorelaw54_TwophaseOver_J5_T (r594 : GDecision × Int) : Mo ((Bool)) :=
  .ite (decide ((r594.1.fID : ByteArray) = (⟨#[]⟩ : ByteArray))) (fun c604 =>
    .say [.gd 12003 true] (okc c604 ok0) <|
    .ask (M_docstorelaw54_awake) fun r605 h606 =>
    .say [.res (.lf (.bool r605))] (okc (M_docstorelaw54_awake_ok  _ h606) ok0) <|
    .ret ⟨[.kill 0], [6], [], 1⟩ (r605)) fun c604 =>
  .say [.gd 12003 false] (okc c604 ok0) <|
  .ret ⟨[.kill 0], [6], [], 1⟩ (false)
noncomputable def M_docstorelaw54_TwophaseOver_J5 (r594 : GDecision × Int) : Option ((Bool)) := Mo.den (M_docstorelaw54_TwophaseOver_J5_T r594)
noncomputable def M_docstorelaw54_TwophaseOver_J5_X (r_ : (Bool)) : Exit := .normal
noncomputable def M_docstorelaw54_TwophaseOver_J5_S  (r_ : (Bool)) : St := ⟨[(6, .lf (.bool r_))], [.dead]⟩
set_option maxRecDepth 20000 in
set_option maxHeartbeats 4000000 in
theorem M_docstorelaw54_TwophaseOver_J5_W {r594 : GDecision × Int} {r_ : (Bool)} (h : M_docstorelaw54_TwophaseOver_J5 r594 = some r_) : AWa Tryd.prog GI TTc Tryd.f5.ntmps (Code.sub (bodyC Tryd.f5) [1, 1, 1, 0, 1, 0, 0]) (M_docstorelaw54_TwophaseOver_J5_X r_) (M_docstorelaw54_TwophaseOver_J5_S r_) ⟨[(7, .ptr 0 0)], [.box 27 (.agg ((GDecision.lf1 r594.1).map AV.lf))]⟩ :=
  part_T BaseK (M_docstorelaw54_TwophaseOver_J5_T r594) M_docstorelaw54_TwophaseOver_J5_X M_docstorelaw54_TwophaseOver_J5_S (by kernel_rfl) h
set_option maxRecDepth 20000 in
set_option maxHeartbeats 4000000 in
noncomputable def M_docstorelaw54_TwophaseOver_J10_T (p_acks : List Int) (p_shards : List Int) (r741 : GDecision × Int) (s737 : GDecision) (v736 : Int) : Mo ((Bool)) :=
  .ite (r741.2 != 23) (fun c743 =>
    .say [.gd 22002 true] (okc c743 ok0) <|
    .ret ⟨[], [1, 2, 7, 9, 62], [], 2⟩ (true)) fun c743 =>
  .say [.gd 22002 false] (okc c743 ok0) <|
  .ask (M_twophase_Over s737) fun r744 h745 =>
  .say [.res (.lf (.bool r744))] (okc (M_twophase_Over_ok _ _ h745) ok0) <|
  .ret ⟨[], [1, 2, 7, 9, 62], [], 2⟩ (r744)
noncomputable def M_docstorelaw54_TwophaseOver_J10 (p_acks : List Int) (p_shards : List Int) (r741 : GDecision × Int) (s737 : GDecision) (v736 : Int) : Option ((Bool)) := Mo.den (M_docstorelaw54_TwophaseOver_J10_T p_acks p_shards r741 s737 v736)
noncomputable def M_docstorelaw54_TwophaseOver_J10_X (r_ : (Bool)) : Exit := .normal
noncomputable def M_docstorelaw54_TwophaseOver_J10_S (p_acks : List Int) (p_shards : List Int) (s737 : GDecision) (v736 : Int) (r_ : (Bool)) : St := ⟨[(1, .lf (.rows 1 (p_shards.map lfI))), (2, .lf (.rows 1 (p_acks.map lfI))), (7, .ptr 0 0), (9, .lf (.int .i64 v736)), (62, .lf (.bool r_))], [.box 27 (.dat (GDecision.lf1 s737)), .dead]⟩
set_option maxRecDepth 20000 in
set_option maxHeartbeats 4000000 in
theorem M_docstorelaw54_TwophaseOver_J10_W {p_acks : List Int} {p_shards : List Int} {r741 : GDecision × Int} {s737 : GDecision} {v736 : Int} {r_ : (Bool)} (h : M_docstorelaw54_TwophaseOver_J10 p_acks p_shards r741 s737 v736 = some r_) : AWa Tryd.prog GI TTc Tryd.f5.ntmps (Code.sub (bodyC Tryd.f5) [1, 1, 1, 1, 0, 1, 0, 0, 1, 0, 0, 0, 1, 0]) (M_docstorelaw54_TwophaseOver_J10_X r_) (M_docstorelaw54_TwophaseOver_J10_S p_acks p_shards s737 v736 r_) ⟨[(1, .lf (.rows 1 (p_shards.map lfI))), (2, .lf (.rows 1 (p_acks.map lfI))), (7, .ptr 0 0), (9, .lf (.int .i64 v736)), (11, .lf (.int .i64 r741.2))], [.box 27 (.dat (GDecision.lf1 s737)), .dead]⟩ :=
  part_T BaseK (M_docstorelaw54_TwophaseOver_J10_T p_acks p_shards r741 s737 v736) M_docstorelaw54_TwophaseOver_J10_X (M_docstorelaw54_TwophaseOver_J10_S p_acks p_shards s737 v736) (by kernel_rfl) h
set_option maxRecDepth 20000 in
set_option maxHeartbeats 4000000 in
noncomputable def M_docstorelaw54_TwophaseOver_L15_T (p_acks : List Int) (p_shards : List Int) : (Int × GDecision) → Mo ((Int × GDecision) ⊕ (Unit ⊕ (GDecision))) := fun (v736, s737) =>
  .say [.num p_shards.length] (okc (by simp : p_shards.length = (p_shards.map lfI).length) ok0) <|
  .ite (decide ((v736 : Int) < (p_shards.length : Int))) (fun c738 =>
    .say [.br true] (okc c738 ok0) <|
    .ask (gidx p_shards v736) fun x739 h740 =>
    .say [] (okc (gidx_ok (fun _ => rfl) h740 : (0 : Int) ≤ v736 ∧ (p_shards.map lfI)[v736.toNat]? = some (lfI x739)) ok0) <|
    .ask (M_twophase_Ack s737 x739) fun r741 h742 =>
    .say [.orderT (.q 0 (.q 1 (.q 2 (.q 3 (.q 4 (.alt 5 (.q 6 (.q 7 (.q 8 (.l 9 (.l 10 (.q 11 .fin)))))) (.l 9 (.l 5 (.q 6 (.q 7 (.q 8 (.l 10 (.q 11 .fin))))))))))))) none [1] [.row (lfI x739), .both [.at_ 20 5, .resv 1, .res (.tup [.dat (GDecision.lf1 r741.1), .lf (.int .i64 r741.2)]), .slot 1] [.at_ 20 9, .resv 1, .slot 1, .res (.tup [.dat (GDecision.lf1 r741.1), .lf (.int .i64 r741.2)])]] [1, 2, 7, 9, 11] 2 [(1, .lf (.rows 1 (p_shards.map lfI))), (2, .lf (.rows 1 (p_acks.map lfI))), (7, .ptr 0 0), (9, .lf (.int .i64 v736)), (11, .lf (.int .i64 r741.2))] [.box 27 (.dat (GDecision.lf1 s737)), .box 27 (.agg ((GDecision.lf1 r741.1).map AV.lf))]] (okc (M_twophase_Ack_ok _ _ _ h742) (okc (rfl : (some ⟨[(1, .lf (.rows 1 (p_shards.map lfI))), (2, .lf (.rows 1 (p_acks.map lfI))), (7, .ptr 0 0), (9, .lf (.int .i64 v736)), (11, .lf (.int .i64 r741.2))], [.box 27 (.dat (GDecision.lf1 s737)), .box 27 (.agg ((GDecision.lf1 r741.1).map AV.lf))]⟩ : Option St) = some ⟨[(1, .lf (.rows 1 (p_shards.map lfI))), (2, .lf (.rows 1 (p_acks.map lfI))), (7, .ptr 0 0), (9, .lf (.int .i64 v736)), (11, .lf (.int .i64 r741.2))], [.box 27 (.dat (GDecision.lf1 s737)), .box 27 (.agg ((GDecision.lf1 r741.1).map AV.lf))]⟩) (okc (M_twophase_Ack_ok _ _ _ h742) (okc (rfl : (some ⟨[(1, .lf (.rows 1 (p_shards.map lfI))), (2, .lf (.rows 1 (p_acks.map lfI))), (7, .ptr 0 0), (9, .lf (.int .i64 v736)), (11, .lf (.int .i64 r741.2))], [.box 27 (.dat (GDecision.lf1 s737)), .box 27 (.agg ((GDecision.lf1 r741.1).map AV.lf))]⟩ : Option St) = some ⟨[(1, .lf (.rows 1 (p_shards.map lfI))), (2, .lf (.rows 1 (p_acks.map lfI))), (7, .ptr 0 0), (9, .lf (.int .i64 v736)), (11, .lf (.int .i64 r741.2))], [.box 27 (.dat (GDecision.lf1 s737)), .box 27 (.agg ((GDecision.lf1 r741.1).map AV.lf))]⟩) ok0)))) <|
    .ask (M_docstorelaw54_TwophaseOver_J10 p_acks p_shards r741 s737 v736) fun r747 h748 =>
    .say [.part [.kill 1] 27 [1, 2, 7, 9, 11] 2 (M_docstorelaw54_TwophaseOver_J10_X r747) (M_docstorelaw54_TwophaseOver_J10_S p_acks p_shards s737 v736 r747).T (M_docstorelaw54_TwophaseOver_J10_S p_acks p_shards s737 v736 r747).H] (okc (M_docstorelaw54_TwophaseOver_J10_W h748) ok0) <|
    .ite (r747) (fun c749 =>
      .say [.br true] (okc c749 ok0) <|
      .ret ⟨[.kill 0], [6], [], 1⟩ (.inr (.inl ()))) fun c749 =>
    .say [.br false] (okc c749 ok0) <|
    .ask (gidx p_shards v736) fun x750 h751 =>
    .say [] (okc (gidx_ok (fun _ => rfl) h751 : (0 : Int) ≤ v736 ∧ (p_shards.map lfI)[v736.toNat]? = some (lfI x750)) ok0) <|
    .ask (M_twophase_Vote s737 x750 (IntKind.wrap .i64 (1 + v736))) fun r752 h753 =>
    .say [.orderT (.q 0 (.q 1 (.q 2 (.q 3 (.q 4 (.q 5 (.q 6 (.l 7 (.q 8 (.q 9 (.q 10 (.l 11 (.q 12 .fin))))))))))))) (some 7) [] [.row (lfI x750), .res (.tup [.dat (GDecision.lf1 r752.1), .lf (.int .i64 r752.2)])] [1, 2, 7, 8, 9] 2 [(1, .lf (.rows 1 (p_shards.map lfI))), (2, .lf (.rows 1 (p_acks.map lfI))), (7, .ptr 0 0), (8, .lf (.int .i64 r752.2)), (9, .lf (.int .i64 v736))] [.box 27 (.dat (GDecision.lf1 r752.1)), .dead]] (okc (M_twophase_Vote_ok _ _ _ _ h753) (okc (rfl : (some ⟨[(1, .lf (.rows 1 (p_shards.map lfI))), (2, .lf (.rows 1 (p_acks.map lfI))), (7, .ptr 0 0), (8, .lf (.int .i64 r752.2)), (9, .lf (.int .i64 v736))], [.box 27 (.dat (GDecision.lf1 r752.1)), .dead]⟩ : Option St) = some ⟨[(1, .lf (.rows 1 (p_shards.map lfI))), (2, .lf (.rows 1 (p_acks.map lfI))), (7, .ptr 0 0), (8, .lf (.int .i64 r752.2)), (9, .lf (.int .i64 v736))], [.box 27 (.dat (GDecision.lf1 r752.1)), .dead]⟩) ok0)) <|
    .ite (r752.2 != 0) (fun c754 =>
      .say [.br true] (okc c754 ok0) <|
      .ret ⟨[.kill 0], [6], [], 1⟩ (.inr (.inl ()))) fun c754 =>
    .say [.br false] (okc c754 ok0) <|
    .ret ⟨[], [1, 2, 7, 9], [], 1⟩ (.inl (IntKind.wrap .i64 (v736 + 1), r752.1))) fun c738 =>
  .say [.br false] (okc c738 ok0) <|
  .ret ⟨[], [1, 2, 7], [], 1⟩ (.inr (.inr ((s737))))
noncomputable def M_docstorelaw54_TwophaseOver_L15 (p_acks : List Int) (p_shards : List Int) (v736 : Int) (s737 : GDecision) : Option (Unit ⊕ (GDecision)) := loopM (fun v_ => (M_docstorelaw54_TwophaseOver_L15_T p_acks p_shards v_).den) FU (v736, s737)
noncomputable def M_docstorelaw54_TwophaseOver_L15_H (p_acks : List Int) (p_shards : List Int) : (Int × GDecision) → St := fun (v736, s737) => ⟨[(1, .lf (.rows 1 (p_shards.map lfI))), (2, .lf (.rows 1 (p_acks.map lfI))), (7, .ptr 0 0), (9, .lf (.int .i64 v736))], [.box 27 (.dat (GDecision.lf1 s737))]⟩
noncomputable def M_docstorelaw54_TwophaseOver_L15_X (r_ : Unit ⊕ (GDecision)) : Exit := match r_ with
  | .inl o_ => .ret
  | .inr (o_) => .exit 0
noncomputable def M_docstorelaw54_TwophaseOver_L15_S (p_acks : List Int) (p_shards : List Int) (r_ : Unit ⊕ (GDecision)) : St := match r_ with
  | .inl o_ => ⟨[(6, .lf (.bool false))], [.dead]⟩
  | .inr (o_) => ⟨[(1, .lf (.rows 1 (p_shards.map lfI))), (2, .lf (.rows 1 (p_acks.map lfI))), (7, .ptr 0 0)], [.box 27 (.dat (GDecision.lf1 o_))]⟩
set_option maxRecDepth 20000 in
set_option maxHeartbeats 4000000 in
theorem M_docstorelaw54_TwophaseOver_L15_W {p_acks : List Int} {p_shards : List Int} {v736 : Int} {s737 : GDecision} {r_ : Unit ⊕ (GDecision)} (h : M_docstorelaw54_TwophaseOver_L15 p_acks p_shards v736 s737 = some r_) : AWa Tryd.prog GI TTc Tryd.f5.ntmps (Code.sub (bodyC Tryd.f5) [1, 1, 1, 1, 0, 1, 0]) (M_docstorelaw54_TwophaseOver_L15_X r_) (M_docstorelaw54_TwophaseOver_L15_S p_acks p_shards r_) (M_docstorelaw54_TwophaseOver_L15_H p_acks p_shards (v736, s737)) :=
  loop_T BaseK (body := (Code.sub (bodyC Tryd.f5) [1, 1, 1, 1, 0, 1, 0, 0])) (by kernel_rfl) (M_docstorelaw54_TwophaseOver_L15_T p_acks p_shards) (M_docstorelaw54_TwophaseOver_L15_H p_acks p_shards) M_docstorelaw54_TwophaseOver_L15_X (M_docstorelaw54_TwophaseOver_L15_S p_acks p_shards) (fun r_ => by rcases r_ with _ | _ <;> rfl) (fun v_ => by kernel_rfl) h
set_option maxRecDepth 20000 in
set_option maxHeartbeats 4000000 in
noncomputable def M_docstorelaw54_TwophaseOver_L21_T (l1005 : List Bool) (p_acks : List Int) (p_shards : List Int) (r1009 : GDecision × Int) (s1004 : GDecision) (v1002 : Int) (v1003 : Int) : (Bool × Int) → Mo ((Bool × Int) ⊕ (Bool)) := fun (v1016, v1017) =>
  .say [.num p_shards.length] (okc (by simp : p_shards.length = (p_shards.map lfI).length) ok0) <|
  .ite (decide ((v1017 : Int) < (p_shards.length : Int))) (fun c1018 =>
    .say [.br true, .order [(true, 0), (true, 1), (true, 2), (true, 3), (true, 4), (true, 5), (true, 6), (true, 7), (true, 8), (true, 9), (true, 10), (true, 11), (true, 12)] none []] (okc c1018 ok0) <|
    .ite (v1016) (fun c1019 =>
      .say [.gd 58001 true] (okc c1019 ok0) <|
      .ret ⟨[], [1, 2, 7, 12, 13, 14, 15, 16, 17, 18], [], 3⟩ (.inl (true, IntKind.wrap .i64 (v1017 + 1)))) fun c1019 =>
    .say [.gd 58001 false] (okc c1019 ok0) <|
    .ask (gidx p_shards v1017) fun x1020 h1021 =>
    .say [.row (lfI x1020)] (okc (gidx_ok (fun _ => rfl) h1021 : (0 : Int) ≤ v1017 ∧ (p_shards.map lfI)[v1017.toNat]? = some (lfI x1020)) ok0) <|
    .ask (gidx p_acks v1003) fun x1022 h1023 =>
    .say [.row (lfI x1022)] (okc (gidx_ok (fun _ => rfl) h1023 : (0 : Int) ≤ v1003 ∧ (p_acks.map lfI)[v1003.toNat]? = some (lfI x1022)) ok0) <|
    .ret ⟨[], [1, 2, 7, 12, 13, 14, 15, 16, 17, 18], [], 3⟩ (.inl (x1020 == x1022, IntKind.wrap .i64 (v1017 + 1)))) fun c1018 =>
  .say [.br false] (okc c1018 ok0) <|
  .ret ⟨[], [1, 2, 7, 12, 13, 14, 15, 16, 17], [], 3⟩ (.inr (v1016))
noncomputable def M_docstorelaw54_TwophaseOver_L21 (l1005 : List Bool) (p_acks : List Int) (p_shards : List Int) (r1009 : GDecision × Int) (s1004 : GDecision) (v1002 : Int) (v1003 : Int) (v1016 : Bool) (v1017 : Int) : Option ((Bool)) := loopM (fun v_ => (M_docstorelaw54_TwophaseOver_L21_T l1005 p_acks p_shards r1009 s1004 v1002 v1003 v_).den) FU (v1016, v1017)
noncomputable def M_docstorelaw54_TwophaseOver_L21_H (l1005 : List Bool) (p_acks : List Int) (p_shards : List Int) (r1009 : GDecision × Int) (s1004 : GDecision) (v1002 : Int) (v1003 : Int) : (Bool × Int) → St := fun (v1016, v1017) => ⟨[(1, .lf (.rows 1 (p_shards.map lfI))), (2, .lf (.rows 1 (p_acks.map lfI))), (7, .ptr 0 0), (12, .own 1), (13, .lf (.int .i64 v1002)), (14, .lf (.int .i64 v1003)), (15, .ptr 2 0), (16, .lf (.int .i64 r1009.2)), (17, .lf (.bool v1016)), (18, .lf (.int .i64 v1017))], [.box 27 (.dat (GDecision.lf1 s1004)), .row 4 1 (l1005.map lfB), .box 27 (.agg ((GDecision.lf1 r1009.1).map AV.lf))]⟩
noncomputable def M_docstorelaw54_TwophaseOver_L21_X (r_ : (Bool)) : Exit := .exit 4
noncomputable def M_docstorelaw54_TwophaseOver_L21_S (l1005 : List Bool) (p_acks : List Int) (p_shards : List Int) (r1009 : GDecision × Int) (s1004 : GDecision) (v1002 : Int) (v1003 : Int) (r_ : (Bool)) : St := ⟨[(1, .lf (.rows 1 (p_shards.map lfI))), (2, .lf (.rows 1 (p_acks.map lfI))), (7, .ptr 0 0), (12, .own 1), (13, .lf (.int .i64 v1002)), (14, .lf (.int .i64 v1003)), (15, .ptr 2 0), (16, .lf (.int .i64 r1009.2)), (17, .lf (.bool r_))], [.box 27 (.dat (GDecision.lf1 s1004)), .row 4 1 (l1005.map lfB), .box 27 (.agg ((GDecision.lf1 r1009.1).map AV.lf))]⟩
set_option maxRecDepth 20000 in
set_option maxHeartbeats 4000000 in
theorem M_docstorelaw54_TwophaseOver_L21_W {l1005 : List Bool} {p_acks : List Int} {p_shards : List Int} {r1009 : GDecision × Int} {s1004 : GDecision} {v1002 : Int} {v1003 : Int} {v1016 : Bool} {v1017 : Int} {r_ : (Bool)} (h : M_docstorelaw54_TwophaseOver_L21 l1005 p_acks p_shards r1009 s1004 v1002 v1003 v1016 v1017 = some r_) : AWa Tryd.prog GI TTc Tryd.f5.ntmps (Code.sub (bodyC Tryd.f5) [1, 1, 1, 1, 1, 1, 1, 1, 0, 1, 0, 0, 1, 0, 0, 1, 1, 0, 1, 0]) (M_docstorelaw54_TwophaseOver_L21_X r_) (M_docstorelaw54_TwophaseOver_L21_S l1005 p_acks p_shards r1009 s1004 v1002 v1003 r_) (M_docstorelaw54_TwophaseOver_L21_H l1005 p_acks p_shards r1009 s1004 v1002 v1003 (v1016, v1017)) :=
  loop_T BaseK (body := (Code.sub (bodyC Tryd.f5) [1, 1, 1, 1, 1, 1, 1, 1, 0, 1, 0, 0, 1, 0, 0, 1, 1, 0, 1, 0, 0])) (by kernel_rfl) (M_docstorelaw54_TwophaseOver_L21_T l1005 p_acks p_shards r1009 s1004 v1002 v1003) (M_docstorelaw54_TwophaseOver_L21_H l1005 p_acks p_shards r1009 s1004 v1002 v1003) M_docstorelaw54_TwophaseOver_L21_X (M_docstorelaw54_TwophaseOver_L21_S l1005 p_acks p_shards r1009 s1004 v1002 v1003) (fun r_ => rfl) (fun v_ => by kernel_rfl) h
set_option maxRecDepth 20000 in
set_option maxHeartbeats 4000000 in
noncomputable def M_docstorelaw54_TwophaseOver_J27_T (l1005 : List Bool) (p_acks : List Int) (p_shards : List Int) (r1009 : GDecision × Int) (s1004 : GDecision) (v1002 : Int) (v1003 : Int) (x1031 : Bool) : Mo ((Int × (List Bool))) :=
  .ite (!x1031) (fun c1033 =>
    .say [.br true] (okc c1033 ok0) <|
    .ask (gidx p_acks v1003) fun x1034 h1035 =>
    .say [.row (lfI x1034)] (okc (gidx_ok (fun _ => rfl) h1035 : (0 : Int) ≤ v1003 ∧ (p_acks.map lfI)[v1003.toNat]? = some (lfI x1034)) ok0) <|
    .ask (gidx l1005 x1034) fun x1036 h1037 =>
    .say [.row (lfB x1036), .rows ((l1005.set x1034.toNat true).map lfB)] (okc (gidx_lt (fun _ => rfl) h1037 : (0 : Int) ≤ x1034 ∧ x1034.toNat < (l1005.map lfB).length) (okc (by simp [lfB] : (l1005.set x1034.toNat true).map lfB = (l1005.map lfB).set x1034.toNat (lfB true)) (okc ((gidx_ok (fun _ => rfl) h1037).2 : (l1005.map lfB)[x1034.toNat]? = some (lfB x1036)) ok0))) <|
    .ret ⟨[], [1, 2, 7, 12, 13, 14, 15], [], 3⟩ (IntKind.wrap .i64 (v1002 - 1), l1005.set x1034.toNat true)) fun c1033 =>
  .say [.br false] (okc c1033 ok0) <|
  .ret ⟨[], [1, 2, 7, 12, 13, 14, 15], [], 3⟩ (v1002, l1005)
noncomputable def M_docstorelaw54_TwophaseOver_J27 (l1005 : List Bool) (p_acks : List Int) (p_shards : List Int) (r1009 : GDecision × Int) (s1004 : GDecision) (v1002 : Int) (v1003 : Int) (x1031 : Bool) : Option ((Int × (List Bool))) := Mo.den (M_docstorelaw54_TwophaseOver_J27_T l1005 p_acks p_shards r1009 s1004 v1002 v1003 x1031)
noncomputable def M_docstorelaw54_TwophaseOver_J27_X (r_ : (Int × (List Bool))) : Exit := .normal
noncomputable def M_docstorelaw54_TwophaseOver_J27_S (p_acks : List Int) (p_shards : List Int) (r1009 : GDecision × Int) (s1004 : GDecision) (v1003 : Int) (r_ : (Int × (List Bool))) : St := ⟨[(1, .lf (.rows 1 (p_shards.map lfI))), (2, .lf (.rows 1 (p_acks.map lfI))), (7, .ptr 0 0), (12, .own 1), (13, .lf (.int .i64 r_.1)), (14, .lf (.int .i64 v1003)), (15, .ptr 2 0)], [.box 27 (.dat (GDecision.lf1 s1004)), .row 4 1 (r_.2.map lfB), .box 27 (.agg ((GDecision.lf1 r1009.1).map AV.lf))]⟩
set_option maxRecDepth 20000 in
set_option maxHeartbeats 4000000 in
theorem M_docstorelaw54_TwophaseOver_J27_W {l1005 : List Bool} {p_acks : List Int} {p_shards : List Int} {r1009 : GDecision × Int} {s1004 : GDecision} {v1002 : Int} {v1003 : Int} {x1031 : Bool} {r_ : (Int × (List Bool))} (h : M_docstorelaw54_TwophaseOver_J27 l1005 p_acks p_shards r1009 s1004 v1002 v1003 x1031 = some r_) : AWa Tryd.prog GI TTc Tryd.f5.ntmps (Code.sub (bodyC Tryd.f5) [1, 1, 1, 1, 1, 1, 1, 1, 0, 1, 0, 0, 1, 0, 0, 1, 1, 1, 1, 1, 0, 1]) (M_docstorelaw54_TwophaseOver_J27_X r_) (M_docstorelaw54_TwophaseOver_J27_S p_acks p_shards r1009 s1004 v1003 r_) ⟨[(1, .lf (.rows 1 (p_shards.map lfI))), (2, .lf (.rows 1 (p_acks.map lfI))), (7, .ptr 0 0), (12, .own 1), (13, .lf (.int .i64 v1002)), (14, .lf (.int .i64 v1003)), (15, .ptr 2 0), (133, .lf (.bool (!x1031)))], [.box 27 (.dat (GDecision.lf1 s1004)), .row 4 1 (l1005.map lfB), .box 27 (.agg ((GDecision.lf1 r1009.1).map AV.lf))]⟩ :=
  part_T BaseK (M_docstorelaw54_TwophaseOver_J27_T l1005 p_acks p_shards r1009 s1004 v1002 v1003 x1031) M_docstorelaw54_TwophaseOver_J27_X (M_docstorelaw54_TwophaseOver_J27_S p_acks p_shards r1009 s1004 v1003) (by kernel_rfl) h
set_option maxRecDepth 20000 in
set_option maxHeartbeats 4000000 in
noncomputable def M_docstorelaw54_TwophaseOver_J32_T (l1005 : List Bool) (p_acks : List Int) (p_shards : List Int) (s1004 : GDecision) (v1002 : Int) (v1003 : Int) : Mo (Unit ⊕ (Int × GDecision × (List Bool))) :=
  .ask (gidx p_acks v1003) fun x1007 h1008 =>
  .say [] (okc (gidx_ok (fun _ => rfl) h1008 : (0 : Int) ≤ v1003 ∧ (p_acks.map lfI)[v1003.toNat]? = some (lfI x1007)) ok0) <|
  .ask (M_twophase_Ack s1004 x1007) fun r1009 h1010 =>
  .say [.orderT (.q 0 (.q 1 (.q 2 (.q 3 (.q 4 (.alt 5 (.q 6 (.q 7 (.q 8 (.l 9 (.l 10 (.q 11 .fin)))))) (.l 9 (.l 5 (.q 6 (.q 7 (.q 8 (.l 10 (.q 11 .fin))))))))))))) none [2] [.row (lfI x1007), .both [.at_ 48 5, .resv 1, .res (.tup [.dat (GDecision.lf1 r1009.1), .lf (.int .i64 r1009.2)]), .slot 2] [.at_ 48 9, .resv 1, .slot 2, .res (.tup [.dat (GDecision.lf1 r1009.1), .lf (.int .i64 r1009.2)])]] [1, 2, 7, 12, 13, 14, 15, 16] 3 [(1, .lf (.rows 1 (p_shards.map lfI))), (2, .lf (.rows 1 (p_acks.map lfI))), (7, .ptr 0 0), (12, .own 1), (13, .lf (.int .i64 v1002)), (14, .lf (.int .i64 v1003)), (15, .ptr 2 0), (16, .lf (.int .i64 r1009.2))] [.box 27 (.dat (GDecision.lf1 s1004)), .row 4 1 (l1005.map lfB), .box 27 (.agg ((GDecision.lf1 r1009.1).map AV.lf))]] (okc (M_twophase_Ack_ok _ _ _ h1010) (okc (rfl : (some ⟨[(1, .lf (.rows 1 (p_shards.map lfI))), (2, .lf (.rows 1 (p_acks.map lfI))), (7, .ptr 0 0), (12, .own 1), (13, .lf (.int .i64 v1002)), (14, .lf (.int .i64 v1003)), (15, .ptr 2 0), (16, .lf (.int .i64 r1009.2))], [.box 27 (.dat (GDecision.lf1 s1004)), .row 4 1 (l1005.map lfB), .box 27 (.agg ((GDecision.lf1 r1009.1).map AV.lf))]⟩ : Option St) = some ⟨[(1, .lf (.rows 1 (p_shards.map lfI))), (2, .lf (.rows 1 (p_acks.map lfI))), (7, .ptr 0 0), (12, .own 1), (13, .lf (.int .i64 v1002)), (14, .lf (.int .i64 v1003)), (15, .ptr 2 0), (16, .lf (.int .i64 r1009.2))], [.box 27 (.dat (GDecision.lf1 s1004)), .row 4 1 (l1005.map lfB), .box 27 (.agg ((GDecision.lf1 r1009.1).map AV.lf))]⟩) (okc (M_twophase_Ack_ok _ _ _ h1010) (okc (rfl : (some ⟨[(1, .lf (.rows 1 (p_shards.map lfI))), (2, .lf (.rows 1 (p_acks.map lfI))), (7, .ptr 0 0), (12, .own 1), (13, .lf (.int .i64 v1002)), (14, .lf (.int .i64 v1003)), (15, .ptr 2 0), (16, .lf (.int .i64 r1009.2))], [.box 27 (.dat (GDecision.lf1 s1004)), .row 4 1 (l1005.map lfB), .box 27 (.agg ((GDecision.lf1 r1009.1).map AV.lf))]⟩ : Option St) = some ⟨[(1, .lf (.rows 1 (p_shards.map lfI))), (2, .lf (.rows 1 (p_acks.map lfI))), (7, .ptr 0 0), (12, .own 1), (13, .lf (.int .i64 v1002)), (14, .lf (.int .i64 v1003)), (15, .ptr 2 0), (16, .lf (.int .i64 r1009.2))], [.box 27 (.dat (GDecision.lf1 s1004)), .row 4 1 (l1005.map lfB), .box 27 (.agg ((GDecision.lf1 r1009.1).map AV.lf))]⟩) ok0)))) <|
  .ask (M_docstorelaw54_TwophaseOver_L21 l1005 p_acks p_shards r1009 s1004 v1002 v1003 false 0) fun r1025 h1026 =>
  .say [.part [] 0 [1, 2, 7, 12, 13, 14, 15, 16, 17, 18] 3 (M_docstorelaw54_TwophaseOver_L21_X r1025) (M_docstorelaw54_TwophaseOver_L21_S l1005 p_acks p_shards r1009 s1004 v1002 v1003 r1025).T (M_docstorelaw54_TwophaseOver_L21_S l1005 p_acks p_shards r1009 s1004 v1002 v1003 r1025).H] (okc (M_docstorelaw54_TwophaseOver_L21_W h1026) ok0) <|
  .ite (!(r1025 == (r1009.2 == 0))) (fun c1027 =>
    .say [.br true] (okc c1027 ok0) <|
    .ret ⟨[.kill 0, .kill 1], [6], [], 2⟩ (.inl ())) fun c1027 =>
  .say [.br false] (okc c1027 ok0) <|
  .ite (!r1025) (fun c1028 =>
    .say [.br true] (okc c1028 ok0) <|
    .ret ⟨[], [1, 2, 7, 12, 13, 14], [], 2⟩ (.inr ((v1002, s1004, l1005)))) fun c1028 =>
  .say [.br false] (okc c1028 ok0) <|
  .ask (gidx p_acks v1003) fun x1029 h1030 =>
  .say [.row (lfI x1029)] (okc (gidx_ok (fun _ => rfl) h1030 : (0 : Int) ≤ v1003 ∧ (p_acks.map lfI)[v1003.toNat]? = some (lfI x1029)) ok0) <|
  .ask (gidx l1005 x1029) fun x1031 h1032 =>
  .say [.row (lfB x1031)] (okc (gidx_lt (fun _ => rfl) h1032 : (0 : Int) ≤ x1029 ∧ x1029.toNat < (l1005.map lfB).length) (okc ((gidx_ok (fun _ => rfl) h1032).2 : (l1005.map lfB)[x1029.toNat]? = some (lfB x1031)) ok0)) <|
  .ask (M_docstorelaw54_TwophaseOver_J27 l1005 p_acks p_shards r1009 s1004 v1002 v1003 x1031) fun r1040 h1041 =>
  .say [.part [] 1 [1, 2, 7, 12, 13, 14, 15, 133] 3 (M_docstorelaw54_TwophaseOver_J27_X r1040) (M_docstorelaw54_TwophaseOver_J27_S p_acks p_shards r1009 s1004 v1003 r1040).T (M_docstorelaw54_TwophaseOver_J27_S p_acks p_shards r1009 s1004 v1003 r1040).H] (okc (M_docstorelaw54_TwophaseOver_J27_W h1041) ok0) <|
  .ask (M_twophase_Over r1009.1) fun r1042 h1043 =>
  .say [.res (.lf (.bool r1042))] (okc (M_twophase_Over_ok _ _ h1043) ok0) <|
  .ite (!(r1042 == (r1040.1 == 0))) (fun c1044 =>
    .say [.br true] (okc c1044 ok0) <|
    .ret ⟨[.kill 0, .kill 1], [6], [], 2⟩ (.inl ())) fun c1044 =>
  .say [.br false] (okc c1044 ok0) <|
  .ret ⟨[.norm 0], [1, 2, 7, 12, 13, 14], [], 2⟩ (.inr ((r1040.1, r1009.1, r1040.2)))
noncomputable def M_docstorelaw54_TwophaseOver_J32 (l1005 : List Bool) (p_acks : List Int) (p_shards : List Int) (s1004 : GDecision) (v1002 : Int) (v1003 : Int) : Option (Unit ⊕ (Int × GDecision × (List Bool))) := Mo.den (M_docstorelaw54_TwophaseOver_J32_T l1005 p_acks p_shards s1004 v1002 v1003)
noncomputable def M_docstorelaw54_TwophaseOver_J32_X (r_ : Unit ⊕ (Int × GDecision × (List Bool))) : Exit := match r_ with
  | .inl o_ => .ret
  | .inr (o_) => .normal
noncomputable def M_docstorelaw54_TwophaseOver_J32_S (p_acks : List Int) (p_shards : List Int) (v1003 : Int) (r_ : Unit ⊕ (Int × GDecision × (List Bool))) : St := match r_ with
  | .inl o_ => ⟨[(6, .lf (.bool false))], [.dead, .dead]⟩
  | .inr (o_) => ⟨[(1, .lf (.rows 1 (p_shards.map lfI))), (2, .lf (.rows 1 (p_acks.map lfI))), (7, .ptr 0 0), (12, .own 1), (13, .lf (.int .i64 o_.1)), (14, .lf (.int .i64 v1003))], [.box 27 (.dat (GDecision.lf1 o_.2.1)), .row 4 1 (o_.2.2.map lfB)]⟩
set_option maxRecDepth 20000 in
set_option maxHeartbeats 4000000 in
theorem M_docstorelaw54_TwophaseOver_J32_W {l1005 : List Bool} {p_acks : List Int} {p_shards : List Int} {s1004 : GDecision} {v1002 : Int} {v1003 : Int} {r_ : Unit ⊕ (Int × GDecision × (List Bool))} (h : M_docstorelaw54_TwophaseOver_J32 l1005 p_acks p_shards s1004 v1002 v1003 = some r_) : AWa Tryd.prog GI TTc Tryd.f5.ntmps (Code.sub (bodyC Tryd.f5) [1, 1, 1, 1, 1, 1, 1, 1, 0, 1, 0, 0, 1, 0]) (M_docstorelaw54_TwophaseOver_J32_X r_) (M_docstorelaw54_TwophaseOver_J32_S p_acks p_shards v1003 r_) ⟨[(1, .lf (.rows 1 (p_shards.map lfI))), (2, .lf (.rows 1 (p_acks.map lfI))), (7, .ptr 0 0), (12, .own 1), (13, .lf (.int .i64 v1002)), (14, .lf (.int .i64 v1003))], [.box 27 (.dat (GDecision.lf1 s1004)), .row 4 1 (l1005.map lfB)]⟩ :=
  part_T BaseK (M_docstorelaw54_TwophaseOver_J32_T l1005 p_acks p_shards s1004 v1002 v1003) M_docstorelaw54_TwophaseOver_J32_X (M_docstorelaw54_TwophaseOver_J32_S p_acks p_shards v1003) (by kernel_rfl) h
set_option maxRecDepth 20000 in
set_option maxHeartbeats 4000000 in
noncomputable def M_docstorelaw54_TwophaseOver_L37_T (p_acks : List Int) (p_shards : List Int) : (Int × Int × GDecision × (List Bool)) → Mo ((Int × Int × GDecision × (List Bool)) ⊕ (Unit ⊕ Unit)) := fun (v1002, v1003, s1004, l1005) =>
  .say [.num p_acks.length] (okc (by simp : p_acks.length = (p_acks.map lfI).length) ok0) <|
  .ite (decide ((v1003 : Int) < (p_acks.length : Int))) (fun c1006 =>
    .say [.br true] (okc c1006 ok0) <|
    .ask2 (M_docstorelaw54_TwophaseOver_J32 l1005 p_acks p_shards s1004 v1002 v1003) (fun o1051 h1050 =>
      .say [.part [] 12 [1, 2, 7, 12, 13, 14] 2 (M_docstorelaw54_TwophaseOver_J32_X (.inl o1051)) (M_docstorelaw54_TwophaseOver_J32_S p_acks p_shards v1003 (.inl o1051)).T (M_docstorelaw54_TwophaseOver_J32_S p_acks p_shards v1003 (.inl o1051)).H] (okc (M_docstorelaw54_TwophaseOver_J32_W h1050) ok0) <|
      .ret ⟨[], [6], [], 2⟩ (.inr (.inl ()))) fun o1052 h1050 =>
    .say [.part [] 12 [1, 2, 7, 12, 13, 14] 2 (M_docstorelaw54_TwophaseOver_J32_X (.inr (o1052))) (M_docstorelaw54_TwophaseOver_J32_S p_acks p_shards v1003 (.inr (o1052))).T (M_docstorelaw54_TwophaseOver_J32_S p_acks p_shards v1003 (.inr (o1052))).H] (okc (M_docstorelaw54_TwophaseOver_J32_W h1050) ok0) <|
    .ret ⟨[], [1, 2, 7, 12, 13, 14], [], 2⟩ (.inl (o1052.1, IntKind.wrap .i64 (v1003 + 1), o1052.2.1, o1052.2.2))) fun c1006 =>
  .say [.br false] (okc c1006 ok0) <|
  .ret ⟨[.kill 0, .kill 1], [], [], 2⟩ (.inr (.inr (())))
noncomputable def M_docstorelaw54_TwophaseOver_L37 (p_acks : List Int) (p_shards : List Int) (v1002 : Int) (v1003 : Int) (s1004 : GDecision) (l1005 : List Bool) : Option (Unit ⊕ Unit) := loopM (fun v_ => (M_docstorelaw54_TwophaseOver_L37_T p_acks p_shards v_).den) FU (v1002, v1003, s1004, l1005)
noncomputable def M_docstorelaw54_TwophaseOver_L37_H (p_acks : List Int) (p_shards : List Int) : (Int × Int × GDecision × (List Bool)) → St := fun (v1002, v1003, s1004, l1005) => ⟨[(1, .lf (.rows 1 (p_shards.map lfI))), (2, .lf (.rows 1 (p_acks.map lfI))), (7, .ptr 0 0), (12, .own 1), (13, .lf (.int .i64 v1002)), (14, .lf (.int .i64 v1003))], [.box 27 (.dat (GDecision.lf1 s1004)), .row 4 1 (l1005.map lfB)]⟩
noncomputable def M_docstorelaw54_TwophaseOver_L37_X (r_ : Unit ⊕ Unit) : Exit := match r_ with
  | .inl o_ => .ret
  | .inr (o_) => .exit 2
noncomputable def M_docstorelaw54_TwophaseOver_L37_S  (r_ : Unit ⊕ Unit) : St := match r_ with
  | .inl o_ => ⟨[(6, .lf (.bool false))], [.dead, .dead]⟩
  | .inr (o_) => ⟨[], [.dead, .dead]⟩
set_option maxRecDepth 20000 in
set_option maxHeartbeats 4000000 in
theorem M_docstorelaw54_TwophaseOver_L37_W {p_acks : List Int} {p_shards : List Int} {v1002 : Int} {v1003 : Int} {s1004 : GDecision} {l1005 : List Bool} {r_ : Unit ⊕ Unit} (h : M_docstorelaw54_TwophaseOver_L37 p_acks p_shards v1002 v1003 s1004 l1005 = some r_) : AWa Tryd.prog GI TTc Tryd.f5.ntmps (Code.sub (bodyC Tryd.f5) [1, 1, 1, 1, 1, 1, 1, 1, 0, 1, 0]) (M_docstorelaw54_TwophaseOver_L37_X r_) (M_docstorelaw54_TwophaseOver_L37_S r_) (M_docstorelaw54_TwophaseOver_L37_H p_acks p_shards (v1002, v1003, s1004, l1005)) :=
  loop_T BaseK (body := (Code.sub (bodyC Tryd.f5) [1, 1, 1, 1, 1, 1, 1, 1, 0, 1, 0, 0])) (by kernel_rfl) (M_docstorelaw54_TwophaseOver_L37_T p_acks p_shards) (M_docstorelaw54_TwophaseOver_L37_H p_acks p_shards) M_docstorelaw54_TwophaseOver_L37_X M_docstorelaw54_TwophaseOver_L37_S (fun r_ => by rcases r_ with _ | _ <;> rfl) (fun v_ => by kernel_rfl) h
set_option maxRecDepth 20000 in
set_option maxHeartbeats 4000000 in
noncomputable def M_docstorelaw54_TwophaseOver_T (p_id : ByteArray) (p_shards : List Int) (p_acks : List Int) : Mo (Bool) :=
  .ask (M_docstorelaw54_TwophaseOver_J0 p_acks p_id p_shards) fun r582 h583 =>
  .say [.part [] 9 [0, 1, 2] 0 (M_docstorelaw54_TwophaseOver_J0_X r582) (M_docstorelaw54_TwophaseOver_J0_S p_acks p_id p_shards r582).T (M_docstorelaw54_TwophaseOver_J0_S p_acks p_id p_shards r582).H] (okc (M_docstorelaw54_TwophaseOver_J0_W h583) ok0) <|
  .ite (r582) (fun c587 =>
    .say [.br true] (okc c587 ok0) <|
    .ask (M_docstorelaw54_awake) fun r590 h591 =>
    .say [.res (.lf (.bool r590))] (okc (M_docstorelaw54_awake_ok  _ h591) ok0) <|
    .ret fit0 (r590)) fun c587 =>
  .say [.br false] (okc c587 ok0) <|
  .ask (M_twophase_Start p_id p_shards) fun r594 h595 =>
  .say [.res (.tup [.dat (GDecision.lf1 r594.1), .lf (.int .i64 r594.2)])] (okc (M_twophase_Start_ok _ _ _ h595) ok0) <|
  .ite (r594.2 != 0) (fun c600 =>
    .say [.br true] (okc c600 ok0) <|
    .ask (M_docstorelaw54_TwophaseOver_J5 r594) fun r610 h611 =>
    .say [.part [] 17 [7] 1 (M_docstorelaw54_TwophaseOver_J5_X r610) (M_docstorelaw54_TwophaseOver_J5_S r610).T (M_docstorelaw54_TwophaseOver_J5_S r610).H] (okc (M_docstorelaw54_TwophaseOver_J5_W h611) ok0) <|
    .ret fit0 (r610)) fun c600 =>
  .say [.br false] (okc c600 ok0) <|
  .ask2 (M_docstorelaw54_TwophaseOver_L15 p_acks p_shards 0 r594.1) (fun o758 h757 =>
    .say [.part [.norm 0] 0 [1, 2, 7, 9] 1 (M_docstorelaw54_TwophaseOver_L15_X (.inl o758)) (M_docstorelaw54_TwophaseOver_L15_S p_acks p_shards (.inl o758)).T (M_docstorelaw54_TwophaseOver_L15_S p_acks p_shards (.inl o758)).H] (okc (M_docstorelaw54_TwophaseOver_L15_W h757) ok0) <|
    .ret fit0 (false)) fun o759 h757 =>
  .say [.part [.norm 0] 0 [1, 2, 7, 9] 1 (M_docstorelaw54_TwophaseOver_L15_X (.inr (o759))) (M_docstorelaw54_TwophaseOver_L15_S p_acks p_shards (.inr (o759))).T (M_docstorelaw54_TwophaseOver_L15_S p_acks p_shards (.inr (o759))).H] (okc (M_docstorelaw54_TwophaseOver_L15_W h757) ok0) <|
  .ask (M_twophase_Decide o759) fun r762 h763 =>
  .say [.res (.tup [.dat (GDecision.lf1 r762.1), .dat (GWrite.lf1 r762.2.1), .lf (.int .i64 r762.2.2)])] (okc (M_twophase_Decide_ok _ _ h763) ok0) <|
  .ite (r762.2.2 != 0) (fun c765 =>
    .say [.br true] (okc c765 ok0) <|
    .ret fit0 (false)) fun c765 =>
  .say [.br false, .rows ((List.replicate (64 : Int).toNat false).map lfB), .num p_shards.length] (okc c765 (okc (by simp [lfB] : (List.replicate (64 : Int).toNat false).map lfB = List.replicate (64 : Int).toNat (lfB false)) ok0)) <|
  .grd ((0 : Int) ≤ 64 ∧ 1 * (64 : Int).toNat ≤ 281474976710656 ∧ (64 : Int).toNat ≤ maxLen) fun h767 =>
  .say [] (okc (⟨rfl, h767⟩ : (64 : Int) = 64 ∧ (0 : Int) ≤ 64 ∧ 1 * (64 : Int).toNat ≤ 281474976710656 ∧ (64 : Int).toNat ≤ maxLen) (okc (by simp : p_shards.length = (p_shards.map lfI).length) ok0)) <|
  .ask2 (M_docstorelaw54_TwophaseOver_L37 p_acks p_shards (p_shards.length : Int) 0 r762.1 (List.replicate (64 : Int).toNat false)) (fun o1055 h1054 =>
    .say [.part [] 0 [1, 2, 7, 12, 13, 14] 2 (M_docstorelaw54_TwophaseOver_L37_X (.inl o1055)) (M_docstorelaw54_TwophaseOver_L37_S (.inl o1055)).T (M_docstorelaw54_TwophaseOver_L37_S (.inl o1055)).H] (okc (M_docstorelaw54_TwophaseOver_L37_W h1054) ok0) <|
    .ret fit0 (false)) fun o1056 h1054 =>
  .say [.part [] 0 [1, 2, 7, 12, 13, 14] 2 (M_docstorelaw54_TwophaseOver_L37_X (.inr (o1056))) (M_docstorelaw54_TwophaseOver_L37_S (.inr (o1056))).T (M_docstorelaw54_TwophaseOver_L37_S (.inr (o1056))).H] (okc (M_docstorelaw54_TwophaseOver_L37_W h1054) ok0) <|
  .ask (M_docstorelaw54_awake) fun r1057 h1058 =>
  .say [.res (.lf (.bool r1057))] (okc (M_docstorelaw54_awake_ok  _ h1058) ok0) <|
  .ret fit0 (r1057)
noncomputable def M_docstorelaw54_TwophaseOver (p_id : ByteArray) (p_shards : List Int) (p_acks : List Int) : Option (Bool) := Mo.den (M_docstorelaw54_TwophaseOver_T p_id p_shards p_acks)
set_option maxRecDepth 20000 in
set_option maxHeartbeats 4000000 in
theorem M_docstorelaw54_TwophaseOver_ok (p_id : ByteArray) (p_shards : List Int) (p_acks : List Int) (r : Bool) (h : M_docstorelaw54_TwophaseOver p_id p_shards p_acks = some r) : Fn Tryd.prog GI 5 [.lf (.str p_id), .lf (.rows 1 (p_shards.map lfI)), .lf (.rows 1 (p_acks.map lfI))] (.lf (.bool r)) :=
  fn_T BaseK Tryd.func5 (by kernel_rfl) (by kernel_rfl) (by kernel_rfl) (by kernel_rfl) (M_docstorelaw54_TwophaseOver_T p_id p_shards p_acks) (fun r => [.lf (.bool r)]) (by kernel_rfl) h
set_option maxRecDepth 20000 in
set_option maxHeartbeats 4000000 in
noncomputable def M_docstoreref01_Name_J0_T (p_s : ByteArray) : Mo ((Bool)) :=
  .ite (decide (((p_s.size : Int) : Int) < 1)) (fun c1063 =>
    .say [.gd 4003 true] (okc c1063 ok0) <|
    .ret ⟨[], [0, 16], [], 0⟩ (true)) fun c1063 =>
  .say [.gd 4003 false] (okc c1063 ok0) <|
  .ite (decide ((32 : Int) < (p_s.size : Int))) (fun c1064 =>
    .say [.gd 4008 true] (okc c1064 ok0) <|
    .ret ⟨[], [0, 16], [], 0⟩ (true)) fun c1064 =>
  .say [.gd 4008 false] (okc c1064 ok0) <|
  .ask (sidx p_s 0) fun b1065 h1066 =>
  .say [.byt b1065] (okc (sidx_ok h1066 : (0 : Int) ≤ 0 ∧ p_s[(0 : Int).toNat]? = some b1065) ok0) <|
  .ret ⟨[], [0, 16], [], 0⟩ ((b1065.toNat : Int) == 36)
noncomputable def M_docstoreref01_Name_J0 (p_s : ByteArray) : Option ((Bool)) := Mo.den (M_docstoreref01_Name_J0_T p_s)
noncomputable def M_docstoreref01_Name_J0_X (r_ : (Bool)) : Exit := .normal
noncomputable def M_docstoreref01_Name_J0_S (p_s : ByteArray) (r_ : (Bool)) : St := ⟨[(0, .lf (.str p_s)), (16, .lf (.bool r_))], []⟩
set_option maxRecDepth 20000 in
set_option maxHeartbeats 4000000 in
theorem M_docstoreref01_Name_J0_W {p_s : ByteArray} {r_ : (Bool)} (h : M_docstoreref01_Name_J0 p_s = some r_) : AWa Tryd.prog GI TTc Tryd.f24.ntmps (Code.sub (bodyC Tryd.f24) [1, 0, 0]) (M_docstoreref01_Name_J0_X r_) (M_docstoreref01_Name_J0_S p_s r_) ⟨[(0, .lf (.str p_s))], []⟩ :=
  part_T BaseK (M_docstoreref01_Name_J0_T p_s) M_docstoreref01_Name_J0_X (M_docstoreref01_Name_J0_S p_s) (by kernel_rfl) h
set_option maxRecDepth 20000 in
set_option maxHeartbeats 4000000 in
noncomputable def M_docstoreref01_Name_J5_T (p_s : ByteArray) (v1138 : Int) : Mo ((Bool)) :=
  .ask (sidx p_s v1138) fun b1140 h1141 =>
  .say [.byt b1140] (okc (sidx_ok h1141 : (0 : Int) ≤ v1138 ∧ p_s[v1138.toNat]? = some b1140) ok0) <|
  .ite (decide (((b1140.toNat : Int) : Int) < 33)) (fun c1142 =>
    .say [.gd 14004 true] (okc c1142 ok0) <|
    .ret ⟨[], [0, 3, 38], [], 0⟩ (true)) fun c1142 =>
  .say [.gd 14004 false] (okc c1142 ok0) <|
  .ask (sidx p_s v1138) fun b1143 h1144 =>
  .say [.byt b1143] (okc (sidx_ok h1144 : (0 : Int) ≤ v1138 ∧ p_s[v1138.toNat]? = some b1143) ok0) <|
  .ite (decide ((126 : Int) < (b1143.toNat : Int))) (fun c1145 =>
    .say [.gd 14010 true] (okc c1145 ok0) <|
    .ret ⟨[], [0, 3, 38], [], 0⟩ (true)) fun c1145 =>
  .say [.gd 14010 false] (okc c1145 ok0) <|
  .ask (sidx p_s v1138) fun b1146 h1147 =>
  .say [.byt b1146] (okc (sidx_ok h1147 : (0 : Int) ≤ v1138 ∧ p_s[v1138.toNat]? = some b1146) ok0) <|
  .ret ⟨[], [0, 3, 38], [], 0⟩ ((b1146.toNat : Int) == 46)
noncomputable def M_docstoreref01_Name_J5 (p_s : ByteArray) (v1138 : Int) : Option ((Bool)) := Mo.den (M_docstoreref01_Name_J5_T p_s v1138)
noncomputable def M_docstoreref01_Name_J5_X (r_ : (Bool)) : Exit := .normal
noncomputable def M_docstoreref01_Name_J5_S (p_s : ByteArray) (v1138 : Int) (r_ : (Bool)) : St := ⟨[(0, .lf (.str p_s)), (3, .lf (.int .i64 v1138)), (38, .lf (.bool r_))], []⟩
set_option maxRecDepth 20000 in
set_option maxHeartbeats 4000000 in
theorem M_docstoreref01_Name_J5_W {p_s : ByteArray} {v1138 : Int} {r_ : (Bool)} (h : M_docstoreref01_Name_J5 p_s v1138 = some r_) : AWa Tryd.prog GI TTc Tryd.f24.ntmps (Code.sub (bodyC Tryd.f24) [1, 1, 0, 1, 0, 0, 1, 0, 0, 0]) (M_docstoreref01_Name_J5_X r_) (M_docstoreref01_Name_J5_S p_s v1138 r_) ⟨[(0, .lf (.str p_s)), (3, .lf (.int .i64 v1138))], []⟩ :=
  part_T BaseK (M_docstoreref01_Name_J5_T p_s v1138) M_docstoreref01_Name_J5_X (M_docstoreref01_Name_J5_S p_s v1138) (by kernel_rfl) h
set_option maxRecDepth 20000 in
set_option maxHeartbeats 4000000 in
noncomputable def M_docstoreref01_Name_L10_T (p_s : ByteArray) : (Int) → Mo ((Int) ⊕ (Unit ⊕ Unit)) := fun (v1138) =>
  .ite (decide ((v1138 : Int) < (p_s.size : Int))) (fun c1139 =>
    .say [.br true] (okc c1139 ok0) <|
    .ask (M_docstoreref01_Name_J5 p_s v1138) fun r1149 h1150 =>
    .say [.part [] 19 [0, 3] 0 (M_docstoreref01_Name_J5_X r1149) (M_docstoreref01_Name_J5_S p_s v1138 r1149).T (M_docstoreref01_Name_J5_S p_s v1138 r1149).H] (okc (M_docstoreref01_Name_J5_W h1150) ok0) <|
    .ite (r1149) (fun c1151 =>
      .say [.br true] (okc c1151 ok0) <|
      .ret ⟨[], [2], [], 0⟩ (.inr (.inl ()))) fun c1151 =>
    .say [.br false] (okc c1151 ok0) <|
    .ret ⟨[], [0, 3], [], 0⟩ (.inl (IntKind.wrap .i64 (v1138 + 1)))) fun c1139 =>
  .say [.br false] (okc c1139 ok0) <|
  .ret ⟨[], [], [], 0⟩ (.inr (.inr (())))
noncomputable def M_docstoreref01_Name_L10 (p_s : ByteArray) (v1138 : Int) : Option (Unit ⊕ Unit) := loopM (fun v_ => (M_docstoreref01_Name_L10_T p_s v_).den) FU (v1138)
noncomputable def M_docstoreref01_Name_L10_H (p_s : ByteArray) : (Int) → St := fun (v1138) => ⟨[(0, .lf (.str p_s)), (3, .lf (.int .i64 v1138))], []⟩
noncomputable def M_docstoreref01_Name_L10_X (r_ : Unit ⊕ Unit) : Exit := match r_ with
  | .inl o_ => .ret
  | .inr (o_) => .exit 0
noncomputable def M_docstoreref01_Name_L10_S  (r_ : Unit ⊕ Unit) : St := match r_ with
  | .inl o_ => ⟨[(2, .lf (.bool false))], []⟩
  | .inr (o_) => ⟨[], []⟩
set_option maxRecDepth 20000 in
set_option maxHeartbeats 4000000 in
theorem M_docstoreref01_Name_L10_W {p_s : ByteArray} {v1138 : Int} {r_ : Unit ⊕ Unit} (h : M_docstoreref01_Name_L10 p_s v1138 = some r_) : AWa Tryd.prog GI TTc Tryd.f24.ntmps (Code.sub (bodyC Tryd.f24) [1, 1, 0, 1, 0]) (M_docstoreref01_Name_L10_X r_) (M_docstoreref01_Name_L10_S r_) (M_docstoreref01_Name_L10_H p_s (v1138)) :=
  loop_T BaseK (body := (Code.sub (bodyC Tryd.f24) [1, 1, 0, 1, 0, 0])) (by kernel_rfl) (M_docstoreref01_Name_L10_T p_s) (M_docstoreref01_Name_L10_H p_s) M_docstoreref01_Name_L10_X M_docstoreref01_Name_L10_S (fun r_ => by rcases r_ with _ | _ <;> rfl) (fun v_ => by kernel_rfl) h
set_option maxRecDepth 20000 in
set_option maxHeartbeats 4000000 in
noncomputable def M_docstoreref01_Name_T (p_s : ByteArray) : Mo (Bool) :=
  .ask (M_docstoreref01_Name_J0 p_s) fun r1068 h1069 =>
  .say [.part [] 9 [0] 0 (M_docstoreref01_Name_J0_X r1068) (M_docstoreref01_Name_J0_S p_s r1068).T (M_docstoreref01_Name_J0_S p_s r1068).H] (okc (M_docstoreref01_Name_J0_W h1069) ok0) <|
  .ite (r1068) (fun c1071 =>
    .say [.br true] (okc c1071 ok0) <|
    .ret fit0 (false)) fun c1071 =>
  .say [.br false] (okc c1071 ok0) <|
  .ask2 (M_docstoreref01_Name_L10 p_s 0) (fun o1154 h1153 =>
    .say [.part [] 0 [0, 3] 0 (M_docstoreref01_Name_L10_X (.inl o1154)) (M_docstoreref01_Name_L10_S (.inl o1154)).T (M_docstoreref01_Name_L10_S (.inl o1154)).H] (okc (M_docstoreref01_Name_L10_W h1153) ok0) <|
    .ret fit0 (false)) fun o1155 h1153 =>
  .say [.part [] 0 [0, 3] 0 (M_docstoreref01_Name_L10_X (.inr (o1155))) (M_docstoreref01_Name_L10_S (.inr (o1155))).T (M_docstoreref01_Name_L10_S (.inr (o1155))).H] (okc (M_docstoreref01_Name_L10_W h1153) ok0) <|
  .ret fit0 (true)
noncomputable def M_docstoreref01_Name (p_s : ByteArray) : Option (Bool) := Mo.den (M_docstoreref01_Name_T p_s)
set_option maxRecDepth 20000 in
set_option maxHeartbeats 4000000 in
theorem M_docstoreref01_Name_ok (p_s : ByteArray) (r : Bool) (h : M_docstoreref01_Name p_s = some r) : Fn Tryd.prog GI 24 [.lf (.str p_s)] (.lf (.bool r)) :=
  fn_T BaseK Tryd.func24 (by kernel_rfl) (by kernel_rfl) (by kernel_rfl) (by kernel_rfl) (M_docstoreref01_Name_T p_s) (fun r => [.lf (.bool r)]) (by kernel_rfl) h
set_option maxRecDepth 20000 in
set_option maxHeartbeats 4000000 in
noncomputable def M_docstoreref54_shards_J0_T (p_l : List Int) (v1237 : Int) : Mo ((Bool)) :=
  .say [.order [(true, 0), (true, 1), (true, 2), (true, 3), (true, 4), (true, 5), (true, 6), (true, 7), (true, 8), (true, 9), (true, 10), (true, 11), (true, 12), (true, 13), (true, 14), (true, 15), (true, 16), (true, 17), (true, 18), (true, 19), (true, 20), (true, 21), (true, 22), (true, 23), (true, 24), (true, 25), (true, 26), (true, 27)] none []] ok0 <|
  .ask (gidx p_l v1237) fun x1239 h1240 =>
  .say [.row (lfI x1239)] (okc (gidx_ok (fun _ => rfl) h1240 : (0 : Int) ≤ v1237 ∧ (p_l.map lfI)[v1237.toNat]? = some (lfI x1239)) ok0) <|
  .ite (decide ((x1239 : Int) < 0)) (fun c1241 =>
    .say [.gd 10005 true] (okc c1241 ok0) <|
    .ret ⟨[], [0, 3, 37], [], 0⟩ (true)) fun c1241 =>
  .say [.gd 10005 false] (okc c1241 ok0) <|
  .ask (gidx p_l v1237) fun x1242 h1243 =>
  .say [.row (lfI x1242)] (okc (gidx_ok (fun _ => rfl) h1243 : (0 : Int) ≤ v1237 ∧ (p_l.map lfI)[v1237.toNat]? = some (lfI x1242)) ok0) <|
  .ite (decide ((8 : Int) ≤ x1242)) (fun c1244 =>
    .say [.gd 10012 true] (okc c1244 ok0) <|
    .ret ⟨[], [0, 3, 37], [], 0⟩ (true)) fun c1244 =>
  .say [.gd 10012 false] (okc c1244 ok0) <|
  .ite (decide ((0 : Int) < v1237)) (fun c1245 =>
    .say [.gd 10015 true] (okc c1245 ok0) <|
    .ask (gidx p_l (IntKind.wrap .i64 (v1237 - 1))) fun x1246 h1247 =>
    .say [.row (lfI x1246)] (okc (gidx_ok (fun _ => rfl) h1247 : (0 : Int) ≤ (IntKind.wrap .i64 (v1237 - 1)) ∧ (p_l.map lfI)[(IntKind.wrap .i64 (v1237 - 1)).toNat]? = some (lfI x1246)) ok0) <|
    .ask (gidx p_l v1237) fun x1248 h1249 =>
    .say [.row (lfI x1248)] (okc (gidx_ok (fun _ => rfl) h1249 : (0 : Int) ≤ v1237 ∧ (p_l.map lfI)[v1237.toNat]? = some (lfI x1248)) ok0) <|
    .ret ⟨[], [0, 3, 37], [], 0⟩ (decide ((x1248 : Int) ≤ x1246))) fun c1245 =>
  .say [.gd 10015 false] (okc c1245 ok0) <|
  .ret ⟨[], [0, 3, 37], [], 0⟩ (false)
noncomputable def M_docstoreref54_shards_J0 (p_l : List Int) (v1237 : Int) : Option ((Bool)) := Mo.den (M_docstoreref54_shards_J0_T p_l v1237)
noncomputable def M_docstoreref54_shards_J0_X (r_ : (Bool)) : Exit := .normal
noncomputable def M_docstoreref54_shards_J0_S (p_l : List Int) (v1237 : Int) (r_ : (Bool)) : St := ⟨[(0, .lf (.rows 1 (p_l.map lfI))), (3, .lf (.int .i64 v1237)), (37, .lf (.bool r_))], []⟩
set_option maxRecDepth 20000 in
set_option maxHeartbeats 4000000 in
theorem M_docstoreref54_shards_J0_W {p_l : List Int} {v1237 : Int} {r_ : (Bool)} (h : M_docstoreref54_shards_J0 p_l v1237 = some r_) : AWa Tryd.prog GI TTc Tryd.f25.ntmps (Code.sub (bodyC Tryd.f25) [1, 0, 1, 0, 0, 1, 0, 0, 0]) (M_docstoreref54_shards_J0_X r_) (M_docstoreref54_shards_J0_S p_l v1237 r_) ⟨[(0, .lf (.rows 1 (p_l.map lfI))), (3, .lf (.int .i64 v1237))], []⟩ :=
  part_T BaseK (M_docstoreref54_shards_J0_T p_l v1237) M_docstoreref54_shards_J0_X (M_docstoreref54_shards_J0_S p_l v1237) (by kernel_rfl) h
set_option maxRecDepth 20000 in
set_option maxHeartbeats 4000000 in
noncomputable def M_docstoreref54_shards_L5_T (p_l : List Int) : (Int) → Mo ((Int) ⊕ (Unit ⊕ Unit)) := fun (v1237) =>
  .say [.num p_l.length] (okc (by simp : p_l.length = (p_l.map lfI).length) ok0) <|
  .ite (decide ((v1237 : Int) < (p_l.length : Int))) (fun c1238 =>
    .say [.br true] (okc c1238 ok0) <|
    .ask (M_docstoreref54_shards_J0 p_l v1237) fun r1251 h1252 =>
    .say [.part [] 15 [0, 3] 0 (M_docstoreref54_shards_J0_X r1251) (M_docstoreref54_shards_J0_S p_l v1237 r1251).T (M_docstoreref54_shards_J0_S p_l v1237 r1251).H] (okc (M_docstoreref54_shards_J0_W h1252) ok0) <|
    .ite (r1251) (fun c1253 =>
      .say [.br true] (okc c1253 ok0) <|
      .ret ⟨[], [2], [], 0⟩ (.inr (.inl ()))) fun c1253 =>
    .say [.br false] (okc c1253 ok0) <|
    .ret ⟨[], [0, 3], [], 0⟩ (.inl (IntKind.wrap .i64 (v1237 + 1)))) fun c1238 =>
  .say [.br false] (okc c1238 ok0) <|
  .ret ⟨[], [0], [], 0⟩ (.inr (.inr (())))
noncomputable def M_docstoreref54_shards_L5 (p_l : List Int) (v1237 : Int) : Option (Unit ⊕ Unit) := loopM (fun v_ => (M_docstoreref54_shards_L5_T p_l v_).den) FU (v1237)
noncomputable def M_docstoreref54_shards_L5_H (p_l : List Int) : (Int) → St := fun (v1237) => ⟨[(0, .lf (.rows 1 (p_l.map lfI))), (3, .lf (.int .i64 v1237))], []⟩
noncomputable def M_docstoreref54_shards_L5_X (r_ : Unit ⊕ Unit) : Exit := match r_ with
  | .inl o_ => .ret
  | .inr (o_) => .exit 0
noncomputable def M_docstoreref54_shards_L5_S (p_l : List Int) (r_ : Unit ⊕ Unit) : St := match r_ with
  | .inl o_ => ⟨[(2, .lf (.bool false))], []⟩
  | .inr (o_) => ⟨[(0, .lf (.rows 1 (p_l.map lfI)))], []⟩
set_option maxRecDepth 20000 in
set_option maxHeartbeats 4000000 in
theorem M_docstoreref54_shards_L5_W {p_l : List Int} {v1237 : Int} {r_ : Unit ⊕ Unit} (h : M_docstoreref54_shards_L5 p_l v1237 = some r_) : AWa Tryd.prog GI TTc Tryd.f25.ntmps (Code.sub (bodyC Tryd.f25) [1, 0, 1, 0]) (M_docstoreref54_shards_L5_X r_) (M_docstoreref54_shards_L5_S p_l r_) (M_docstoreref54_shards_L5_H p_l (v1237)) :=
  loop_T BaseK (body := (Code.sub (bodyC Tryd.f25) [1, 0, 1, 0, 0])) (by kernel_rfl) (M_docstoreref54_shards_L5_T p_l) (M_docstoreref54_shards_L5_H p_l) M_docstoreref54_shards_L5_X (M_docstoreref54_shards_L5_S p_l) (fun r_ => by rcases r_ with _ | _ <;> rfl) (fun v_ => by kernel_rfl) h
set_option maxRecDepth 20000 in
set_option maxHeartbeats 4000000 in
noncomputable def M_docstoreref54_shards_T (p_l : List Int) : Mo (Bool) :=
  .ask2 (M_docstoreref54_shards_L5 p_l 0) (fun o1256 h1255 =>
    .say [.part [] 0 [0, 3] 0 (M_docstoreref54_shards_L5_X (.inl o1256)) (M_docstoreref54_shards_L5_S p_l (.inl o1256)).T (M_docstoreref54_shards_L5_S p_l (.inl o1256)).H] (okc (M_docstoreref54_shards_L5_W h1255) ok0) <|
    .ret fit0 (false)) fun o1257 h1255 =>
  .say [.part [] 0 [0, 3] 0 (M_docstoreref54_shards_L5_X (.inr (o1257))) (M_docstoreref54_shards_L5_S p_l (.inr (o1257))).T (M_docstoreref54_shards_L5_S p_l (.inr (o1257))).H, .num p_l.length] (okc (M_docstoreref54_shards_L5_W h1255) (okc (by simp : p_l.length = (p_l.map lfI).length) ok0)) <|
  .ret fit0 (decide ((0 : Int) < (p_l.length : Int)))
noncomputable def M_docstoreref54_shards (p_l : List Int) : Option (Bool) := Mo.den (M_docstoreref54_shards_T p_l)
set_option maxRecDepth 20000 in
set_option maxHeartbeats 4000000 in
theorem M_docstoreref54_shards_ok (p_l : List Int) (r : Bool) (h : M_docstoreref54_shards p_l = some r) : Fn Tryd.prog GI 25 [.lf (.rows 1 (p_l.map lfI))] (.lf (.bool r)) :=
  fn_T BaseK Tryd.func25 (by kernel_rfl) (by kernel_rfl) (by kernel_rfl) (by kernel_rfl) (M_docstoreref54_shards_T p_l) (fun r => [.lf (.bool r)]) (by kernel_rfl) h
set_option maxRecDepth 20000 in
set_option maxHeartbeats 4000000 in
noncomputable def M_docstoreref54_fresh_L0_T (p_id : ByteArray) (p_l : List Int) : (Int × (List Int) × (List Int) × (List Bool)) → Mo ((Int × (List Int) × (List Int) × (List Bool)) ⊕ ((List Int) × (List Int) × (List Bool))) := fun (v1386, l1387, l1388, l1389) =>
  .say [.num p_l.length] (okc (by simp : p_l.length = (p_l.map lfI).length) ok0) <|
  .ite (decide ((v1386 : Int) < (p_l.length : Int))) (fun c1390 =>
    .say [.br true, .order [(true, 0), (true, 1), (true, 2), (true, 3), (true, 4), (true, 5), (false, 6), (false, 7), (true, 8), (false, 9)] (some 9) [2, 5, 6]] (okc c1390 ok0) <|
    .ask (gidx p_l v1386) fun x1391 h1392 =>
    .say [.row (lfI x1391), .rows ((l1387 ++ [x1391]).map lfI), .rows ((l1388 ++ [0]).map lfI), .rows ((l1389 ++ [false]).map lfB)] (okc (gidx_ok (fun _ => rfl) h1392 : (0 : Int) ≤ v1386 ∧ (p_l.map lfI)[v1386.toNat]? = some (lfI x1391)) (okc (by simp [lfI, lfK] : (l1387 ++ [x1391]).map lfI = (l1387.map lfI) ++ [(lfI x1391)]) ok0)) <|
    .grd ((l1387.length + [x1391].length) * 8 ≤ 140737488355328) fun h1393 =>
    .say [] (okc (by simpa using h1393 : ((l1387.map lfI).length + [(lfI x1391)].length) * 8 ≤ 140737488355328) (okc (by simp [lfI, lfK] : (l1388 ++ [0]).map lfI = (l1388.map lfI) ++ [(lfI 0)]) ok0)) <|
    .grd ((l1388.length + [0].length) * 8 ≤ 140737488355328) fun h1394 =>
    .say [] (okc (by simpa using h1394 : ((l1388.map lfI).length + [(lfI 0)].length) * 8 ≤ 140737488355328) (okc (by simp [lfB] : (l1389 ++ [false]).map lfB = (l1389.map lfB) ++ [(lfB false)]) ok0)) <|
    .grd ((l1389.length + [false].length) * 1 ≤ 140737488355328) fun h1395 =>
    .say [] (okc (by simpa using h1395 : ((l1389.map lfB).length + [(lfB false)].length) * 1 ≤ 140737488355328) ok0) <|
    .ret ⟨[], [1, 4, 5, 6], [(6, 2), (8, 3), (10, 4)], 5⟩ (.inl (IntKind.wrap .i64 (v1386 + 1), l1387 ++ [x1391], l1388 ++ [0], l1389 ++ [false]))) fun c1390 =>
  .say [.br false] (okc c1390 ok0) <|
  .ret ⟨[], [4, 5], [], 5⟩ (.inr (l1387, l1388, l1389))
noncomputable def M_docstoreref54_fresh_L0 (p_id : ByteArray) (p_l : List Int) (v1386 : Int) (l1387 : List Int) (l1388 : List Int) (l1389 : List Bool) : Option (((List Int) × (List Int) × (List Bool))) := loopM (fun v_ => (M_docstoreref54_fresh_L0_T p_id p_l v_).den) FU (v1386, l1387, l1388, l1389)
noncomputable def M_docstoreref54_fresh_L0_H (p_id : ByteArray) (p_l : List Int) : (Int × (List Int) × (List Int) × (List Bool)) → St := fun (v1386, l1387, l1388, l1389) => ⟨[(1, .lf (.rows 1 (p_l.map lfI))), (4, .ptr 0 0), (5, .ptr 1 0), (6, .lf (.int .i64 v1386))], [.box 27 (Z27), .box 27 (.agg [.lf (.str p_id), .own 2, .own 3, .lf (.int .i64 1), .lf (.int .i64 0), .own 4]), .row 3 1 (l1387.map lfI), .row 3 1 (l1388.map lfI), .row 4 1 (l1389.map lfB)]⟩
noncomputable def M_docstoreref54_fresh_L0_X (r_ : ((List Int) × (List Int) × (List Bool))) : Exit := .exit 0
noncomputable def M_docstoreref54_fresh_L0_S (p_id : ByteArray) (r_ : ((List Int) × (List Int) × (List Bool))) : St := ⟨[(4, .ptr 0 0), (5, .ptr 1 0)], [.box 27 (Z27), .box 27 (.agg [.lf (.str p_id), .own 2, .own 3, .lf (.int .i64 1), .lf (.int .i64 0), .own 4]), .row 3 1 (r_.1.map lfI), .row 3 1 (r_.2.1.map lfI), .row 4 1 (r_.2.2.map lfB)]⟩
set_option maxRecDepth 20000 in
set_option maxHeartbeats 4000000 in
theorem M_docstoreref54_fresh_L0_W {p_id : ByteArray} {p_l : List Int} {v1386 : Int} {l1387 : List Int} {l1388 : List Int} {l1389 : List Bool} {r_ : ((List Int) × (List Int) × (List Bool))} (h : M_docstoreref54_fresh_L0 p_id p_l v1386 l1387 l1388 l1389 = some r_) : AWa Tryd.prog GI TTc Tryd.f26.ntmps (Code.sub (bodyC Tryd.f26) [1, 1, 0, 1, 0]) (M_docstoreref54_fresh_L0_X r_) (M_docstoreref54_fresh_L0_S p_id r_) (M_docstoreref54_fresh_L0_H p_id p_l (v1386, l1387, l1388, l1389)) :=
  loop_T BaseK (body := (Code.sub (bodyC Tryd.f26) [1, 1, 0, 1, 0, 0])) (by kernel_rfl) (M_docstoreref54_fresh_L0_T p_id p_l) (M_docstoreref54_fresh_L0_H p_id p_l) M_docstoreref54_fresh_L0_X (M_docstoreref54_fresh_L0_S p_id) (fun r_ => rfl) (fun v_ => by kernel_rfl) h
set_option maxRecDepth 20000 in
set_option maxHeartbeats 4000000 in
noncomputable def M_docstoreref54_fresh_T (p_id : ByteArray) (p_l : List Int) : Mo (GDecision) :=
  .say [] (okc (by simp [lfI, lfK] : (([] : List Int).map lfI) = []) (okc (by simp [lfI, lfK] : (([] : List Int).map lfI) = []) (okc (by simp [lfB] : (([] : List Bool).map lfB) = []) ok0))) <|
  .ask (M_docstoreref54_fresh_L0 p_id p_l 0 ([] : List Int) ([] : List Int) ([] : List Bool)) fun r1399 h1400 =>
  .say [.part [.brow 1 1 3, .brow 1 2 3, .brow 1 5 4, .rerow 2 (([] : List Int).map lfI), .rerow 3 (([] : List Int).map lfI), .rerow 4 (([] : List Bool).map lfB)] 0 [1, 4, 5, 6] 5 (M_docstoreref54_fresh_L0_X r1399) (M_docstoreref54_fresh_L0_S p_id r1399).T (M_docstoreref54_fresh_L0_S p_id r1399).H, .at_ 0 0, .frz 2, .frz 3, .frz 4] (okc (M_docstoreref54_fresh_L0_W h1400) (okc (fun _ h => h : ∀ g : Nat, ¬ (fun _ : Nat => False) g) (okc (fun _ h => h : ∀ g : Nat, ¬ (fun _ : Nat => False) g) (okc (fun _ h => h : ∀ g : Nat, ¬ (fun _ : Nat => False) g) ok0)))) <|
  .ret fit0 (GDecision.mk p_id r1399.1 r1399.2.1 1 0 r1399.2.2)
noncomputable def M_docstoreref54_fresh (p_id : ByteArray) (p_l : List Int) : Option (GDecision) := Mo.den (M_docstoreref54_fresh_T p_id p_l)
set_option maxRecDepth 20000 in
set_option maxHeartbeats 4000000 in
theorem M_docstoreref54_fresh_ok (p_id : ByteArray) (p_l : List Int) (r : GDecision) (h : M_docstoreref54_fresh p_id p_l = some r) : Fn Tryd.prog GI 26 [.lf (.str p_id), .lf (.rows 1 (p_l.map lfI))] (.dat (GDecision.lf1 r)) :=
  fn_T BaseK Tryd.func26 (by kernel_rfl) (by kernel_rfl) (by kernel_rfl) (by kernel_rfl) (M_docstoreref54_fresh_T p_id p_l) (fun r => [.dat (GDecision.lf1 r)]) (by kernel_rfl) h
set_option maxRecDepth 20000 in
set_option maxHeartbeats 4000000 in
noncomputable def M_docstoreref54_Start_T (p_id : ByteArray) (p_l : List Int) : Mo (GDecision × Int) :=
  .ask (M_docstoreref01_Name p_id) fun r1403 h1404 =>
  .say [.res (.lf (.bool r1403))] (okc (M_docstoreref01_Name_ok _ _ h1404) ok0) <|
  .ite (!r1403) (fun c1406 =>
    .say [.br true] (okc c1406 ok0) <|
    .ret fit0 (GDecision.z, 9)) fun c1406 =>
  .say [.br false] (okc c1406 ok0) <|
  .ask (M_docstoreref54_shards p_l) fun r1409 h1410 =>
  .say [.res (.lf (.bool r1409))] (okc (M_docstoreref54_shards_ok _ _ h1410) ok0) <|
  .ite (!r1409) (fun c1412 =>
    .say [.br true] (okc c1412 ok0) <|
    .ret fit0 (GDecision.z, 1)) fun c1412 =>
  .say [.br false] (okc c1412 ok0) <|
  .ask (M_docstoreref54_fresh p_id p_l) fun r1413 h1414 =>
  .say [.res (.dat (GDecision.lf1 r1413))] (okc (M_docstoreref54_fresh_ok _ _ _ h1414) ok0) <|
  .ret fit0 (r1413, 0)
noncomputable def M_docstoreref54_Start (p_id : ByteArray) (p_l : List Int) : Option (GDecision × Int) := Mo.den (M_docstoreref54_Start_T p_id p_l)
set_option maxRecDepth 20000 in
set_option maxHeartbeats 4000000 in
theorem M_docstoreref54_Start_ok (p_id : ByteArray) (p_l : List Int) (r : GDecision × Int) (h : M_docstoreref54_Start p_id p_l = some r) : Fn Tryd.prog GI 13 [.lf (.str p_id), .lf (.rows 1 (p_l.map lfI))] (.tup [.dat (GDecision.lf1 r.1), .lf (.int .i64 r.2)]) :=
  fn_T BaseK Tryd.func13 (by kernel_rfl) (by kernel_rfl) (by kernel_rfl) (by kernel_rfl) (M_docstoreref54_Start_T p_id p_l) (fun r => [.dat (GDecision.lf1 r.1), .lf (.int .i64 r.2)]) (by kernel_rfl) h
end Go.Proofs.YtplokbmdcfakbaaDoor
set_option linter.unusedSimpArgs false
set_option linter.unusedVariables false
namespace Go.Proofs.YtplokbmdcfakbaaDoor
open Go.RowKit
theorem Index_int_val (l : List Int) (v : Int) (h : l.length ≤ 1000000000) : M_slices_Index_int l v = some (ix v l 0) := by
  unfold M_slices_Index_int M_slices_Index_int_T M_slices_Index_int_L0 M_slices_Index_int_L0_T
  simp only [Mo.den, sbind2_eq, bcase_eq, sbind_eq]
  refine for_bind l.length h (fun n k => k = n ∧ ∀ i, i < n → l[i]? ≠ some v) (fun r => match r with | .inl i => i = ix v l 0 | .inr _ => ix v l 0 = -1) ⟨rfl, by omega⟩ ?_ ?_ ?_
  · rintro n k hl ⟨rfl, hv⟩
    simp only [iLt hl, cond_true, gidx_nat, List.getElem?_eq_getElem hl, Option.bind_some]
    by_cases hq : v = l[n]
    · right
      refine ⟨.inl n, by simp [← hq], ?_⟩
      show (n : Int) = _
      rw [ix_at (j := n) (by rw [List.getElem?_eq_getElem hl, ← hq]) hv, Int.zero_add]
    · left
      refine ⟨_, by rw [show (v == l[n]) = false by simpa using hq]; simp only [cond_false], inc n (by omega), fun i hi => ?_⟩
      rcases Nat.lt_succ_iff_lt_or_eq.1 hi with h3 | rfl
      · exact hv i h3
      · rw [List.getElem?_eq_getElem hl]; intro h3; injection h3 with h3; exact hq h3.symm
  · rintro k ⟨rfl, hv⟩
    refine ⟨.inr (), by simp only [iNlt (Nat.lt_irrefl _), cond_false], ix_none fun hm => ?_⟩
    obtain ⟨i, hi⟩ := List.mem_iff_getElem?.1 hm
    exact hv i (by have := (List.getElem?_eq_some_iff.1 hi).1; omega) hi
  · rintro (i | u) h2
    · exact congrArg some h2
    · exact congrArg some h2.symm
theorem Index_bool_val (l : List Bool) (v : Bool) (h : l.length ≤ 1000000000) : M_slices_Index_bool l v = some (ix v l 0) := by
  unfold M_slices_Index_bool M_slices_Index_bool_T M_slices_Index_bool_L0 M_slices_Index_bool_L0_T
  simp only [Mo.den, sbind2_eq, bcase_eq, sbind_eq]
  refine for_bind l.length h (fun n k => k = n ∧ ∀ i, i < n → l[i]? ≠ some v) (fun r => match r with | .inl i => i = ix v l 0 | .inr _ => ix v l 0 = -1) ⟨rfl, by omega⟩ ?_ ?_ ?_
  · rintro n k hl ⟨rfl, hv⟩
    simp only [iLt hl, cond_true, gidx_nat, List.getElem?_eq_getElem hl, Option.bind_some]
    by_cases hq : v = l[n]
    · right
      refine ⟨.inl n, by simp [← hq], ?_⟩
      show (n : Int) = _
      rw [ix_at (j := n) (by rw [List.getElem?_eq_getElem hl, ← hq]) hv, Int.zero_add]
    · left
      refine ⟨_, by rw [show (v == l[n]) = false by simpa using hq]; simp only [cond_false], inc n (by omega), fun i hi => ?_⟩
      rcases Nat.lt_succ_iff_lt_or_eq.1 hi with h3 | rfl
      · exact hv i h3
      · rw [List.getElem?_eq_getElem hl]; intro h3; injection h3 with h3; exact hq h3.symm
  · rintro k ⟨rfl, hv⟩
    refine ⟨.inr (), by simp only [iNlt (Nat.lt_irrefl _), cond_false], ix_none fun hm => ?_⟩
    obtain ⟨i, hi⟩ := List.mem_iff_getElem?.1 hm
    exact hv i (by have := (List.getElem?_eq_some_iff.1 hi).1; omega) hi
  · rintro (i | u) h2
    · exact congrArg some h2
    · exact congrArg some h2.symm
theorem Contains_int_val (l : List Int) (v : Int) (h : l.length ≤ 1000000000) : M_slices_Contains_int l v = some (decide (v ∈ l)) := by
  unfold M_slices_Contains_int M_slices_Contains_int_T
  simp only [Mo.den, sbind_eq, Index_int_val l v h, Option.bind_some, ix_nonneg]
theorem Contains_bool_val (l : List Bool) (v : Bool) (h : l.length ≤ 1000000000) : M_slices_Contains_bool l v = some (decide (v ∈ l)) := by
  unfold M_slices_Contains_bool M_slices_Contains_bool_T
  simp only [Mo.den, sbind_eq, Index_bool_val l v h, Option.bind_some, ix_nonneg]
theorem CloneI_val (l : List Int) (h : l.length ≤ 1000000) : M_slices_Clone_int l = some l := by unfold M_slices_Clone_int; rw [if_pos (by omega)]
theorem CloneB_val (l : List Bool) (h : l.length ≤ 1000000) : M_slices_Clone_bool l = some l := by unfold M_slices_Clone_bool; rw [if_pos (by omega)]
/-- the lists are short -/
structure Sm (d : GDecision) : Prop where
  id : d.fID.size ≤ 10000000
  sh : d.fShards.length ≤ 1000000
  vo : d.fVotes.length ≤ 1000000
  ak : d.fAcked.length ≤ 1000000
theorem copied_val (d : GDecision) (h : Sm d) : M_twophase_copied d = some d := by
  unfold M_twophase_copied M_twophase_copied_T
  simp only [Mo.den, sbind_eq, CloneI_val _ h.sh, CloneI_val _ h.vo, CloneB_val _ h.ak, Option.bind_some]
/-- a list of shards -/
def shP (l : List Int) : Prop := ∀ (j : Nat) (x : Int), l[j]? = some x → 0 ≤ x ∧ x < 8 ∧ ∀ y, j ≠ 0 → l[j - 1]? = some y → y < x
theorem shP_lt {l : List Int} (h : shP l) : ∀ (d i : Nat) (x y : Int), l[i]? = some x → l[i + d + 1]? = some y → x < y
  | 0, i, x, y, hx, hy => (h (i + 1) y hy).2.2 x (by omega) hx
  | d + 1, i, x, y, hx, hy => by
    have hl : i + d + 1 < l.length := by have := (List.getElem?_eq_some_iff.1 hy).1; omega
    have h1 := shP_lt h d i x _ hx (List.getElem?_eq_getElem hl)
    have h2 := (h (i + (d + 1) + 1) y hy).2.2 (l[i + d + 1]) (by omega) (by simp only [show i + (d + 1) + 1 - 1 = i + d + 1 by omega]; exact List.getElem?_eq_getElem hl)
    omega
theorem shP_inj {l : List Int} (h : shP l) {i j : Nat} {x : Int} (hi : l[i]? = some x) (hj : l[j]? = some x) : i = j := by
  rcases Nat.lt_trichotomy i j with hl | rfl | hl
  · have := shP_lt h (j - i - 1) i x x hi (by rw [show i + (j - i - 1) + 1 = j by omega]; exact hj); omega
  · rfl
  · have := shP_lt h (i - j - 1) j x x hj (by rw [show j + (i - j - 1) + 1 = i by omega]; exact hi); omega
theorem shP_ix {l : List Int} (h : shP l) {i : Nat} {x : Int} (hi : l[i]? = some x) : ix x l 0 = i := by
  rw [ix_at (j := i) hi (fun j hj hx => by have := shP_inj h hi hx; omega)]; omega
def frsh (id : ByteArray) (l : List Int) : GDecision := ⟨id, l, List.replicate l.length 0, 1, 0, List.replicate l.length false⟩
open Classical in
noncomputable def startS (id : ByteArray) (l : List Int) : GDecision × Int :=
  if nameB id = false then (GDecision.z, 9) else if l ≠ [] ∧ shP l then (frsh id l, 0) else (GDecision.z, 1)
theorem Start_val (id : ByteArray) (l : List Int) (hl : l.length ≤ 1000000) : M_twophase_Start id l = some (startS id l) := by
  unfold M_twophase_Start M_twophase_Start_T M_twophase_Start_L5 M_twophase_Start_L5_T M_twophase_Start_J0 M_twophase_Start_J0_T M_twophase_named startS
  simp only [Mo.den, sbind2_eq, bcase_eq, sbind_eq, gcase_eq, Option.bind_some]
  cases nameB id with
  | false => rfl
  | true =>
    simp only [Bool.not_true, cond_false, Bool.true_eq_false, if_false]
    by_cases h0 : l = []
    · subst h0; rfl
    have h1 : ((l.length : Int) == 0) = false := by
      have : l.length ≠ 0 := fun h => h0 (List.length_eq_zero_iff.1 h)
      simpa using this
    rw [h1]; simp only [cond_false]
    refine for_bind l.length (by omega) (fun n k => k = n ∧ ∀ (j : Nat) (x : Int), j < n → l[j]? = some x → 0 ≤ x ∧ x < 8 ∧ ∀ y, j ≠ 0 → l[j - 1]? = some y → y < x)
      (fun r => match r with | .inl _ => ¬ shP l | .inr _ => shP l) ⟨rfl, by omega⟩ ?_ ?_ ?_
    · rintro n k hn ⟨rfl, hv⟩
      simp only [iLt hn, cond_true, gidx_nat, List.getElem?_eq_getElem hn, Option.bind_some]
      have e0 : l[n]? = some l[n] := List.getElem?_eq_getElem hn
      have bad : ¬ (0 ≤ l[n] ∧ l[n] < 8 ∧ ∀ y, n ≠ 0 → l[n - 1]? = some y → y < l[n]) → ¬ shP l := fun h hs => h (hs n _ e0)
      by_cases a1 : l[n] < 0
      · rw [decide_eq_true a1]; right; exact ⟨_, rfl, bad (by omega)⟩
      rw [decide_eq_false a1]; simp only [cond_false]
      by_cases a2 : 8 ≤ l[n]
      · rw [decide_eq_true a2]; right; exact ⟨_, rfl, bad (by omega)⟩
      rw [decide_eq_false a2]; simp only [cond_false]
      rcases n with _ | n
      · left
        refine ⟨_, rfl, inc 0 (by omega), fun j x hj hx => ?_⟩
        obtain rfl : j = 0 := by omega
        rw [e0] at hx; injection hx with hx; subst hx
        exact ⟨by omega, by omega, fun y h => absurd rfl h⟩
      · have e1 : IntKind.wrap .i64 (((n + 1 : Nat) : Int) - 1) = (n : Int) := by rw [w64 (by omega) (by omega)]; omega
        have e2 : l[n]? = some l[n] := List.getElem?_eq_getElem (by omega)
        rw [decide_eq_true (show (0 : Int) < ((n + 1 : Nat) : Int) by omega)]; simp only [cond_true]
        rw [e1, gidx_nat, e2]
        simp only [Option.bind_some]
        by_cases a3 : l[n + 1] ≤ l[n]
        · rw [decide_eq_true a3]; right
          exact ⟨_, rfl, bad (fun h => by have := h.2.2 l[n] (by omega) (by simp [e2]); omega)⟩
        · rw [decide_eq_false a3]; left
          refine ⟨_, rfl, inc (n + 1) (by omega), fun j x hj hx => ?_⟩
          rcases Nat.lt_succ_iff_lt_or_eq.1 hj with h3 | rfl
          · exact hv j x h3 hx
          · rw [e0] at hx; injection hx with hx; subst hx
            refine ⟨by omega, by omega, fun y _ hy => ?_⟩
            rw [show n + 1 - 1 = n by omega, e2] at hy; injection hy with hy; omega
    · rintro k ⟨rfl, hv⟩
      exact ⟨.inr (), by simp only [iNlt (Nat.lt_irrefl _), cond_false], fun j x hx => hv j x (List.getElem?_eq_some_iff.1 hx).1 hx⟩
    · rintro (u | u) h2
      · have h2 : ¬ shP l := h2
        simp only [h2, and_false, if_false]
      · have h2 : shP l := h2
        simp only [CloneI_val l hl, Option.bind_some]
        rw [if_pos (by unfold maxLen; omega), if_pos (by unfold maxLen; omega), if_pos ⟨h0, h2⟩]
        simp only [Int.toNat_natCast]; rfl
end Go.Proofs.YtplokbmdcfakbaaDoor
set_option linter.unusedSimpArgs false
set_option linter.unusedVariables false
namespace Go.Proofs.YtplokbmdcfakbaaDoor
open Go.RowKit
theorem idxOf_ix {α : Type} [DecidableEq α] (x : α) : ∀ (l : List α) (j : Nat), idxOf x l j = ix x l j
  | [], _ => rfl
  | y :: r, j => by unfold idxOf ix; rw [idxOf_ix x r (j + 1)]; rfl
noncomputable def voteS (d : GDecision) (s p : Int) : GDecision × Int :=
  if ix s d.fShards 0 < 0 ∨ (p ≠ -1 ∧ (p < 1 ∨ 1099511627776 < p)) then (GDecision.z, 1) else if d.fState ≠ 1 ∨ d.fVotes[(ix s d.fShards 0).toNat]? ≠ some 0 then (GDecision.z, 23)
  else (d.sVotes (d.fVotes.set (ix s d.fShards 0).toNat p), 0)
noncomputable def ackS (d : GDecision) (s : Int) : GDecision × Int :=
  if ix s d.fShards 0 < 0 then (GDecision.z, 1) else if d.fState = 1 then (GDecision.z, 23) else (d.sAcked (d.fAcked.set (ix s d.fShards 0).toNat true), 0)
theorem Sm.d {d : GDecision} (h : Sm d) : smallD d := ⟨by have := h.id; omega, by have := h.sh; omega, by have := h.vo; omega, by have := h.ak; omega⟩
theorem Vote_val (d : GDecision) (s p : Int) (h : Sm d) : M_twophase_Vote d s p = some (voteS d s p) := by
  have e0 := idxOf_ix s d.fShards 0
  unfold M_twophase_Vote voteE voteS toDec
  rw [if_pos h.d]
  simp only [e0]
  simp only [Int.ofNat_zero, show ((0 : Nat) : Int) = 0 from rfl]
  split
  · rfl
  · split
    · rfl
    · rfl
theorem Ack_val (d : GDecision) (s : Int) (h : Sm d) : M_twophase_Ack d s = some (ackS d s) := by
  have e0 := idxOf_ix s d.fShards 0
  unfold M_twophase_Ack ackE ackS toDec
  rw [if_pos h.d]
  simp only [e0]
  simp only [show ((0 : Nat) : Int) = 0 from rfl]
  split
  · rfl
  · split
    · rfl
    · rfl
theorem Over_val (d : GDecision) (h : Sm d) : M_twophase_Over d = some (!(d.fState == 1) && !decide (false ∈ d.fAcked)) := by
  unfold M_twophase_Over M_twophase_Over_T
  simp only [Mo.den, bcase_eq, sbind_eq, Contains_bool_val _ _ (show d.fAcked.length ≤ 1000000000 by have := h.ak; omega), Option.bind_some]
  by_cases hs : d.fState = 1
  · simp [hs]
  · have h1 : (d.fState != 1) = true := by simp [hs]
    have h2 : (d.fState == 1) = false := by simp [hs]
    rw [h1, h2]; simp
def mxs (l : List Int) : Int := l.foldl (fun c a => if a > c then a else c) 0
theorem mxs_take (l : List Int) (k : Nat) (h : k < l.length) : mxs (l.take (k + 1)) = (if l[k] > mxs (l.take k) then l[k] else mxs (l.take k)) := by
  unfold mxs; rw [List.take_succ_eq_append_getElem h, List.foldl_append]; rfl
noncomputable def decS (d : GDecision) : GDecision × GWrite × Int :=
  if d.fState ≠ 1 ∨ (-1 ∉ d.fVotes ∧ 0 ∈ d.fVotes) then (GDecision.z, GWrite.z, 23)
  else let d' := if -1 ∈ d.fVotes then (d.sState 4).sCommit 0 else (d.sState 3).sCommit (mxs d.fVotes)
    (d', (((GWrite.z.sKind 12).sTxn d'.fID).sStamp d'.fCommit).sShards d'.fShards, 0)
theorem Decide_val (d : GDecision) (h : Sm d) : M_twophase_Decide d = some (decS d) := by
  have hv := h.vo
  unfold M_twophase_Decide M_twophase_Decide_T M_twophase_Decide_L5 M_twophase_Decide_L5_T M_twophase_Decide_J0 M_twophase_Decide_J0_T M_twophase_Decide_J11 M_twophase_Decide_J11_T decS
  simp only [Mo.den, bcase_eq, sbind_eq, Contains_int_val _ _ (show d.fVotes.length ≤ 1000000000 by omega), Option.bind_some, copied_val d h]
  by_cases hs : d.fState = 1
  · by_cases hr : -1 ∈ d.fVotes
    · simp only [hs, hr, bne_self_eq_false, decide_true, Bool.not_true, cond_false, Option.bind_some, cond_true, not_true_eq_false, false_and, or_false, ne_eq, if_false, if_true]
      refine for_bind d.fVotes.length (by omega) (fun k v => v = (↑k, (d.sState 3).sCommit (mxs (d.fVotes.take k)))) (fun r => r = (d.sState 3).sCommit (mxs d.fVotes)) rfl ?_ ?_ ?_
      · rintro k v hk rfl
        left
        simp only [iLt hk, cond_true, gidx_nat, List.getElem?_eq_getElem hk, Option.bind_some]
        exact ⟨_, rfl, by rw [inc k (by omega), mxs_take _ _ hk]; rfl⟩
      · rintro v rfl
        exact ⟨_, by simp only [iNlt (Nat.lt_irrefl _), cond_false]; rfl, by rw [List.take_length]⟩
      · rintro r rfl
        rw [show (((d.sState 3).sCommit (mxs d.fVotes)).sState 4).sCommit 0 = (d.sState 4).sCommit 0 from rfl, show ((d.sState 4).sCommit 0).fShards = d.fShards from rfl, CloneI_val _ h.sh]; rfl
    · by_cases h0 : 0 ∈ d.fVotes
      · simp [hs, hr, h0]
      · simp only [hs, hr, h0, bne_self_eq_false, decide_false, Bool.not_false, cond_false, Option.bind_some, cond_true, not_true_eq_false, not_false_eq_true, and_false, or_false, ne_eq, if_false]
        refine for_bind d.fVotes.length (by omega) (fun k v => v = (↑k, (d.sState 3).sCommit (mxs (d.fVotes.take k)))) (fun r => r = (d.sState 3).sCommit (mxs d.fVotes)) rfl ?_ ?_ ?_
        · rintro k v hk rfl
          left
          simp only [iLt hk, cond_true, gidx_nat, List.getElem?_eq_getElem hk, Option.bind_some]
          exact ⟨_, rfl, by rw [inc k (by omega), mxs_take _ _ hk]; rfl⟩
        · rintro v rfl
          exact ⟨_, by simp only [iNlt (Nat.lt_irrefl _), cond_false]; rfl, by rw [List.take_length]⟩
        · rintro r rfl
          rw [show ((d.sState 3).sCommit (mxs d.fVotes)).fShards = d.fShards from rfl, CloneI_val _ h.sh]; rfl
  · have hs' : (d.fState != 1) = true := by simp [hs]
    rw [hs', if_pos (.inl hs)]; rfl
set_option maxRecDepth 100000 in
theorem awake_val : M_docstorelaw54_awake = some true := by kernel_rfl
/-- the first k have voted -/
def voK (n k : Nat) : List Int := (List.range n).map fun j => if j < k then ((1 + j : Nat) : Int) else 0
theorem voK_at {n k j : Nat} (h : j < n) : (voK n k)[j]? = some (if j < k then ((1 + j : Nat) : Int) else 0) := by
  unfold voK; rw [List.getElem?_map, List.getElem?_range h]; rfl
theorem voK_len (n k : Nat) : (voK n k).length = n := by unfold voK; simp
theorem voK_set {n k : Nat} (h : k < n) : (voK n k).set k ((1 + k : Nat) : Int) = voK n (k + 1) := by
  apply List.ext_getElem?
  intro j
  by_cases hj : j < n
  · rw [voK_at hj, List.getElem?_set]
    by_cases hk : k = j
    · subst hk; rw [if_pos rfl, if_pos (by rw [voK_len]; exact h), if_pos (by omega)]
    · rw [if_neg hk, voK_at hj]
      by_cases h1 : j < k
      · rw [if_pos h1, if_pos (by omega)]
      · rw [if_neg h1, if_neg (by omega)]
  · rw [List.getElem?_eq_none (by simp [voK_len]; omega), List.getElem?_eq_none (by simp [voK_len]; omega)]
theorem voK_zero (n : Nat) : voK n 0 = List.replicate n 0 := by
  apply List.ext_getElem?
  intro j
  by_cases hj : j < n
  · rw [voK_at hj, List.getElem?_replicate, if_pos hj]; rfl
  · rw [List.getElem?_eq_none (by simp [voK_len]; omega), List.getElem?_eq_none (by simp; omega)]
theorem voK_mem {n : Nat} {x : Int} (h : x ∈ voK n n) : 1 ≤ x := by
  unfold voK at h
  obtain ⟨j, hj, rfl⟩ := List.mem_map.1 h
  rw [if_pos (List.mem_range.1 hj)]; omega
def dV (id : ByteArray) (l : List Int) (k : Nat) : GDecision := ⟨id, l, voK l.length k, 1, 0, List.replicate l.length false⟩
def dA (id : ByteArray) (l : List Int) (ak : List Bool) : GDecision := ⟨id, l, voK l.length l.length, 3, mxs (voK l.length l.length), ak⟩
theorem ix_lt {l : List Int} {a : Int} (h : a ∉ l) : ix a l 0 = -1 := ix_none h
theorem member_val (l : List Int) (a : Int) (b : List Int) (f : Int) (hl : l.length ≤ 1000000) (hb : gidx b f = some a) :
    loopM (fun v_ : Bool × Int => bif decide (v_.snd < (l.length : Int)) then bif v_.fst then some (Sum.inl (true, IntKind.wrap .i64 (v_.snd + 1))) else (gidx l v_.snd).bind fun a => (gidx b f).bind fun a_3 => some (Sum.inl (a == a_3, IntKind.wrap .i64 (v_.snd + 1))) else some (Sum.inr v_.fst)) FU (false, 0) = some (decide (a ∈ l)) := by
  obtain ⟨r, h1, h2⟩ := for_post (T := fun v_ : Bool × Int => bif decide (v_.snd < (l.length : Int)) then bif v_.fst then some (Sum.inl (true, IntKind.wrap .i64 (v_.snd + 1))) else (gidx l v_.snd).bind fun a => (gidx b f).bind fun a_3 => some (Sum.inl (a == a_3, IntKind.wrap .i64 (v_.snd + 1))) else some (Sum.inr v_.fst)) (v0 := (false, 0))
    l.length (by omega) (fun k v => v = (decide (a ∈ l.take k), (k : Int))) (fun r => r = decide (a ∈ l)) (by simp) (by
      rintro k v hk rfl
      left
      simp only [iLt hk, cond_true, gidx_nat, List.getElem?_eq_getElem hk, Option.bind_some, hb, inc k (by omega)]
      have e1 : (a ∈ l.take (k + 1)) ↔ (a ∈ l.take k ∨ a = l[k]) := by rw [List.take_succ_eq_append_getElem hk, List.mem_append, List.mem_singleton]
      by_cases h1 : a ∈ l.take k
      · exact ⟨_, by simp only [h1, decide_true, cond_true]; rfl, by simp [e1, h1]⟩
      · refine ⟨_, by simp only [h1, decide_false, cond_false]; rfl, ?_⟩
        simp only [e1, h1, false_or, Prod.mk.injEq, and_true]
        by_cases h2 : a = l[k]
        · simp [h2]
        · simp [h2, Ne.symm h2]) (by
      rintro v rfl
      exact ⟨_, by simp only [iNlt (Nat.lt_irrefl _), cond_false]; rfl, by rw [List.take_length]⟩)
  rw [h1, h2]
theorem frsh_dV (id : ByteArray) (l : List Int) : frsh id l = dV id l 0 := by unfold frsh dV; rw [voK_zero]
theorem Sm.dV {id : ByteArray} {l : List Int} (hi : id.size ≤ 10000000) (hl : l.length ≤ 1000000) (k : Nat) : Sm (dV id l k) := ⟨hi, hl, by show (voK l.length k).length ≤ _; rw [voK_len]; exact hl, by show (List.replicate l.length false).length ≤ _; simp; exact hl⟩
theorem Sm.dA {id : ByteArray} {l : List Int} {ak : List Bool} (hi : id.size ≤ 10000000) (hl : l.length ≤ 1000000) (ha : ak.length = l.length) : Sm (dA id l ak) := ⟨hi, hl, by show (voK l.length l.length).length ≤ _; rw [voK_len]; exact hl, by show ak.length ≤ _; omega⟩
theorem over_law (id : ByteArray) (l acks : List Int) (hi : id.size ≤ 10000000) : M_docstorelaw54_TwophaseOver id l acks = some true := by
  unfold M_docstorelaw54_TwophaseOver M_docstorelaw54_TwophaseOver_T M_docstorelaw54_TwophaseOver_L15 M_docstorelaw54_TwophaseOver_L15_T M_docstorelaw54_TwophaseOver_L37 M_docstorelaw54_TwophaseOver_L37_T
    M_docstorelaw54_TwophaseOver_J0 M_docstorelaw54_TwophaseOver_J0_T M_docstorelaw54_TwophaseOver_J5 M_docstorelaw54_TwophaseOver_J5_T M_docstorelaw54_TwophaseOver_J10 M_docstorelaw54_TwophaseOver_J10_T
  simp only [Mo.den, sbind2_eq, sbind3_eq, bcase_eq, sbind_eq, gcase_eq]
  by_cases a1 : 20 < l.length
  · rw [decide_eq_true (show (20 : Int) < (l.length : Int) by omega)]; simp only [cond_true, Option.bind_some]; rw [awake_val]; rfl
  rw [decide_eq_false (show ¬ (20 : Int) < (l.length : Int) by omega)]; simp only [cond_false, Option.bind_some]
  by_cases a2 : 60 < acks.length
  · rw [decide_eq_true (show (60 : Int) < (acks.length : Int) by omega)]; simp only [cond_true]; rw [awake_val]; rfl
  rw [decide_eq_false (show ¬ (60 : Int) < (acks.length : Int) by omega)]; simp only [cond_false]
  rw [Start_val id l (by omega)]; simp only [Option.bind_some]
  unfold startS
  have bad : ∀ c : Int, c ≠ 0 → (bif (c != 0) then (bif decide (GDecision.z.fID = ⟨#[]⟩) then M_docstorelaw54_awake.bind some else some false).bind some else none) = some true := fun c hc => by
    rw [show (c != 0) = true by simpa using hc, awake_val]; rfl
  split
  · exact bad 9 (by decide)
  split
  rotate_left
  · exact bad 1 (by decide)
  rename_i hlP
  obtain ⟨hne, hP⟩ := hlP
  simp only [bne_self_eq_false, cond_false]
  rw [frsh_dV]
  refine for_bind l.length (by omega) (fun k v => v = (↑k, dV id l k)) (fun r => r = .inr (dV id l l.length)) rfl ?_ ?_ ?_
  · rintro k v hk rfl
    left
    have e0 : l[k]? = some l[k] := List.getElem?_eq_getElem hk
    have e1 : ix l[k] (dV id l k).fShards 0 = k := shP_ix hP e0
    have e2 : ackS (dV id l k) l[k] = (GDecision.z, 23) := by unfold ackS; rw [if_neg (by rw [e1]; omega), if_pos (show (dV id l k).fState = 1 from rfl)]
    have e3 : voteS (dV id l k) l[k] ((1 + k : Nat) : Int) = (dV id l (k + 1), 0) := by
      unfold voteS
      rw [if_neg (by rw [e1]; omega), e1, Int.toNat_natCast, show (dV id l k).fVotes = voK l.length k from rfl, voK_at hk, if_neg (Nat.lt_irrefl k), if_neg (by rintro (h | h) <;> exact h rfl), voK_set hk]; rfl
    have e4 : IntKind.wrap .i64 (1 + (k : Int)) = ((1 + k : Nat) : Int) := by rw [w64 (by omega) (by omega)]; omega
    have hS := Sm.dV hi (show l.length ≤ 1000000 by omega) k
    refine ⟨_, ?_, rfl⟩
    simp only [iLt hk, cond_true, gidx_nat, e0, Option.bind_some, Ack_val _ _ hS, e2, bne_self_eq_false, cond_false, Over_val _ hS, e4, Vote_val _ _ _ hS, e3, inc k (show k ≤ 1000000000 by omega)]
    rfl
  · rintro v rfl
    exact ⟨_, by simp only [iNlt (Nat.lt_irrefl _), cond_false] <;> rfl, rfl⟩
  rintro r rfl
  have hS := Sm.dV hi (show l.length ≤ 1000000 by omega) l.length
  have hd : decS (dV id l l.length) = (dA id l (List.replicate l.length false), (((GWrite.z.sKind 12).sTxn id).sStamp (mxs (voK l.length l.length))).sShards l, 0) := by
    have h1 : (-1 : Int) ∉ (dV id l l.length).fVotes := fun h => by have := voK_mem h; omega
    have h0 : (0 : Int) ∉ (dV id l l.length).fVotes := fun h => by have := voK_mem h; omega
    unfold decS
    rw [if_neg (by rintro (h | h); exact h rfl; exact h0 h.2)]
    simp only [if_neg h1]; rfl
  simp only [Decide_val _ hS, hd, Option.bind_some, bne_self_eq_false, cond_false]
  rw [if_pos (by decide)]
  refine for_bind acks.length (by omega) (fun k v => ∃ (ak seen : List Bool), v = (((ak.count false : Nat) : Int), ↑k, dA id l ak, seen) ∧ ak.length = l.length ∧ seen.length = 64 ∧ ∀ (j : Nat) (x : Int), l[j]? = some x → ak[j]? = seen[x.toNat]?) (fun r => r = .inr ())
    ⟨List.replicate l.length false, List.replicate (Int.toNat 64) false, by simp, by simp, by simp, fun j x hx => by
      have := hP j x hx
      rw [List.getElem?_replicate, List.getElem?_replicate, if_pos (List.getElem?_eq_some_iff.1 hx).1, if_pos (by omega)]⟩ ?_ ?_ ?_
  · rintro k v hk ⟨ak, seen, rfl, hal, hsl, hrel⟩
    left
    unfold M_docstorelaw54_TwophaseOver_J32 M_docstorelaw54_TwophaseOver_J32_T M_docstorelaw54_TwophaseOver_J27 M_docstorelaw54_TwophaseOver_J27_T M_docstorelaw54_TwophaseOver_L21 M_docstorelaw54_TwophaseOver_L21_T
    simp only [Mo.den, sbind2_eq, sbind3_eq, bcase_eq, sbind_eq, gcase_eq]
    have hS := Sm.dA (id := id) hi (show l.length ≤ 1000000 by omega) hal
    have e0 : acks[k]? = some acks[k] := List.getElem?_eq_getElem hk
    have hb : gidx acks (k : Int) = some acks[k] := by rw [gidx_nat]; exact e0
    simp only [iLt hk, cond_true, hb, Option.bind_some, Ack_val _ _ hS]
    rw [show (fun v_ : Bool × Int => bif decide (v_.snd < (l.length : Int)) then bif v_.fst then some (Sum.inl (true, IntKind.wrap .i64 (v_.snd + 1))) else (gidx l v_.snd).bind fun a => some (Sum.inl (a == acks[k], IntKind.wrap .i64 (v_.snd + 1))) else some (Sum.inr v_.fst)) = (fun v_ : Bool × Int => bif decide (v_.snd < (l.length : Int)) then bif v_.fst then some (Sum.inl (true, IntKind.wrap .i64 (v_.snd + 1))) else (gidx l v_.snd).bind fun a => (gidx acks (k : Int)).bind fun a_3 => some (Sum.inl (a == a_3, IntKind.wrap .i64 (v_.snd + 1))) else some (Sum.inr v_.fst)) from by rw [hb]; rfl, member_val l acks[k] acks k (by omega) hb]
    simp only [Option.bind_some]
    by_cases hm : acks[k] ∈ l
    · obtain ⟨j, hj⟩ := List.mem_iff_getElem?.1 hm
      have hjl := (List.getElem?_eq_some_iff.1 hj).1
      have e1 : ix acks[k] (dA id l ak).fShards 0 = j := shP_ix hP hj
      have e2 : ackS (dA id l ak) acks[k] = (dA id l (ak.set j true), 0) := by
        unfold ackS; rw [if_neg (by rw [e1]; omega), if_neg (by show ¬ (3 : Int) = 1; decide), e1, Int.toNat_natCast]; rfl
      have hx := hP j _ hj
      have hsx : acks[k].toNat < seen.length := by omega
      have eg : gidx seen acks[k] = some seen[acks[k].toNat] := by unfold gidx; rw [if_pos hx.1, List.getElem?_eq_getElem hsx]
      have hS' := Sm.dA (id := id) (ak := ak.set j true) hi (show l.length ≤ 1000000 by omega) (by simp [hal])
      have hov : ∀ n : Int, n = (((ak.set j true).count false : Nat) : Int) → (!(!((dA id l (ak.set j true)).fState == 1) && !decide (false ∈ (dA id l (ak.set j true)).fAcked)) == (n == 0)) = false := by
        rintro n rfl
        show (!(!((3 : Int) == 1) && !decide (false ∈ ak.set j true)) == ((((ak.set j true).count false : Nat) : Int) == 0)) = false
        by_cases hf : false ∈ ak.set j true
        · have : 0 < (ak.set j true).count false := List.count_pos_iff.2 hf
          have h2 : ((((ak.set j true).count false : Nat) : Int) == 0) = false := by
            rw [beq_eq_false_iff_ne]; omega
          rw [h2]; simp [hf]
        · have : (ak.set j true).count false = 0 := List.count_eq_zero.2 hf
          rw [this]; simp [hf]
      have haj : ak[j]? = seen[acks[k].toNat]? := hrel j _ hj
      have hajl : j < ak.length := by omega
      rw [List.getElem?_eq_getElem hajl, List.getElem?_eq_getElem hsx] at haj
      injection haj with haj
      have hcnt : (ak.set j true).count false = ak.count false - (if ak[j] = false then 1 else 0) := by
        rw [List.count_set hajl]; cases ak[j] <;> simp
      simp only [e2, hm, decide_true, Bool.not_true, cond_false, eg, Option.bind_some, inc k (show k ≤ 1000000000 by omega), Over_val _ hS']
      rw [show (!((true : Bool) == ((0 : Int) == 0))) = false from rfl]; simp only [cond_false]
      cases hq : seen[acks[k].toNat] with
      | true =>
        have hc : (ak.set j true).count false = ak.count false := by rw [hcnt, haj, hq]; simp
        have hset : ak.set j true = ak := by
          apply List.ext_getElem?; intro i
          rw [List.getElem?_set]
          by_cases hi : j = i
          · subst hi; rw [if_pos rfl, if_pos hajl, List.getElem?_eq_getElem hajl, haj, hq]
          · rw [if_neg hi]
        simp only [Bool.not_true, cond_false, Option.bind_some]
        rw [hov _ (by rw [hc])]
        exact ⟨_, rfl, ak.set j true, seen, by rw [hc], by simp [hal], hsl, by rw [hset]; exact hrel⟩
      | false =>
        have hc : (((ak.set j true).count false : Nat) : Int) = ((ak.count false : Nat) : Int) - 1 := by
          have h1 : 0 < ak.count false := List.count_pos_iff.2 (by rw [← hq, ← haj]; exact List.getElem_mem hajl)
          rw [hcnt, haj, hq]; simp only [if_true]; omega
        have hw : IntKind.wrap .i64 (((ak.count false : Nat) : Int) - 1) = (((ak.set j true).count false : Nat) : Int) := by
          have h2 : ak.count false ≤ ak.length := List.count_le_length
          rw [w64 (by omega) (by omega), hc]
        simp only [Bool.not_false, cond_true, Option.bind_some, hw]
        rw [hov _ rfl]
        refine ⟨_, rfl, ak.set j true, seen.set acks[k].toNat true, rfl, by simp [hal], by simp [hsl], fun i x hx' => ?_⟩
        rw [List.getElem?_set, List.getElem?_set]
        by_cases hi : j = i
        · subst hi
          rw [hj] at hx'; injection hx' with hx'; subst hx'
          rw [if_pos rfl, if_pos rfl, if_pos hajl, if_pos hsx]
        · have hne' : acks[k].toNat ≠ x.toNat := fun he => hi (shP_inj hP hj (by
            have := hP i x hx'
            rw [hx']; congr 1; omega))
          rw [if_neg hi, if_neg hne']; exact hrel i x hx'
    · have e1 : ix acks[k] (dA id l ak).fShards 0 = -1 := ix_none hm
      have e2 : ackS (dA id l ak) acks[k] = (GDecision.z, 1) := by unfold ackS; rw [if_pos (by rw [e1]; decide)]
      simp only [e2, hm, decide_false, Bool.not_false, cond_true, inc k (show k ≤ 1000000000 by omega)]
      exact ⟨_, rfl, ak, seen, rfl, hal, hsl, hrel⟩
  · rintro v ⟨ak, seen, rfl, _⟩
    exact ⟨_, by simp only [iNlt (Nat.lt_irrefl _), cond_false] <;> rfl, rfl⟩
  · rintro r rfl
    rw [awake_val]; rfl
end Go.Proofs.YtplokbmdcfakbaaDoor
set_option linter.unusedSimpArgs false
set_option linter.unusedVariables false
namespace Go.Proofs.YtplokbmdcfakbaaDoor
open Go.RowKit
set_option maxRecDepth 20000 in
set_option maxHeartbeats 4000000 in
noncomputable def M_docstoreref54_Same_J0_T (p_a : GDecision) (p_b : GDecision) : Mo ((Bool)) :=
  .ite (!decide ((p_a.fID : ByteArray) = (p_b.fID : ByteArray))) (fun c1420 =>
    .say [.gd 4005 true] (okc c1420 ok0) <|
    .ret ⟨[], [2, 3, 53], [], 2⟩ (true)) fun c1420 =>
  .say [.gd 4005 false] (okc c1420 ok0) <|
  .ite (p_a.fState != p_b.fState) (fun c1421 =>
    .say [.gd 4012 true] (okc c1421 ok0) <|
    .ret ⟨[], [2, 3, 53], [], 2⟩ (true)) fun c1421 =>
  .say [.gd 4012 false] (okc c1421 ok0) <|
  .ite (p_a.fCommit != p_b.fCommit) (fun c1422 =>
    .say [.gd 4019 true] (okc c1422 ok0) <|
    .ret ⟨[], [2, 3, 53], [], 2⟩ (true)) fun c1422 =>
  .say [.gd 4019 false, .num p_a.fShards.length, .num p_b.fShards.length] (okc c1422 (okc (by simp : p_a.fShards.length = (p_a.fShards.map lfI).length) (okc (by simp : p_b.fShards.length = (p_b.fShards.map lfI).length) ok0))) <|
  .ite ((p_a.fShards.length : Int) != (p_b.fShards.length : Int)) (fun c1423 =>
    .say [.gd 4028 true] (okc c1423 ok0) <|
    .ret ⟨[], [2, 3, 53], [], 2⟩ (true)) fun c1423 =>
  .say [.gd 4028 false, .num p_a.fVotes.length, .num p_b.fVotes.length] (okc c1423 (okc (by simp : p_a.fVotes.length = (p_a.fVotes.map lfI).length) (okc (by simp : p_b.fVotes.length = (p_b.fVotes.map lfI).length) ok0))) <|
  .ite ((p_a.fVotes.length : Int) != (p_b.fVotes.length : Int)) (fun c1424 =>
    .say [.gd 4037 true] (okc c1424 ok0) <|
    .ret ⟨[], [2, 3, 53], [], 2⟩ (true)) fun c1424 =>
  .say [.gd 4037 false, .num p_a.fAcked.length, .num p_b.fAcked.length] (okc c1424 (okc (by simp : p_a.fAcked.length = (p_a.fAcked.map lfB).length) (okc (by simp : p_b.fAcked.length = (p_b.fAcked.map lfB).length) ok0))) <|
  .ret ⟨[], [2, 3, 53], [], 2⟩ ((p_a.fAcked.length : Int) != (p_b.fAcked.length : Int))
noncomputable def M_docstoreref54_Same_J0 (p_a : GDecision) (p_b : GDecision) : Option ((Bool)) := Mo.den (M_docstoreref54_Same_J0_T p_a p_b)
noncomputable def M_docstoreref54_Same_J0_X (r_ : (Bool)) : Exit := .normal
noncomputable def M_docstoreref54_Same_J0_S (p_a : GDecision) (p_b : GDecision) (r_ : (Bool)) : St := ⟨[(2, .ptr 0 0), (3, .ptr 1 0), (53, .lf (.bool r_))], [.box 27 (.dat (GDecision.lf1 p_a)), .box 27 (.dat (GDecision.lf1 p_b))]⟩
set_option maxRecDepth 20000 in
set_option maxHeartbeats 4000000 in
theorem M_docstoreref54_Same_J0_W {p_a : GDecision} {p_b : GDecision} {r_ : (Bool)} (h : M_docstoreref54_Same_J0 p_a p_b = some r_) : AWa Tryd.prog GI TTc Tryd.f14.ntmps (Code.sub (bodyC Tryd.f14) [1, 0, 0]) (M_docstoreref54_Same_J0_X r_) (M_docstoreref54_Same_J0_S p_a p_b r_) ⟨[(2, .ptr 0 0), (3, .ptr 1 0)], [.box 27 (.dat (GDecision.lf1 p_a)), .box 27 (.dat (GDecision.lf1 p_b))]⟩ :=
  part_T BaseK (M_docstoreref54_Same_J0_T p_a p_b) M_docstoreref54_Same_J0_X (M_docstoreref54_Same_J0_S p_a p_b) (by kernel_rfl) h
set_option maxRecDepth 20000 in
set_option maxHeartbeats 4000000 in
noncomputable def M_docstoreref54_Same_L5_T (p_a : GDecision) (p_b : GDecision) : (Int) → Mo ((Int) ⊕ (Unit ⊕ Unit)) := fun (v1464) =>
  .say [.num p_a.fShards.length] (okc (by simp : p_a.fShards.length = (p_a.fShards.map lfI).length) ok0) <|
  .ite (decide ((v1464 : Int) < (p_a.fShards.length : Int))) (fun c1465 =>
    .say [.br true, .order [(true, 0), (true, 1), (true, 2), (true, 3), (true, 4), (true, 5), (true, 6), (true, 7), (true, 8), (true, 9), (true, 10)] none []] (okc c1465 ok0) <|
    .ask (gidx p_a.fShards v1464) fun x1466 h1467 =>
    .say [.row (lfI x1466)] (okc (gidx_ok (fun _ => rfl) h1467 : (0 : Int) ≤ v1464 ∧ (p_a.fShards.map lfI)[v1464.toNat]? = some (lfI x1466)) ok0) <|
    .ask (gidx p_b.fShards v1464) fun x1468 h1469 =>
    .say [.row (lfI x1468)] (okc (gidx_ok (fun _ => rfl) h1469 : (0 : Int) ≤ v1464 ∧ (p_b.fShards.map lfI)[v1464.toNat]? = some (lfI x1468)) ok0) <|
    .ite (x1466 != x1468) (fun c1470 =>
      .say [.br true] (okc c1470 ok0) <|
      .ret ⟨[.kill 0, .kill 1], [4], [], 2⟩ (.inr (.inl ()))) fun c1470 =>
    .say [.br false] (okc c1470 ok0) <|
    .ret ⟨[], [2, 3, 5], [], 2⟩ (.inl (IntKind.wrap .i64 (v1464 + 1)))) fun c1465 =>
  .say [.br false] (okc c1465 ok0) <|
  .ret ⟨[], [2, 3], [], 2⟩ (.inr (.inr (())))
noncomputable def M_docstoreref54_Same_L5 (p_a : GDecision) (p_b : GDecision) (v1464 : Int) : Option (Unit ⊕ Unit) := loopM (fun v_ => (M_docstoreref54_Same_L5_T p_a p_b v_).den) FU (v1464)
noncomputable def M_docstoreref54_Same_L5_H (p_a : GDecision) (p_b : GDecision) : (Int) → St := fun (v1464) => ⟨[(2, .ptr 0 0), (3, .ptr 1 0), (5, .lf (.int .i64 v1464))], [.box 27 (.dat (GDecision.lf1 p_a)), .box 27 (.dat (GDecision.lf1 p_b))]⟩
noncomputable def M_docstoreref54_Same_L5_X (r_ : Unit ⊕ Unit) : Exit := match r_ with
  | .inl o_ => .ret
  | .inr (o_) => .exit 0
noncomputable def M_docstoreref54_Same_L5_S (p_a : GDecision) (p_b : GDecision) (r_ : Unit ⊕ Unit) : St := match r_ with
  | .inl o_ => ⟨[(4, .lf (.bool false))], [.dead, .dead]⟩
  | .inr (o_) => ⟨[(2, .ptr 0 0), (3, .ptr 1 0)], [.box 27 (.dat (GDecision.lf1 p_a)), .box 27 (.dat (GDecision.lf1 p_b))]⟩
set_option maxRecDepth 20000 in
set_option maxHeartbeats 4000000 in
theorem M_docstoreref54_Same_L5_W {p_a : GDecision} {p_b : GDecision} {v1464 : Int} {r_ : Unit ⊕ Unit} (h : M_docstoreref54_Same_L5 p_a p_b v1464 = some r_) : AWa Tryd.prog GI TTc Tryd.f14.ntmps (Code.sub (bodyC Tryd.f14) [1, 1, 0, 1, 0]) (M_docstoreref54_Same_L5_X r_) (M_docstoreref54_Same_L5_S p_a p_b r_) (M_docstoreref54_Same_L5_H p_a p_b (v1464)) :=
  loop_T BaseK (body := (Code.sub (bodyC Tryd.f14) [1, 1, 0, 1, 0, 0])) (by kernel_rfl) (M_docstoreref54_Same_L5_T p_a p_b) (M_docstoreref54_Same_L5_H p_a p_b) M_docstoreref54_Same_L5_X (M_docstoreref54_Same_L5_S p_a p_b) (fun r_ => by rcases r_ with _ | _ <;> rfl) (fun v_ => by kernel_rfl) h
set_option maxRecDepth 20000 in
set_option maxHeartbeats 4000000 in
noncomputable def M_docstoreref54_Same_L11_T (p_a : GDecision) (p_b : GDecision) : (Int) → Mo ((Int) ⊕ (Unit ⊕ Unit)) := fun (v1509) =>
  .say [.num p_a.fVotes.length] (okc (by simp : p_a.fVotes.length = (p_a.fVotes.map lfI).length) ok0) <|
  .ite (decide ((v1509 : Int) < (p_a.fVotes.length : Int))) (fun c1510 =>
    .say [.br true, .order [(true, 0), (true, 1), (true, 2), (true, 3), (true, 4), (true, 5), (true, 6), (true, 7), (true, 8), (true, 9), (true, 10)] none []] (okc c1510 ok0) <|
    .ask (gidx p_a.fVotes v1509) fun x1511 h1512 =>
    .say [.row (lfI x1511)] (okc (gidx_ok (fun _ => rfl) h1512 : (0 : Int) ≤ v1509 ∧ (p_a.fVotes.map lfI)[v1509.toNat]? = some (lfI x1511)) ok0) <|
    .ask (gidx p_b.fVotes v1509) fun x1513 h1514 =>
    .say [.row (lfI x1513)] (okc (gidx_ok (fun _ => rfl) h1514 : (0 : Int) ≤ v1509 ∧ (p_b.fVotes.map lfI)[v1509.toNat]? = some (lfI x1513)) ok0) <|
    .ite (x1511 != x1513) (fun c1515 =>
      .say [.br true] (okc c1515 ok0) <|
      .ret ⟨[.kill 0, .kill 1], [4], [], 2⟩ (.inr (.inl ()))) fun c1515 =>
    .say [.br false] (okc c1515 ok0) <|
    .ret ⟨[], [2, 3, 6], [], 2⟩ (.inl (IntKind.wrap .i64 (v1509 + 1)))) fun c1510 =>
  .say [.br false] (okc c1510 ok0) <|
  .ret ⟨[], [2, 3], [], 2⟩ (.inr (.inr (())))
noncomputable def M_docstoreref54_Same_L11 (p_a : GDecision) (p_b : GDecision) (v1509 : Int) : Option (Unit ⊕ Unit) := loopM (fun v_ => (M_docstoreref54_Same_L11_T p_a p_b v_).den) FU (v1509)
noncomputable def M_docstoreref54_Same_L11_H (p_a : GDecision) (p_b : GDecision) : (Int) → St := fun (v1509) => ⟨[(2, .ptr 0 0), (3, .ptr 1 0), (6, .lf (.int .i64 v1509))], [.box 27 (.dat (GDecision.lf1 p_a)), .box 27 (.dat (GDecision.lf1 p_b))]⟩
noncomputable def M_docstoreref54_Same_L11_X (r_ : Unit ⊕ Unit) : Exit := match r_ with
  | .inl o_ => .ret
  | .inr (o_) => .exit 2
noncomputable def M_docstoreref54_Same_L11_S (p_a : GDecision) (p_b : GDecision) (r_ : Unit ⊕ Unit) : St := match r_ with
  | .inl o_ => ⟨[(4, .lf (.bool false))], [.dead, .dead]⟩
  | .inr (o_) => ⟨[(2, .ptr 0 0), (3, .ptr 1 0)], [.box 27 (.dat (GDecision.lf1 p_a)), .box 27 (.dat (GDecision.lf1 p_b))]⟩
set_option maxRecDepth 20000 in
set_option maxHeartbeats 4000000 in
theorem M_docstoreref54_Same_L11_W {p_a : GDecision} {p_b : GDecision} {v1509 : Int} {r_ : Unit ⊕ Unit} (h : M_docstoreref54_Same_L11 p_a p_b v1509 = some r_) : AWa Tryd.prog GI TTc Tryd.f14.ntmps (Code.sub (bodyC Tryd.f14) [1, 1, 1, 0, 1, 0]) (M_docstoreref54_Same_L11_X r_) (M_docstoreref54_Same_L11_S p_a p_b r_) (M_docstoreref54_Same_L11_H p_a p_b (v1509)) :=
  loop_T BaseK (body := (Code.sub (bodyC Tryd.f14) [1, 1, 1, 0, 1, 0, 0])) (by kernel_rfl) (M_docstoreref54_Same_L11_T p_a p_b) (M_docstoreref54_Same_L11_H p_a p_b) M_docstoreref54_Same_L11_X (M_docstoreref54_Same_L11_S p_a p_b) (fun r_ => by rcases r_ with _ | _ <;> rfl) (fun v_ => by kernel_rfl) h
set_option maxRecDepth 20000 in
set_option maxHeartbeats 4000000 in
noncomputable def M_docstoreref54_Same_L17_T (p_a : GDecision) (p_b : GDecision) : (Int) → Mo ((Int) ⊕ (Unit ⊕ Unit)) := fun (v1554) =>
  .say [.num p_a.fAcked.length] (okc (by simp : p_a.fAcked.length = (p_a.fAcked.map lfB).length) ok0) <|
  .ite (decide ((v1554 : Int) < (p_a.fAcked.length : Int))) (fun c1555 =>
    .say [.br true, .order [(true, 0), (true, 1), (true, 2), (true, 3), (true, 4), (true, 5), (true, 6), (true, 7), (true, 8), (true, 9), (true, 10)] none []] (okc c1555 ok0) <|
    .ask (gidx p_a.fAcked v1554) fun x1556 h1557 =>
    .say [.row (lfB x1556)] (okc (gidx_ok (fun _ => rfl) h1557 : (0 : Int) ≤ v1554 ∧ (p_a.fAcked.map lfB)[v1554.toNat]? = some (lfB x1556)) ok0) <|
    .ask (gidx p_b.fAcked v1554) fun x1558 h1559 =>
    .say [.row (lfB x1558)] (okc (gidx_ok (fun _ => rfl) h1559 : (0 : Int) ≤ v1554 ∧ (p_b.fAcked.map lfB)[v1554.toNat]? = some (lfB x1558)) ok0) <|
    .ite (!(x1556 == x1558)) (fun c1560 =>
      .say [.br true] (okc c1560 ok0) <|
      .ret ⟨[.kill 0, .kill 1], [4], [], 2⟩ (.inr (.inl ()))) fun c1560 =>
    .say [.br false] (okc c1560 ok0) <|
    .ret ⟨[], [2, 3, 7], [], 2⟩ (.inl (IntKind.wrap .i64 (v1554 + 1)))) fun c1555 =>
  .say [.br false] (okc c1555 ok0) <|
  .ret ⟨[.kill 0, .kill 1], [], [], 2⟩ (.inr (.inr (())))
noncomputable def M_docstoreref54_Same_L17 (p_a : GDecision) (p_b : GDecision) (v1554 : Int) : Option (Unit ⊕ Unit) := loopM (fun v_ => (M_docstoreref54_Same_L17_T p_a p_b v_).den) FU (v1554)
noncomputable def M_docstoreref54_Same_L17_H (p_a : GDecision) (p_b : GDecision) : (Int) → St := fun (v1554) => ⟨[(2, .ptr 0 0), (3, .ptr 1 0), (7, .lf (.int .i64 v1554))], [.box 27 (.dat (GDecision.lf1 p_a)), .box 27 (.dat (GDecision.lf1 p_b))]⟩
noncomputable def M_docstoreref54_Same_L17_X (r_ : Unit ⊕ Unit) : Exit := match r_ with
  | .inl o_ => .ret
  | .inr (o_) => .exit 4
noncomputable def M_docstoreref54_Same_L17_S  (r_ : Unit ⊕ Unit) : St := match r_ with
  | .inl o_ => ⟨[(4, .lf (.bool false))], [.dead, .dead]⟩
  | .inr (o_) => ⟨[], [.dead, .dead]⟩
set_option maxRecDepth 20000 in
set_option maxHeartbeats 4000000 in
theorem M_docstoreref54_Same_L17_W {p_a : GDecision} {p_b : GDecision} {v1554 : Int} {r_ : Unit ⊕ Unit} (h : M_docstoreref54_Same_L17 p_a p_b v1554 = some r_) : AWa Tryd.prog GI TTc Tryd.f14.ntmps (Code.sub (bodyC Tryd.f14) [1, 1, 1, 1, 0, 1, 0]) (M_docstoreref54_Same_L17_X r_) (M_docstoreref54_Same_L17_S r_) (M_docstoreref54_Same_L17_H p_a p_b (v1554)) :=
  loop_T BaseK (body := (Code.sub (bodyC Tryd.f14) [1, 1, 1, 1, 0, 1, 0, 0])) (by kernel_rfl) (M_docstoreref54_Same_L17_T p_a p_b) (M_docstoreref54_Same_L17_H p_a p_b) M_docstoreref54_Same_L17_X M_docstoreref54_Same_L17_S (fun r_ => by rcases r_ with _ | _ <;> rfl) (fun v_ => by kernel_rfl) h
set_option maxRecDepth 20000 in
set_option maxHeartbeats 4000000 in
noncomputable def M_docstoreref54_Same_T (p_a : GDecision) (p_b : GDecision) : Mo (Bool) :=
  .ask (M_docstoreref54_Same_J0 p_a p_b) fun r1426 h1427 =>
  .say [.part [] 9 [2, 3] 2 (M_docstoreref54_Same_J0_X r1426) (M_docstoreref54_Same_J0_S p_a p_b r1426).T (M_docstoreref54_Same_J0_S p_a p_b r1426).H] (okc (M_docstoreref54_Same_J0_W h1427) ok0) <|
  .ite (r1426) (fun c1429 =>
    .say [.br true] (okc c1429 ok0) <|
    .ret fit0 (false)) fun c1429 =>
  .say [.br false] (okc c1429 ok0) <|
  .ask2 (M_docstoreref54_Same_L5 p_a p_b 0) (fun o1473 h1472 =>
    .say [.part [] 0 [2, 3, 5] 2 (M_docstoreref54_Same_L5_X (.inl o1473)) (M_docstoreref54_Same_L5_S p_a p_b (.inl o1473)).T (M_docstoreref54_Same_L5_S p_a p_b (.inl o1473)).H] (okc (M_docstoreref54_Same_L5_W h1472) ok0) <|
    .ret fit0 (false)) fun o1474 h1472 =>
  .say [.part [] 0 [2, 3, 5] 2 (M_docstoreref54_Same_L5_X (.inr (o1474))) (M_docstoreref54_Same_L5_S p_a p_b (.inr (o1474))).T (M_docstoreref54_Same_L5_S p_a p_b (.inr (o1474))).H] (okc (M_docstoreref54_Same_L5_W h1472) ok0) <|
  .ask2 (M_docstoreref54_Same_L11 p_a p_b 0) (fun o1518 h1517 =>
    .say [.part [] 0 [2, 3, 6] 2 (M_docstoreref54_Same_L11_X (.inl o1518)) (M_docstoreref54_Same_L11_S p_a p_b (.inl o1518)).T (M_docstoreref54_Same_L11_S p_a p_b (.inl o1518)).H] (okc (M_docstoreref54_Same_L11_W h1517) ok0) <|
    .ret fit0 (false)) fun o1519 h1517 =>
  .say [.part [] 0 [2, 3, 6] 2 (M_docstoreref54_Same_L11_X (.inr (o1519))) (M_docstoreref54_Same_L11_S p_a p_b (.inr (o1519))).T (M_docstoreref54_Same_L11_S p_a p_b (.inr (o1519))).H] (okc (M_docstoreref54_Same_L11_W h1517) ok0) <|
  .ask2 (M_docstoreref54_Same_L17 p_a p_b 0) (fun o1563 h1562 =>
    .say [.part [] 0 [2, 3, 7] 2 (M_docstoreref54_Same_L17_X (.inl o1563)) (M_docstoreref54_Same_L17_S (.inl o1563)).T (M_docstoreref54_Same_L17_S (.inl o1563)).H] (okc (M_docstoreref54_Same_L17_W h1562) ok0) <|
    .ret fit0 (false)) fun o1564 h1562 =>
  .say [.part [] 0 [2, 3, 7] 2 (M_docstoreref54_Same_L17_X (.inr (o1564))) (M_docstoreref54_Same_L17_S (.inr (o1564))).T (M_docstoreref54_Same_L17_S (.inr (o1564))).H] (okc (M_docstoreref54_Same_L17_W h1562) ok0) <|
  .ret fit0 (true)
noncomputable def M_docstoreref54_Same (p_a : GDecision) (p_b : GDecision) : Option (Bool) := Mo.den (M_docstoreref54_Same_T p_a p_b)
set_option maxRecDepth 20000 in
set_option maxHeartbeats 4000000 in
theorem M_docstoreref54_Same_ok (p_a : GDecision) (p_b : GDecision) (r : Bool) (h : M_docstoreref54_Same p_a p_b = some r) : Fn Tryd.prog GI 14 [.dat (GDecision.lf1 p_a), .dat (GDecision.lf1 p_b)] (.lf (.bool r)) :=
  fn_T BaseK Tryd.func14 (by kernel_rfl) (by kernel_rfl) (by kernel_rfl) (by kernel_rfl) (M_docstoreref54_Same_T p_a p_b) (fun r => [.lf (.bool r)]) (by kernel_rfl) h
set_option maxRecDepth 20000 in
set_option maxHeartbeats 4000000 in
noncomputable def M_docstoreref54_at_L0_T (p_d : GDecision) (p_shard : Int) : (Int) → Mo ((Int) ⊕ (Int) ⊕ Unit) := fun (v1591) =>
  .say [.num p_d.fShards.length] (okc (by simp : p_d.fShards.length = (p_d.fShards.map lfI).length) ok0) <|
  .ite (decide ((v1591 : Int) < (p_d.fShards.length : Int))) (fun c1592 =>
    .say [.br true] (okc c1592 ok0) <|
    .ask (gidx p_d.fShards v1591) fun x1593 h1594 =>
    .say [.row (lfI x1593)] (okc (gidx_ok (fun _ => rfl) h1594 : (0 : Int) ≤ v1591 ∧ (p_d.fShards.map lfI)[v1591.toNat]? = some (lfI x1593)) ok0) <|
    .ite (x1593 == p_shard) (fun c1595 =>
      .say [.br true] (okc c1595 ok0) <|
      .ret ⟨[.kill 0], [4], [], 1⟩ (.inr (.inl (v1591)))) fun c1595 =>
    .say [.br false] (okc c1595 ok0) <|
    .ret ⟨[], [1, 2, 5], [], 1⟩ (.inl (IntKind.wrap .i64 (v1591 + 1)))) fun c1592 =>
  .say [.br false] (okc c1592 ok0) <|
  .ret ⟨[.kill 0], [], [], 1⟩ (.inr (.inr (())))
noncomputable def M_docstoreref54_at_L0 (p_d : GDecision) (p_shard : Int) (v1591 : Int) : Option ((Int) ⊕ Unit) := loopM (fun v_ => (M_docstoreref54_at_L0_T p_d p_shard v_).den) FU (v1591)
noncomputable def M_docstoreref54_at_L0_H (p_d : GDecision) (p_shard : Int) : (Int) → St := fun (v1591) => ⟨[(1, .lf (.int .i64 p_shard)), (2, .ptr 0 0), (5, .lf (.int .i64 v1591))], [.box 27 (.dat (GDecision.lf1 p_d))]⟩
noncomputable def M_docstoreref54_at_L0_X (r_ : (Int) ⊕ Unit) : Exit := match r_ with
  | .inl o_ => .ret
  | .inr (o_) => .exit 0
noncomputable def M_docstoreref54_at_L0_S  (r_ : (Int) ⊕ Unit) : St := match r_ with
  | .inl o_ => ⟨[(4, .lf (.int .i64 o_))], [.dead]⟩
  | .inr (o_) => ⟨[], [.dead]⟩
set_option maxRecDepth 20000 in
set_option maxHeartbeats 4000000 in
theorem M_docstoreref54_at_L0_W {p_d : GDecision} {p_shard : Int} {v1591 : Int} {r_ : (Int) ⊕ Unit} (h : M_docstoreref54_at_L0 p_d p_shard v1591 = some r_) : AWa Tryd.prog GI TTc Tryd.f36.ntmps (Code.sub (bodyC Tryd.f36) [1, 0, 1, 0]) (M_docstoreref54_at_L0_X r_) (M_docstoreref54_at_L0_S r_) (M_docstoreref54_at_L0_H p_d p_shard (v1591)) :=
  loop_T BaseK (body := (Code.sub (bodyC Tryd.f36) [1, 0, 1, 0, 0])) (by kernel_rfl) (M_docstoreref54_at_L0_T p_d p_shard) (M_docstoreref54_at_L0_H p_d p_shard) M_docstoreref54_at_L0_X M_docstoreref54_at_L0_S (fun r_ => by rcases r_ with _ | _ <;> rfl) (fun v_ => by kernel_rfl) h
set_option maxRecDepth 20000 in
set_option maxHeartbeats 4000000 in
noncomputable def M_docstoreref54_at_T (p_d : GDecision) (p_shard : Int) : Mo (Int) :=
  .ask2 (M_docstoreref54_at_L0 p_d p_shard 0) (fun o1600 h1599 =>
    .say [.part [] 0 [1, 2, 5] 1 (M_docstoreref54_at_L0_X (.inl o1600)) (M_docstoreref54_at_L0_S (.inl o1600)).T (M_docstoreref54_at_L0_S (.inl o1600)).H] (okc (M_docstoreref54_at_L0_W h1599) ok0) <|
    .ret fit0 (o1600)) fun o1601 h1599 =>
  .say [.part [] 0 [1, 2, 5] 1 (M_docstoreref54_at_L0_X (.inr (o1601))) (M_docstoreref54_at_L0_S (.inr (o1601))).T (M_docstoreref54_at_L0_S (.inr (o1601))).H] (okc (M_docstoreref54_at_L0_W h1599) ok0) <|
  .ret fit0 ((-1))
noncomputable def M_docstoreref54_at (p_d : GDecision) (p_shard : Int) : Option (Int) := Mo.den (M_docstoreref54_at_T p_d p_shard)
set_option maxRecDepth 20000 in
set_option maxHeartbeats 4000000 in
theorem M_docstoreref54_at_ok (p_d : GDecision) (p_shard : Int) (r : Int) (h : M_docstoreref54_at p_d p_shard = some r) : Fn Tryd.prog GI 36 [.dat (GDecision.lf1 p_d), .lf (.int .i64 p_shard)] (.lf (.int .i64 r)) :=
  fn_T BaseK Tryd.func36 (by kernel_rfl) (by kernel_rfl) (by kernel_rfl) (by kernel_rfl) (M_docstoreref54_at_T p_d p_shard) (fun r => [.lf (.int .i64 r)]) (by kernel_rfl) h
set_option maxRecDepth 20000 in
set_option maxHeartbeats 4000000 in
noncomputable def M_docstoreref54_Vote_J0_T (p_d : GDecision) (p_stamp : Int) (r1604 : Int) : Mo ((Bool)) :=
  .ite (decide ((r1604 : Int) < 0)) (fun c1609 =>
    .say [.gd 6002 true] (okc c1609 ok0) <|
    .ret ⟨[], [2, 3, 6, 8, 26], [], 2⟩ (true)) fun c1609 =>
  .say [.gd 6002 false] (okc c1609 ok0) <|
  .ite (p_stamp != (-1)) (fun c1610 =>
    .say [.gd 6005 true] (okc c1610 ok0) <|
    .ite (decide ((p_stamp : Int) < 1)) (fun c1611 =>
      .say [.gd 6008 true] (okc c1611 ok0) <|
      .ret ⟨[], [2, 3, 6, 8, 26], [], 2⟩ (true)) fun c1611 =>
    .say [.gd 6008 false] (okc c1611 ok0) <|
    .ret ⟨[], [2, 3, 6, 8, 26], [], 2⟩ (decide ((1099511627776 : Int) < p_stamp))) fun c1610 =>
  .say [.gd 6005 false] (okc c1610 ok0) <|
  .ret ⟨[], [2, 3, 6, 8, 26], [], 2⟩ (false)
noncomputable def M_docstoreref54_Vote_J0 (p_d : GDecision) (p_stamp : Int) (r1604 : Int) : Option ((Bool)) := Mo.den (M_docstoreref54_Vote_J0_T p_d p_stamp r1604)
noncomputable def M_docstoreref54_Vote_J0_X (r_ : (Bool)) : Exit := .normal
noncomputable def M_docstoreref54_Vote_J0_S (p_d : GDecision) (p_stamp : Int) (r1604 : Int) (r_ : (Bool)) : St := ⟨[(2, .lf (.int .i64 p_stamp)), (3, .ptr 0 0), (6, .ptr 1 0), (8, .lf (.int .i64 r1604)), (26, .lf (.bool r_))], [.box 27 (.dat (GDecision.lf1 p_d)), .box 27 (Z27)]⟩
set_option maxRecDepth 20000 in
set_option maxHeartbeats 4000000 in
theorem M_docstoreref54_Vote_J0_W {p_d : GDecision} {p_stamp : Int} {r1604 : Int} {r_ : (Bool)} (h : M_docstoreref54_Vote_J0 p_d p_stamp r1604 = some r_) : AWa Tryd.prog GI TTc Tryd.f27.ntmps (Code.sub (bodyC Tryd.f27) [1, 1, 0, 0]) (M_docstoreref54_Vote_J0_X r_) (M_docstoreref54_Vote_J0_S p_d p_stamp r1604 r_) ⟨[(2, .lf (.int .i64 p_stamp)), (3, .ptr 0 0), (6, .ptr 1 0), (8, .lf (.int .i64 r1604))], [.box 27 (.dat (GDecision.lf1 p_d)), .box 27 (Z27)]⟩ :=
  part_T BaseK (M_docstoreref54_Vote_J0_T p_d p_stamp r1604) M_docstoreref54_Vote_J0_X (M_docstoreref54_Vote_J0_S p_d p_stamp r1604) (by kernel_rfl) h
set_option maxRecDepth 20000 in
set_option maxHeartbeats 4000000 in
noncomputable def M_docstoreref54_Vote_J5_T (p_d : GDecision) (p_stamp : Int) (r1604 : Int) : Mo ((Bool)) :=
  .ite (p_d.fState != 1) (fun c1620 =>
    .say [.gd 10003 true] (okc c1620 ok0) <|
    .ret ⟨[], [2, 3, 6, 8, 38], [], 2⟩ (true)) fun c1620 =>
  .say [.gd 10003 false] (okc c1620 ok0) <|
  .ask (gidx p_d.fVotes r1604) fun x1621 h1622 =>
  .say [.row (lfI x1621)] (okc (gidx_ok (fun _ => rfl) h1622 : (0 : Int) ≤ r1604 ∧ (p_d.fVotes.map lfI)[r1604.toNat]? = some (lfI x1621)) ok0) <|
  .ret ⟨[], [2, 3, 6, 8, 38], [], 2⟩ (x1621 != 0)
noncomputable def M_docstoreref54_Vote_J5 (p_d : GDecision) (p_stamp : Int) (r1604 : Int) : Option ((Bool)) := Mo.den (M_docstoreref54_Vote_J5_T p_d p_stamp r1604)
noncomputable def M_docstoreref54_Vote_J5_X (r_ : (Bool)) : Exit := .normal
noncomputable def M_docstoreref54_Vote_J5_S (p_d : GDecision) (p_stamp : Int) (r1604 : Int) (r_ : (Bool)) : St := ⟨[(2, .lf (.int .i64 p_stamp)), (3, .ptr 0 0), (6, .ptr 1 0), (8, .lf (.int .i64 r1604)), (38, .lf (.bool r_))], [.box 27 (.dat (GDecision.lf1 p_d)), .box 27 (Z27)]⟩
set_option maxRecDepth 20000 in
set_option maxHeartbeats 4000000 in
theorem M_docstoreref54_Vote_J5_W {p_d : GDecision} {p_stamp : Int} {r1604 : Int} {r_ : (Bool)} (h : M_docstoreref54_Vote_J5 p_d p_stamp r1604 = some r_) : AWa Tryd.prog GI TTc Tryd.f27.ntmps (Code.sub (bodyC Tryd.f27) [1, 1, 1, 0, 0]) (M_docstoreref54_Vote_J5_X r_) (M_docstoreref54_Vote_J5_S p_d p_stamp r1604 r_) ⟨[(2, .lf (.int .i64 p_stamp)), (3, .ptr 0 0), (6, .ptr 1 0), (8, .lf (.int .i64 r1604))], [.box 27 (.dat (GDecision.lf1 p_d)), .box 27 (Z27)]⟩ :=
  part_T BaseK (M_docstoreref54_Vote_J5_T p_d p_stamp r1604) M_docstoreref54_Vote_J5_X (M_docstoreref54_Vote_J5_S p_d p_stamp r1604) (by kernel_rfl) h
set_option maxRecDepth 20000 in
set_option maxHeartbeats 4000000 in
noncomputable def M_docstoreref54_Vote_T (p_d : GDecision) (p_shard : Int) (p_stamp : Int) : Mo (GDecision × Int) :=
  .ask (M_docstoreref54_at p_d p_shard) fun r1604 h1605 =>
  .say [.res (.lf (.int .i64 r1604))] (okc (M_docstoreref54_at_ok _ _ _ h1605) ok0) <|
  .ask (M_docstoreref54_Vote_J0 p_d p_stamp r1604) fun r1613 h1614 =>
  .say [.part [] 11 [2, 3, 6, 8] 2 (M_docstoreref54_Vote_J0_X r1613) (M_docstoreref54_Vote_J0_S p_d p_stamp r1604 r1613).T (M_docstoreref54_Vote_J0_S p_d p_stamp r1604 r1613).H] (okc (M_docstoreref54_Vote_J0_W h1614) ok0) <|
  .ite (r1613) (fun c1616 =>
    .say [.br true] (okc c1616 ok0) <|
    .ret fit0 (GDecision.z, 1)) fun c1616 =>
  .say [.br false] (okc c1616 ok0) <|
  .ask (M_docstoreref54_Vote_J5 p_d p_stamp r1604) fun r1624 h1625 =>
  .say [.part [] 15 [2, 3, 6, 8] 2 (M_docstoreref54_Vote_J5_X r1624) (M_docstoreref54_Vote_J5_S p_d p_stamp r1604 r1624).T (M_docstoreref54_Vote_J5_S p_d p_stamp r1604 r1624).H] (okc (M_docstoreref54_Vote_J5_W h1625) ok0) <|
  .ite (r1624) (fun c1627 =>
    .say [.br true] (okc c1627 ok0) <|
    .ret fit0 (GDecision.z, 23)) fun c1627 =>
  .say [.br false, .rows (p_d.fVotes.map lfI)] (okc c1627 (okc (by simp [lfI, lfK] : p_d.fVotes.map lfI = [] ++ (p_d.fVotes.map lfI)) ok0)) <|
  .grd ((([] : List Int).length + p_d.fVotes.length) * 8 ≤ 140737488355328) fun h1629 =>
  .say [] (okc (by simpa using h1629 : (([] : List (List Lf)).length + (p_d.fVotes.map lfI).length) * 8 ≤ 140737488355328) ok0) <|
  .ask (gidx p_d.fVotes r1604) fun x1632 h1633 =>
  .say [.row (lfI x1632), .rows ((p_d.fVotes.set r1604.toNat p_stamp).map lfI), .at_ 0 0, .frz 2] (okc (gidx_lt (fun _ => rfl) h1633 : (0 : Int) ≤ r1604 ∧ r1604.toNat < (p_d.fVotes.map lfI).length) (okc (by simp [lfI, lfK] : (p_d.fVotes.set r1604.toNat p_stamp).map lfI = (p_d.fVotes.map lfI).set r1604.toNat (lfI p_stamp)) (okc ((gidx_ok (fun _ => rfl) h1633).2 : (p_d.fVotes.map lfI)[r1604.toNat]? = some (lfI x1632)) (okc (fun _ h => h : ∀ g : Nat, ¬ (fun _ : Nat => False) g) ok0)))) <|
  .ret fit0 (GDecision.sVotes p_d (p_d.fVotes.set r1604.toNat p_stamp), 0)
noncomputable def M_docstoreref54_Vote (p_d : GDecision) (p_shard : Int) (p_stamp : Int) : Option (GDecision × Int) := Mo.den (M_docstoreref54_Vote_T p_d p_shard p_stamp)
set_option maxRecDepth 20000 in
set_option maxHeartbeats 4000000 in
theorem M_docstoreref54_Vote_ok (p_d : GDecision) (p_shard : Int) (p_stamp : Int) (r : GDecision × Int) (h : M_docstoreref54_Vote p_d p_shard p_stamp = some r) : Fn Tryd.prog GI 27 [.dat (GDecision.lf1 p_d), .lf (.int .i64 p_shard), .lf (.int .i64 p_stamp)] (.tup [.dat (GDecision.lf1 r.1), .lf (.int .i64 r.2)]) :=
  fn_T BaseK Tryd.func27 (by kernel_rfl) (by kernel_rfl) (by kernel_rfl) (by kernel_rfl) (M_docstoreref54_Vote_T p_d p_shard p_stamp) (fun r => [.dat (GDecision.lf1 r.1), .lf (.int .i64 r.2)]) (by kernel_rfl) h
set_option maxRecDepth 20000 in
set_option maxHeartbeats 4000000 in
noncomputable def M_docstoreref54_Decide_L0_T (p_d : GDecision) : (Bool × Bool × Int × Int) → Mo ((Bool × Bool × Int × Int) ⊕ (Bool × Bool × Int)) := fun (v1688, v1689, v1690, v1691) =>
  .say [.num p_d.fVotes.length] (okc (by simp : p_d.fVotes.length = (p_d.fVotes.map lfI).length) ok0) <|
  .ite (decide ((v1691 : Int) < (p_d.fVotes.length : Int))) (fun c1692 =>
    .say [.br true] (okc c1692 ok0) <|
    .ite (v1688) (fun c1693 =>
      .say [.gd 12001 true] (okc c1693 ok0) <|
      .ite (v1689) (fun c1694 =>
        .say [.gd 14001 true] (okc c1694 ok0) <|
        .ask (gidx p_d.fVotes v1691) fun x1695 h1696 =>
        .say [.row (lfI x1695)] (okc (gidx_ok (fun _ => rfl) h1696 : (0 : Int) ≤ v1691 ∧ (p_d.fVotes.map lfI)[v1691.toNat]? = some (lfI x1695)) ok0) <|
        .ret ⟨[], [1, 2, 3, 5, 6, 7, 8], [], 3⟩ (.inl (true, true, (if x1695 > v1690 then x1695 else v1690), IntKind.wrap .i64 (v1691 + 1)))) fun c1694 =>
      .say [.gd 14001 false] (okc c1694 ok0) <|
      .ask (gidx p_d.fVotes v1691) fun x1697 h1698 =>
      .say [.row (lfI x1697)] (okc (gidx_ok (fun _ => rfl) h1698 : (0 : Int) ≤ v1691 ∧ (p_d.fVotes.map lfI)[v1691.toNat]? = some (lfI x1697)) ok0) <|
      .ask (gidx p_d.fVotes v1691) fun x1699 h1700 =>
      .say [.row (lfI x1699)] (okc (gidx_ok (fun _ => rfl) h1700 : (0 : Int) ≤ v1691 ∧ (p_d.fVotes.map lfI)[v1691.toNat]? = some (lfI x1699)) ok0) <|
      .ret ⟨[], [1, 2, 3, 5, 6, 7, 8], [], 3⟩ (.inl (true, x1697 == 0, (if x1699 > v1690 then x1699 else v1690), IntKind.wrap .i64 (v1691 + 1)))) fun c1693 =>
    .say [.gd 12001 false] (okc c1693 ok0) <|
    .ask (gidx p_d.fVotes v1691) fun x1701 h1702 =>
    .say [.row (lfI x1701)] (okc (gidx_ok (fun _ => rfl) h1702 : (0 : Int) ≤ v1691 ∧ (p_d.fVotes.map lfI)[v1691.toNat]? = some (lfI x1701)) ok0) <|
    .ite (v1689) (fun c1703 =>
      .say [.gd 14001 true] (okc c1703 ok0) <|
      .ask (gidx p_d.fVotes v1691) fun x1704 h1705 =>
      .say [.row (lfI x1704)] (okc (gidx_ok (fun _ => rfl) h1705 : (0 : Int) ≤ v1691 ∧ (p_d.fVotes.map lfI)[v1691.toNat]? = some (lfI x1704)) ok0) <|
      .ret ⟨[], [1, 2, 3, 5, 6, 7, 8], [], 3⟩ (.inl (x1701 == (-1), true, (if x1704 > v1690 then x1704 else v1690), IntKind.wrap .i64 (v1691 + 1)))) fun c1703 =>
    .say [.gd 14001 false] (okc c1703 ok0) <|
    .ask (gidx p_d.fVotes v1691) fun x1706 h1707 =>
    .say [.row (lfI x1706)] (okc (gidx_ok (fun _ => rfl) h1707 : (0 : Int) ≤ v1691 ∧ (p_d.fVotes.map lfI)[v1691.toNat]? = some (lfI x1706)) ok0) <|
    .ask (gidx p_d.fVotes v1691) fun x1708 h1709 =>
    .say [.row (lfI x1708)] (okc (gidx_ok (fun _ => rfl) h1709 : (0 : Int) ≤ v1691 ∧ (p_d.fVotes.map lfI)[v1691.toNat]? = some (lfI x1708)) ok0) <|
    .ret ⟨[], [1, 2, 3, 5, 6, 7, 8], [], 3⟩ (.inl (x1701 == (-1), x1706 == 0, (if x1708 > v1690 then x1708 else v1690), IntKind.wrap .i64 (v1691 + 1)))) fun c1692 =>
  .say [.br false] (okc c1692 ok0) <|
  .ret ⟨[], [1, 2, 3, 5, 6, 7], [], 3⟩ (.inr (v1688, v1689, v1690))
noncomputable def M_docstoreref54_Decide_L0 (p_d : GDecision) (v1688 : Bool) (v1689 : Bool) (v1690 : Int) (v1691 : Int) : Option ((Bool × Bool × Int)) := loopM (fun v_ => (M_docstoreref54_Decide_L0_T p_d v_).den) FU (v1688, v1689, v1690, v1691)
noncomputable def M_docstoreref54_Decide_L0_H (p_d : GDecision) : (Bool × Bool × Int × Int) → St := fun (v1688, v1689, v1690, v1691) => ⟨[(1, .ptr 0 0), (2, .ptr 1 0), (3, .ptr 2 0), (5, .lf (.bool v1688)), (6, .lf (.bool v1689)), (7, .lf (.int .i64 v1690)), (8, .lf (.int .i64 v1691))], [.box 27 (.dat (GDecision.lf1 p_d)), .box 27 (Z27), .box 60 (Z60)]⟩
noncomputable def M_docstoreref54_Decide_L0_X (r_ : (Bool × Bool × Int)) : Exit := .exit 0
noncomputable def M_docstoreref54_Decide_L0_S (p_d : GDecision) (r_ : (Bool × Bool × Int)) : St := ⟨[(1, .ptr 0 0), (2, .ptr 1 0), (3, .ptr 2 0), (5, .lf (.bool r_.1)), (6, .lf (.bool r_.2.1)), (7, .lf (.int .i64 r_.2.2))], [.box 27 (.dat (GDecision.lf1 p_d)), .box 27 (Z27), .box 60 (Z60)]⟩
set_option maxRecDepth 20000 in
set_option maxHeartbeats 4000000 in
theorem M_docstoreref54_Decide_L0_W {p_d : GDecision} {v1688 : Bool} {v1689 : Bool} {v1690 : Int} {v1691 : Int} {r_ : (Bool × Bool × Int)} (h : M_docstoreref54_Decide_L0 p_d v1688 v1689 v1690 v1691 = some r_) : AWa Tryd.prog GI TTc Tryd.f28.ntmps (Code.sub (bodyC Tryd.f28) [1, 1, 0, 1, 0]) (M_docstoreref54_Decide_L0_X r_) (M_docstoreref54_Decide_L0_S p_d r_) (M_docstoreref54_Decide_L0_H p_d (v1688, v1689, v1690, v1691)) :=
  loop_T BaseK (body := (Code.sub (bodyC Tryd.f28) [1, 1, 0, 1, 0, 0])) (by kernel_rfl) (M_docstoreref54_Decide_L0_T p_d) (M_docstoreref54_Decide_L0_H p_d) M_docstoreref54_Decide_L0_X (M_docstoreref54_Decide_L0_S p_d) (fun r_ => rfl) (fun v_ => by kernel_rfl) h
set_option maxRecDepth 20000 in
set_option maxHeartbeats 4000000 in
noncomputable def M_docstoreref54_Decide_J6_T (p_d : GDecision) (r1713 : (Bool × Bool × Int)) : Mo ((Bool)) :=
  .ite (p_d.fState != 1) (fun c1717 =>
    .say [.gd 18003 true] (okc c1717 ok0) <|
    .ret ⟨[], [1, 2, 3, 5, 7, 50], [], 3⟩ (true)) fun c1717 =>
  .say [.gd 18003 false] (okc c1717 ok0) <|
  .ite (!r1713.1) (fun c1718 =>
    .say [.gd 18006 true] (okc c1718 ok0) <|
    .ret ⟨[], [1, 2, 3, 5, 7, 50], [], 3⟩ (r1713.2.1)) fun c1718 =>
  .say [.gd 18006 false] (okc c1718 ok0) <|
  .ret ⟨[], [1, 2, 3, 5, 7, 50], [], 3⟩ (false)
noncomputable def M_docstoreref54_Decide_J6 (p_d : GDecision) (r1713 : (Bool × Bool × Int)) : Option ((Bool)) := Mo.den (M_docstoreref54_Decide_J6_T p_d r1713)
noncomputable def M_docstoreref54_Decide_J6_X (r_ : (Bool)) : Exit := .normal
noncomputable def M_docstoreref54_Decide_J6_S (p_d : GDecision) (r1713 : (Bool × Bool × Int)) (r_ : (Bool)) : St := ⟨[(1, .ptr 0 0), (2, .ptr 1 0), (3, .ptr 2 0), (5, .lf (.bool r1713.1)), (7, .lf (.int .i64 r1713.2.2)), (50, .lf (.bool r_))], [.box 27 (.dat (GDecision.lf1 p_d)), .box 27 (Z27), .box 60 (Z60)]⟩
set_option maxRecDepth 20000 in
set_option maxHeartbeats 4000000 in
theorem M_docstoreref54_Decide_J6_W {p_d : GDecision} {r1713 : (Bool × Bool × Int)} {r_ : (Bool)} (h : M_docstoreref54_Decide_J6 p_d r1713 = some r_) : AWa Tryd.prog GI TTc Tryd.f28.ntmps (Code.sub (bodyC Tryd.f28) [1, 1, 1, 0, 0]) (M_docstoreref54_Decide_J6_X r_) (M_docstoreref54_Decide_J6_S p_d r1713 r_) ⟨[(1, .ptr 0 0), (2, .ptr 1 0), (3, .ptr 2 0), (5, .lf (.bool r1713.1)), (6, .lf (.bool r1713.2.1)), (7, .lf (.int .i64 r1713.2.2))], [.box 27 (.dat (GDecision.lf1 p_d)), .box 27 (Z27), .box 60 (Z60)]⟩ :=
  part_T BaseK (M_docstoreref54_Decide_J6_T p_d r1713) M_docstoreref54_Decide_J6_X (M_docstoreref54_Decide_J6_S p_d r1713) (by kernel_rfl) h
set_option maxRecDepth 20000 in
set_option maxHeartbeats 4000000 in
noncomputable def M_docstoreref54_Decide_J11_T (p_d : GDecision) (r1713 : (Bool × Bool × Int)) : Mo ((GDecision)) :=
  .ite (r1713.1) (fun c1725 =>
    .say [.br true] (okc c1725 ok0) <|
    .ret ⟨[], [1, 2, 3], [], 3⟩ (GDecision.sCommit (GDecision.sState p_d 4) 0)) fun c1725 =>
  .say [.br false] (okc c1725 ok0) <|
  .ret ⟨[], [1, 2, 3], [], 3⟩ (GDecision.sCommit (GDecision.sState p_d 3) r1713.2.2)
noncomputable def M_docstoreref54_Decide_J11 (p_d : GDecision) (r1713 : (Bool × Bool × Int)) : Option ((GDecision)) := Mo.den (M_docstoreref54_Decide_J11_T p_d r1713)
noncomputable def M_docstoreref54_Decide_J11_X (r_ : (GDecision)) : Exit := .normal
noncomputable def M_docstoreref54_Decide_J11_S  (r_ : (GDecision)) : St := ⟨[(1, .ptr 0 0), (2, .ptr 1 0), (3, .ptr 2 0)], [.box 27 (.dat (GDecision.lf1 r_)), .box 27 (Z27), .box 60 (Z60)]⟩
set_option maxRecDepth 20000 in
set_option maxHeartbeats 4000000 in
theorem M_docstoreref54_Decide_J11_W {p_d : GDecision} {r1713 : (Bool × Bool × Int)} {r_ : (GDecision)} (h : M_docstoreref54_Decide_J11 p_d r1713 = some r_) : AWa Tryd.prog GI TTc Tryd.f28.ntmps (Code.sub (bodyC Tryd.f28) [1, 1, 1, 1, 1, 0, 1]) (M_docstoreref54_Decide_J11_X r_) (M_docstoreref54_Decide_J11_S r_) ⟨[(1, .ptr 0 0), (2, .ptr 1 0), (3, .ptr 2 0), (56, .lf (.bool r1713.1))], [.box 27 (.dat (GDecision.lf1 (GDecision.sCommit (GDecision.sState p_d 3) r1713.2.2))), .box 27 (Z27), .box 60 (Z60)]⟩ :=
  part_T BaseK (M_docstoreref54_Decide_J11_T p_d r1713) M_docstoreref54_Decide_J11_X M_docstoreref54_Decide_J11_S (by kernel_rfl) h
set_option maxRecDepth 20000 in
set_option maxHeartbeats 4000000 in
noncomputable def M_docstoreref54_Decide_T (p_d : GDecision) : Mo (GDecision × GWrite × Int) :=
  .ask (M_docstoreref54_Decide_L0 p_d false false 0 0) fun r1713 h1714 =>
  .say [.part [] 0 [1, 2, 3, 5, 6, 7, 8] 3 (M_docstoreref54_Decide_L0_X r1713) (M_docstoreref54_Decide_L0_S p_d r1713).T (M_docstoreref54_Decide_L0_S p_d r1713).H] (okc (M_docstoreref54_Decide_L0_W h1714) ok0) <|
  .ask (M_docstoreref54_Decide_J6 p_d r1713) fun r1720 h1721 =>
  .say [.part [] 23 [1, 2, 3, 5, 6, 7] 3 (M_docstoreref54_Decide_J6_X r1720) (M_docstoreref54_Decide_J6_S p_d r1713 r1720).T (M_docstoreref54_Decide_J6_S p_d r1713 r1720).H] (okc (M_docstoreref54_Decide_J6_W h1721) ok0) <|
  .ite (r1720) (fun c1723 =>
    .say [.br true] (okc c1723 ok0) <|
    .ret fit0 (GDecision.z, GWrite.z, 23)) fun c1723 =>
  .say [.br false] (okc c1723 ok0) <|
  .ask (M_docstoreref54_Decide_J11 p_d r1713) fun r1727 h1728 =>
  .say [.part [] 1 [1, 2, 3, 56] 3 (M_docstoreref54_Decide_J11_X r1727) (M_docstoreref54_Decide_J11_S r1727).T (M_docstoreref54_Decide_J11_S r1727).H, .orderT (.q 0 (.q 1 (.q 2 (.q 3 (.q 4 (.q 5 (.q 6 (.q 7 (.l 8 (.l 9 (.q 10 .fin))))))))))) (some 9) [1] [] [2, 3, 4] 3 [(2, .ptr 1 0), (3, .ptr 2 0), (4, .lf (.int .i64 0))] [.box 27 (.dat (GDecision.lf1 r1727)), .box 27 (.agg ((GDecision.lf1 r1727).map AV.lf)), .box 60 (aggS Z60 [(0, .lf (.int .i64 12)), (73, .lf (.str r1727.fID)), (74, .lf (.int .i64 r1727.fCommit)), (76, .lf (.rows 1 (r1727.fShards.map lfI)))])]] (okc (M_docstoreref54_Decide_J11_W h1728) (okc (rfl : (some ⟨[(2, .ptr 1 0), (3, .ptr 2 0), (4, .lf (.int .i64 0))], [.box 27 (.dat (GDecision.lf1 r1727)), .box 27 (.agg ((GDecision.lf1 r1727).map AV.lf)), .box 60 (aggS Z60 [(0, .lf (.int .i64 12)), (73, .lf (.str r1727.fID)), (74, .lf (.int .i64 r1727.fCommit)), (76, .lf (.rows 1 (r1727.fShards.map lfI)))])]⟩ : Option St) = some ⟨[(2, .ptr 1 0), (3, .ptr 2 0), (4, .lf (.int .i64 0))], [.box 27 (.dat (GDecision.lf1 r1727)), .box 27 (.agg ((GDecision.lf1 r1727).map AV.lf)), .box 60 (aggS Z60 [(0, .lf (.int .i64 12)), (73, .lf (.str r1727.fID)), (74, .lf (.int .i64 r1727.fCommit)), (76, .lf (.rows 1 (r1727.fShards.map lfI)))])]⟩) ok0)) <|
  .ret fit0 (r1727, GWrite.sShards (GWrite.sStamp (GWrite.sTxn (GWrite.sKind GWrite.z 12) r1727.fID) r1727.fCommit) r1727.fShards, 0)
noncomputable def M_docstoreref54_Decide (p_d : GDecision) : Option (GDecision × GWrite × Int) := Mo.den (M_docstoreref54_Decide_T p_d)
set_option maxRecDepth 20000 in
set_option maxHeartbeats 4000000 in
theorem M_docstoreref54_Decide_ok (p_d : GDecision) (r : GDecision × GWrite × Int) (h : M_docstoreref54_Decide p_d = some r) : Fn Tryd.prog GI 28 [.dat (GDecision.lf1 p_d)] (.tup [.dat (GDecision.lf1 r.1), .dat (GWrite.lf1 r.2.1), .lf (.int .i64 r.2.2)]) :=
  fn_T BaseK Tryd.func28 (by kernel_rfl) (by kernel_rfl) (by kernel_rfl) (by kernel_rfl) (M_docstoreref54_Decide_T p_d) (fun r => [.dat (GDecision.lf1 r.1), .dat (GWrite.lf1 r.2.1), .lf (.int .i64 r.2.2)]) (by kernel_rfl) h
set_option maxRecDepth 20000 in
set_option maxHeartbeats 4000000 in
noncomputable def M_docstorelaw54_sameWrite_T (p_a : GWrite) (p_b : GWrite) : Mo (Bool) :=
  .ask (M_docstoreref40_Code (GEntry.mk 0 0 ⟨#[]⟩ 0 p_a)) fun r1729 h1730 =>
  .say [] (okc (M_docstoreref40_Code_ok _ _ h1730) ok0) <|
  .ask (M_docstoreref40_Code (GEntry.mk 0 0 ⟨#[]⟩ 0 p_b)) fun r1731 h1732 =>
  .say [.orderT (.q 0 (.q 1 (.q 3 (.q 4 (.l 2 (.l 5 (.q 6 (.q 7 .fin)))))))) (some 5) [] [.res (.lf (.str r1729)), .res (.lf (.str r1731))] [4] 2 [(4, .lf (.bool (decide ((r1729 : ByteArray) = (r1731 : ByteArray)))))] [.box 60 (.dat (GWrite.lf1 p_a)), .box 60 (.dat (GWrite.lf1 p_b))]] (okc (M_docstoreref40_Code_ok _ _ h1732) (okc (rfl : (some ⟨[(4, .lf (.bool (decide ((r1729 : ByteArray) = (r1731 : ByteArray)))))], [.box 60 (.dat (GWrite.lf1 p_a)), .box 60 (.dat (GWrite.lf1 p_b))]⟩ : Option St) = some ⟨[(4, .lf (.bool (decide ((r1729 : ByteArray) = (r1731 : ByteArray)))))], [.box 60 (.dat (GWrite.lf1 p_a)), .box 60 (.dat (GWrite.lf1 p_b))]⟩) ok0)) <|
  .ret fit0 (decide ((r1729 : ByteArray) = (r1731 : ByteArray)))
noncomputable def M_docstorelaw54_sameWrite (p_a : GWrite) (p_b : GWrite) : Option (Bool) := Mo.den (M_docstorelaw54_sameWrite_T p_a p_b)
set_option maxRecDepth 20000 in
set_option maxHeartbeats 4000000 in
theorem M_docstorelaw54_sameWrite_ok (p_a : GWrite) (p_b : GWrite) (r : Bool) (h : M_docstorelaw54_sameWrite p_a p_b = some r) : Fn Tryd.prog GI 12 [.dat (GWrite.lf1 p_a), .dat (GWrite.lf1 p_b)] (.lf (.bool r)) :=
  fn_T BaseK Tryd.func12 (by kernel_rfl) (by kernel_rfl) (by kernel_rfl) (by kernel_rfl) (M_docstorelaw54_sameWrite_T p_a p_b) (fun r => [.lf (.bool r)]) (by kernel_rfl) h
set_option maxRecDepth 20000 in
set_option maxHeartbeats 4000000 in
noncomputable def M_docstoreref54_Order_T (p_d : GDecision) (p_shard : Int) : Mo (GWrite × Int) :=
  .ask (M_docstoreref54_at p_d p_shard) fun r1735 h1736 =>
  .say [.res (.lf (.int .i64 r1735))] (okc (M_docstoreref54_at_ok _ _ _ h1736) ok0) <|
  .ite (decide ((r1735 : Int) < 0)) (fun c1738 =>
    .say [.br true] (okc c1738 ok0) <|
    .ret fit0 (GWrite.z, 1)) fun c1738 =>
  .say [.br false] (okc c1738 ok0) <|
  .ite (p_d.fState == 1) (fun c1740 =>
    .say [.br true] (okc c1740 ok0) <|
    .ret fit0 (GWrite.z, 23)) fun c1740 =>
  .say [.br false] (okc c1740 ok0) <|
  .ite (p_d.fState == 4) (fun c1742 =>
    .say [.br true] (okc c1742 ok0) <|
    .ret fit0 (GWrite.sTxn (GWrite.sKind GWrite.z 11) p_d.fID, 0)) fun c1742 =>
  .say [.br false] (okc c1742 ok0) <|
  .ret fit0 (GWrite.sStamp (GWrite.sTxn (GWrite.sKind GWrite.z 10) p_d.fID) p_d.fCommit, 0)
noncomputable def M_docstoreref54_Order (p_d : GDecision) (p_shard : Int) : Option (GWrite × Int) := Mo.den (M_docstoreref54_Order_T p_d p_shard)
set_option maxRecDepth 20000 in
set_option maxHeartbeats 4000000 in
theorem M_docstoreref54_Order_ok (p_d : GDecision) (p_shard : Int) (r : GWrite × Int) (h : M_docstoreref54_Order p_d p_shard = some r) : Fn Tryd.prog GI 29 [.dat (GDecision.lf1 p_d), .lf (.int .i64 p_shard)] (.tup [.dat (GWrite.lf1 r.1), .lf (.int .i64 r.2)]) :=
  fn_T BaseK Tryd.func29 (by kernel_rfl) (by kernel_rfl) (by kernel_rfl) (by kernel_rfl) (M_docstoreref54_Order_T p_d p_shard) (fun r => [.dat (GWrite.lf1 r.1), .lf (.int .i64 r.2)]) (by kernel_rfl) h
set_option maxRecDepth 20000 in
set_option maxHeartbeats 4000000 in
noncomputable def M_docstoreref54_Ack_T (p_d : GDecision) (p_shard : Int) : Mo (GDecision × Int) :=
  .ask (M_docstoreref54_at p_d p_shard) fun r1745 h1746 =>
  .say [.res (.lf (.int .i64 r1745))] (okc (M_docstoreref54_at_ok _ _ _ h1746) ok0) <|
  .ite (decide ((r1745 : Int) < 0)) (fun c1748 =>
    .say [.br true] (okc c1748 ok0) <|
    .ret fit0 (GDecision.z, 1)) fun c1748 =>
  .say [.br false] (okc c1748 ok0) <|
  .ite (p_d.fState == 1) (fun c1750 =>
    .say [.br true] (okc c1750 ok0) <|
    .ret fit0 (GDecision.z, 23)) fun c1750 =>
  .say [.br false, .rows (p_d.fAcked.map lfB)] (okc c1750 (okc (by simp [lfB] : p_d.fAcked.map lfB = [] ++ (p_d.fAcked.map lfB)) ok0)) <|
  .grd ((([] : List Bool).length + p_d.fAcked.length) * 1 ≤ 140737488355328) fun h1752 =>
  .say [] (okc (by simpa using h1752 : (([] : List (List Lf)).length + (p_d.fAcked.map lfB).length) * 1 ≤ 140737488355328) ok0) <|
  .ask (gidx p_d.fAcked r1745) fun x1755 h1756 =>
  .say [.row (lfB x1755), .rows ((p_d.fAcked.set r1745.toNat true).map lfB), .at_ 0 0, .frz 2] (okc (gidx_lt (fun _ => rfl) h1756 : (0 : Int) ≤ r1745 ∧ r1745.toNat < (p_d.fAcked.map lfB).length) (okc (by simp [lfB] : (p_d.fAcked.set r1745.toNat true).map lfB = (p_d.fAcked.map lfB).set r1745.toNat (lfB true)) (okc ((gidx_ok (fun _ => rfl) h1756).2 : (p_d.fAcked.map lfB)[r1745.toNat]? = some (lfB x1755)) (okc (fun _ h => h : ∀ g : Nat, ¬ (fun _ : Nat => False) g) ok0)))) <|
  .ret fit0 (GDecision.sAcked p_d (p_d.fAcked.set r1745.toNat true), 0)
noncomputable def M_docstoreref54_Ack (p_d : GDecision) (p_shard : Int) : Option (GDecision × Int) := Mo.den (M_docstoreref54_Ack_T p_d p_shard)
set_option maxRecDepth 20000 in
set_option maxHeartbeats 4000000 in
theorem M_docstoreref54_Ack_ok (p_d : GDecision) (p_shard : Int) (r : GDecision × Int) (h : M_docstoreref54_Ack p_d p_shard = some r) : Fn Tryd.prog GI 30 [.dat (GDecision.lf1 p_d), .lf (.int .i64 p_shard)] (.tup [.dat (GDecision.lf1 r.1), .lf (.int .i64 r.2)]) :=
  fn_T BaseK Tryd.func30 (by kernel_rfl) (by kernel_rfl) (by kernel_rfl) (by kernel_rfl) (M_docstoreref54_Ack_T p_d p_shard) (fun r => [.dat (GDecision.lf1 r.1), .lf (.int .i64 r.2)]) (by kernel_rfl) h
set_option maxRecDepth 20000 in
set_option maxHeartbeats 4000000 in
noncomputable def M_docstoreref54_Over_L0_T (p_d : GDecision) : (Int) → Mo ((Int) ⊕ (Unit ⊕ Unit)) := fun (v1781) =>
  .say [.num p_d.fAcked.length] (okc (by simp : p_d.fAcked.length = (p_d.fAcked.map lfB).length) ok0) <|
  .ite (decide ((v1781 : Int) < (p_d.fAcked.length : Int))) (fun c1782 =>
    .say [.br true] (okc c1782 ok0) <|
    .ask (gidx p_d.fAcked v1781) fun x1783 h1784 =>
    .say [.row (lfB x1783)] (okc (gidx_ok (fun _ => rfl) h1784 : (0 : Int) ≤ v1781 ∧ (p_d.fAcked.map lfB)[v1781.toNat]? = some (lfB x1783)) ok0) <|
    .ite (!x1783) (fun c1785 =>
      .say [.br true] (okc c1785 ok0) <|
      .ret ⟨[.kill 0], [2], [], 1⟩ (.inr (.inl ()))) fun c1785 =>
    .say [.br false] (okc c1785 ok0) <|
    .ret ⟨[], [1, 3], [], 1⟩ (.inl (IntKind.wrap .i64 (v1781 + 1)))) fun c1782 =>
  .say [.br false] (okc c1782 ok0) <|
  .ret ⟨[], [1], [], 1⟩ (.inr (.inr (())))
noncomputable def M_docstoreref54_Over_L0 (p_d : GDecision) (v1781 : Int) : Option (Unit ⊕ Unit) := loopM (fun v_ => (M_docstoreref54_Over_L0_T p_d v_).den) FU (v1781)
noncomputable def M_docstoreref54_Over_L0_H (p_d : GDecision) : (Int) → St := fun (v1781) => ⟨[(1, .ptr 0 0), (3, .lf (.int .i64 v1781))], [.box 27 (.dat (GDecision.lf1 p_d))]⟩
noncomputable def M_docstoreref54_Over_L0_X (r_ : Unit ⊕ Unit) : Exit := match r_ with
  | .inl o_ => .ret
  | .inr (o_) => .exit 0
noncomputable def M_docstoreref54_Over_L0_S (p_d : GDecision) (r_ : Unit ⊕ Unit) : St := match r_ with
  | .inl o_ => ⟨[(2, .lf (.bool false))], [.dead]⟩
  | .inr (o_) => ⟨[(1, .ptr 0 0)], [.box 27 (.dat (GDecision.lf1 p_d))]⟩
set_option maxRecDepth 20000 in
set_option maxHeartbeats 4000000 in
theorem M_docstoreref54_Over_L0_W {p_d : GDecision} {v1781 : Int} {r_ : Unit ⊕ Unit} (h : M_docstoreref54_Over_L0 p_d v1781 = some r_) : AWa Tryd.prog GI TTc Tryd.f31.ntmps (Code.sub (bodyC Tryd.f31) [1, 0, 1, 0]) (M_docstoreref54_Over_L0_X r_) (M_docstoreref54_Over_L0_S p_d r_) (M_docstoreref54_Over_L0_H p_d (v1781)) :=
  loop_T BaseK (body := (Code.sub (bodyC Tryd.f31) [1, 0, 1, 0, 0])) (by kernel_rfl) (M_docstoreref54_Over_L0_T p_d) (M_docstoreref54_Over_L0_H p_d) M_docstoreref54_Over_L0_X (M_docstoreref54_Over_L0_S p_d) (fun r_ => by rcases r_ with _ | _ <;> rfl) (fun v_ => by kernel_rfl) h
set_option maxRecDepth 20000 in
set_option maxHeartbeats 4000000 in
noncomputable def M_docstoreref54_Over_T (p_d : GDecision) : Mo (Bool) :=
  .ask2 (M_docstoreref54_Over_L0 p_d 0) (fun o1788 h1787 =>
    .say [.part [] 0 [1, 3] 1 (M_docstoreref54_Over_L0_X (.inl o1788)) (M_docstoreref54_Over_L0_S p_d (.inl o1788)).T (M_docstoreref54_Over_L0_S p_d (.inl o1788)).H] (okc (M_docstoreref54_Over_L0_W h1787) ok0) <|
    .ret fit0 (false)) fun o1789 h1787 =>
  .say [.part [] 0 [1, 3] 1 (M_docstoreref54_Over_L0_X (.inr (o1789))) (M_docstoreref54_Over_L0_S p_d (.inr (o1789))).T (M_docstoreref54_Over_L0_S p_d (.inr (o1789))).H] (okc (M_docstoreref54_Over_L0_W h1787) ok0) <|
  .ret fit0 (p_d.fState != 1)
noncomputable def M_docstoreref54_Over (p_d : GDecision) : Option (Bool) := Mo.den (M_docstoreref54_Over_T p_d)
set_option maxRecDepth 20000 in
set_option maxHeartbeats 4000000 in
theorem M_docstoreref54_Over_ok (p_d : GDecision) (r : Bool) (h : M_docstoreref54_Over p_d = some r) : Fn Tryd.prog GI 31 [.dat (GDecision.lf1 p_d)] (.lf (.bool r)) :=
  fn_T BaseK Tryd.func31 (by kernel_rfl) (by kernel_rfl) (by kernel_rfl) (by kernel_rfl) (M_docstoreref54_Over_T p_d) (fun r => [.lf (.bool r)]) (by kernel_rfl) h
set_option maxRecDepth 20000 in
set_option maxHeartbeats 4000000 in
noncomputable def M_docstorelaw54_call_J0_T (p_d : GDecision) (p_o : GLaw54Op) : Mo ((Int × Int × GDecision × GDecision) ⊕ (Bool)) :=
  .ite (p_o.fKind == 1) (fun c1835 =>
    .say [.br true] (okc c1835 ok0) <|
    .ask (M_twophase_Vote p_d p_o.fShard p_o.fStamp) fun r1836 h1837 =>
    .say [.res (.tup [.dat (GDecision.lf1 r1836.1), .lf (.int .i64 r1836.2)])] (okc (M_twophase_Vote_ok _ _ _ _ h1837) ok0) <|
    .ask (M_docstoreref54_Vote p_d p_o.fShard p_o.fStamp) fun r1838 h1839 =>
    .say [.res (.tup [.dat (GDecision.lf1 r1838.1), .lf (.int .i64 r1838.2)])] (okc (M_docstoreref54_Vote_ok _ _ _ _ h1839) ok0) <|
    .ret ⟨[.norm 3, .norm 4, .kill 1], [2, 4, 6, 7, 8, 9], [], 5⟩ (.inl (r1836.2, r1838.2, r1836.1, r1838.1))) fun c1835 =>
  .say [.br false] (okc c1835 ok0) <|
  .ite (p_o.fKind == 2) (fun c1840 =>
    .say [.br true] (okc c1840 ok0) <|
    .ask (M_twophase_Decide p_d) fun r1841 h1842 =>
    .say [.res (.tup [.dat (GDecision.lf1 r1841.1), .dat (GWrite.lf1 r1841.2.1), .lf (.int .i64 r1841.2.2)])] (okc (M_twophase_Decide_ok _ _ h1842) ok0) <|
    .ask (M_docstoreref54_Decide p_d) fun r1843 h1844 =>
    .say [.res (.tup [.dat (GDecision.lf1 r1843.1), .dat (GWrite.lf1 r1843.2.1), .lf (.int .i64 r1843.2.2)])] (okc (M_docstoreref54_Decide_ok _ _ h1844) ok0) <|
    .ask (M_docstorelaw54_sameWrite r1841.2.1 r1843.2.1) fun r1845 h1846 =>
    .say [.res (.lf (.bool r1845))] (okc (M_docstorelaw54_sameWrite_ok _ _ _ h1846) ok0) <|
    .ite (!r1845) (fun c1847 =>
      .say [.br true] (okc c1847 ok0) <|
      .ret ⟨[.kill 0, .kill 1, .kill 3, .kill 4], [4, 5], [], 5⟩ (.inr ((false)))) fun c1847 =>
    .say [.br false, .order [(true, 0), (true, 1), (true, 2), (true, 3), (false, 4), (false, 5), (true, 6), (true, 7)] none [3, 4]] (okc c1847 ok0) <|
    .ret ⟨[.norm 3, .norm 4, .kill 1], [2, 4, 6, 7, 8, 9], [], 5⟩ (.inl (r1841.2.2, r1843.2.2, r1841.1, r1843.1))) fun c1840 =>
  .say [.br false] (okc c1840 ok0) <|
  .ite (p_o.fKind == 3) (fun c1848 =>
    .say [.br true] (okc c1848 ok0) <|
    .ask (M_twophase_Order p_d p_o.fShard) fun r1849 h1850 =>
    .say [.res (.tup [.dat (GWrite.lf1 r1849.1), .lf (.int .i64 r1849.2)])] (okc (M_twophase_Order_ok _ _ _ h1850) ok0) <|
    .ask (M_docstoreref54_Order p_d p_o.fShard) fun r1851 h1852 =>
    .say [.res (.tup [.dat (GWrite.lf1 r1851.1), .lf (.int .i64 r1851.2)]), .order [(true, 0), (true, 1), (true, 2), (true, 3), (true, 4), (true, 5), (true, 6), (false, 7), (true, 8), (false, 9), (true, 10)] none [2]] (okc (M_docstoreref54_Order_ok _ _ _ h1852) ok0) <|
    .ite (r1849.2 == r1851.2) (fun c1853 =>
      .say [.gd 36004 true] (okc c1853 ok0) <|
      .ask (M_docstorelaw54_sameWrite r1849.1 r1851.1) fun r1854 h1855 =>
      .say [.res (.lf (.bool r1854))] (okc (M_docstorelaw54_sameWrite_ok _ _ _ h1855) ok0) <|
      .ret ⟨[.kill 0, .kill 1, .kill 3, .kill 4], [4, 5], [], 5⟩ (.inr ((r1854)))) fun c1853 =>
    .say [.gd 36004 false] (okc c1853 ok0) <|
    .ret ⟨[.kill 0, .kill 1, .kill 3, .kill 4], [4, 5], [], 5⟩ (.inr ((false)))) fun c1848 =>
  .say [.br false] (okc c1848 ok0) <|
  .ite (p_o.fKind == 4) (fun c1856 =>
    .say [.br true] (okc c1856 ok0) <|
    .ask (M_twophase_Ack p_d p_o.fShard) fun r1857 h1858 =>
    .say [.res (.tup [.dat (GDecision.lf1 r1857.1), .lf (.int .i64 r1857.2)])] (okc (M_twophase_Ack_ok _ _ _ h1858) ok0) <|
    .ask (M_docstoreref54_Ack p_d p_o.fShard) fun r1859 h1860 =>
    .say [.res (.tup [.dat (GDecision.lf1 r1859.1), .lf (.int .i64 r1859.2)])] (okc (M_docstoreref54_Ack_ok _ _ _ h1860) ok0) <|
    .ret ⟨[.norm 3, .norm 4, .kill 1], [2, 4, 6, 7, 8, 9], [], 5⟩ (.inl (r1857.2, r1859.2, r1857.1, r1859.1))) fun c1856 =>
  .say [.br false, .order [(true, 0), (true, 1), (true, 3), (false, 2), (false, 4), (true, 5), (false, 6), (true, 7)] none [2]] (okc c1856 ok0) <|
  .ask (M_twophase_Over p_d) fun r1861 h1862 =>
  .say [.res (.lf (.bool r1861))] (okc (M_twophase_Over_ok _ _ h1862) ok0) <|
  .ask (M_docstoreref54_Over p_d) fun r1863 h1864 =>
  .say [.res (.lf (.bool r1863))] (okc (M_docstoreref54_Over_ok _ _ h1864) ok0) <|
  .ret ⟨[.kill 0, .kill 1, .kill 3, .kill 4], [4, 5], [], 5⟩ (.inr ((r1861 == r1863)))
noncomputable def M_docstorelaw54_call_J0 (p_d : GDecision) (p_o : GLaw54Op) : Option ((Int × Int × GDecision × GDecision) ⊕ (Bool)) := Mo.den (M_docstorelaw54_call_J0_T p_d p_o)
noncomputable def M_docstorelaw54_call_J0_X (r_ : (Int × Int × GDecision × GDecision) ⊕ (Bool)) : Exit := match r_ with
  | .inl o_ => .normal
  | .inr (o_) => .ret
noncomputable def M_docstorelaw54_call_J0_S (p_d : GDecision) (r_ : (Int × Int × GDecision × GDecision) ⊕ (Bool)) : St := match r_ with
  | .inl o_ => ⟨[(2, .ptr 0 0), (4, .ptr 2 0), (6, .ptr 3 0), (7, .ptr 4 0), (8, .lf (.int .i64 o_.1)), (9, .lf (.int .i64 o_.2.1))], [.box 27 (.dat (GDecision.lf1 p_d)), .dead, .box 27 (Z27), .box 27 (.dat (GDecision.lf1 o_.2.2.1)), .box 27 (.dat (GDecision.lf1 o_.2.2.2))]⟩
  | .inr (o_) => ⟨[(4, .ptr 2 0), (5, .lf (.bool o_))], [.dead, .dead, .box 27 (.agg ((GDecision.lf1 p_d).map AV.lf)), .dead, .dead]⟩
set_option maxRecDepth 20000 in
set_option maxHeartbeats 4000000 in
theorem M_docstorelaw54_call_J0_W {p_d : GDecision} {p_o : GLaw54Op} {r_ : (Int × Int × GDecision × GDecision) ⊕ (Bool)} (h : M_docstorelaw54_call_J0 p_d p_o = some r_) : AWa Tryd.prog GI TTc Tryd.f15.ntmps (Code.sub (bodyC Tryd.f15) [1, 1, 1, 0, 1]) (M_docstorelaw54_call_J0_X r_) (M_docstorelaw54_call_J0_S p_d r_) ⟨[(2, .ptr 0 0), (3, .ptr 1 0), (4, .ptr 2 0), (6, .ptr 3 0), (7, .ptr 4 0), (23, .lf (.int .i64 p_o.fKind))], [.box 27 (.dat (GDecision.lf1 p_d)), .box 33 (.dat (GLaw54Op.lf1 p_o)), .box 27 (Z27), .box 27 (Z27), .box 27 (Z27)]⟩ :=
  part_T BaseK (M_docstorelaw54_call_J0_T p_d p_o) M_docstorelaw54_call_J0_X (M_docstorelaw54_call_J0_S p_d) (by kernel_rfl) h
set_option maxRecDepth 20000 in
set_option maxHeartbeats 4000000 in
noncomputable def M_docstorelaw54_call_J5_T (o1915 : (Int × Int × GDecision × GDecision)) (p_d : GDecision) : Mo ((Bool)) :=
  .ite (o1915.1 != o1915.2.1) (fun c1919 =>
    .say [.gd 44003 true] (okc c1919 ok0) <|
    .ret ⟨[.kill 3], [2, 4, 7, 9, 122], [], 5⟩ (true)) fun c1919 =>
  .say [.gd 44003 false] (okc c1919 ok0) <|
  .ask (M_docstoreref54_Same o1915.2.2.1 o1915.2.2.2) fun r1920 h1921 =>
  .say [.res (.lf (.bool r1920))] (okc (M_docstoreref54_Same_ok _ _ _ h1921) ok0) <|
  .ret ⟨[.kill 3], [2, 4, 7, 9, 122], [], 5⟩ (!r1920)
noncomputable def M_docstorelaw54_call_J5 (o1915 : (Int × Int × GDecision × GDecision)) (p_d : GDecision) : Option ((Bool)) := Mo.den (M_docstorelaw54_call_J5_T o1915 p_d)
noncomputable def M_docstorelaw54_call_J5_X (r_ : (Bool)) : Exit := .normal
noncomputable def M_docstorelaw54_call_J5_S (o1915 : (Int × Int × GDecision × GDecision)) (p_d : GDecision) (r_ : (Bool)) : St := ⟨[(2, .ptr 0 0), (4, .ptr 2 0), (7, .ptr 4 0), (9, .lf (.int .i64 o1915.2.1)), (122, .lf (.bool r_))], [.box 27 (.dat (GDecision.lf1 p_d)), .dead, .box 27 (Z27), .dead, .box 27 (.dat (GDecision.lf1 o1915.2.2.2))]⟩
set_option maxRecDepth 20000 in
set_option maxHeartbeats 4000000 in
theorem M_docstorelaw54_call_J5_W {o1915 : (Int × Int × GDecision × GDecision)} {p_d : GDecision} {r_ : (Bool)} (h : M_docstorelaw54_call_J5 o1915 p_d = some r_) : AWa Tryd.prog GI TTc Tryd.f15.ntmps (Code.sub (bodyC Tryd.f15) [1, 1, 1, 1, 0, 0]) (M_docstorelaw54_call_J5_X r_) (M_docstorelaw54_call_J5_S o1915 p_d r_) ⟨[(2, .ptr 0 0), (4, .ptr 2 0), (6, .ptr 3 0), (7, .ptr 4 0), (8, .lf (.int .i64 o1915.1)), (9, .lf (.int .i64 o1915.2.1))], [.box 27 (.dat (GDecision.lf1 p_d)), .dead, .box 27 (Z27), .box 27 (.dat (GDecision.lf1 o1915.2.2.1)), .box 27 (.dat (GDecision.lf1 o1915.2.2.2))]⟩ :=
  part_T BaseK (M_docstorelaw54_call_J5_T o1915 p_d) M_docstorelaw54_call_J5_X (M_docstorelaw54_call_J5_S o1915 p_d) (by kernel_rfl) h
set_option maxRecDepth 20000 in
set_option maxHeartbeats 4000000 in
noncomputable def M_docstorelaw54_call_J10_T (o1915 : (Int × Int × GDecision × GDecision)) (p_d : GDecision) : Mo ((GDecision)) :=
  .ite (o1915.2.1 == 0) (fun c1930 =>
    .say [.br true] (okc c1930 ok0) <|
    .ret ⟨[.kill 4], [2, 4], [], 5⟩ (o1915.2.2.2)) fun c1930 =>
  .say [.br false] (okc c1930 ok0) <|
  .ret ⟨[.kill 4], [2, 4], [], 5⟩ (p_d)
noncomputable def M_docstorelaw54_call_J10 (o1915 : (Int × Int × GDecision × GDecision)) (p_d : GDecision) : Option ((GDecision)) := Mo.den (M_docstorelaw54_call_J10_T o1915 p_d)
noncomputable def M_docstorelaw54_call_J10_X (r_ : (GDecision)) : Exit := .normal
noncomputable def M_docstorelaw54_call_J10_S  (r_ : (GDecision)) : St := ⟨[(2, .ptr 0 0), (4, .ptr 2 0)], [.box 27 (.dat (GDecision.lf1 r_)), .dead, .box 27 (Z27), .dead, .dead]⟩
set_option maxRecDepth 20000 in
set_option maxHeartbeats 4000000 in
theorem M_docstorelaw54_call_J10_W {o1915 : (Int × Int × GDecision × GDecision)} {p_d : GDecision} {r_ : (GDecision)} (h : M_docstorelaw54_call_J10 o1915 p_d = some r_) : AWa Tryd.prog GI TTc Tryd.f15.ntmps (Code.sub (bodyC Tryd.f15) [1, 1, 1, 1, 1, 0, 1]) (M_docstorelaw54_call_J10_X r_) (M_docstorelaw54_call_J10_S r_) ⟨[(2, .ptr 0 0), (4, .ptr 2 0), (7, .ptr 4 0), (125, .lf (.bool (o1915.2.1 == 0)))], [.box 27 (.dat (GDecision.lf1 p_d)), .dead, .box 27 (Z27), .dead, .box 27 (.dat (GDecision.lf1 o1915.2.2.2))]⟩ :=
  part_T BaseK (M_docstorelaw54_call_J10_T o1915 p_d) M_docstorelaw54_call_J10_X M_docstorelaw54_call_J10_S (by kernel_rfl) h
set_option maxRecDepth 20000 in
set_option maxHeartbeats 4000000 in
noncomputable def M_docstorelaw54_call_T (p_d : GDecision) (p_o : GLaw54Op) : Mo (GDecision × Bool) :=
  .ask2 (M_docstorelaw54_call_J0 p_d p_o) (fun o1915 h1914 =>
    .say [.part [] 6 [2, 3, 4, 6, 7, 23] 5 (M_docstorelaw54_call_J0_X (.inl o1915)) (M_docstorelaw54_call_J0_S p_d (.inl o1915)).T (M_docstorelaw54_call_J0_S p_d (.inl o1915)).H] (okc (M_docstorelaw54_call_J0_W h1914) ok0) <|
    .ask (M_docstorelaw54_call_J5 o1915 p_d) fun r1925 h1926 =>
    .say [.part [] 49 [2, 4, 6, 7, 8, 9] 5 (M_docstorelaw54_call_J5_X r1925) (M_docstorelaw54_call_J5_S o1915 p_d r1925).T (M_docstorelaw54_call_J5_S o1915 p_d r1925).H] (okc (M_docstorelaw54_call_J5_W h1926) ok0) <|
    .ite (r1925) (fun c1928 =>
      .say [.br true] (okc c1928 ok0) <|
      .ret fit0 (p_d, false)) fun c1928 =>
    .say [.br false] (okc c1928 ok0) <|
    .ask (M_docstorelaw54_call_J10 o1915 p_d) fun r1934 h1935 =>
    .say [.part [] 1 [2, 4, 7, 125] 5 (M_docstorelaw54_call_J10_X r1934) (M_docstorelaw54_call_J10_S r1934).T (M_docstorelaw54_call_J10_S r1934).H] (okc (M_docstorelaw54_call_J10_W h1935) ok0) <|
    .ret fit0 (r1934, true)) fun o1936 h1914 =>
  .say [.part [] 6 [2, 3, 4, 6, 7, 23] 5 (M_docstorelaw54_call_J0_X (.inr (o1936))) (M_docstorelaw54_call_J0_S p_d (.inr (o1936))).T (M_docstorelaw54_call_J0_S p_d (.inr (o1936))).H] (okc (M_docstorelaw54_call_J0_W h1914) ok0) <|
  .ret fit0 (p_d, o1936)
noncomputable def M_docstorelaw54_call (p_d : GDecision) (p_o : GLaw54Op) : Option (GDecision × Bool) := Mo.den (M_docstorelaw54_call_T p_d p_o)
set_option maxRecDepth 20000 in
set_option maxHeartbeats 4000000 in
theorem M_docstorelaw54_call_ok (p_d : GDecision) (p_o : GLaw54Op) (r : GDecision × Bool) (h : M_docstorelaw54_call p_d p_o = some r) : Fn Tryd.prog GI 15 [.dat (GDecision.lf1 p_d), .dat (GLaw54Op.lf1 p_o)] (.tup [.dat (GDecision.lf1 r.1), .lf (.bool r.2)]) :=
  fn_T BaseK Tryd.func15 (by kernel_rfl) (by kernel_rfl) (by kernel_rfl) (by kernel_rfl) (M_docstorelaw54_call_T p_d p_o) (fun r => [.dat (GDecision.lf1 r.1), .lf (.bool r.2)]) (by kernel_rfl) h
set_option maxRecDepth 20000 in
set_option maxHeartbeats 4000000 in
noncomputable def M_docstorelaw54_TwophaseRuns_J0_T (p_id : ByteArray) (p_l : List GLaw54Op) (p_shards : List Int) : Mo ((Bool)) :=
  .say [.num p_shards.length] (okc (by simp : p_shards.length = (p_shards.map lfI).length) ok0) <|
  .ite (decide ((20 : Int) < (p_shards.length : Int))) (fun c1938 =>
    .say [.gd 4003 true] (okc c1938 ok0) <|
    .ret ⟨[], [0, 1, 2, 20], [], 0⟩ (true)) fun c1938 =>
  .say [.gd 4003 false, .num p_l.length] (okc c1938 (okc (by simp : p_l.length = (p_l.map GLaw54Op.lf).length) ok0)) <|
  .ret ⟨[], [0, 1, 2, 20], [], 0⟩ (decide ((60 : Int) < (p_l.length : Int)))
noncomputable def M_docstorelaw54_TwophaseRuns_J0 (p_id : ByteArray) (p_l : List GLaw54Op) (p_shards : List Int) : Option ((Bool)) := Mo.den (M_docstorelaw54_TwophaseRuns_J0_T p_id p_l p_shards)
noncomputable def M_docstorelaw54_TwophaseRuns_J0_X (r_ : (Bool)) : Exit := .normal
noncomputable def M_docstorelaw54_TwophaseRuns_J0_S (p_id : ByteArray) (p_l : List GLaw54Op) (p_shards : List Int) (r_ : (Bool)) : St := ⟨[(0, .lf (.str p_id)), (1, .lf (.rows 1 (p_shards.map lfI))), (2, .lf (.rows 3 (p_l.map GLaw54Op.lf))), (20, .lf (.bool r_))], []⟩
set_option maxRecDepth 20000 in
set_option maxHeartbeats 4000000 in
theorem M_docstorelaw54_TwophaseRuns_J0_W {p_id : ByteArray} {p_l : List GLaw54Op} {p_shards : List Int} {r_ : (Bool)} (h : M_docstorelaw54_TwophaseRuns_J0 p_id p_l p_shards = some r_) : AWa Tryd.prog GI TTc Tryd.f4.ntmps (Code.sub (bodyC Tryd.f4) [1, 0, 0]) (M_docstorelaw54_TwophaseRuns_J0_X r_) (M_docstorelaw54_TwophaseRuns_J0_S p_id p_l p_shards r_) ⟨[(0, .lf (.str p_id)), (1, .lf (.rows 1 (p_shards.map lfI))), (2, .lf (.rows 3 (p_l.map GLaw54Op.lf)))], []⟩ :=
  part_T BaseK (M_docstorelaw54_TwophaseRuns_J0_T p_id p_l p_shards) M_docstorelaw54_TwophaseRuns_J0_X (M_docstorelaw54_TwophaseRuns_J0_S p_id p_l p_shards) (by kernel_rfl) h
set_option maxRecDepth 20000 in
set_option maxHeartbeats 4000000 in
noncomputable def M_docstorelaw54_TwophaseRuns_J5_T (p_l : List GLaw54Op) (r1952 : GDecision × Int) (r1956 : GDecision × Int) : Mo ((Bool)) :=
  .ite (r1952.2 != r1956.2) (fun c1961 =>
    .say [.gd 12003 true] (okc c1961 ok0) <|
    .ret ⟨[.kill 0], [2, 8, 9, 42], [], 2⟩ (true)) fun c1961 =>
  .say [.gd 12003 false] (okc c1961 ok0) <|
  .ask (M_docstoreref54_Same r1952.1 r1956.1) fun r1962 h1963 =>
  .say [.res (.lf (.bool r1962))] (okc (M_docstoreref54_Same_ok _ _ _ h1963) ok0) <|
  .ret ⟨[.kill 0], [2, 8, 9, 42], [], 2⟩ (!r1962)
noncomputable def M_docstorelaw54_TwophaseRuns_J5 (p_l : List GLaw54Op) (r1952 : GDecision × Int) (r1956 : GDecision × Int) : Option ((Bool)) := Mo.den (M_docstorelaw54_TwophaseRuns_J5_T p_l r1952 r1956)
noncomputable def M_docstorelaw54_TwophaseRuns_J5_X (r_ : (Bool)) : Exit := .normal
noncomputable def M_docstorelaw54_TwophaseRuns_J5_S (p_l : List GLaw54Op) (r1952 : GDecision × Int) (r1956 : GDecision × Int) (r_ : (Bool)) : St := ⟨[(2, .lf (.rows 3 (p_l.map GLaw54Op.lf))), (8, .lf (.int .i64 r1952.2)), (9, .ptr 1 0), (42, .lf (.bool r_))], [.dead, .box 27 (.agg ((GDecision.lf1 r1956.1).map AV.lf))]⟩
set_option maxRecDepth 20000 in
set_option maxHeartbeats 4000000 in
theorem M_docstorelaw54_TwophaseRuns_J5_W {p_l : List GLaw54Op} {r1952 : GDecision × Int} {r1956 : GDecision × Int} {r_ : (Bool)} (h : M_docstorelaw54_TwophaseRuns_J5 p_l r1952 r1956 = some r_) : AWa Tryd.prog GI TTc Tryd.f4.ntmps (Code.sub (bodyC Tryd.f4) [1, 1, 1, 1, 0, 0]) (M_docstorelaw54_TwophaseRuns_J5_X r_) (M_docstorelaw54_TwophaseRuns_J5_S p_l r1952 r1956 r_) ⟨[(2, .lf (.rows 3 (p_l.map GLaw54Op.lf))), (7, .ptr 0 0), (8, .lf (.int .i64 r1952.2)), (9, .ptr 1 0), (10, .lf (.int .i64 r1956.2))], [.box 27 (.agg ((GDecision.lf1 r1952.1).map AV.lf)), .box 27 (.agg ((GDecision.lf1 r1956.1).map AV.lf))]⟩ :=
  part_T BaseK (M_docstorelaw54_TwophaseRuns_J5_T p_l r1952 r1956) M_docstorelaw54_TwophaseRuns_J5_X (M_docstorelaw54_TwophaseRuns_J5_S p_l r1952 r1956) (by kernel_rfl) h
set_option maxRecDepth 20000 in
set_option maxHeartbeats 4000000 in
noncomputable def M_docstorelaw54_TwophaseRuns_J10_T (p_l : List GLaw54Op) (r1952 : GDecision × Int) (s2042 : GDecision) (v2041 : Int) : Mo ((Bool)) :=
  .say [.num p_l.length] (okc (by simp : p_l.length = (p_l.map GLaw54Op.lf).length) ok0) <|
  .ite (decide ((v2041 : Int) < (p_l.length : Int))) (fun c2043 =>
    .say [.gd 18004 true] (okc c2043 ok0) <|
    .ret ⟨[], [2, 8, 9, 11, 50], [], 2⟩ (r1952.2 == 0)) fun c2043 =>
  .say [.gd 18004 false] (okc c2043 ok0) <|
  .ret ⟨[], [2, 8, 9, 11, 50], [], 2⟩ (false)
noncomputable def M_docstorelaw54_TwophaseRuns_J10 (p_l : List GLaw54Op) (r1952 : GDecision × Int) (s2042 : GDecision) (v2041 : Int) : Option ((Bool)) := Mo.den (M_docstorelaw54_TwophaseRuns_J10_T p_l r1952 s2042 v2041)
noncomputable def M_docstorelaw54_TwophaseRuns_J10_X (r_ : (Bool)) : Exit := .normal
noncomputable def M_docstorelaw54_TwophaseRuns_J10_S (p_l : List GLaw54Op) (r1952 : GDecision × Int) (s2042 : GDecision) (v2041 : Int) (r_ : (Bool)) : St := ⟨[(2, .lf (.rows 3 (p_l.map GLaw54Op.lf))), (8, .lf (.int .i64 r1952.2)), (9, .ptr 1 0), (11, .lf (.int .i64 v2041)), (50, .lf (.bool r_))], [.dead, .box 27 (.dat (GDecision.lf1 s2042))]⟩
set_option maxRecDepth 20000 in
set_option maxHeartbeats 4000000 in
theorem M_docstorelaw54_TwophaseRuns_J10_W {p_l : List GLaw54Op} {r1952 : GDecision × Int} {s2042 : GDecision} {v2041 : Int} {r_ : (Bool)} (h : M_docstorelaw54_TwophaseRuns_J10 p_l r1952 s2042 v2041 = some r_) : AWa Tryd.prog GI TTc Tryd.f4.ntmps (Code.sub (bodyC Tryd.f4) [1, 1, 1, 1, 1, 0, 1, 0, 0, 0, 0]) (M_docstorelaw54_TwophaseRuns_J10_X r_) (M_docstorelaw54_TwophaseRuns_J10_S p_l r1952 s2042 v2041 r_) ⟨[(2, .lf (.rows 3 (p_l.map GLaw54Op.lf))), (8, .lf (.int .i64 r1952.2)), (9, .ptr 1 0), (11, .lf (.int .i64 v2041))], [.dead, .box 27 (.dat (GDecision.lf1 s2042))]⟩ :=
  part_T BaseK (M_docstorelaw54_TwophaseRuns_J10_T p_l r1952 s2042 v2041) M_docstorelaw54_TwophaseRuns_J10_X (M_docstorelaw54_TwophaseRuns_J10_S p_l r1952 s2042 v2041) (by kernel_rfl) h
set_option maxRecDepth 20000 in
set_option maxHeartbeats 4000000 in
noncomputable def M_docstorelaw54_TwophaseRuns_L15_T (p_l : List GLaw54Op) (r1952 : GDecision × Int) : (Int × GDecision) → Mo ((Int × GDecision) ⊕ (Unit ⊕ Unit)) := fun (v2041, s2042) =>
  .ask (M_docstorelaw54_TwophaseRuns_J10 p_l r1952 s2042 v2041) fun r2045 h2046 =>
  .say [.part [] 23 [2, 8, 9, 11] 2 (M_docstorelaw54_TwophaseRuns_J10_X r2045) (M_docstorelaw54_TwophaseRuns_J10_S p_l r1952 s2042 v2041 r2045).T (M_docstorelaw54_TwophaseRuns_J10_S p_l r1952 s2042 v2041 r2045).H] (okc (M_docstorelaw54_TwophaseRuns_J10_W h2046) ok0) <|
  .ite (r2045) (fun c2047 =>
    .say [.br true] (okc c2047 ok0) <|
    .ask (gidx p_l v2041) fun x2048 h2049 =>
    .say [] (okc (gidx_ok GLaw54Op.lf_eq h2049 : (0 : Int) ≤ v2041 ∧ (p_l.map GLaw54Op.lf)[v2041.toNat]? = some (GLaw54Op.lf1 x2048)) ok0) <|
    .ask (M_docstorelaw54_call s2042 x2048) fun r2050 h2051 =>
    .say [.orderT (.q 0 (.q 1 (.q 2 (.q 3 (.q 4 (.l 5 (.q 6 (.q 7 (.q 8 (.l 9 (.q 10 .fin))))))))))) (some 5) [] [.row (GLaw54Op.lf1 x2048), .res (.tup [.dat (GDecision.lf1 r2050.1), .lf (.bool r2050.2)])] [2, 8, 9, 11, 12] 2 [(2, .lf (.rows 3 (p_l.map GLaw54Op.lf))), (8, .lf (.int .i64 r1952.2)), (9, .ptr 1 0), (11, .lf (.int .i64 v2041)), (12, .lf (.bool r2050.2))] [.dead, .box 27 (.dat (GDecision.lf1 r2050.1))]] (okc (M_docstorelaw54_call_ok _ _ _ h2051) (okc (rfl : (some ⟨[(2, .lf (.rows 3 (p_l.map GLaw54Op.lf))), (8, .lf (.int .i64 r1952.2)), (9, .ptr 1 0), (11, .lf (.int .i64 v2041)), (12, .lf (.bool r2050.2))], [.dead, .box 27 (.dat (GDecision.lf1 r2050.1))]⟩ : Option St) = some ⟨[(2, .lf (.rows 3 (p_l.map GLaw54Op.lf))), (8, .lf (.int .i64 r1952.2)), (9, .ptr 1 0), (11, .lf (.int .i64 v2041)), (12, .lf (.bool r2050.2))], [.dead, .box 27 (.dat (GDecision.lf1 r2050.1))]⟩) ok0)) <|
    .ite (!r2050.2) (fun c2052 =>
      .say [.br true] (okc c2052 ok0) <|
      .ret ⟨[.kill 1], [6], [], 2⟩ (.inr (.inl ()))) fun c2052 =>
    .say [.br false] (okc c2052 ok0) <|
    .ret ⟨[], [2, 8, 9, 11], [], 2⟩ (.inl (IntKind.wrap .i64 (v2041 + 1), r2050.1))) fun c2047 =>
  .say [.br false] (okc c2047 ok0) <|
  .ret ⟨[.kill 1], [], [], 2⟩ (.inr (.inr (())))
noncomputable def M_docstorelaw54_TwophaseRuns_L15 (p_l : List GLaw54Op) (r1952 : GDecision × Int) (v2041 : Int) (s2042 : GDecision) : Option (Unit ⊕ Unit) := loopM (fun v_ => (M_docstorelaw54_TwophaseRuns_L15_T p_l r1952 v_).den) FU (v2041, s2042)
noncomputable def M_docstorelaw54_TwophaseRuns_L15_H (p_l : List GLaw54Op) (r1952 : GDecision × Int) : (Int × GDecision) → St := fun (v2041, s2042) => ⟨[(2, .lf (.rows 3 (p_l.map GLaw54Op.lf))), (8, .lf (.int .i64 r1952.2)), (9, .ptr 1 0), (11, .lf (.int .i64 v2041))], [.dead, .box 27 (.dat (GDecision.lf1 s2042))]⟩
noncomputable def M_docstorelaw54_TwophaseRuns_L15_X (r_ : Unit ⊕ Unit) : Exit := match r_ with
  | .inl o_ => .ret
  | .inr (o_) => .exit 0
noncomputable def M_docstorelaw54_TwophaseRuns_L15_S  (r_ : Unit ⊕ Unit) : St := match r_ with
  | .inl o_ => ⟨[(6, .lf (.bool false))], [.dead, .dead]⟩
  | .inr (o_) => ⟨[], [.dead, .dead]⟩
set_option maxRecDepth 20000 in
set_option maxHeartbeats 4000000 in
theorem M_docstorelaw54_TwophaseRuns_L15_W {p_l : List GLaw54Op} {r1952 : GDecision × Int} {v2041 : Int} {s2042 : GDecision} {r_ : Unit ⊕ Unit} (h : M_docstorelaw54_TwophaseRuns_L15 p_l r1952 v2041 s2042 = some r_) : AWa Tryd.prog GI TTc Tryd.f4.ntmps (Code.sub (bodyC Tryd.f4) [1, 1, 1, 1, 1, 0, 1, 0]) (M_docstorelaw54_TwophaseRuns_L15_X r_) (M_docstorelaw54_TwophaseRuns_L15_S r_) (M_docstorelaw54_TwophaseRuns_L15_H p_l r1952 (v2041, s2042)) :=
  loop_T BaseK (body := (Code.sub (bodyC Tryd.f4) [1, 1, 1, 1, 1, 0, 1, 0, 0])) (by kernel_rfl) (M_docstorelaw54_TwophaseRuns_L15_T p_l r1952) (M_docstorelaw54_TwophaseRuns_L15_H p_l r1952) M_docstorelaw54_TwophaseRuns_L15_X M_docstorelaw54_TwophaseRuns_L15_S (fun r_ => by rcases r_ with _ | _ <;> rfl) (fun v_ => by kernel_rfl) h
set_option maxRecDepth 20000 in
set_option maxHeartbeats 4000000 in
noncomputable def M_docstorelaw54_TwophaseRuns_T (p_id : ByteArray) (p_shards : List Int) (p_l : List GLaw54Op) : Mo (Bool) :=
  .ask (M_docstorelaw54_TwophaseRuns_J0 p_id p_l p_shards) fun r1940 h1941 =>
  .say [.part [] 9 [0, 1, 2] 0 (M_docstorelaw54_TwophaseRuns_J0_X r1940) (M_docstorelaw54_TwophaseRuns_J0_S p_id p_l p_shards r1940).T (M_docstorelaw54_TwophaseRuns_J0_S p_id p_l p_shards r1940).H] (okc (M_docstorelaw54_TwophaseRuns_J0_W h1941) ok0) <|
  .ite (r1940) (fun c1945 =>
    .say [.br true] (okc c1945 ok0) <|
    .ask (M_docstorelaw54_awake) fun r1948 h1949 =>
    .say [.res (.lf (.bool r1948))] (okc (M_docstorelaw54_awake_ok  _ h1949) ok0) <|
    .ret fit0 (r1948)) fun c1945 =>
  .say [.br false] (okc c1945 ok0) <|
  .ask (M_twophase_Start p_id p_shards) fun r1952 h1953 =>
  .say [.res (.tup [.dat (GDecision.lf1 r1952.1), .lf (.int .i64 r1952.2)])] (okc (M_twophase_Start_ok _ _ _ h1953) ok0) <|
  .ask (M_docstoreref54_Start p_id p_shards) fun r1956 h1957 =>
  .say [.res (.tup [.dat (GDecision.lf1 r1956.1), .lf (.int .i64 r1956.2)])] (okc (M_docstoreref54_Start_ok _ _ _ h1957) ok0) <|
  .ask (M_docstorelaw54_TwophaseRuns_J5 p_l r1952 r1956) fun r1967 h1968 =>
  .say [.part [] 17 [2, 7, 8, 9, 10] 2 (M_docstorelaw54_TwophaseRuns_J5_X r1967) (M_docstorelaw54_TwophaseRuns_J5_S p_l r1952 r1956 r1967).T (M_docstorelaw54_TwophaseRuns_J5_S p_l r1952 r1956 r1967).H] (okc (M_docstorelaw54_TwophaseRuns_J5_W h1968) ok0) <|
  .ite (r1967) (fun c1970 =>
    .say [.br true] (okc c1970 ok0) <|
    .ret fit0 (false)) fun c1970 =>
  .say [.br false] (okc c1970 ok0) <|
  .ask2 (M_docstorelaw54_TwophaseRuns_L15 p_l r1952 0 r1956.1) (fun o2055 h2054 =>
    .say [.part [.norm 1] 0 [2, 8, 9, 11] 2 (M_docstorelaw54_TwophaseRuns_L15_X (.inl o2055)) (M_docstorelaw54_TwophaseRuns_L15_S (.inl o2055)).T (M_docstorelaw54_TwophaseRuns_L15_S (.inl o2055)).H] (okc (M_docstorelaw54_TwophaseRuns_L15_W h2054) ok0) <|
    .ret fit0 (false)) fun o2056 h2054 =>
  .say [.part [.norm 1] 0 [2, 8, 9, 11] 2 (M_docstorelaw54_TwophaseRuns_L15_X (.inr (o2056))) (M_docstorelaw54_TwophaseRuns_L15_S (.inr (o2056))).T (M_docstorelaw54_TwophaseRuns_L15_S (.inr (o2056))).H] (okc (M_docstorelaw54_TwophaseRuns_L15_W h2054) ok0) <|
  .ask (M_docstorelaw54_awake) fun r2057 h2058 =>
  .say [.res (.lf (.bool r2057))] (okc (M_docstorelaw54_awake_ok  _ h2058) ok0) <|
  .ret fit0 (r2057)
noncomputable def M_docstorelaw54_TwophaseRuns (p_id : ByteArray) (p_shards : List Int) (p_l : List GLaw54Op) : Option (Bool) := Mo.den (M_docstorelaw54_TwophaseRuns_T p_id p_shards p_l)
set_option maxRecDepth 20000 in
set_option maxHeartbeats 4000000 in
theorem M_docstorelaw54_TwophaseRuns_ok (p_id : ByteArray) (p_shards : List Int) (p_l : List GLaw54Op) (r : Bool) (h : M_docstorelaw54_TwophaseRuns p_id p_shards p_l = some r) : Fn Tryd.prog GI 4 [.lf (.str p_id), .lf (.rows 1 (p_shards.map lfI)), .lf (.rows 3 (p_l.map GLaw54Op.lf))] (.lf (.bool r)) :=
  fn_T BaseK Tryd.func4 (by kernel_rfl) (by kernel_rfl) (by kernel_rfl) (by kernel_rfl) (M_docstorelaw54_TwophaseRuns_T p_id p_shards p_l) (fun r => [.lf (.bool r)]) (by kernel_rfl) h
end Go.Proofs.YtplokbmdcfakbaaDoor
