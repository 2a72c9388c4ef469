/- Printed by dec.py. -/
import Derived.Test.YtplokbmdcfakbaaDoorQR6
set_option linter.unusedSimpArgs false
set_option linter.unusedVariables false
namespace Go.Proofs.YtplokbmdcfakbaaDoor
open Go.RowKit
set_option maxRecDepth 20000 in
set_option maxHeartbeats 4000000 in
noncomputable def M_docstorelaw54_TwophaseAgrees_J0_T (p_id : ByteArray) (p_l : List GLaw54Op) (p_shards : List Int) : Mo ((Bool)) :=
  .say [.num p_shards.length] (okc (by simp : p_shards.length = (p_shards.map lfI).length) ok0) <|
  .ite (decide ((20 : Int) < (p_shards.length : Int))) (fun c2060 =>
    .say [.gd 4003 true] (okc c2060 ok0) <|
    .ret ⟨[], [0, 1, 2, 33], [], 0⟩ (true)) fun c2060 =>
  .say [.gd 4003 false, .num p_l.length] (okc c2060 (okc (by simp : p_l.length = (p_l.map GLaw54Op.lf).length) ok0)) <|
  .ret ⟨[], [0, 1, 2, 33], [], 0⟩ (decide ((60 : Int) < (p_l.length : Int)))
noncomputable def M_docstorelaw54_TwophaseAgrees_J0 (p_id : ByteArray) (p_l : List GLaw54Op) (p_shards : List Int) : Option ((Bool)) := Mo.den (M_docstorelaw54_TwophaseAgrees_J0_T p_id p_l p_shards)
noncomputable def M_docstorelaw54_TwophaseAgrees_J0_X (r_ : (Bool)) : Exit := .normal
noncomputable def M_docstorelaw54_TwophaseAgrees_J0_S (p_id : ByteArray) (p_l : List GLaw54Op) (p_shards : List Int) (r_ : (Bool)) : St := ⟨[(0, .lf (.str p_id)), (1, .lf (.rows 1 (p_shards.map lfI))), (2, .lf (.rows 3 (p_l.map GLaw54Op.lf))), (33, .lf (.bool r_))], []⟩
set_option maxRecDepth 20000 in
set_option maxHeartbeats 4000000 in
theorem M_docstorelaw54_TwophaseAgrees_J0_W {p_id : ByteArray} {p_l : List GLaw54Op} {p_shards : List Int} {r_ : (Bool)} (h : M_docstorelaw54_TwophaseAgrees_J0 p_id p_l p_shards = some r_) : AWa Tryd.prog GI TTc Tryd.f3.ntmps (Code.sub (bodyC Tryd.f3) [1, 0, 0]) (M_docstorelaw54_TwophaseAgrees_J0_X r_) (M_docstorelaw54_TwophaseAgrees_J0_S p_id p_l p_shards r_) ⟨[(0, .lf (.str p_id)), (1, .lf (.rows 1 (p_shards.map lfI))), (2, .lf (.rows 3 (p_l.map GLaw54Op.lf)))], []⟩ :=
  part_T BaseK (M_docstorelaw54_TwophaseAgrees_J0_T p_id p_l p_shards) M_docstorelaw54_TwophaseAgrees_J0_X (M_docstorelaw54_TwophaseAgrees_J0_S p_id p_l p_shards) (by kernel_rfl) h
set_option maxRecDepth 20000 in
set_option maxHeartbeats 4000000 in
noncomputable def M_docstorelaw54_TwophaseAgrees_J5_T (r2074 : GDecision × Int) : Mo ((Bool)) :=
  .ite (decide ((r2074.1.fID : ByteArray) = (⟨#[]⟩ : ByteArray))) (fun c2084 =>
    .say [.gd 12003 true] (okc c2084 ok0) <|
    .ask (M_docstorelaw54_awake) fun r2085 h2086 =>
    .say [.res (.lf (.bool r2085))] (okc (M_docstorelaw54_awake_ok  _ h2086) ok0) <|
    .ret ⟨[.kill 0], [6], [], 1⟩ (r2085)) fun c2084 =>
  .say [.gd 12003 false] (okc c2084 ok0) <|
  .ret ⟨[.kill 0], [6], [], 1⟩ (false)
noncomputable def M_docstorelaw54_TwophaseAgrees_J5 (r2074 : GDecision × Int) : Option ((Bool)) := Mo.den (M_docstorelaw54_TwophaseAgrees_J5_T r2074)
noncomputable def M_docstorelaw54_TwophaseAgrees_J5_X (r_ : (Bool)) : Exit := .normal
noncomputable def M_docstorelaw54_TwophaseAgrees_J5_S  (r_ : (Bool)) : St := ⟨[(6, .lf (.bool r_))], [.dead]⟩
set_option maxRecDepth 20000 in
set_option maxHeartbeats 4000000 in
theorem M_docstorelaw54_TwophaseAgrees_J5_W {r2074 : GDecision × Int} {r_ : (Bool)} (h : M_docstorelaw54_TwophaseAgrees_J5 r2074 = some r_) : AWa Tryd.prog GI TTc Tryd.f3.ntmps (Code.sub (bodyC Tryd.f3) [1, 1, 1, 0, 1, 0, 0]) (M_docstorelaw54_TwophaseAgrees_J5_X r_) (M_docstorelaw54_TwophaseAgrees_J5_S r_) ⟨[(7, .ptr 0 0)], [.box 27 (.agg ((GDecision.lf1 r2074.1).map AV.lf))]⟩ :=
  part_T BaseK (M_docstorelaw54_TwophaseAgrees_J5_T r2074) M_docstorelaw54_TwophaseAgrees_J5_X M_docstorelaw54_TwophaseAgrees_J5_S (by kernel_rfl) h
set_option maxRecDepth 20000 in
set_option maxHeartbeats 4000000 in
noncomputable def M_docstorelaw54_TwophaseAgrees_J10_T (l2328 : List Int) (p_id : ByteArray) (p_l : List GLaw54Op) (p_shards : List Int) (r2334 : GDecision × Int) (s2327 : GDecision) (v2326 : Int) : Mo ((Bool)) :=
  .ask (gidx p_l v2326) fun x2337 h2338 =>
  .say [.row (GLaw54Op.lf1 x2337)] (okc (gidx_ok GLaw54Op.lf_eq h2338 : (0 : Int) ≤ v2326 ∧ (p_l.map GLaw54Op.lf)[v2326.toNat]? = some (GLaw54Op.lf1 x2337)) ok0) <|
  .ite (decide ((x2337.fShard : Int) < 0)) (fun c2339 =>
    .say [.gd 26006 true] (okc c2339 ok0) <|
    .ret ⟨[], [0, 1, 2, 7, 9, 10, 11, 97], [], 3⟩ (true)) fun c2339 =>
  .say [.gd 26006 false] (okc c2339 ok0) <|
  .ask (gidx p_l v2326) fun x2340 h2341 =>
  .say [.row (GLaw54Op.lf1 x2340)] (okc (gidx_ok GLaw54Op.lf_eq h2341 : (0 : Int) ≤ v2326 ∧ (p_l.map GLaw54Op.lf)[v2326.toNat]? = some (GLaw54Op.lf1 x2340)) ok0) <|
  .ite (decide ((63 : Int) < x2340.fShard)) (fun c2342 =>
    .say [.gd 26014 true] (okc c2342 ok0) <|
    .ret ⟨[], [0, 1, 2, 7, 9, 10, 11, 97], [], 3⟩ (true)) fun c2342 =>
  .say [.gd 26014 false] (okc c2342 ok0) <|
  .ask (gidx p_l v2326) fun x2343 h2344 =>
  .say [.row (GLaw54Op.lf1 x2343)] (okc (gidx_ok GLaw54Op.lf_eq h2344 : (0 : Int) ≤ v2326 ∧ (p_l.map GLaw54Op.lf)[v2326.toNat]? = some (GLaw54Op.lf1 x2343)) ok0) <|
  .ask (gidx l2328 x2343.fShard) fun x2345 h2346 =>
  .say [.row (lfI x2345)] (okc (gidx_lt (fun _ => rfl) h2346 : (0 : Int) ≤ x2343.fShard ∧ x2343.fShard.toNat < (l2328.map lfI).length) (okc ((gidx_ok (fun _ => rfl) h2346).2 : (l2328.map lfI)[x2343.fShard.toNat]? = some (lfI x2345)) ok0)) <|
  .ret ⟨[], [0, 1, 2, 7, 9, 10, 11, 97], [], 3⟩ (x2345 != 0)
noncomputable def M_docstorelaw54_TwophaseAgrees_J10 (l2328 : List Int) (p_id : ByteArray) (p_l : List GLaw54Op) (p_shards : List Int) (r2334 : GDecision × Int) (s2327 : GDecision) (v2326 : Int) : Option ((Bool)) := Mo.den (M_docstorelaw54_TwophaseAgrees_J10_T l2328 p_id p_l p_shards r2334 s2327 v2326)
noncomputable def M_docstorelaw54_TwophaseAgrees_J10_X (r_ : (Bool)) : Exit := .normal
noncomputable def M_docstorelaw54_TwophaseAgrees_J10_S (l2328 : List Int) (p_id : ByteArray) (p_l : List GLaw54Op) (p_shards : List Int) (r2334 : GDecision × Int) (s2327 : GDecision) (v2326 : Int) (r_ : (Bool)) : St := ⟨[(0, .lf (.str p_id)), (1, .lf (.rows 1 (p_shards.map lfI))), (2, .lf (.rows 3 (p_l.map GLaw54Op.lf))), (7, .ptr 0 0), (9, .own 1), (10, .lf (.int .i64 v2326)), (11, .ptr 2 0), (97, .lf (.bool r_))], [.box 27 (.dat (GDecision.lf1 s2327)), .row 3 1 (l2328.map lfI), .box 27 (.agg ((GDecision.lf1 r2334.1).map AV.lf))]⟩
set_option maxRecDepth 20000 in
set_option maxHeartbeats 4000000 in
theorem M_docstorelaw54_TwophaseAgrees_J10_W {l2328 : List Int} {p_id : ByteArray} {p_l : List GLaw54Op} {p_shards : List Int} {r2334 : GDecision × Int} {s2327 : GDecision} {v2326 : Int} {r_ : (Bool)} (h : M_docstorelaw54_TwophaseAgrees_J10 l2328 p_id p_l p_shards r2334 s2327 v2326 = some r_) : AWa Tryd.prog GI TTc Tryd.f3.ntmps (Code.sub (bodyC Tryd.f3) [1, 1, 1, 1, 1, 0, 1, 0, 0, 1, 0, 0, 1, 1, 0, 0, 0]) (M_docstorelaw54_TwophaseAgrees_J10_X r_) (M_docstorelaw54_TwophaseAgrees_J10_S l2328 p_id p_l p_shards r2334 s2327 v2326 r_) ⟨[(0, .lf (.str p_id)), (1, .lf (.rows 1 (p_shards.map lfI))), (2, .lf (.rows 3 (p_l.map GLaw54Op.lf))), (7, .ptr 0 0), (9, .own 1), (10, .lf (.int .i64 v2326)), (11, .ptr 2 0)], [.box 27 (.dat (GDecision.lf1 s2327)), .row 3 1 (l2328.map lfI), .box 27 (.agg ((GDecision.lf1 r2334.1).map AV.lf))]⟩ :=
  part_T BaseK (M_docstorelaw54_TwophaseAgrees_J10_T l2328 p_id p_l p_shards r2334 s2327 v2326) M_docstorelaw54_TwophaseAgrees_J10_X (M_docstorelaw54_TwophaseAgrees_J10_S l2328 p_id p_l p_shards r2334 s2327 v2326) (by kernel_rfl) h
set_option maxRecDepth 20000 in
set_option maxHeartbeats 4000000 in
noncomputable def M_docstorelaw54_TwophaseAgrees_J15_T (l2328 : List Int) (p_id : ByteArray) (p_l : List GLaw54Op) (p_shards : List Int) (s2327 : GDecision) (v2326 : Int) : Mo (Unit ⊕ (GDecision × (List Int))) :=
  .ask (gidx p_l v2326) fun x2330 h2331 =>
  .say [] (okc (gidx_ok GLaw54Op.lf_eq h2331 : (0 : Int) ≤ v2326 ∧ (p_l.map GLaw54Op.lf)[v2326.toNat]? = some (GLaw54Op.lf1 x2330)) ok0) <|
  .ask (gidx p_l v2326) fun x2332 h2333 =>
  .say [] (okc (gidx_ok GLaw54Op.lf_eq h2333 : (0 : Int) ≤ v2326 ∧ (p_l.map GLaw54Op.lf)[v2326.toNat]? = some (GLaw54Op.lf1 x2332)) ok0) <|
  .ask (M_twophase_Vote s2327 x2330.fShard x2332.fStamp) fun r2334 h2335 =>
  .say [.orderT (.q 0 (.q 1 (.q 2 (.q 3 (.q 4 (.q 5 (.q 6 (.q 7 (.q 8 (.q 9 (.q 10 (.alt 11 (.q 12 (.q 13 (.q 14 (.l 15 (.l 16 (.q 17 .fin)))))) (.l 15 (.l 11 (.q 12 (.q 13 (.q 14 (.l 16 (.q 17 .fin))))))))))))))))))) none [2] [.row (GLaw54Op.lf1 x2330), .row (GLaw54Op.lf1 x2332), .both [.at_ 22 11, .resv 1, .res (.tup [.dat (GDecision.lf1 r2334.1), .lf (.int .i64 r2334.2)]), .slot 2] [.at_ 22 15, .resv 1, .slot 2, .res (.tup [.dat (GDecision.lf1 r2334.1), .lf (.int .i64 r2334.2)])]] [0, 1, 2, 7, 9, 10, 11, 12] 3 [(0, .lf (.str p_id)), (1, .lf (.rows 1 (p_shards.map lfI))), (2, .lf (.rows 3 (p_l.map GLaw54Op.lf))), (7, .ptr 0 0), (9, .own 1), (10, .lf (.int .i64 v2326)), (11, .ptr 2 0), (12, .lf (.int .i64 r2334.2))] [.box 27 (.dat (GDecision.lf1 s2327)), .row 3 1 (l2328.map lfI), .box 27 (.agg ((GDecision.lf1 r2334.1).map AV.lf))]] (okc (M_twophase_Vote_ok _ _ _ _ h2335) (okc (rfl : (some ⟨[(0, .lf (.str p_id)), (1, .lf (.rows 1 (p_shards.map lfI))), (2, .lf (.rows 3 (p_l.map GLaw54Op.lf))), (7, .ptr 0 0), (9, .own 1), (10, .lf (.int .i64 v2326)), (11, .ptr 2 0), (12, .lf (.int .i64 r2334.2))], [.box 27 (.dat (GDecision.lf1 s2327)), .row 3 1 (l2328.map lfI), .box 27 (.agg ((GDecision.lf1 r2334.1).map AV.lf))]⟩ : Option St) = some ⟨[(0, .lf (.str p_id)), (1, .lf (.rows 1 (p_shards.map lfI))), (2, .lf (.rows 3 (p_l.map GLaw54Op.lf))), (7, .ptr 0 0), (9, .own 1), (10, .lf (.int .i64 v2326)), (11, .ptr 2 0), (12, .lf (.int .i64 r2334.2))], [.box 27 (.dat (GDecision.lf1 s2327)), .row 3 1 (l2328.map lfI), .box 27 (.agg ((GDecision.lf1 r2334.1).map AV.lf))]⟩) (okc (M_twophase_Vote_ok _ _ _ _ h2335) (okc (rfl : (some ⟨[(0, .lf (.str p_id)), (1, .lf (.rows 1 (p_shards.map lfI))), (2, .lf (.rows 3 (p_l.map GLaw54Op.lf))), (7, .ptr 0 0), (9, .own 1), (10, .lf (.int .i64 v2326)), (11, .ptr 2 0), (12, .lf (.int .i64 r2334.2))], [.box 27 (.dat (GDecision.lf1 s2327)), .row 3 1 (l2328.map lfI), .box 27 (.agg ((GDecision.lf1 r2334.1).map AV.lf))]⟩ : Option St) = some ⟨[(0, .lf (.str p_id)), (1, .lf (.rows 1 (p_shards.map lfI))), (2, .lf (.rows 3 (p_l.map GLaw54Op.lf))), (7, .ptr 0 0), (9, .own 1), (10, .lf (.int .i64 v2326)), (11, .ptr 2 0), (12, .lf (.int .i64 r2334.2))], [.box 27 (.dat (GDecision.lf1 s2327)), .row 3 1 (l2328.map lfI), .box 27 (.agg ((GDecision.lf1 r2334.1).map AV.lf))]⟩) ok0)))) <|
  .ite (r2334.2 == 0) (fun c2336 =>
    .say [.br true] (okc c2336 ok0) <|
    .ask (M_docstorelaw54_TwophaseAgrees_J10 l2328 p_id p_l p_shards r2334 s2327 v2326) fun r2348 h2349 =>
    .say [.part [] 31 [0, 1, 2, 7, 9, 10, 11] 3 (M_docstorelaw54_TwophaseAgrees_J10_X r2348) (M_docstorelaw54_TwophaseAgrees_J10_S l2328 p_id p_l p_shards r2334 s2327 v2326 r2348).T (M_docstorelaw54_TwophaseAgrees_J10_S l2328 p_id p_l p_shards r2334 s2327 v2326 r2348).H] (okc (M_docstorelaw54_TwophaseAgrees_J10_W h2349) ok0) <|
    .ite (r2348) (fun c2350 =>
      .say [.br true] (okc c2350 ok0) <|
      .ret ⟨[.kill 0, .kill 1], [6], [], 2⟩ (.inl ())) fun c2350 =>
    .say [.br false, .order [(true, 0), (true, 1), (true, 2), (true, 3), (true, 4), (true, 5), (true, 6), (true, 7), (true, 8), (true, 9), (true, 10), (true, 11), (false, 12)] (some 12) []] (okc c2350 ok0) <|
    .ask (gidx p_l v2326) fun x2351 h2352 =>
    .say [.row (GLaw54Op.lf1 x2351)] (okc (gidx_ok GLaw54Op.lf_eq h2352 : (0 : Int) ≤ v2326 ∧ (p_l.map GLaw54Op.lf)[v2326.toNat]? = some (GLaw54Op.lf1 x2351)) ok0) <|
    .ask (gidx p_l v2326) fun x2353 h2354 =>
    .say [.row (GLaw54Op.lf1 x2353)] (okc (gidx_ok GLaw54Op.lf_eq h2354 : (0 : Int) ≤ v2326 ∧ (p_l.map GLaw54Op.lf)[v2326.toNat]? = some (GLaw54Op.lf1 x2353)) ok0) <|
    .ask (gidx l2328 x2351.fShard) fun x2355 h2356 =>
    .say [.row (lfI x2355), .rows ((l2328.set x2351.fShard.toNat x2353.fStamp).map lfI)] (okc (gidx_lt (fun _ => rfl) h2356 : (0 : Int) ≤ x2351.fShard ∧ x2351.fShard.toNat < (l2328.map lfI).length) (okc (by simp [lfI, lfK] : (l2328.set x2351.fShard.toNat x2353.fStamp).map lfI = (l2328.map lfI).set x2351.fShard.toNat (lfI x2353.fStamp)) (okc ((gidx_ok (fun _ => rfl) h2356).2 : (l2328.map lfI)[x2351.fShard.toNat]? = some (lfI x2355)) ok0))) <|
    .ret ⟨[.norm 0], [0, 1, 2, 7, 9, 10], [], 2⟩ (.inr ((r2334.1, l2328.set x2351.fShard.toNat x2353.fStamp)))) fun c2336 =>
  .say [.br false] (okc c2336 ok0) <|
  .ret ⟨[], [0, 1, 2, 7, 9, 10], [], 2⟩ (.inr ((s2327, l2328)))
noncomputable def M_docstorelaw54_TwophaseAgrees_J15 (l2328 : List Int) (p_id : ByteArray) (p_l : List GLaw54Op) (p_shards : List Int) (s2327 : GDecision) (v2326 : Int) : Option (Unit ⊕ (GDecision × (List Int))) := Mo.den (M_docstorelaw54_TwophaseAgrees_J15_T l2328 p_id p_l p_shards s2327 v2326)
noncomputable def M_docstorelaw54_TwophaseAgrees_J15_X (r_ : Unit ⊕ (GDecision × (List Int))) : Exit := match r_ with
  | .inl o_ => .ret
  | .inr (o_) => .normal
noncomputable def M_docstorelaw54_TwophaseAgrees_J15_S (p_id : ByteArray) (p_l : List GLaw54Op) (p_shards : List Int) (v2326 : Int) (r_ : Unit ⊕ (GDecision × (List Int))) : St := match r_ with
  | .inl o_ => ⟨[(6, .lf (.bool false))], [.dead, .dead]⟩
  | .inr (o_) => ⟨[(0, .lf (.str p_id)), (1, .lf (.rows 1 (p_shards.map lfI))), (2, .lf (.rows 3 (p_l.map GLaw54Op.lf))), (7, .ptr 0 0), (9, .own 1), (10, .lf (.int .i64 v2326))], [.box 27 (.dat (GDecision.lf1 o_.1)), .row 3 1 (o_.2.map lfI)]⟩
set_option maxRecDepth 20000 in
set_option maxHeartbeats 4000000 in
theorem M_docstorelaw54_TwophaseAgrees_J15_W {l2328 : List Int} {p_id : ByteArray} {p_l : List GLaw54Op} {p_shards : List Int} {s2327 : GDecision} {v2326 : Int} {r_ : Unit ⊕ (GDecision × (List Int))} (h : M_docstorelaw54_TwophaseAgrees_J15 l2328 p_id p_l p_shards s2327 v2326 = some r_) : AWa Tryd.prog GI TTc Tryd.f3.ntmps (Code.sub (bodyC Tryd.f3) [1, 1, 1, 1, 1, 0, 1, 0, 0, 1, 0]) (M_docstorelaw54_TwophaseAgrees_J15_X r_) (M_docstorelaw54_TwophaseAgrees_J15_S p_id p_l p_shards v2326 r_) ⟨[(0, .lf (.str p_id)), (1, .lf (.rows 1 (p_shards.map lfI))), (2, .lf (.rows 3 (p_l.map GLaw54Op.lf))), (7, .ptr 0 0), (9, .own 1), (10, .lf (.int .i64 v2326))], [.box 27 (.dat (GDecision.lf1 s2327)), .row 3 1 (l2328.map lfI)]⟩ :=
  part_T BaseK (M_docstorelaw54_TwophaseAgrees_J15_T l2328 p_id p_l p_shards s2327 v2326) M_docstorelaw54_TwophaseAgrees_J15_X (M_docstorelaw54_TwophaseAgrees_J15_S p_id p_l p_shards v2326) (by kernel_rfl) h
set_option maxRecDepth 20000 in
set_option maxHeartbeats 4000000 in
noncomputable def M_docstorelaw54_TwophaseAgrees_L20_T (p_id : ByteArray) (p_l : List GLaw54Op) (p_shards : List Int) : (Int × GDecision × (List Int)) → Mo ((Int × GDecision × (List Int)) ⊕ (Unit ⊕ (GDecision × (List Int)))) := fun (v2326, s2327, l2328) =>
  .say [.num p_l.length] (okc (by simp : p_l.length = (p_l.map GLaw54Op.lf).length) ok0) <|
  .ite (decide ((v2326 : Int) < (p_l.length : Int))) (fun c2329 =>
    .say [.br true] (okc c2329 ok0) <|
    .ask2 (M_docstorelaw54_TwophaseAgrees_J15 l2328 p_id p_l p_shards s2327 v2326) (fun o2361 h2360 =>
      .say [.part [] 8 [0, 1, 2, 7, 9, 10] 2 (M_docstorelaw54_TwophaseAgrees_J15_X (.inl o2361)) (M_docstorelaw54_TwophaseAgrees_J15_S p_id p_l p_shards v2326 (.inl o2361)).T (M_docstorelaw54_TwophaseAgrees_J15_S p_id p_l p_shards v2326 (.inl o2361)).H] (okc (M_docstorelaw54_TwophaseAgrees_J15_W h2360) ok0) <|
      .ret ⟨[], [6], [], 2⟩ (.inr (.inl ()))) fun o2362 h2360 =>
    .say [.part [] 8 [0, 1, 2, 7, 9, 10] 2 (M_docstorelaw54_TwophaseAgrees_J15_X (.inr (o2362))) (M_docstorelaw54_TwophaseAgrees_J15_S p_id p_l p_shards v2326 (.inr (o2362))).T (M_docstorelaw54_TwophaseAgrees_J15_S p_id p_l p_shards v2326 (.inr (o2362))).H] (okc (M_docstorelaw54_TwophaseAgrees_J15_W h2360) ok0) <|
    .ret ⟨[], [0, 1, 2, 7, 9, 10], [], 2⟩ (.inl (IntKind.wrap .i64 (v2326 + 1), o2362.1, o2362.2))) fun c2329 =>
  .say [.br false] (okc c2329 ok0) <|
  .ret ⟨[], [0, 1, 7, 9], [], 2⟩ (.inr (.inr ((s2327, l2328))))
noncomputable def M_docstorelaw54_TwophaseAgrees_L20 (p_id : ByteArray) (p_l : List GLaw54Op) (p_shards : List Int) (v2326 : Int) (s2327 : GDecision) (l2328 : List Int) : Option (Unit ⊕ (GDecision × (List Int))) := loopM (fun v_ => (M_docstorelaw54_TwophaseAgrees_L20_T p_id p_l p_shards v_).den) FU (v2326, s2327, l2328)
noncomputable def M_docstorelaw54_TwophaseAgrees_L20_H (p_id : ByteArray) (p_l : List GLaw54Op) (p_shards : List Int) : (Int × GDecision × (List Int)) → St := fun (v2326, s2327, l2328) => ⟨[(0, .lf (.str p_id)), (1, .lf (.rows 1 (p_shards.map lfI))), (2, .lf (.rows 3 (p_l.map GLaw54Op.lf))), (7, .ptr 0 0), (9, .own 1), (10, .lf (.int .i64 v2326))], [.box 27 (.dat (GDecision.lf1 s2327)), .row 3 1 (l2328.map lfI)]⟩
noncomputable def M_docstorelaw54_TwophaseAgrees_L20_X (r_ : Unit ⊕ (GDecision × (List Int))) : Exit := match r_ with
  | .inl o_ => .ret
  | .inr (o_) => .exit 0
noncomputable def M_docstorelaw54_TwophaseAgrees_L20_S (p_id : ByteArray) (p_shards : List Int) (r_ : Unit ⊕ (GDecision × (List Int))) : St := match r_ with
  | .inl o_ => ⟨[(6, .lf (.bool false))], [.dead, .dead]⟩
  | .inr (o_) => ⟨[(0, .lf (.str p_id)), (1, .lf (.rows 1 (p_shards.map lfI))), (7, .ptr 0 0), (9, .own 1)], [.box 27 (.dat (GDecision.lf1 o_.1)), .row 3 1 (o_.2.map lfI)]⟩
set_option maxRecDepth 20000 in
set_option maxHeartbeats 4000000 in
theorem M_docstorelaw54_TwophaseAgrees_L20_W {p_id : ByteArray} {p_l : List GLaw54Op} {p_shards : List Int} {v2326 : Int} {s2327 : GDecision} {l2328 : List Int} {r_ : Unit ⊕ (GDecision × (List Int))} (h : M_docstorelaw54_TwophaseAgrees_L20 p_id p_l p_shards v2326 s2327 l2328 = some r_) : AWa Tryd.prog GI TTc Tryd.f3.ntmps (Code.sub (bodyC Tryd.f3) [1, 1, 1, 1, 1, 0, 1, 0]) (M_docstorelaw54_TwophaseAgrees_L20_X r_) (M_docstorelaw54_TwophaseAgrees_L20_S p_id p_shards r_) (M_docstorelaw54_TwophaseAgrees_L20_H p_id p_l p_shards (v2326, s2327, l2328)) :=
  loop_T BaseK (body := (Code.sub (bodyC Tryd.f3) [1, 1, 1, 1, 1, 0, 1, 0, 0])) (by kernel_rfl) (M_docstorelaw54_TwophaseAgrees_L20_T p_id p_l p_shards) (M_docstorelaw54_TwophaseAgrees_L20_H p_id p_l p_shards) M_docstorelaw54_TwophaseAgrees_L20_X (M_docstorelaw54_TwophaseAgrees_L20_S p_id p_shards) (fun r_ => by rcases r_ with _ | _ <;> rfl) (fun v_ => by kernel_rfl) h
set_option maxRecDepth 20000 in
set_option maxHeartbeats 4000000 in
noncomputable def M_docstorelaw54_TwophaseAgrees_L26_T (o2368 : (GDecision × (List Int))) (p_id : ByteArray) (p_shards : List Int) : (Bool × Bool × Int × Int) → Mo ((Bool × Bool × Int × Int) ⊕ (Bool × Bool × Int)) := fun (v2408, v2409, v2410, v2411) =>
  .say [.num p_shards.length] (okc (by simp : p_shards.length = (p_shards.map lfI).length) ok0) <|
  .ite (decide ((v2411 : Int) < (p_shards.length : Int))) (fun c2412 =>
    .say [.br true] (okc c2412 ok0) <|
    .ask (gidx p_shards v2411) fun x2413 h2414 =>
    .say [.row (lfI x2413)] (okc (gidx_ok (fun _ => rfl) h2414 : (0 : Int) ≤ v2411 ∧ (p_shards.map lfI)[v2411.toNat]? = some (lfI x2413)) ok0) <|
    .ask (gidx o2368.2 x2413) fun x2415 h2416 =>
    .say [.row (lfI x2415)] (okc (gidx_lt (fun _ => rfl) h2416 : (0 : Int) ≤ x2413 ∧ x2413.toNat < (o2368.2.map lfI).length) (okc ((gidx_ok (fun _ => rfl) h2416).2 : (o2368.2.map lfI)[x2413.toNat]? = some (lfI x2415)) ok0)) <|
    .ite (v2408) (fun c2417 =>
      .say [.gd 44001 true] (okc c2417 ok0) <|
      .ite (v2409) (fun c2418 =>
        .say [.gd 44006 true] (okc c2418 ok0) <|
        .ret ⟨[], [0, 1, 7, 9, 13, 14, 15, 16], [], 2⟩ (.inl (true, true, (if x2415 > v2410 then x2415 else v2410), IntKind.wrap .i64 (v2411 + 1)))) fun c2418 =>
      .say [.gd 44006 false] (okc c2418 ok0) <|
      .ret ⟨[], [0, 1, 7, 9, 13, 14, 15, 16], [], 2⟩ (.inl (true, x2415 == 0, (if x2415 > v2410 then x2415 else v2410), IntKind.wrap .i64 (v2411 + 1)))) fun c2417 =>
    .say [.gd 44001 false] (okc c2417 ok0) <|
    .ite (v2409) (fun c2419 =>
      .say [.gd 44006 true] (okc c2419 ok0) <|
      .ret ⟨[], [0, 1, 7, 9, 13, 14, 15, 16], [], 2⟩ (.inl (x2415 == (-1), true, (if x2415 > v2410 then x2415 else v2410), IntKind.wrap .i64 (v2411 + 1)))) fun c2419 =>
    .say [.gd 44006 false] (okc c2419 ok0) <|
    .ret ⟨[], [0, 1, 7, 9, 13, 14, 15, 16], [], 2⟩ (.inl (x2415 == (-1), x2415 == 0, (if x2415 > v2410 then x2415 else v2410), IntKind.wrap .i64 (v2411 + 1)))) fun c2412 =>
  .say [.br false] (okc c2412 ok0) <|
  .ret ⟨[.kill 1], [0, 1, 7, 13, 14, 15], [], 2⟩ (.inr (v2408, v2409, v2410))
noncomputable def M_docstorelaw54_TwophaseAgrees_L26 (o2368 : (GDecision × (List Int))) (p_id : ByteArray) (p_shards : List Int) (v2408 : Bool) (v2409 : Bool) (v2410 : Int) (v2411 : Int) : Option ((Bool × Bool × Int)) := loopM (fun v_ => (M_docstorelaw54_TwophaseAgrees_L26_T o2368 p_id p_shards v_).den) FU (v2408, v2409, v2410, v2411)
noncomputable def M_docstorelaw54_TwophaseAgrees_L26_H (o2368 : (GDecision × (List Int))) (p_id : ByteArray) (p_shards : List Int) : (Bool × Bool × Int × Int) → St := fun (v2408, v2409, v2410, v2411) => ⟨[(0, .lf (.str p_id)), (1, .lf (.rows 1 (p_shards.map lfI))), (7, .ptr 0 0), (9, .own 1), (13, .lf (.bool v2408)), (14, .lf (.bool v2409)), (15, .lf (.int .i64 v2410)), (16, .lf (.int .i64 v2411))], [.box 27 (.dat (GDecision.lf1 o2368.1)), .row 3 1 (o2368.2.map lfI)]⟩
noncomputable def M_docstorelaw54_TwophaseAgrees_L26_X (r_ : (Bool × Bool × Int)) : Exit := .exit 2
noncomputable def M_docstorelaw54_TwophaseAgrees_L26_S (o2368 : (GDecision × (List Int))) (p_id : ByteArray) (p_shards : List Int) (r_ : (Bool × Bool × Int)) : St := ⟨[(0, .lf (.str p_id)), (1, .lf (.rows 1 (p_shards.map lfI))), (7, .ptr 0 0), (13, .lf (.bool r_.1)), (14, .lf (.bool r_.2.1)), (15, .lf (.int .i64 r_.2.2))], [.box 27 (.dat (GDecision.lf1 o2368.1)), .dead]⟩
set_option maxRecDepth 20000 in
set_option maxHeartbeats 4000000 in
theorem M_docstorelaw54_TwophaseAgrees_L26_W {o2368 : (GDecision × (List Int))} {p_id : ByteArray} {p_shards : List Int} {v2408 : Bool} {v2409 : Bool} {v2410 : Int} {v2411 : Int} {r_ : (Bool × Bool × Int)} (h : M_docstorelaw54_TwophaseAgrees_L26 o2368 p_id p_shards v2408 v2409 v2410 v2411 = some r_) : AWa Tryd.prog GI TTc Tryd.f3.ntmps (Code.sub (bodyC Tryd.f3) [1, 1, 1, 1, 1, 1, 1, 0, 1, 0]) (M_docstorelaw54_TwophaseAgrees_L26_X r_) (M_docstorelaw54_TwophaseAgrees_L26_S o2368 p_id p_shards r_) (M_docstorelaw54_TwophaseAgrees_L26_H o2368 p_id p_shards (v2408, v2409, v2410, v2411)) :=
  loop_T BaseK (body := (Code.sub (bodyC Tryd.f3) [1, 1, 1, 1, 1, 1, 1, 0, 1, 0, 0])) (by kernel_rfl) (M_docstorelaw54_TwophaseAgrees_L26_T o2368 p_id p_shards) (M_docstorelaw54_TwophaseAgrees_L26_H o2368 p_id p_shards) M_docstorelaw54_TwophaseAgrees_L26_X (M_docstorelaw54_TwophaseAgrees_L26_S o2368 p_id p_shards) (fun r_ => rfl) (fun v_ => by kernel_rfl) h
set_option maxRecDepth 20000 in
set_option maxHeartbeats 4000000 in
noncomputable def M_docstorelaw54_TwophaseAgrees_J32_T (p_id : ByteArray) (p_shards : List Int) (r2426 : (Bool × Bool × Int)) (r2430 : GDecision × GWrite × Int) : Mo ((Bool)) :=
  .ite (!r2426.1) (fun c2433 =>
    .say [.gd 48002 true] (okc c2433 ok0) <|
    .ret ⟨[], [0, 1, 7, 13, 15, 18, 19, 147], [], 3⟩ (r2426.2.1)) fun c2433 =>
  .say [.gd 48002 false] (okc c2433 ok0) <|
  .ret ⟨[], [0, 1, 7, 13, 15, 18, 19, 147], [], 3⟩ (false)
noncomputable def M_docstorelaw54_TwophaseAgrees_J32 (p_id : ByteArray) (p_shards : List Int) (r2426 : (Bool × Bool × Int)) (r2430 : GDecision × GWrite × Int) : Option ((Bool)) := Mo.den (M_docstorelaw54_TwophaseAgrees_J32_T p_id p_shards r2426 r2430)
noncomputable def M_docstorelaw54_TwophaseAgrees_J32_X (r_ : (Bool)) : Exit := .normal
noncomputable def M_docstorelaw54_TwophaseAgrees_J32_S (p_id : ByteArray) (p_shards : List Int) (r2426 : (Bool × Bool × Int)) (r2430 : GDecision × GWrite × Int) (r_ : (Bool)) : St := ⟨[(0, .lf (.str p_id)), (1, .lf (.rows 1 (p_shards.map lfI))), (7, .ptr 0 0), (13, .lf (.bool r2426.1)), (15, .lf (.int .i64 r2426.2.2)), (18, .ptr 2 0), (19, .lf (.int .i64 r2430.2.2)), (147, .lf (.bool r_))], [.box 27 (.dat (GDecision.lf1 r2430.1)), .dead, .box 60 (.agg ((GWrite.lf1 r2430.2.1).map AV.lf))]⟩
set_option maxRecDepth 20000 in
set_option maxHeartbeats 4000000 in
theorem M_docstorelaw54_TwophaseAgrees_J32_W {p_id : ByteArray} {p_shards : List Int} {r2426 : (Bool × Bool × Int)} {r2430 : GDecision × GWrite × Int} {r_ : (Bool)} (h : M_docstorelaw54_TwophaseAgrees_J32 p_id p_shards r2426 r2430 = some r_) : AWa Tryd.prog GI TTc Tryd.f3.ntmps (Code.sub (bodyC Tryd.f3) [1, 1, 1, 1, 1, 1, 1, 1, 1, 0, 0]) (M_docstorelaw54_TwophaseAgrees_J32_X r_) (M_docstorelaw54_TwophaseAgrees_J32_S p_id p_shards r2426 r2430 r_) ⟨[(0, .lf (.str p_id)), (1, .lf (.rows 1 (p_shards.map lfI))), (7, .ptr 0 0), (13, .lf (.bool r2426.1)), (14, .lf (.bool r2426.2.1)), (15, .lf (.int .i64 r2426.2.2)), (18, .ptr 2 0), (19, .lf (.int .i64 r2430.2.2))], [.box 27 (.dat (GDecision.lf1 r2430.1)), .dead, .box 60 (.agg ((GWrite.lf1 r2430.2.1).map AV.lf))]⟩ :=
  part_T BaseK (M_docstorelaw54_TwophaseAgrees_J32_T p_id p_shards r2426 r2430) M_docstorelaw54_TwophaseAgrees_J32_X (M_docstorelaw54_TwophaseAgrees_J32_S p_id p_shards r2426 r2430) (by kernel_rfl) h
set_option maxRecDepth 20000 in
set_option maxHeartbeats 4000000 in
noncomputable def M_docstorelaw54_TwophaseAgrees_J37_T (r2430 : GDecision × GWrite × Int) : Mo ((Bool)) :=
  .ite (r2430.2.2 == 23) (fun c2445 =>
    .say [.gd 50002 true] (okc c2445 ok0) <|
    .ask (M_docstorelaw54_awake) fun r2446 h2447 =>
    .say [.res (.lf (.bool r2446))] (okc (M_docstorelaw54_awake_ok  _ h2447) ok0) <|
    .ret ⟨[], [6], [], 3⟩ (r2446)) fun c2445 =>
  .say [.gd 50002 false] (okc c2445 ok0) <|
  .ret ⟨[], [6], [], 3⟩ (false)
noncomputable def M_docstorelaw54_TwophaseAgrees_J37 (r2430 : GDecision × GWrite × Int) : Option ((Bool)) := Mo.den (M_docstorelaw54_TwophaseAgrees_J37_T r2430)
noncomputable def M_docstorelaw54_TwophaseAgrees_J37_X (r_ : (Bool)) : Exit := .normal
noncomputable def M_docstorelaw54_TwophaseAgrees_J37_S  (r_ : (Bool)) : St := ⟨[(6, .lf (.bool r_))], [.dead, .dead, .dead]⟩
set_option maxRecDepth 20000 in
set_option maxHeartbeats 4000000 in
theorem M_docstorelaw54_TwophaseAgrees_J37_W {r2430 : GDecision × GWrite × Int} {r_ : (Bool)} (h : M_docstorelaw54_TwophaseAgrees_J37 r2430 = some r_) : AWa Tryd.prog GI TTc Tryd.f3.ntmps (Code.sub (bodyC Tryd.f3) [1, 1, 1, 1, 1, 1, 1, 1, 1, 0, 1, 0, 0]) (M_docstorelaw54_TwophaseAgrees_J37_X r_) (M_docstorelaw54_TwophaseAgrees_J37_S r_) ⟨[(19, .lf (.int .i64 r2430.2.2))], [.dead, .dead, .dead]⟩ :=
  part_T BaseK (M_docstorelaw54_TwophaseAgrees_J37_T r2430) M_docstorelaw54_TwophaseAgrees_J37_X M_docstorelaw54_TwophaseAgrees_J37_S (by kernel_rfl) h
set_option maxRecDepth 20000 in
set_option maxHeartbeats 4000000 in
noncomputable def M_docstorelaw54_TwophaseAgrees_J42_T (p_id : ByteArray) (p_shards : List Int) (r2426 : (Bool × Bool × Int)) (r2430 : GDecision × GWrite × Int) : Mo ((Bool)) :=
  .ite (r2430.2.2 != 0) (fun c2458 =>
    .say [.gd 52002 true] (okc c2458 ok0) <|
    .ret ⟨[], [0, 1, 7, 13, 18, 186], [], 3⟩ (true)) fun c2458 =>
  .say [.gd 52002 false] (okc c2458 ok0) <|
  .ite ((r2430.1.fState == 3) == r2426.1) (fun c2459 =>
    .say [.gd 52009 true] (okc c2459 ok0) <|
    .ret ⟨[], [0, 1, 7, 13, 18, 186], [], 3⟩ (true)) fun c2459 =>
  .say [.gd 52009 false] (okc c2459 ok0) <|
  .ite (!((r2430.1.fState == 4) == r2426.1)) (fun c2460 =>
    .say [.gd 52016 true] (okc c2460 ok0) <|
    .ret ⟨[], [0, 1, 7, 13, 18, 186], [], 3⟩ (true)) fun c2460 =>
  .say [.gd 52016 false] (okc c2460 ok0) <|
  .ite (!r2426.1) (fun c2461 =>
    .say [.gd 52019 true] (okc c2461 ok0) <|
    .ite (r2430.1.fCommit != r2426.2.2) (fun c2462 =>
      .say [.gd 52026 true] (okc c2462 ok0) <|
      .ret ⟨[], [0, 1, 7, 13, 18, 186], [], 3⟩ (true)) fun c2462 =>
    .say [.gd 52026 false] (okc c2462 ok0) <|
    .ite (r2426.1) (fun c2463 =>
      .say [.gd 52028 true] (okc c2463 ok0) <|
      .ret ⟨[], [0, 1, 7, 13, 18, 186], [], 3⟩ (r2430.1.fCommit != 0)) fun c2463 =>
    .say [.gd 52028 false] (okc c2463 ok0) <|
    .ret ⟨[], [0, 1, 7, 13, 18, 186], [], 3⟩ (false)) fun c2461 =>
  .say [.gd 52019 false] (okc c2461 ok0) <|
  .ite (r2426.1) (fun c2464 =>
    .say [.gd 52028 true] (okc c2464 ok0) <|
    .ret ⟨[], [0, 1, 7, 13, 18, 186], [], 3⟩ (r2430.1.fCommit != 0)) fun c2464 =>
  .say [.gd 52028 false] (okc c2464 ok0) <|
  .ret ⟨[], [0, 1, 7, 13, 18, 186], [], 3⟩ (false)
noncomputable def M_docstorelaw54_TwophaseAgrees_J42 (p_id : ByteArray) (p_shards : List Int) (r2426 : (Bool × Bool × Int)) (r2430 : GDecision × GWrite × Int) : Option ((Bool)) := Mo.den (M_docstorelaw54_TwophaseAgrees_J42_T p_id p_shards r2426 r2430)
noncomputable def M_docstorelaw54_TwophaseAgrees_J42_X (r_ : (Bool)) : Exit := .normal
noncomputable def M_docstorelaw54_TwophaseAgrees_J42_S (p_id : ByteArray) (p_shards : List Int) (r2426 : (Bool × Bool × Int)) (r2430 : GDecision × GWrite × Int) (r_ : (Bool)) : St := ⟨[(0, .lf (.str p_id)), (1, .lf (.rows 1 (p_shards.map lfI))), (7, .ptr 0 0), (13, .lf (.bool r2426.1)), (18, .ptr 2 0), (186, .lf (.bool r_))], [.box 27 (.dat (GDecision.lf1 r2430.1)), .dead, .box 60 (.agg ((GWrite.lf1 r2430.2.1).map AV.lf))]⟩
set_option maxRecDepth 20000 in
set_option maxHeartbeats 4000000 in
theorem M_docstorelaw54_TwophaseAgrees_J42_W {p_id : ByteArray} {p_shards : List Int} {r2426 : (Bool × Bool × Int)} {r2430 : GDecision × GWrite × Int} {r_ : (Bool)} (h : M_docstorelaw54_TwophaseAgrees_J42 p_id p_shards r2426 r2430 = some r_) : AWa Tryd.prog GI TTc Tryd.f3.ntmps (Code.sub (bodyC Tryd.f3) [1, 1, 1, 1, 1, 1, 1, 1, 1, 1, 0, 0]) (M_docstorelaw54_TwophaseAgrees_J42_X r_) (M_docstorelaw54_TwophaseAgrees_J42_S p_id p_shards r2426 r2430 r_) ⟨[(0, .lf (.str p_id)), (1, .lf (.rows 1 (p_shards.map lfI))), (7, .ptr 0 0), (13, .lf (.bool r2426.1)), (15, .lf (.int .i64 r2426.2.2)), (18, .ptr 2 0), (19, .lf (.int .i64 r2430.2.2))], [.box 27 (.dat (GDecision.lf1 r2430.1)), .dead, .box 60 (.agg ((GWrite.lf1 r2430.2.1).map AV.lf))]⟩ :=
  part_T BaseK (M_docstorelaw54_TwophaseAgrees_J42_T p_id p_shards r2426 r2430) M_docstorelaw54_TwophaseAgrees_J42_X (M_docstorelaw54_TwophaseAgrees_J42_S p_id p_shards r2426 r2430) (by kernel_rfl) h
set_option maxRecDepth 20000 in
set_option maxHeartbeats 4000000 in
noncomputable def M_docstorelaw54_TwophaseAgrees_J47_T (p_id : ByteArray) (p_shards : List Int) (r2426 : (Bool × Bool × Int)) (r2430 : GDecision × GWrite × Int) (r2472 : List GDecision) (r2652 : GWrite × Int) (r2658 : GWrite × Int) (v2648 : Int) : Mo ((Bool)) :=
  .ite (r2652.2 != 0) (fun c2660 =>
    .say [.gd 72002 true] (okc c2660 ok0) <|
    .ret ⟨[.kill 4, .kill 5], [0, 1, 7, 13, 20, 21, 258], [], 6⟩ (true)) fun c2660 =>
  .say [.gd 72002 false] (okc c2660 ok0) <|
  .ite (r2658.2 != 0) (fun c2661 =>
    .say [.gd 72006 true] (okc c2661 ok0) <|
    .ret ⟨[.kill 4, .kill 5], [0, 1, 7, 13, 20, 21, 258], [], 6⟩ (true)) fun c2661 =>
  .say [.gd 72006 false] (okc c2661 ok0) <|
  .ask (M_docstorelaw54_sameWrite r2652.1 r2658.1) fun r2662 h2663 =>
  .say [.res (.lf (.bool r2662))] (okc (M_docstorelaw54_sameWrite_ok _ _ _ h2663) ok0) <|
  .ite (!r2662) (fun c2664 =>
    .say [.gd 72012 true] (okc c2664 ok0) <|
    .ret ⟨[.kill 4, .kill 5], [0, 1, 7, 13, 20, 21, 258], [], 6⟩ (true)) fun c2664 =>
  .say [.gd 72012 false] (okc c2664 ok0) <|
  .ite (!decide ((r2652.1.fTxn : ByteArray) = (p_id : ByteArray))) (fun c2665 =>
    .say [.gd 72018 true] (okc c2665 ok0) <|
    .ret ⟨[.kill 4, .kill 5], [0, 1, 7, 13, 20, 21, 258], [], 6⟩ (true)) fun c2665 =>
  .say [.gd 72018 false] (okc c2665 ok0) <|
  .ite (r2652.1.fStamp != r2430.1.fCommit) (fun c2666 =>
    .say [.gd 72025 true] (okc c2666 ok0) <|
    .ret ⟨[.kill 4, .kill 5], [0, 1, 7, 13, 20, 21, 258], [], 6⟩ (true)) fun c2666 =>
  .say [.gd 72025 false] (okc c2666 ok0) <|
  .ite ((r2652.1.fKind == 10) == r2426.1) (fun c2667 =>
    .say [.gd 72032 true] (okc c2667 ok0) <|
    .ret ⟨[.kill 4, .kill 5], [0, 1, 7, 13, 20, 21, 258], [], 6⟩ (true)) fun c2667 =>
  .say [.gd 72032 false] (okc c2667 ok0) <|
  .ret ⟨[.kill 4, .kill 5], [0, 1, 7, 13, 20, 21, 258], [], 6⟩ (!((r2652.1.fKind == 11) == r2426.1))
noncomputable def M_docstorelaw54_TwophaseAgrees_J47 (p_id : ByteArray) (p_shards : List Int) (r2426 : (Bool × Bool × Int)) (r2430 : GDecision × GWrite × Int) (r2472 : List GDecision) (r2652 : GWrite × Int) (r2658 : GWrite × Int) (v2648 : Int) : Option ((Bool)) := Mo.den (M_docstorelaw54_TwophaseAgrees_J47_T p_id p_shards r2426 r2430 r2472 r2652 r2658 v2648)
noncomputable def M_docstorelaw54_TwophaseAgrees_J47_X (r_ : (Bool)) : Exit := .normal
noncomputable def M_docstorelaw54_TwophaseAgrees_J47_S (p_id : ByteArray) (p_shards : List Int) (r2426 : (Bool × Bool × Int)) (r2430 : GDecision × GWrite × Int) (r2472 : List GDecision) (v2648 : Int) (r_ : (Bool)) : St := ⟨[(0, .lf (.str p_id)), (1, .lf (.rows 1 (p_shards.map lfI))), (7, .ptr 0 0), (13, .lf (.bool r2426.1)), (20, .lf (.rows 6 (r2472.map GDecision.lf))), (21, .lf (.int .i64 v2648)), (258, .lf (.bool r_))], [.box 27 (.dat (GDecision.lf1 r2430.1)), .dead, .dead, .dead, .dead, .dead]⟩
set_option maxRecDepth 20000 in
set_option maxHeartbeats 4000000 in
theorem M_docstorelaw54_TwophaseAgrees_J47_W {p_id : ByteArray} {p_shards : List Int} {r2426 : (Bool × Bool × Int)} {r2430 : GDecision × GWrite × Int} {r2472 : List GDecision} {r2652 : GWrite × Int} {r2658 : GWrite × Int} {v2648 : Int} {r_ : (Bool)} (h : M_docstorelaw54_TwophaseAgrees_J47 p_id p_shards r2426 r2430 r2472 r2652 r2658 v2648 = some r_) : AWa Tryd.prog GI TTc Tryd.f3.ntmps (Code.sub (bodyC Tryd.f3) [1, 1, 1, 1, 1, 1, 1, 1, 1, 1, 1, 1, 1, 0, 1, 0, 0, 1, 0, 0, 1, 1, 0]) (M_docstorelaw54_TwophaseAgrees_J47_X r_) (M_docstorelaw54_TwophaseAgrees_J47_S p_id p_shards r2426 r2430 r2472 v2648 r_) ⟨[(0, .lf (.str p_id)), (1, .lf (.rows 1 (p_shards.map lfI))), (7, .ptr 0 0), (13, .lf (.bool r2426.1)), (20, .lf (.rows 6 (r2472.map GDecision.lf))), (21, .lf (.int .i64 v2648)), (22, .ptr 4 0), (23, .lf (.int .i64 r2652.2)), (24, .ptr 5 0), (25, .lf (.int .i64 r2658.2))], [.box 27 (.dat (GDecision.lf1 r2430.1)), .dead, .dead, .dead, .box 60 (.agg ((GWrite.lf1 r2652.1).map AV.lf)), .box 60 (.agg ((GWrite.lf1 r2658.1).map AV.lf))]⟩ :=
  part_T BaseK (M_docstorelaw54_TwophaseAgrees_J47_T p_id p_shards r2426 r2430 r2472 r2652 r2658 v2648) M_docstorelaw54_TwophaseAgrees_J47_X (M_docstorelaw54_TwophaseAgrees_J47_S p_id p_shards r2426 r2430 r2472 v2648) (by kernel_rfl) h
set_option maxRecDepth 20000 in
set_option maxHeartbeats 4000000 in
noncomputable def M_docstorelaw54_TwophaseAgrees_L52_T (p_id : ByteArray) (p_shards : List Int) (r2426 : (Bool × Bool × Int)) (r2430 : GDecision × GWrite × Int) (r2472 : List GDecision) : (Int) → Mo ((Int) ⊕ (Unit ⊕ Unit)) := fun (v2648) =>
  .say [.num p_shards.length] (okc (by simp : p_shards.length = (p_shards.map lfI).length) ok0) <|
  .ite (decide ((v2648 : Int) < (p_shards.length : Int))) (fun c2649 =>
    .say [.br true] (okc c2649 ok0) <|
    .ask (gidx p_shards v2648) fun x2650 h2651 =>
    .say [] (okc (gidx_ok (fun _ => rfl) h2651 : (0 : Int) ≤ v2648 ∧ (p_shards.map lfI)[v2648.toNat]? = some (lfI x2650)) ok0) <|
    .ask (M_twophase_Order r2430.1 x2650) fun r2652 h2653 =>
    .say [.orderT (.q 0 (.q 1 (.q 2 (.q 3 (.q 4 (.alt 5 (.q 6 (.q 7 (.q 8 (.l 9 (.l 10 (.q 11 .fin)))))) (.l 9 (.l 5 (.q 6 (.q 7 (.q 8 (.l 10 (.q 11 .fin))))))))))))) none [4] [.row (lfI x2650), .both [.at_ 68 5, .resv 1, .res (.tup [.dat (GWrite.lf1 r2652.1), .lf (.int .i64 r2652.2)]), .slot 4] [.at_ 68 9, .resv 1, .slot 4, .res (.tup [.dat (GWrite.lf1 r2652.1), .lf (.int .i64 r2652.2)])]] [0, 1, 7, 13, 20, 21, 22, 23] 5 [(0, .lf (.str p_id)), (1, .lf (.rows 1 (p_shards.map lfI))), (7, .ptr 0 0), (13, .lf (.bool r2426.1)), (20, .lf (.rows 6 (r2472.map GDecision.lf))), (21, .lf (.int .i64 v2648)), (22, .ptr 4 0), (23, .lf (.int .i64 r2652.2))] [.box 27 (.dat (GDecision.lf1 r2430.1)), .dead, .dead, .dead, .box 60 (.agg ((GWrite.lf1 r2652.1).map AV.lf))]] (okc (M_twophase_Order_ok _ _ _ h2653) (okc (rfl : (some ⟨[(0, .lf (.str p_id)), (1, .lf (.rows 1 (p_shards.map lfI))), (7, .ptr 0 0), (13, .lf (.bool r2426.1)), (20, .lf (.rows 6 (r2472.map GDecision.lf))), (21, .lf (.int .i64 v2648)), (22, .ptr 4 0), (23, .lf (.int .i64 r2652.2))], [.box 27 (.dat (GDecision.lf1 r2430.1)), .dead, .dead, .dead, .box 60 (.agg ((GWrite.lf1 r2652.1).map AV.lf))]⟩ : Option St) = some ⟨[(0, .lf (.str p_id)), (1, .lf (.rows 1 (p_shards.map lfI))), (7, .ptr 0 0), (13, .lf (.bool r2426.1)), (20, .lf (.rows 6 (r2472.map GDecision.lf))), (21, .lf (.int .i64 v2648)), (22, .ptr 4 0), (23, .lf (.int .i64 r2652.2))], [.box 27 (.dat (GDecision.lf1 r2430.1)), .dead, .dead, .dead, .box 60 (.agg ((GWrite.lf1 r2652.1).map AV.lf))]⟩) (okc (M_twophase_Order_ok _ _ _ h2653) (okc (rfl : (some ⟨[(0, .lf (.str p_id)), (1, .lf (.rows 1 (p_shards.map lfI))), (7, .ptr 0 0), (13, .lf (.bool r2426.1)), (20, .lf (.rows 6 (r2472.map GDecision.lf))), (21, .lf (.int .i64 v2648)), (22, .ptr 4 0), (23, .lf (.int .i64 r2652.2))], [.box 27 (.dat (GDecision.lf1 r2430.1)), .dead, .dead, .dead, .box 60 (.agg ((GWrite.lf1 r2652.1).map AV.lf))]⟩ : Option St) = some ⟨[(0, .lf (.str p_id)), (1, .lf (.rows 1 (p_shards.map lfI))), (7, .ptr 0 0), (13, .lf (.bool r2426.1)), (20, .lf (.rows 6 (r2472.map GDecision.lf))), (21, .lf (.int .i64 v2648)), (22, .ptr 4 0), (23, .lf (.int .i64 r2652.2))], [.box 27 (.dat (GDecision.lf1 r2430.1)), .dead, .dead, .dead, .box 60 (.agg ((GWrite.lf1 r2652.1).map AV.lf))]⟩) ok0)))) <|
    .ask (gidx r2472 0) fun x2654 h2655 =>
    .say [] (okc (gidx_ok GDecision.lf_eq h2655 : (0 : Int) ≤ 0 ∧ (r2472.map GDecision.lf)[(0 : Int).toNat]? = some (GDecision.lf1 x2654)) ok0) <|
    .ask (gidx p_shards v2648) fun x2656 h2657 =>
    .say [] (okc (gidx_ok (fun _ => rfl) h2657 : (0 : Int) ≤ v2648 ∧ (p_shards.map lfI)[v2648.toNat]? = some (lfI x2656)) ok0) <|
    .ask (M_twophase_Order x2654 x2656) fun r2658 h2659 =>
    .say [.orderT (.q 0 (.q 1 (.q 2 (.q 3 (.q 4 (.q 5 (.q 6 (.alt 7 (.q 8 (.q 9 (.q 10 (.l 11 (.l 12 (.q 13 .fin)))))) (.l 11 (.l 7 (.q 8 (.q 9 (.q 10 (.l 12 (.q 13 .fin))))))))))))))) none [5] [.row (GDecision.lf1 x2654), .row (lfI x2656), .both [.at_ 70 7, .resv 1, .res (.tup [.dat (GWrite.lf1 r2658.1), .lf (.int .i64 r2658.2)]), .slot 5] [.at_ 70 11, .resv 1, .slot 5, .res (.tup [.dat (GWrite.lf1 r2658.1), .lf (.int .i64 r2658.2)])]] [0, 1, 7, 13, 20, 21, 22, 23, 24, 25] 6 [(0, .lf (.str p_id)), (1, .lf (.rows 1 (p_shards.map lfI))), (7, .ptr 0 0), (13, .lf (.bool r2426.1)), (20, .lf (.rows 6 (r2472.map GDecision.lf))), (21, .lf (.int .i64 v2648)), (22, .ptr 4 0), (23, .lf (.int .i64 r2652.2)), (24, .ptr 5 0), (25, .lf (.int .i64 r2658.2))] [.box 27 (.dat (GDecision.lf1 r2430.1)), .dead, .dead, .dead, .box 60 (.agg ((GWrite.lf1 r2652.1).map AV.lf)), .box 60 (.agg ((GWrite.lf1 r2658.1).map AV.lf))]] (okc (M_twophase_Order_ok _ _ _ h2659) (okc (rfl : (some ⟨[(0, .lf (.str p_id)), (1, .lf (.rows 1 (p_shards.map lfI))), (7, .ptr 0 0), (13, .lf (.bool r2426.1)), (20, .lf (.rows 6 (r2472.map GDecision.lf))), (21, .lf (.int .i64 v2648)), (22, .ptr 4 0), (23, .lf (.int .i64 r2652.2)), (24, .ptr 5 0), (25, .lf (.int .i64 r2658.2))], [.box 27 (.dat (GDecision.lf1 r2430.1)), .dead, .dead, .dead, .box 60 (.agg ((GWrite.lf1 r2652.1).map AV.lf)), .box 60 (.agg ((GWrite.lf1 r2658.1).map AV.lf))]⟩ : Option St) = some ⟨[(0, .lf (.str p_id)), (1, .lf (.rows 1 (p_shards.map lfI))), (7, .ptr 0 0), (13, .lf (.bool r2426.1)), (20, .lf (.rows 6 (r2472.map GDecision.lf))), (21, .lf (.int .i64 v2648)), (22, .ptr 4 0), (23, .lf (.int .i64 r2652.2)), (24, .ptr 5 0), (25, .lf (.int .i64 r2658.2))], [.box 27 (.dat (GDecision.lf1 r2430.1)), .dead, .dead, .dead, .box 60 (.agg ((GWrite.lf1 r2652.1).map AV.lf)), .box 60 (.agg ((GWrite.lf1 r2658.1).map AV.lf))]⟩) (okc (M_twophase_Order_ok _ _ _ h2659) (okc (rfl : (some ⟨[(0, .lf (.str p_id)), (1, .lf (.rows 1 (p_shards.map lfI))), (7, .ptr 0 0), (13, .lf (.bool r2426.1)), (20, .lf (.rows 6 (r2472.map GDecision.lf))), (21, .lf (.int .i64 v2648)), (22, .ptr 4 0), (23, .lf (.int .i64 r2652.2)), (24, .ptr 5 0), (25, .lf (.int .i64 r2658.2))], [.box 27 (.dat (GDecision.lf1 r2430.1)), .dead, .dead, .dead, .box 60 (.agg ((GWrite.lf1 r2652.1).map AV.lf)), .box 60 (.agg ((GWrite.lf1 r2658.1).map AV.lf))]⟩ : Option St) = some ⟨[(0, .lf (.str p_id)), (1, .lf (.rows 1 (p_shards.map lfI))), (7, .ptr 0 0), (13, .lf (.bool r2426.1)), (20, .lf (.rows 6 (r2472.map GDecision.lf))), (21, .lf (.int .i64 v2648)), (22, .ptr 4 0), (23, .lf (.int .i64 r2652.2)), (24, .ptr 5 0), (25, .lf (.int .i64 r2658.2))], [.box 27 (.dat (GDecision.lf1 r2430.1)), .dead, .dead, .dead, .box 60 (.agg ((GWrite.lf1 r2652.1).map AV.lf)), .box 60 (.agg ((GWrite.lf1 r2658.1).map AV.lf))]⟩) ok0)))) <|
    .ask (M_docstorelaw54_TwophaseAgrees_J47 p_id p_shards r2426 r2430 r2472 r2652 r2658 v2648) fun r2683 h2684 =>
    .say [.part [] 77 [0, 1, 7, 13, 20, 21, 22, 23, 24, 25] 6 (M_docstorelaw54_TwophaseAgrees_J47_X r2683) (M_docstorelaw54_TwophaseAgrees_J47_S p_id p_shards r2426 r2430 r2472 v2648 r2683).T (M_docstorelaw54_TwophaseAgrees_J47_S p_id p_shards r2426 r2430 r2472 v2648 r2683).H] (okc (M_docstorelaw54_TwophaseAgrees_J47_W h2684) ok0) <|
    .ite (r2683) (fun c2685 =>
      .say [.br true] (okc c2685 ok0) <|
      .ret ⟨[.kill 0], [6], [], 4⟩ (.inr (.inl ()))) fun c2685 =>
    .say [.br false] (okc c2685 ok0) <|
    .ret ⟨[], [0, 1, 7, 13, 20, 21], [], 4⟩ (.inl (IntKind.wrap .i64 (v2648 + 1)))) fun c2649 =>
  .say [.br false] (okc c2649 ok0) <|
  .ret ⟨[.kill 0], [], [], 4⟩ (.inr (.inr (())))
noncomputable def M_docstorelaw54_TwophaseAgrees_L52 (p_id : ByteArray) (p_shards : List Int) (r2426 : (Bool × Bool × Int)) (r2430 : GDecision × GWrite × Int) (r2472 : List GDecision) (v2648 : Int) : Option (Unit ⊕ Unit) := loopM (fun v_ => (M_docstorelaw54_TwophaseAgrees_L52_T p_id p_shards r2426 r2430 r2472 v_).den) FU (v2648)
noncomputable def M_docstorelaw54_TwophaseAgrees_L52_H (p_id : ByteArray) (p_shards : List Int) (r2426 : (Bool × Bool × Int)) (r2430 : GDecision × GWrite × Int) (r2472 : List GDecision) : (Int) → St := fun (v2648) => ⟨[(0, .lf (.str p_id)), (1, .lf (.rows 1 (p_shards.map lfI))), (7, .ptr 0 0), (13, .lf (.bool r2426.1)), (20, .lf (.rows 6 (r2472.map GDecision.lf))), (21, .lf (.int .i64 v2648))], [.box 27 (.dat (GDecision.lf1 r2430.1)), .dead, .dead, .dead]⟩
noncomputable def M_docstorelaw54_TwophaseAgrees_L52_X (r_ : Unit ⊕ Unit) : Exit := match r_ with
  | .inl o_ => .ret
  | .inr (o_) => .exit 4
noncomputable def M_docstorelaw54_TwophaseAgrees_L52_S  (r_ : Unit ⊕ Unit) : St := match r_ with
  | .inl o_ => ⟨[(6, .lf (.bool false))], [.dead, .dead, .dead, .dead]⟩
  | .inr (o_) => ⟨[], [.dead, .dead, .dead, .dead]⟩
set_option maxRecDepth 20000 in
set_option maxHeartbeats 4000000 in
theorem M_docstorelaw54_TwophaseAgrees_L52_W {p_id : ByteArray} {p_shards : List Int} {r2426 : (Bool × Bool × Int)} {r2430 : GDecision × GWrite × Int} {r2472 : List GDecision} {v2648 : Int} {r_ : Unit ⊕ Unit} (h : M_docstorelaw54_TwophaseAgrees_L52 p_id p_shards r2426 r2430 r2472 v2648 = some r_) : AWa Tryd.prog GI TTc Tryd.f3.ntmps (Code.sub (bodyC Tryd.f3) [1, 1, 1, 1, 1, 1, 1, 1, 1, 1, 1, 1, 1, 0, 1, 0]) (M_docstorelaw54_TwophaseAgrees_L52_X r_) (M_docstorelaw54_TwophaseAgrees_L52_S r_) (M_docstorelaw54_TwophaseAgrees_L52_H p_id p_shards r2426 r2430 r2472 (v2648)) :=
  loop_T BaseK (body := (Code.sub (bodyC Tryd.f3) [1, 1, 1, 1, 1, 1, 1, 1, 1, 1, 1, 1, 1, 0, 1, 0, 0])) (by kernel_rfl) (M_docstorelaw54_TwophaseAgrees_L52_T p_id p_shards r2426 r2430 r2472) (M_docstorelaw54_TwophaseAgrees_L52_H p_id p_shards r2426 r2430 r2472) M_docstorelaw54_TwophaseAgrees_L52_X M_docstorelaw54_TwophaseAgrees_L52_S (fun r_ => by rcases r_ with _ | _ <;> rfl) (fun v_ => by kernel_rfl) h
set_option maxRecDepth 20000 in
set_option maxHeartbeats 4000000 in
noncomputable def M_docstorelaw54_TwophaseAgrees_T (p_id : ByteArray) (p_shards : List Int) (p_l : List GLaw54Op) : Mo (Bool) :=
  .ask (M_docstorelaw54_TwophaseAgrees_J0 p_id p_l p_shards) fun r2062 h2063 =>
  .say [.part [] 9 [0, 1, 2] 0 (M_docstorelaw54_TwophaseAgrees_J0_X r2062) (M_docstorelaw54_TwophaseAgrees_J0_S p_id p_l p_shards r2062).T (M_docstorelaw54_TwophaseAgrees_J0_S p_id p_l p_shards r2062).H] (okc (M_docstorelaw54_TwophaseAgrees_J0_W h2063) ok0) <|
  .ite (r2062) (fun c2067 =>
    .say [.br true] (okc c2067 ok0) <|
    .ask (M_docstorelaw54_awake) fun r2070 h2071 =>
    .say [.res (.lf (.bool r2070))] (okc (M_docstorelaw54_awake_ok  _ h2071) ok0) <|
    .ret fit0 (r2070)) fun c2067 =>
  .say [.br false] (okc c2067 ok0) <|
  .ask (M_twophase_Start p_id p_shards) fun r2074 h2075 =>
  .say [.res (.tup [.dat (GDecision.lf1 r2074.1), .lf (.int .i64 r2074.2)])] (okc (M_twophase_Start_ok _ _ _ h2075) ok0) <|
  .ite (r2074.2 != 0) (fun c2080 =>
    .say [.br true] (okc c2080 ok0) <|
    .ask (M_docstorelaw54_TwophaseAgrees_J5 r2074) fun r2090 h2091 =>
    .say [.part [] 17 [7] 1 (M_docstorelaw54_TwophaseAgrees_J5_X r2090) (M_docstorelaw54_TwophaseAgrees_J5_S r2090).T (M_docstorelaw54_TwophaseAgrees_J5_S r2090).H] (okc (M_docstorelaw54_TwophaseAgrees_J5_W h2091) ok0) <|
    .ret fit0 (r2090)) fun c2080 =>
  .say [.br false, .rows ((List.replicate (64 : Int).toNat 0).map lfI)] (okc c2080 (okc (by simp [lfI, lfK] : (List.replicate (64 : Int).toNat 0).map lfI = List.replicate (64 : Int).toNat (lfI 0)) ok0)) <|
  .grd ((0 : Int) ≤ 64 ∧ 8 * (64 : Int).toNat ≤ 281474976710656 ∧ (64 : Int).toNat ≤ maxLen) fun h2093 =>
  .say [] (okc (⟨rfl, h2093⟩ : (64 : Int) = 64 ∧ (0 : Int) ≤ 64 ∧ 8 * (64 : Int).toNat ≤ 281474976710656 ∧ (64 : Int).toNat ≤ maxLen) ok0) <|
  .ask2 (M_docstorelaw54_TwophaseAgrees_L20 p_id p_l p_shards 0 r2074.1 (List.replicate (64 : Int).toNat 0)) (fun o2367 h2366 =>
    .say [.part [.norm 0] 0 [0, 1, 2, 7, 9, 10] 2 (M_docstorelaw54_TwophaseAgrees_L20_X (.inl o2367)) (M_docstorelaw54_TwophaseAgrees_L20_S p_id p_shards (.inl o2367)).T (M_docstorelaw54_TwophaseAgrees_L20_S p_id p_shards (.inl o2367)).H] (okc (M_docstorelaw54_TwophaseAgrees_L20_W h2366) ok0) <|
    .ret fit0 (false)) fun o2368 h2366 =>
  .say [.part [.norm 0] 0 [0, 1, 2, 7, 9, 10] 2 (M_docstorelaw54_TwophaseAgrees_L20_X (.inr (o2368))) (M_docstorelaw54_TwophaseAgrees_L20_S p_id p_shards (.inr (o2368))).T (M_docstorelaw54_TwophaseAgrees_L20_S p_id p_shards (.inr (o2368))).H] (okc (M_docstorelaw54_TwophaseAgrees_L20_W h2366) ok0) <|
  .ask (M_docstorelaw54_TwophaseAgrees_L26 o2368 p_id p_shards false false 0 0) fun r2426 h2427 =>
  .say [.part [] 0 [0, 1, 7, 9, 13, 14, 15, 16] 2 (M_docstorelaw54_TwophaseAgrees_L26_X r2426) (M_docstorelaw54_TwophaseAgrees_L26_S o2368 p_id p_shards r2426).T (M_docstorelaw54_TwophaseAgrees_L26_S o2368 p_id p_shards r2426).H] (okc (M_docstorelaw54_TwophaseAgrees_L26_W h2427) ok0) <|
  .ask (M_twophase_Decide o2368.1) fun r2430 h2431 =>
  .say [.res (.tup [.dat (GDecision.lf1 r2430.1), .dat (GWrite.lf1 r2430.2.1), .lf (.int .i64 r2430.2.2)])] (okc (M_twophase_Decide_ok _ _ h2431) ok0) <|
  .ask (M_docstorelaw54_TwophaseAgrees_J32 p_id p_shards r2426 r2430) fun r2435 h2436 =>
  .say [.part [] 53 [0, 1, 7, 13, 14, 15, 18, 19] 3 (M_docstorelaw54_TwophaseAgrees_J32_X r2435) (M_docstorelaw54_TwophaseAgrees_J32_S p_id p_shards r2426 r2430 r2435).T (M_docstorelaw54_TwophaseAgrees_J32_S p_id p_shards r2426 r2430 r2435).H] (okc (M_docstorelaw54_TwophaseAgrees_J32_W h2436) ok0) <|
  .ite (r2435) (fun c2441 =>
    .say [.br true] (okc c2441 ok0) <|
    .ask (M_docstorelaw54_TwophaseAgrees_J37 r2430) fun r2449 h2450 =>
    .say [.part [.kill 0, .kill 2] 55 [19] 3 (M_docstorelaw54_TwophaseAgrees_J37_X r2449) (M_docstorelaw54_TwophaseAgrees_J37_S r2449).T (M_docstorelaw54_TwophaseAgrees_J37_S r2449).H] (okc (M_docstorelaw54_TwophaseAgrees_J37_W h2450) ok0) <|
    .ret fit0 (r2449)) fun c2441 =>
  .say [.br false] (okc c2441 ok0) <|
  .ask (M_docstorelaw54_TwophaseAgrees_J42 p_id p_shards r2426 r2430) fun r2466 h2467 =>
  .say [.part [] 57 [0, 1, 7, 13, 15, 18, 19] 3 (M_docstorelaw54_TwophaseAgrees_J42_X r2466) (M_docstorelaw54_TwophaseAgrees_J42_S p_id p_shards r2426 r2430 r2466).T (M_docstorelaw54_TwophaseAgrees_J42_S p_id p_shards r2426 r2430 r2466).H] (okc (M_docstorelaw54_TwophaseAgrees_J42_W h2467) ok0) <|
  .ite (r2466) (fun c2469 =>
    .say [.br true] (okc c2469 ok0) <|
    .ret fit0 (false)) fun c2469 =>
  .say [.br false, .at_ 56 3, .frzr 3 ([GEntry.mk 1 1 ⟨#[]⟩ 0 r2430.2.1].map GEntry.lf)] (okc c2469 (okc (fun _ h => h : ∀ g : Nat, ¬ (fun _ : Nat => False) g) (okc (by simp [GEntry.lf_eq] : [GEntry.mk 1 1 ⟨#[]⟩ 0 r2430.2.1].map GEntry.lf = [(GEntry.lf1 (GEntry.mk 1 1 ⟨#[]⟩ 0 r2430.2.1))]) ok0))) <|
  .ask (M_twophase_Recover [GEntry.mk 1 1 ⟨#[]⟩ 0 r2430.2.1]) fun r2472 h2473 =>
  .say [.res (.lf (.rows 6 (r2472.map GDecision.lf))), .num r2472.length] (okc (M_twophase_Recover_ok _ _ h2473) (okc (by simp : r2472.length = (r2472.map GDecision.lf).length) ok0)) <|
  .ite ((r2472.length : Int) != 1) (fun c2475 =>
    .say [.br true] (okc c2475 ok0) <|
    .ret fit0 (false)) fun c2475 =>
  .say [.br false] (okc c2475 ok0) <|
  .ask2 (M_docstorelaw54_TwophaseAgrees_L52 p_id p_shards r2426 r2430 r2472 0) (fun o2688 h2687 =>
    .say [.part [.kill 2] 0 [0, 1, 7, 13, 20, 21] 4 (M_docstorelaw54_TwophaseAgrees_L52_X (.inl o2688)) (M_docstorelaw54_TwophaseAgrees_L52_S (.inl o2688)).T (M_docstorelaw54_TwophaseAgrees_L52_S (.inl o2688)).H] (okc (M_docstorelaw54_TwophaseAgrees_L52_W h2687) ok0) <|
    .ret fit0 (false)) fun o2689 h2687 =>
  .say [.part [.kill 2] 0 [0, 1, 7, 13, 20, 21] 4 (M_docstorelaw54_TwophaseAgrees_L52_X (.inr (o2689))) (M_docstorelaw54_TwophaseAgrees_L52_S (.inr (o2689))).T (M_docstorelaw54_TwophaseAgrees_L52_S (.inr (o2689))).H] (okc (M_docstorelaw54_TwophaseAgrees_L52_W h2687) ok0) <|
  .ask (M_docstorelaw54_awake) fun r2690 h2691 =>
  .say [.res (.lf (.bool r2690))] (okc (M_docstorelaw54_awake_ok  _ h2691) ok0) <|
  .ret fit0 (r2690)
noncomputable def M_docstorelaw54_TwophaseAgrees (p_id : ByteArray) (p_shards : List Int) (p_l : List GLaw54Op) : Option (Bool) := Mo.den (M_docstorelaw54_TwophaseAgrees_T p_id p_shards p_l)
set_option maxRecDepth 20000 in
set_option maxHeartbeats 4000000 in
theorem M_docstorelaw54_TwophaseAgrees_ok (p_id : ByteArray) (p_shards : List Int) (p_l : List GLaw54Op) (r : Bool) (h : M_docstorelaw54_TwophaseAgrees p_id p_shards p_l = some r) : Fn Tryd.prog GI 3 [.lf (.str p_id), .lf (.rows 1 (p_shards.map lfI)), .lf (.rows 3 (p_l.map GLaw54Op.lf))] (.lf (.bool r)) :=
  fn_T BaseK Tryd.func3 (by kernel_rfl) (by kernel_rfl) (by kernel_rfl) (by kernel_rfl) (M_docstorelaw54_TwophaseAgrees_T p_id p_shards p_l) (fun r => [.lf (.bool r)]) (by kernel_rfl) h
end Go.Proofs.YtplokbmdcfakbaaDoor
set_option linter.unusedSimpArgs false
set_option linter.unusedVariables false
namespace Go.Proofs.YtplokbmdcfakbaaDoor
open Go.RowKit
theorem sidx_at (s : ByteArray) (k : Nat) (h : k < s.size) : sidx s (k : Int) = some s[k] := by
  unfold sidx; rw [if_pos (by omega), Int.toNat_natCast]; exact getElem?_pos s k h
theorem Name_val (s : ByteArray) : M_docstoreref01_Name s = some (nameB s) := by
  unfold M_docstoreref01_Name M_docstoreref01_Name_T M_docstoreref01_Name_J0 M_docstoreref01_Name_J0_T M_docstoreref01_Name_L10 M_docstoreref01_Name_L10_T M_docstoreref01_Name_J5 M_docstoreref01_Name_J5_T
  simp only [Mo.den, sbind2_eq, bcase_eq, sbind_eq, gcase_eq]
  by_cases h0 : s.size < 1
  · rw [decide_eq_true (show (s.size : Int) < 1 by omega), nameB_nil s (by omega)]; rfl
  rw [decide_eq_false (show ¬ (s.size : Int) < 1 by omega)]; simp only [cond_false]
  by_cases h1 : 32 < s.size
  · rw [decide_eq_true (show (32 : Int) < (s.size : Int) by omega), nameB_big s h1]; rfl
  rw [decide_eq_false (show ¬ (32 : Int) < (s.size : Int) by omega)]; simp only [cond_false]
  have hz : sidx s 0 = some s[0] := sidx_at s 0 (by omega)
  rw [hz, nameB_some s (by omega) (by omega)]
  simp only [Option.bind_some]
  have e36 : ((s[0].toNat : Int) == 36) = (s[0].toNat == 36) := by rw [Bool.eq_iff_iff]; simp; omega
  rw [e36]
  cases hq : s[0].toNat == 36 with
  | true => rfl
  | false =>
    simp only [cond_false, Bool.not_false, Bool.true_and]
    refine for_bind s.size (by omega) (fun n k => k = n ∧ ∀ i (hi : i < s.size), i < n → nameC s[i].toNat = true) (fun r => match r with | .inl _ => s.data.toList.all (fun c => nameC c.toNat) = false | .inr _ => s.data.toList.all (fun c => nameC c.toNat) = true) ⟨rfl, by omega⟩ ?_ ?_ ?_
    · rintro n k hn ⟨rfl, hv⟩
      simp only [iLt hn, cond_true, sidx_at s n hn, Option.bind_some]
      have hc : nameC s[n].toNat = (decide (33 ≤ s[n].toNat) && decide (s[n].toNat ≤ 126) && !(s[n].toNat == 46)) := rfl
      have e46 : ((s[n].toNat : Int) == 46) = (s[n].toNat == 46) := by rw [Bool.eq_iff_iff]; simp; omega
      by_cases a1 : s[n].toNat < 33
      · rw [decide_eq_true (show (s[n].toNat : Int) < 33 by omega)]; right
        exact ⟨_, rfl, all_no s _ n hn (by rw [hc, decide_eq_false (show ¬ 33 ≤ s[n].toNat by omega)]; rfl)⟩
      rw [decide_eq_false (show ¬ (s[n].toNat : Int) < 33 by omega)]; simp only [cond_false]
      by_cases a2 : 126 < s[n].toNat
      · rw [decide_eq_true (show (126 : Int) < (s[n].toNat : Int) by omega)]; right
        exact ⟨_, rfl, all_no s _ n hn (by rw [hc, decide_eq_false (show ¬ s[n].toNat ≤ 126 by omega), Bool.and_false]; rfl)⟩
      rw [decide_eq_false (show ¬ (126 : Int) < (s[n].toNat : Int) by omega), e46]; simp only [cond_false, Option.bind_some]
      cases a3 : s[n].toNat == 46 with
      | true => right; exact ⟨_, rfl, all_no s _ n hn (by rw [hc, a3, Bool.not_true, Bool.and_false])⟩
      | false =>
        left
        refine ⟨_, rfl, inc n (by omega), fun i hi hl => ?_⟩
        rcases Nat.lt_succ_iff_lt_or_eq.1 hl with h3 | rfl
        · exact hv i hi h3
        · rw [hc, a3, decide_eq_true (show 33 ≤ s[i].toNat by omega), decide_eq_true (show s[i].toNat ≤ 126 by omega)]; rfl
    · rintro k ⟨rfl, hv⟩
      exact ⟨.inr (), by simp only [iNlt (Nat.lt_irrefl _), cond_false], all_yes s _ fun i hi => hv i hi hi⟩
    · rintro (u | u) h2
      · exact congrArg some h2.symm
      · exact congrArg some h2.symm
theorem at_val (d : GDecision) (x : Int) (h : Sm d) : M_docstoreref54_at d x = some (ix x d.fShards 0) := by
  have hl := h.sh
  unfold M_docstoreref54_at M_docstoreref54_at_T M_docstoreref54_at_L0 M_docstoreref54_at_L0_T
  simp only [Mo.den, sbind2_eq, bcase_eq, sbind_eq, gcase_eq]
  refine for_bind d.fShards.length (by omega) (fun n k => k = n ∧ ∀ i, i < n → d.fShards[i]? ≠ some x) (fun r => match r with | .inl i => i = ix x d.fShards 0 | .inr _ => ix x d.fShards 0 = -1) ⟨rfl, by omega⟩ ?_ ?_ ?_
  · rintro n k hl ⟨rfl, hv⟩
    simp only [iLt hl, cond_true, gidx_nat, List.getElem?_eq_getElem hl, Option.bind_some]
    by_cases hq : d.fShards[n] = x
    · right
      refine ⟨.inl n, by simp [hq], ?_⟩
      show (n : Int) = _
      rw [ix_at (j := n) (by rw [List.getElem?_eq_getElem hl, hq]) hv, Int.zero_add]
    · left
      refine ⟨_, by rw [show (d.fShards[n] == x) = false by simpa using hq]; simp only [cond_false], inc n (by omega), fun i hi => ?_⟩
      rcases Nat.lt_succ_iff_lt_or_eq.1 hi with h3 | rfl
      · exact hv i h3
      · rw [List.getElem?_eq_getElem hl]; intro h3; injection h3 with h3; exact hq h3
  · rintro k ⟨rfl, hv⟩
    refine ⟨.inr (), by simp only [iNlt (Nat.lt_irrefl _), cond_false], ix_none fun hm => ?_⟩
    obtain ⟨i, hi⟩ := List.mem_iff_getElem?.1 hm
    exact hv i (by have := (List.getElem?_eq_some_iff.1 hi).1; omega) hi
  · rintro (i | u) h2
    · exact congrArg some h2
    · exact congrArg some h2.symm
/-- what all states of a run are -/
structure RI (d : GDecision) : Prop where
  id : d.fID.size ≤ 10000000
  sh : d.fShards.length ≤ 20
  vo : d.fVotes.length = d.fShards.length
  ak : d.fAcked.length = d.fShards.length
  st : d.fState = 1 ∨ d.fState = 3 ∨ d.fState = 4
theorem RI.sm {d : GDecision} (h : RI d) : Sm d := ⟨h.id, by have := h.sh; omega, by have := h.sh; have := h.vo; omega, by have := h.sh; have := h.ak; omega⟩
theorem refVote_val (d : GDecision) (s p : Int) (h : RI d) : M_docstoreref54_Vote d s p = some (voteS d s p) := by
  have hv := h.vo
  have hs := h.sh
  unfold M_docstoreref54_Vote M_docstoreref54_Vote_T M_docstoreref54_Vote_J0 M_docstoreref54_Vote_J0_T M_docstoreref54_Vote_J5 M_docstoreref54_Vote_J5_T voteS
  simp only [Mo.den, sbind2_eq, bcase_eq, sbind_eq, gcase_eq, at_val d s h.sm, Option.bind_some]
  rcases ix_cases s d.fShards with ⟨e, _⟩ | ⟨j, e, hj, _⟩
  · rw [e]; rfl
  · have hjl : j < d.fVotes.length := by have := (List.getElem?_eq_some_iff.1 hj).1; omega
    rw [e, decide_eq_false (show ¬ (j : Int) < 0 by omega), Int.toNat_natCast, gidx_nat, List.getElem?_eq_getElem hjl]
    simp only [cond_false, Option.bind_some]
    rw [if_pos (show (([] : List Int).length + d.fVotes.length) * 8 ≤ 140737488355328 by simp only [List.length_nil]; omega)]
    by_cases hp : p ≠ -1 ∧ (p < 1 ∨ 1099511627776 < p)
    · rw [if_pos (.inr hp), show (p != -1) = true by simpa using hp.1]
      simp only [cond_true]
      by_cases h1 : p < 1
      · rw [decide_eq_true h1]; rfl
      · rw [decide_eq_false h1, decide_eq_true (show 1099511627776 < p by omega)]; rfl
    · rw [if_neg (by rintro (h | h); omega; exact hp h)]
      have e1 : (bif p != -1 then bif decide (p < 1) then some true else some (decide (1099511627776 < p)) else some false) = some false := by
        by_cases h1 : p = -1
        · rw [h1]; rfl
        · rw [show (p != -1) = true by simpa using h1, decide_eq_false (show ¬ p < 1 by omega), decide_eq_false (show ¬ 1099511627776 < p by omega)]; rfl
      rw [e1]
      simp only [Option.bind_some, cond_false]
      by_cases hst : d.fState = 1
      · rw [show (d.fState != 1) = false by simpa using hst]
        simp only [cond_false, Option.bind_some]
        by_cases h0 : d.fVotes[j] = 0
        · rw [show (d.fVotes[j] != 0) = false by simpa using h0, if_neg (by rintro (h | h); exact h hst; exact h (by rw [h0]))]; rfl
        · rw [show (d.fVotes[j] != 0) = true by simpa using h0, if_pos (.inr (by intro h; injection h with h; exact h0 h))]; rfl
      · rw [show (d.fState != 1) = true by simpa using hst, if_pos (.inl hst)]; rfl
theorem refAck_val (d : GDecision) (s : Int) (h : RI d) : M_docstoreref54_Ack d s = some (ackS d s) := by
  have hv := h.ak
  have hs := h.sh
  unfold M_docstoreref54_Ack M_docstoreref54_Ack_T ackS
  simp only [Mo.den, sbind2_eq, bcase_eq, sbind_eq, gcase_eq, at_val d s h.sm, Option.bind_some]
  rcases ix_cases s d.fShards with ⟨e, _⟩ | ⟨j, e, hj, _⟩
  · rw [e]; rfl
  · have hjl : j < d.fAcked.length := by have := (List.getElem?_eq_some_iff.1 hj).1; omega
    rw [e, decide_eq_false (show ¬ (j : Int) < 0 by omega), if_neg (show ¬ (j : Int) < 0 by omega), Int.toNat_natCast, gidx_nat, List.getElem?_eq_getElem hjl]
    simp only [cond_false, Option.bind_some, List.length_nil]
    by_cases hst : d.fState = 1
    · rw [show (d.fState == 1) = true by simpa using hst, if_pos hst]; rfl
    · rw [show (d.fState == 1) = false by simpa using hst, if_neg hst]; simp only [cond_false]; rw [if_pos (by omega)]
theorem refOver_val (d : GDecision) (h : RI d) : M_docstoreref54_Over d = some (!(d.fState == 1) && !decide (false ∈ d.fAcked)) := by
  have hl : d.fAcked.length ≤ 20 := by have := h.ak; have := h.sh; omega
  unfold M_docstoreref54_Over M_docstoreref54_Over_T M_docstoreref54_Over_L0 M_docstoreref54_Over_L0_T
  simp only [Mo.den, sbind2_eq, bcase_eq, sbind_eq, gcase_eq]
  refine for_bind d.fAcked.length (by omega) (fun n k => k = n ∧ ∀ i, i < n → d.fAcked[i]? ≠ some false) (fun r => match r with | .inl _ => false ∈ d.fAcked | .inr _ => false ∉ d.fAcked) ⟨rfl, by omega⟩ ?_ ?_ ?_
  · rintro n k hl ⟨rfl, hv⟩
    simp only [iLt hl, cond_true, gidx_nat, List.getElem?_eq_getElem hl, Option.bind_some]
    cases hq : d.fAcked[n] with
    | false => right; exact ⟨.inl (), rfl, by show false ∈ d.fAcked; rw [← hq]; exact List.getElem_mem hl⟩
    | true =>
      left
      refine ⟨_, rfl, inc n (by omega), fun i hi => ?_⟩
      rcases Nat.lt_succ_iff_lt_or_eq.1 hi with h3 | rfl
      · exact hv i h3
      · rw [List.getElem?_eq_getElem hl, hq]; simp
  · rintro k ⟨rfl, hv⟩
    refine ⟨.inr (), by simp only [iNlt (Nat.lt_irrefl _), cond_false], fun hm => ?_⟩
    obtain ⟨i, hi⟩ := List.mem_iff_getElem?.1 hm
    exact hv i (by have := (List.getElem?_eq_some_iff.1 hi).1; omega) hi
  · rintro (u | u) h2
    · have h2 : false ∈ d.fAcked := h2
      simp [h2]
    · have h2 : false ∉ d.fAcked := h2
      simp only [h2, decide_false, Bool.not_false, Bool.and_true]; rfl
theorem mem_take {l : List Int} {k : Nat} (h : k < l.length) (x : Int) : decide (x ∈ l.take (k + 1)) = (decide (x ∈ l.take k) || l[k] == x) := by
  rw [List.take_succ_eq_append_getElem h, Bool.eq_iff_iff]
  simp only [decide_eq_true_eq, List.mem_append, List.mem_singleton, Bool.or_eq_true, beq_iff_eq]
  constructor
  · rintro (h | h)
    · exact .inl h
    · exact .inr h.symm
  · rintro (h | h)
    · exact .inl h
    · exact .inr h.symm
theorem refDecide_val (d : GDecision) (h : RI d) : M_docstoreref54_Decide d = some (decS d) := by
  have hl : d.fVotes.length ≤ 20 := by have := h.vo; have := h.sh; omega
  unfold M_docstoreref54_Decide M_docstoreref54_Decide_T M_docstoreref54_Decide_L0 M_docstoreref54_Decide_L0_T M_docstoreref54_Decide_J6 M_docstoreref54_Decide_J6_T M_docstoreref54_Decide_J11 M_docstoreref54_Decide_J11_T decS
  simp only [Mo.den, sbind2_eq, bcase_eq, sbind_eq, gcase_eq]
  refine for_bind d.fVotes.length (by omega) (fun k v => v = (decide (-1 ∈ d.fVotes.take k), decide (0 ∈ d.fVotes.take k), mxs (d.fVotes.take k), (k : Int))) (fun r => r = (decide (-1 ∈ d.fVotes), decide (0 ∈ d.fVotes), mxs d.fVotes)) rfl ?_ ?_ ?_
  · rintro k v hk rfl
    left
    simp only [iLt hk, cond_true, gidx_nat, List.getElem?_eq_getElem hk, Option.bind_some, inc k (show k ≤ 1000000000 by omega)]
    rw [mem_take hk, mem_take hk, mxs_take _ _ hk]
    cases decide (-1 ∈ d.fVotes.take k) <;> cases decide (0 ∈ d.fVotes.take k) <;> exact ⟨_, rfl, rfl⟩
  · rintro v rfl
    exact ⟨_, by simp only [iNlt (Nat.lt_irrefl _), cond_false] <;> rfl, by rw [List.take_length]⟩
  · rintro r rfl
    by_cases hs : d.fState = 1
    · rw [show (d.fState != 1) = false by simpa using hs]
      by_cases hr : -1 ∈ d.fVotes
      · simp only [hr, decide_true, cond_false, Bool.not_true, Option.bind_some, cond_true, hs, not_true_eq_false, false_and, or_false, ne_eq, if_false, if_true]
      · by_cases h0 : 0 ∈ d.fVotes
        · simp [hr, h0, hs]
        · simp only [hr, h0, decide_false, cond_false, Bool.not_false, Option.bind_some, cond_true, hs, not_true_eq_false, not_false_eq_true, and_false, or_false, ne_eq, if_false]
    · rw [show (d.fState != 1) = true by simpa using hs, if_pos (.inl hs)]; rfl
noncomputable def ordS (d : GDecision) (x : Int) : GWrite × Int :=
  if x ∉ d.fShards then (GWrite.z, 1) else if d.fState = 1 then (GWrite.z, 23) else if d.fState = 3 then (((GWrite.z.sKind 10).sTxn d.fID).sStamp d.fCommit, 0) else ((GWrite.z.sKind 11).sTxn d.fID, 0)
theorem Order_val (d : GDecision) (x : Int) (h : Sm d) : M_twophase_Order d x = some (ordS d x) := by
  unfold M_twophase_Order M_twophase_Order_T ordS
  simp only [Mo.den, bcase_eq, sbind_eq, Contains_int_val _ _ (show d.fShards.length ≤ 1000000000 by have := h.sh; omega), Option.bind_some]
  by_cases hx : x ∈ d.fShards
  · by_cases h1 : d.fState = 1
    · simp [hx, h1]
    · by_cases h3 : d.fState = 3
      · simp [hx, h3]
      · rw [show (d.fState == 1) = false by simpa using h1, show (d.fState == 3) = false by simpa using h3]; simp [hx, h1, h3]
  · simp [hx]
theorem refOrder_val (d : GDecision) (x : Int) (h : RI d) : M_docstoreref54_Order d x = some (ordS d x) := by
  unfold M_docstoreref54_Order M_docstoreref54_Order_T ordS
  simp only [Mo.den, bcase_eq, sbind_eq, at_val d x h.sm, Option.bind_some]
  rcases ix_cases x d.fShards with ⟨e, hx⟩ | ⟨j, e, hj, _⟩
  · rw [e]; simp [hx]
  · have hx := List.mem_of_getElem? hj
    rw [e, decide_eq_false (show ¬ (j : Int) < 0 by omega)]
    rcases h.st with h1 | h1 | h1 <;> simp [hx, h1]
theorem Same_val (d : GDecision) (h : Sm d) : M_docstoreref54_Same d d = some true := by
  have h1 := h.sh
  have h2 := h.vo
  have h3 := h.ak
  unfold M_docstoreref54_Same M_docstoreref54_Same_T M_docstoreref54_Same_J0 M_docstoreref54_Same_J0_T M_docstoreref54_Same_L5 M_docstoreref54_Same_L5_T M_docstoreref54_Same_L11 M_docstoreref54_Same_L11_T M_docstoreref54_Same_L17 M_docstoreref54_Same_L17_T
  simp only [Mo.den, sbind2_eq, bcase_eq, sbind_eq, gcase_eq, decide_true, Bool.not_true, cond_false, bne_self_eq_false, Option.bind_some]
  refine for_bind d.fShards.length (by omega) (fun n k => k = (n : Int)) (fun r => r = .inr ()) rfl ?_ ?_ ?_
  · rintro n k hl rfl
    simp only [iLt hl, cond_true, gidx_nat, List.getElem?_eq_getElem hl, Option.bind_some, bne_self_eq_false, cond_false]
    exact .inl ⟨_, rfl, inc n (by omega)⟩
  · rintro k rfl
    exact ⟨_, by simp only [iNlt (Nat.lt_irrefl _), cond_false] <;> rfl, rfl⟩
  rintro r rfl
  refine for_bind d.fVotes.length (by omega) (fun n k => k = (n : Int)) (fun r => r = .inr ()) rfl ?_ ?_ ?_
  · rintro n k hl rfl
    simp only [iLt hl, cond_true, gidx_nat, List.getElem?_eq_getElem hl, Option.bind_some, bne_self_eq_false, cond_false]
    exact .inl ⟨_, rfl, inc n (by omega)⟩
  · rintro k rfl
    exact ⟨_, by simp only [iNlt (Nat.lt_irrefl _), cond_false] <;> rfl, rfl⟩
  rintro r rfl
  refine for_bind d.fAcked.length (by omega) (fun n k => k = (n : Int)) (fun r => r = .inr ()) rfl ?_ ?_ ?_
  · rintro n k hl rfl
    simp only [iLt hl, cond_true, gidx_nat, List.getElem?_eq_getElem hl, Option.bind_some, BEq.rfl, Bool.not_true, cond_false]
    exact .inl ⟨_, rfl, inc n (by omega)⟩
  · rintro k rfl
    exact ⟨_, by simp only [iNlt (Nat.lt_irrefl _), cond_false] <;> rfl, rfl⟩
  rintro r rfl
  rfl
theorem bulkR_ints : ∀ l : List Int, bulkR (l.map lfI) = l.length
  | [] => rfl
  | x :: r => by simp only [List.map_cons, bulkR, bulkR_ints r, lfI, bulkL, Lf.bulk, List.length_cons]; omega
def wE (w : GWrite) : GEntry := ⟨0, 0, ⟨#[]⟩, 0, w⟩
theorem bulk_w (k c : Int) (id : ByteArray) (l : List Int) : bulkL (wE ((((GWrite.z.sKind k).sTxn id).sStamp c).sShards l)).lf1 = 82 + id.size + l.length := by
  unfold wE GEntry.lf1 GWrite.lf1
  simp only [bulkL_app, bulkL, Lf.bulk]
  have a0 : bulkL (((((GWrite.z.sKind k).sTxn id).sStamp c).sShards l)).fKey.lf1 = 5 := rfl
  have a1 : bulkL (((((GWrite.z.sKind k).sTxn id).sStamp c).sShards l)).fDoc.lf1 = 5 := rfl
  have a2 : bulkL (((((GWrite.z.sKind k).sTxn id).sStamp c).sShards l)).fBefore.lf1 = 5 := rfl
  have a3 : bulkL (((((GWrite.z.sKind k).sTxn id).sStamp c).sShards l)).fDef.lf1 = 25 := by kernel_rfl
  have a4 : bulkL (((((GWrite.z.sKind k).sTxn id).sStamp c).sShards l)).fIndex.lf1 = 31 := by kernel_rfl
  have b0 : (((((GWrite.z.sKind k).sTxn id).sStamp c).sShards l)).fSpace.size = 0 := rfl
  have b1 : (((((GWrite.z.sKind k).sTxn id).sStamp c).sShards l)).fTxn = id := rfl
  have b2 : bulkR (List.map GWrite.lf (((((GWrite.z.sKind k).sTxn id).sStamp c).sShards l)).fWrites) = 0 := by kernel_rfl
  have b3 : (((((GWrite.z.sKind k).sTxn id).sStamp c).sShards l)).fShards = l := rfl
  have b4 : (⟨#[]⟩ : ByteArray).size = 0 := rfl
  rw [a0, a1, a2, a3, a4, b0, b1, b2, b3, b4, bulkR_ints]; omega
theorem sameWrite_val (k c : Int) (id : ByteArray) (l : List Int) (h1 : id.size ≤ 10000000) (h2 : l.length ≤ 1000000) : M_docstorelaw54_sameWrite ((((GWrite.z.sKind k).sTxn id).sStamp c).sShards l) ((((GWrite.z.sKind k).sTxn id).sStamp c).sShards l) = some true := by
  have hb := bulk_w k c id l
  unfold wE at hb
  unfold M_docstorelaw54_sameWrite M_docstorelaw54_sameWrite_T M_docstoreref40_Code
  simp only [Mo.den, sbind_eq]
  rw [if_pos (by rw [hb]; omega)]
  simp only [Option.bind_some, decide_true]
theorem sameWrite_z : M_docstorelaw54_sameWrite GWrite.z GWrite.z = some true := sameWrite_val 0 0 ⟨#[]⟩ [] (by decide) (by decide)
theorem sameWrite_1 (k : Int) (id : ByteArray) (h1 : id.size ≤ 10000000) : M_docstorelaw54_sameWrite ((GWrite.z.sKind k).sTxn id) ((GWrite.z.sKind k).sTxn id) = some true := sameWrite_val k 0 id [] h1 (by decide)
theorem sameWrite_2 (k c : Int) (id : ByteArray) (h1 : id.size ≤ 10000000) : M_docstorelaw54_sameWrite (((GWrite.z.sKind k).sTxn id).sStamp c) (((GWrite.z.sKind k).sTxn id).sStamp c) = some true := sameWrite_val k c id [] h1 (by decide)
theorem sm_z : Sm GDecision.z := ⟨by decide, by decide, by decide, by decide⟩
theorem voteS_sm {d : GDecision} {s p : Int} (h : RI d) : (voteS d s p).2 = 0 ∧ RI (voteS d s p).1 ∨ (voteS d s p).2 ≠ 0 ∧ (voteS d s p).1 = GDecision.z := by
  unfold voteS
  split
  · exact .inr ⟨by decide, rfl⟩
  · split
    · exact .inr ⟨by decide, rfl⟩
    · exact .inl ⟨rfl, h.id, h.sh, by show (d.fVotes.set _ _).length = _; rw [List.length_set]; exact h.vo, h.ak, h.st⟩
theorem ackS_sm {d : GDecision} {s : Int} (h : RI d) : (ackS d s).2 = 0 ∧ RI (ackS d s).1 ∨ (ackS d s).2 ≠ 0 ∧ (ackS d s).1 = GDecision.z := by
  unfold ackS
  split
  · exact .inr ⟨by decide, rfl⟩
  · split
    · exact .inr ⟨by decide, rfl⟩
    · exact .inl ⟨rfl, h.id, h.sh, h.vo, by show (d.fAcked.set _ _).length = _; rw [List.length_set]; exact h.ak, h.st⟩
theorem decS_sm {d : GDecision} (h : RI d) : M_docstorelaw54_sameWrite (decS d).2.1 (decS d).2.1 = some true ∧ ((decS d).2.2 = 0 ∧ RI (decS d).1 ∨ (decS d).2.2 ≠ 0 ∧ (decS d).1 = GDecision.z) := by
  unfold decS
  split
  · exact ⟨sameWrite_z, .inr ⟨by decide, rfl⟩⟩
  · have hs := h.sh
    refine ⟨sameWrite_val _ _ _ _ (by split <;> exact h.id) (by split <;> (show d.fShards.length ≤ _; omega)), .inl ⟨rfl, ?_⟩⟩
    show RI (if -1 ∈ d.fVotes then (d.sState 4).sCommit 0 else (d.sState 3).sCommit (mxs d.fVotes))
    split
    · exact ⟨h.id, h.sh, h.vo, h.ak, .inr (.inr rfl)⟩
    · exact ⟨h.id, h.sh, h.vo, h.ak, .inr (.inl rfl)⟩
theorem ordS_same {d : GDecision} (x : Int) (h : RI d) : M_docstorelaw54_sameWrite (ordS d x).1 (ordS d x).1 = some true := by
  unfold ordS
  split
  · exact sameWrite_z
  · split
    · exact sameWrite_z
    · split
      · exact sameWrite_2 _ _ _ h.id
      · exact sameWrite_1 _ _ h.id
theorem call_val (d : GDecision) (o : GLaw54Op) (h : RI d) : ∃ d', M_docstorelaw54_call d o = some (d', true) ∧ RI d' := by
  unfold M_docstorelaw54_call M_docstorelaw54_call_T M_docstorelaw54_call_J0 M_docstorelaw54_call_J0_T M_docstorelaw54_call_J5 M_docstorelaw54_call_J5_T M_docstorelaw54_call_J10 M_docstorelaw54_call_J10_T
  simp only [Mo.den, sbind2_eq, bcase_eq, sbind_eq, gcase_eq]
  have fin : ∀ (x : GDecision × Int), (x.2 = 0 ∧ RI x.1 ∨ x.2 ≠ 0 ∧ x.1 = GDecision.z) → ∃ d', ((bif (x.2 != x.2) then some true else (M_docstoreref54_Same x.1 x.1).bind fun a => some !a).bind fun a_1 => bif a_1 then some (d, false) else (bif (x.2 == 0) then some x.1 else some d).bind fun a => some (a, true)) = some (d', true) ∧ RI d' := by
    rintro ⟨x, c⟩ hx
    have hS : Sm x := by
      rcases hx with ⟨_, hx⟩ | ⟨_, hx⟩
      · exact hx.sm
      · rw [show x = GDecision.z from hx]; exact sm_z
    simp only [bne_self_eq_false, cond_false, Same_val x hS, Option.bind_some, Bool.not_true]
    rcases hx with ⟨hc, hx⟩ | ⟨hc, _⟩
    · rw [show (c == 0) = true by simpa using hc]; exact ⟨x, rfl, hx⟩
    · rw [show (c == 0) = false by simpa using hc]; exact ⟨d, rfl, h⟩
  cases o.fKind == 1 with
  | true =>
    simp only [cond_true, Vote_val _ _ _ h.sm, refVote_val _ _ _ h, Option.bind_some]
    exact fin _ (voteS_sm h)
  | false =>
    simp only [cond_false]
    cases o.fKind == 2 with
    | true =>
      simp only [cond_true, Decide_val _ h.sm, refDecide_val _ h, Option.bind_some, (decS_sm h).1, Bool.not_true, cond_false]
      exact fin ((decS d).1, (decS d).2.2) (decS_sm h).2
    | false =>
      simp only [cond_false]
      cases o.fKind == 3 with
      | true =>
        simp only [cond_true, Order_val _ _ h.sm, refOrder_val _ _ h, Option.bind_some, BEq.rfl, ordS_same _ h]
        exact ⟨d, rfl, h⟩
      | false =>
        simp only [cond_false]
        cases o.fKind == 4 with
        | true =>
          simp only [cond_true, Ack_val _ _ h.sm, refAck_val _ _ h, Option.bind_some]
          exact fin _ (ackS_sm h)
        | false =>
          simp only [cond_false, Over_val _ h.sm, refOver_val _ h, Option.bind_some, BEq.rfl]
          exact ⟨d, rfl, h⟩
open Classical in
theorem shards_val (l : List Int) (hl : l.length ≤ 20) : M_docstoreref54_shards l = some (decide (l ≠ [] ∧ shP l)) := by
  unfold M_docstoreref54_shards M_docstoreref54_shards_T M_docstoreref54_shards_L5 M_docstoreref54_shards_L5_T M_docstoreref54_shards_J0 M_docstoreref54_shards_J0_T
  simp only [Mo.den, sbind2_eq, bcase_eq, sbind_eq, gcase_eq]
  refine for_bind l.length (by omega) (fun n k => k = n ∧ ∀ (j : Nat) (x : Int), j < n → l[j]? = some x → 0 ≤ x ∧ x < 8 ∧ ∀ y, j ≠ 0 → l[j - 1]? = some y → y < x)
      (fun r => match r with | .inl _ => ¬ shP l | .inr _ => shP l) ⟨rfl, by omega⟩ ?_ ?_ ?_
  · rintro n k hn ⟨rfl, hv⟩
    simp only [iLt hn, cond_true, gidx_nat, List.getElem?_eq_getElem hn, Option.bind_some]
    have e0 : l[n]? = some l[n] := List.getElem?_eq_getElem hn
    have bad : ¬ (0 ≤ l[n] ∧ l[n] < 8 ∧ ∀ y, n ≠ 0 → l[n - 1]? = some y → y < l[n]) → ¬ shP l := fun h hs => h (hs n _ e0)
    by_cases a1 : l[n] < 0
    · rw [decide_eq_true a1]; right; exact ⟨_, rfl, bad (by omega)⟩
    rw [decide_eq_false a1]; simp only [cond_false]
    by_cases a2 : 8 ≤ l[n]
    · rw [decide_eq_true a2]; right; exact ⟨_, rfl, bad (by omega)⟩
    rw [decide_eq_false a2]; simp only [cond_false]
    rcases n with _ | n
    · left
      refine ⟨_, rfl, inc 0 (by omega), fun j x hj hx => ?_⟩
      obtain rfl : j = 0 := by omega
      rw [e0] at hx; injection hx with hx; subst hx
      exact ⟨by omega, by omega, fun y h => absurd rfl h⟩
    · have e1 : IntKind.wrap .i64 (((n + 1 : Nat) : Int) - 1) = (n : Int) := by rw [w64 (by omega) (by omega)]; omega
      have e2 : l[n]? = some l[n] := List.getElem?_eq_getElem (by omega)
      rw [decide_eq_true (show (0 : Int) < ((n + 1 : Nat) : Int) by omega)]; simp only [cond_true]
      rw [e1, gidx_nat, e2]
      simp only [Option.bind_some]
      by_cases a3 : l[n + 1] ≤ l[n]
      · rw [decide_eq_true a3]; right
        exact ⟨_, rfl, bad (fun h => by have := h.2.2 l[n] (by omega) (by simp [e2]); omega)⟩
      · rw [decide_eq_false a3]; left
        refine ⟨_, rfl, inc (n + 1) (by omega), fun j x hj hx => ?_⟩
        rcases Nat.lt_succ_iff_lt_or_eq.1 hj with h3 | rfl
        · exact hv j x h3 hx
        · rw [e0] at hx; injection hx with hx; subst hx
          refine ⟨by omega, by omega, fun y _ hy => ?_⟩
          rw [show n + 1 - 1 = n by omega, e2] at hy; injection hy with hy; omega
  · rintro k ⟨rfl, hv⟩
    exact ⟨.inr (), by simp only [iNlt (Nat.lt_irrefl _), cond_false], fun j x hx => hv j x (List.getElem?_eq_some_iff.1 hx).1 hx⟩
  · rintro (u | u) h2
    · have h2 : ¬ shP l := h2
      simp [h2]
    · have h2 : shP l := h2
      have : (0 < (l.length : Int)) ↔ l ≠ [] := by
        rw [← List.length_pos_iff]; omega
      simp only [this, h2, and_true]
theorem fresh_val (id : ByteArray) (l : List Int) (hl : l.length ≤ 20) : M_docstoreref54_fresh id l = some (frsh id l) := by
  unfold M_docstoreref54_fresh M_docstoreref54_fresh_T M_docstoreref54_fresh_L0 M_docstoreref54_fresh_L0_T
  simp only [Mo.den, sbind2_eq, bcase_eq, sbind_eq, gcase_eq]
  refine for_bind l.length (by omega) (fun k v => v = ((k : Int), l.take k, List.replicate k 0, List.replicate k false)) (fun r => r = (l, List.replicate l.length 0, List.replicate l.length false)) rfl ?_ ?_ ?_
  · rintro k v hk rfl
    left
    simp only [iLt hk, cond_true, gidx_nat, List.getElem?_eq_getElem hk, Option.bind_some, List.length_take, List.length_replicate, List.length_cons, List.length_nil]
    rw [if_pos (by omega), if_pos (by omega), if_pos (by omega), inc k (by omega)]
    exact ⟨_, rfl, by rw [List.take_succ_eq_append_getElem hk, List.replicate_succ', List.replicate_succ']⟩
  · rintro v rfl
    exact ⟨_, by simp only [iNlt (Nat.lt_irrefl _), cond_false] <;> rfl, by rw [List.take_length]⟩
  · rintro r rfl
    rfl
open Classical in
theorem refStart_val (id : ByteArray) (l : List Int) (hl : l.length ≤ 20) : M_docstoreref54_Start id l = some (startS id l) := by
  unfold M_docstoreref54_Start M_docstoreref54_Start_T startS
  simp only [Mo.den, bcase_eq, sbind_eq, Name_val, shards_val l hl, fresh_val id l hl, Option.bind_some]
  cases nameB id with
  | false => rfl
  | true =>
    simp only [Bool.not_true, cond_false, Bool.true_eq_false, if_false]
    by_cases h : l ≠ [] ∧ shP l
    · rw [decide_eq_true h, if_pos h]; rfl
    · rw [decide_eq_false h, if_neg h]; rfl
theorem runs_law (id : ByteArray) (l : List Int) (ops : List GLaw54Op) (hi : id.size ≤ 10000000) : M_docstorelaw54_TwophaseRuns id l ops = some true := by
  unfold M_docstorelaw54_TwophaseRuns M_docstorelaw54_TwophaseRuns_T M_docstorelaw54_TwophaseRuns_J0 M_docstorelaw54_TwophaseRuns_J0_T M_docstorelaw54_TwophaseRuns_J5 M_docstorelaw54_TwophaseRuns_J5_T M_docstorelaw54_TwophaseRuns_L15 M_docstorelaw54_TwophaseRuns_L15_T M_docstorelaw54_TwophaseRuns_J10 M_docstorelaw54_TwophaseRuns_J10_T
  simp only [Mo.den, sbind2_eq, bcase_eq, sbind_eq, gcase_eq]
  by_cases a1 : 20 < l.length
  · rw [decide_eq_true (show (20 : Int) < (l.length : Int) by omega)]; simp only [cond_true, Option.bind_some]; rw [awake_val]; rfl
  rw [decide_eq_false (show ¬ (20 : Int) < (l.length : Int) by omega)]; simp only [cond_false, Option.bind_some]
  by_cases a2 : 60 < ops.length
  · rw [decide_eq_true (show (60 : Int) < (ops.length : Int) by omega)]; simp only [cond_true]; rw [awake_val]; rfl
  rw [decide_eq_false (show ¬ (60 : Int) < (ops.length : Int) by omega)]; simp only [cond_false]
  have hS : (startS id l).2 = 0 ∧ RI (startS id l).1 ∨ (startS id l).2 ≠ 0 ∧ (startS id l).1 = GDecision.z := by
    unfold startS
    split
    · exact .inr ⟨by decide, rfl⟩
    · split
      · exact .inl ⟨rfl, hi, by show l.length ≤ 20; omega, by simp [frsh], by simp [frsh], .inl rfl⟩
      · exact .inr ⟨by decide, rfl⟩
  simp only [Start_val id l (by omega), refStart_val id l (by omega), Option.bind_some, bne_self_eq_false, cond_false]
  generalize startS id l = x at hS
  obtain ⟨x, c⟩ := x
  rcases hS with ⟨hc, hx⟩ | ⟨hc, hx⟩
  · have hc : c = 0 := hc
    subst hc
    simp only [Same_val _ hx.sm, Option.bind_some, Bool.not_true, cond_false, BEq.rfl]
    refine for_bind ops.length (by omega) (fun k v => v.1 = (k : Int) ∧ RI v.2) (fun r => r = .inr ()) ⟨rfl, hx⟩ ?_ ?_ ?_
    · rintro k ⟨i, d⟩ hk ⟨hi', hd⟩
      have hi' : i = (k : Int) := hi'
      subst hi'
      left
      obtain ⟨d', h1, h2⟩ := call_val d ops[k] hd
      simp only [iLt hk, cond_true, Option.bind_some, gidx_nat, List.getElem?_eq_getElem hk, h1, Bool.not_true, cond_false]
      exact ⟨_, rfl, inc k (by omega), h2⟩
    · rintro ⟨i, d⟩ ⟨hi', hd⟩
      have hi' : i = (ops.length : Int) := hi'
      subst hi'
      exact ⟨_, by simp only [iNlt (Nat.lt_irrefl _), cond_false, Option.bind_some] <;> rfl, rfl⟩
    · rintro r rfl
      rw [awake_val]; rfl
  · have hx : x = GDecision.z := hx
    subst hx
    simp only [Same_val _ sm_z, Option.bind_some, Bool.not_true, cond_false]
    rw [show (c == 0) = false by simpa using hc]
    refine for_bind 0 (by omega) (fun k v => True) (fun r => r = .inr ()) trivial (fun k v h => by omega) ?_ ?_
    · rintro ⟨i, d⟩ _
      refine ⟨.inr (), ?_, rfl⟩
      cases decide (i < (ops.length : Int)) <;> rfl
    · rintro r rfl
      rw [awake_val]; rfl
end Go.Proofs.YtplokbmdcfakbaaDoor
set_option linter.unusedSimpArgs false
set_option linter.unusedVariables false
namespace Go.Proofs.YtplokbmdcfakbaaDoor
open Go.RowKit
noncomputable def recD (w : GWrite) : GDecision := ⟨w.fTxn, w.fShards, List.replicate w.fShards.length 0, if w.fStamp = 0 then 4 else 3, w.fStamp, List.replicate w.fShards.length false⟩
theorem Recover_one (e : GEntry) (hk : e.fWrite.fKind = 12) (hs : e.fWrite.fShards.length ≤ 1000000) : M_twophase_Recover [e] = some [recD e.fWrite] := by
  unfold M_twophase_Recover M_twophase_Recover_T M_twophase_Recover_L5 M_twophase_Recover_L5_T M_twophase_Recover_J0 M_twophase_Recover_J0_T M_twophase_Recover_L26 M_twophase_Recover_L26_T M_twophase_Recover_J21 M_twophase_Recover_J21_T M_twophase_Recover_J16 M_twophase_Recover_J16_T  M_twophase_Recover_J11 M_twophase_Recover_J11_T
  simp only [Mo.den, sbind2_eq, sbind3_eq, bcase_eq, sbind_eq, gcase_eq]
  refine for_bind 1 (by omega) (fun k v => (k = 0 ∧ v = (0, [])) ∨ (k = 1 ∧ v = (1, [(e.fWrite.fTxn, 0)]))) (fun r => r = [(e.fWrite.fTxn, 0)]) (.inl ⟨rfl, rfl⟩) ?_ ?_ ?_
  · rintro k v hk' (⟨rfl, rfl⟩ | ⟨rfl, rfl⟩)
    · left
      rw [show gidx [e] ((0 : Int), ([] : List (ByteArray × Int))).1 = some e from rfl]
      simp only [Option.bind_some, hk, BEq.rfl, cond_true, List.length_nil]
      rw [if_pos (by unfold maxLen; omega)]
      exact ⟨(1, [(e.fWrite.fTxn, 0)]), by rw [show IntKind.wrap .i64 ((0 : Int) + 1) = 1 from inc 0 (by omega)]; rfl, .inr ⟨by simp, rfl⟩⟩
    · omega
  · rintro v (⟨h, _⟩ | ⟨_, rfl⟩)
    · omega
    · exact ⟨_, rfl, rfl⟩
  rintro r rfl
  refine for_bind 1 (by omega) (fun k v => (k = 0 ∧ v = (0, [])) ∨ (k = 1 ∧ v = (1, [recD e.fWrite]))) (fun r => r = [recD e.fWrite]) (.inl ⟨rfl, rfl⟩) ?_ ?_ ?_
  · rintro k v hk' (⟨rfl, rfl⟩ | ⟨rfl, rfl⟩)
    · left
      rw [show gidx [e] ((0 : Int), ([] : List GDecision)).1 = some e from rfl]
      simp only [Option.bind_some, hk, bne_self_eq_false, cond_false, mget, if_true, CloneI_val _ hs, List.length_nil, List.length_cons, Int.toNat_natCast]
      rw [if_pos (by unfold maxLen; omega), if_pos (by unfold maxLen; omega)]
      refine ⟨(1, [recD e.fWrite]), ?_, .inr ⟨by simp, rfl⟩⟩
      rw [show IntKind.wrap .i64 ((0 : Int) + 1) = 1 from inc 0 (by omega)]
      by_cases h0 : e.fWrite.fStamp = 0
      · simp only [h0, BEq.rfl, cond_true, Option.bind_some]
        unfold recD; rw [if_pos h0, h0]; rfl
      · rw [show (e.fWrite.fStamp == 0) = false by simpa using h0]
        simp only [cond_false, Option.bind_some]
        unfold recD; rw [if_neg h0]; rfl
    · omega
  · rintro v (⟨h, _⟩ | ⟨_, rfl⟩)
    · omega
    · exact ⟨_, rfl, rfl⟩
  rintro r rfl
  rfl
def dW (id : ByteArray) (l vo : List Int) : GDecision := ⟨id, l, vo, 1, 0, List.replicate l.length false⟩
theorem mxs_ge (l : List Int) : ∀ c : Int, (∀ x ∈ l, x ≤ l.foldl (fun c a => if a > c then a else c) c) ∧ c ≤ l.foldl (fun c a => if a > c then a else c) c := by
  induction l with
  | nil => intro c; simp
  | cons x r ih =>
    intro c
    obtain ⟨h1, h2⟩ := ih (if x > c then x else c)
    simp only [List.foldl_cons]
    refine ⟨fun y hy => ?_, ?_⟩
    · rcases List.mem_cons.1 hy with rfl | hy
      · split at h2 <;> rename_i hc <;> (split <;> omega)
      · exact h1 y hy
    · split at h2 <;> rename_i hc <;> (split <;> omega)
theorem ordS_4 {d : GDecision} {x : Int} (hm : x ∈ d.fShards) (h : d.fState = 4) : ordS d x = ((GWrite.z.sKind 11).sTxn d.fID, 0) := by
  unfold ordS; rw [if_neg (fun h => h hm), h, if_neg (by decide), if_neg (by decide)]
theorem ordS_3 {d : GDecision} {x : Int} (hm : x ∈ d.fShards) (h : d.fState = 3) : ordS d x = (((GWrite.z.sKind 10).sTxn d.fID).sStamp d.fCommit, 0) := by
  unfold ordS; rw [if_neg (fun h => h hm), h, if_neg (by decide), if_pos rfl]
/-- what a vote is -/
def voteOk (x : Int) : Prop := x = 0 ∨ x = -1 ∨ 1 ≤ x
set_option maxHeartbeats 1000000 in
theorem agrees_law (id : ByteArray) (l : List Int) (ops : List GLaw54Op) (hi : id.size ≤ 10000000) : M_docstorelaw54_TwophaseAgrees id l ops = some true := by
  unfold M_docstorelaw54_TwophaseAgrees M_docstorelaw54_TwophaseAgrees_T M_docstorelaw54_TwophaseAgrees_J0 M_docstorelaw54_TwophaseAgrees_J0_T M_docstorelaw54_TwophaseAgrees_J5 M_docstorelaw54_TwophaseAgrees_J5_T M_docstorelaw54_TwophaseAgrees_L20 M_docstorelaw54_TwophaseAgrees_L20_T M_docstorelaw54_TwophaseAgrees_J15 M_docstorelaw54_TwophaseAgrees_J15_T M_docstorelaw54_TwophaseAgrees_J10 M_docstorelaw54_TwophaseAgrees_J10_T M_docstorelaw54_TwophaseAgrees_L26 M_docstorelaw54_TwophaseAgrees_L26_T M_docstorelaw54_TwophaseAgrees_J32 M_docstorelaw54_TwophaseAgrees_J32_T M_docstorelaw54_TwophaseAgrees_J37 M_docstorelaw54_TwophaseAgrees_J37_T M_docstorelaw54_TwophaseAgrees_J42 M_docstorelaw54_TwophaseAgrees_J42_T M_docstorelaw54_TwophaseAgrees_L52 M_docstorelaw54_TwophaseAgrees_L52_T M_docstorelaw54_TwophaseAgrees_J47 M_docstorelaw54_TwophaseAgrees_J47_T
  simp only [Mo.den, sbind2_eq, sbind3_eq, bcase_eq, sbind_eq, gcase_eq]
  by_cases a1 : 20 < l.length
  · rw [decide_eq_true (show (20 : Int) < (l.length : Int) by omega)]; simp only [cond_true, Option.bind_some]; rw [awake_val]; rfl
  rw [decide_eq_false (show ¬ (20 : Int) < (l.length : Int) by omega)]; simp only [cond_false, Option.bind_some]
  by_cases a2 : 60 < ops.length
  · rw [decide_eq_true (show (60 : Int) < (ops.length : Int) by omega)]; simp only [cond_true]; rw [awake_val]; rfl
  rw [decide_eq_false (show ¬ (60 : Int) < (ops.length : Int) by omega)]; simp only [cond_false]
  rw [Start_val id l (by omega)]; simp only [Option.bind_some]
  unfold startS
  have bad : ∀ c : Int, c ≠ 0 → (bif (c != 0) then (bif decide (GDecision.z.fID = ⟨#[]⟩) then M_docstorelaw54_awake.bind some else some false).bind some else none) = some true := fun c hc => by
    rw [show (c != 0) = true by simpa using hc, awake_val]; rfl
  split
  · exact bad 9 (by decide)
  split
  rotate_left
  · exact bad 1 (by decide)
  rename_i hlP
  obtain ⟨hne, hP⟩ := hlP
  simp only [bne_self_eq_false, cond_false]
  rw [if_pos (by decide)]
  refine for_bind ops.length (by omega) (fun k v => ∃ vo votes : List Int, v = ((k : Int), dW id l vo, votes) ∧ vo.length = l.length ∧ votes.length = 64 ∧ (∀ x ∈ vo, voteOk x) ∧ ∀ (j : Nat) (x : Int), l[j]? = some x → vo[j]? = votes[x.toNat]?)
    (fun r => ∃ vo votes : List Int, r = .inr (dW id l vo, votes) ∧ vo.length = l.length ∧ votes.length = 64 ∧ (∀ x ∈ vo, voteOk x) ∧ ∀ (j : Nat) (x : Int), l[j]? = some x → vo[j]? = votes[x.toNat]?) ?_ ?_ ?_ ?_
  · refine ⟨List.replicate l.length 0, List.replicate (Int.toNat 64) 0, rfl, by simp, by simp, fun x hx => .inl (List.eq_of_mem_replicate hx), fun j x hx => ?_⟩
    have := hP j x hx
    rw [List.getElem?_replicate, List.getElem?_replicate, if_pos (List.getElem?_eq_some_iff.1 hx).1, if_pos (by omega)]
  · rintro k v hk ⟨vo, votes, rfl, hvl, hsl, hok, hrel⟩
    left
    have hS : Sm (dW id l vo) := ⟨hi, by show l.length ≤ _; omega, by show vo.length ≤ _; omega, by show (List.replicate l.length false).length ≤ _; simp; omega⟩
    have e0 : gidx ops (k : Int) = some ops[k] := by rw [gidx_nat]; exact List.getElem?_eq_getElem hk
    simp only [iLt hk, cond_true, e0, Option.bind_some, Vote_val _ _ _ hS, inc k (show k ≤ 1000000000 by omega)]
    generalize ops[k].fShard = s
    generalize ops[k].fStamp = p
    unfold voteS
    split
    · exact ⟨_, rfl, vo, votes, rfl, hvl, hsl, hok, hrel⟩
    split
    · exact ⟨_, rfl, vo, votes, rfl, hvl, hsl, hok, hrel⟩
    rename_i h1 h2
    rcases ix_cases s (dW id l vo).fShards with ⟨e, _⟩ | ⟨j, e, hj, _⟩
    · exact absurd (.inl (by rw [e]; decide)) h1
    have hj : l[j]? = some s := hj
    have hx := hP j _ hj
    have hjl := (List.getElem?_eq_some_iff.1 hj).1
    have hsx : s.toNat < votes.length := by omega
    have eg : gidx votes s = some votes[s.toNat] := by unfold gidx; rw [if_pos hx.1, List.getElem?_eq_getElem hsx]
    have haj := hrel j _ hj
    have hjv : j < vo.length := by omega
    rw [List.getElem?_eq_getElem hjv, List.getElem?_eq_getElem hsx] at haj
    injection haj with haj
    have h0 : vo[j] = 0 := by
      have h3 : ¬ (vo[j]? ≠ some 0) := fun h => h2 (.inr (by rw [e, Int.toNat_natCast]; exact h))
      rw [List.getElem?_eq_getElem hjv] at h3
      simpa using h3
    rw [e, Int.toNat_natCast]
    simp only [BEq.rfl, cond_true, decide_eq_false (show ¬ s < 0 by omega), decide_eq_false (show ¬ (63 : Int) < s by omega), cond_false, eg, Option.bind_some, ← haj, h0, bne_self_eq_false]
    refine ⟨_, rfl, vo.set j p, votes.set s.toNat p, rfl, by simp [hvl], by simp [hsl], fun x hx' => ?_, fun i x hx' => ?_⟩
    · rcases List.mem_or_eq_of_mem_set hx' with h | rfl
      · exact hok x h
      · unfold voteOk; omega
    · rw [List.getElem?_set, List.getElem?_set]
      by_cases hi : j = i
      · subst hi
        rw [hj] at hx'; injection hx' with hx'; subst hx'
        rw [if_pos rfl, if_pos rfl, if_pos hjv, if_pos hsx]
      · have hne' : s.toNat ≠ x.toNat := fun he => hi (shP_inj hP hj (by
          have := hP i x hx'
          rw [hx']; congr 1; omega))
        rw [if_neg hi, if_neg hne']; exact hrel i x hx'
  · rintro v ⟨vo, votes, rfl, h⟩
    exact ⟨_, by simp only [iNlt (Nat.lt_irrefl _), cond_false] <;> rfl, vo, votes, rfl, h⟩
  rintro r ⟨vo, votes, rfl, hvl, hsl, hok, hrel⟩
  refine for_bind l.length (by omega) (fun k v => v = (decide (-1 ∈ vo.take k), decide (0 ∈ vo.take k), mxs (vo.take k), (k : Int))) (fun r => r = (decide (-1 ∈ vo), decide (0 ∈ vo), mxs vo)) rfl ?_ ?_ ?_
  · rintro k v hk rfl
    left
    have hkv : k < vo.length := by omega
    have e0 : l[k]? = some l[k] := List.getElem?_eq_getElem hk
    have hx := hP k _ e0
    have eg : gidx votes l[k] = some vo[k] := by
      unfold gidx; rw [if_pos hx.1, ← hrel k _ e0, List.getElem?_eq_getElem hkv]
    simp only [iLt hk, cond_true, gidx_nat, e0, Option.bind_some, eg, inc k (show k ≤ 1000000000 by omega)]
    rw [mem_take hkv, mem_take hkv, mxs_take _ _ hkv]
    cases decide (-1 ∈ vo.take k) <;> cases decide (0 ∈ vo.take k) <;> exact ⟨_, rfl, rfl⟩
  · rintro v rfl
    exact ⟨_, by simp only [iNlt (Nat.lt_irrefl _), cond_false] <;> rfl, by rw [← hvl, List.take_length]⟩
  rintro r rfl
  have hS : Sm (dW id l vo) := ⟨hi, by show l.length ≤ _; omega, by show vo.length ≤ _; omega, by show (List.replicate l.length false).length ≤ _; simp; omega⟩
  rw [Decide_val _ hS]
  simp only [Option.bind_some]
  have fin : ∀ (c : Int) (b : Bool), (c = 0 ↔ b = true) → ∀ d' : GDecision, d' = ((dW id l vo).sState (bif b then 4 else 3)).sCommit c → ∀ (k : Nat) (x : Int), l[k]? = some x →
      ordS d' x = (if b then ((GWrite.z.sKind 11).sTxn id, 0) else (((GWrite.z.sKind 10).sTxn id).sStamp c, 0)) ∧ ordS (recD ((((GWrite.z.sKind 12).sTxn id).sStamp c).sShards l)) x = (if b then ((GWrite.z.sKind 11).sTxn id, 0) else (((GWrite.z.sKind 10).sTxn id).sStamp c, 0)) := by
    rintro c b hcb d' rfl k x hx
    have hm := List.mem_of_getElem? hx
    cases b with
    | true =>
      have hc : c = 0 := hcb.2 rfl
      subst hc
      exact ⟨ordS_4 hm rfl, ordS_4 hm rfl⟩
    | false =>
      have hc : c ≠ 0 := fun h => by have := hcb.1 h; cases this
      exact ⟨ordS_3 hm rfl, ordS_3 hm (if_neg hc)⟩
  have last : ∀ (c : Int) (b : Bool), (c = 0 ↔ b = true) → decS (dW id l vo) = (((dW id l vo).sState (bif b then 4 else 3)).sCommit c, (((GWrite.z.sKind 12).sTxn id).sStamp c).sShards l, 0) → ∀ K : Unit ⊕ Unit → Option Bool, K (.inr ()) = some true →
      (loopM (fun v_ : Int => bif decide (v_ < (l.length : Int)) then
        (gidx l v_).bind fun a_5 => (M_twophase_Order (((dW id l vo).sState (bif b then 4 else 3)).sCommit c) a_5).bind fun a_6 => (gidx [recD ((((GWrite.z.sKind 12).sTxn id).sStamp c).sShards l)] 0).bind fun a_7 => (gidx l v_).bind fun a_8 => (M_twophase_Order a_7 a_8).bind fun a_9 =>
          (bif a_6.snd != 0 then some true else bif a_9.snd != 0 then some true else (M_docstorelaw54_sameWrite a_6.fst a_9.fst).bind fun a_10 => bif !a_10 then some true else bif !decide (a_6.fst.fTxn = id) then some true else bif a_6.fst.fStamp != (((dW id l vo).sState (bif b then 4 else 3)).sCommit c).fCommit then some true else bif (a_6.fst.fKind == 10) == b then some true else some !((a_6.fst.fKind == 11) == b)).bind
            fun a => bif a then some (Sum.inr (Sum.inl ())) else some (Sum.inl (IntKind.wrap .i64 (v_ + 1)))
        else some (Sum.inr (Sum.inr ()))) FU 0).bind K = some true := by
    intro c b hcb _ K hK
    refine for_bind l.length (by omega) (fun k v => v = (k : Int)) (fun r => r = .inr ()) rfl ?_ ?_ ?_
    · rintro k v hk rfl
      left
      have e0 : l[k]? = some l[k] := List.getElem?_eq_getElem hk
      obtain ⟨f1, f2⟩ := fin c b hcb _ rfl k _ e0
      have hS1 : Sm (((dW id l vo).sState (bif b then 4 else 3)).sCommit c) := ⟨hS.id, hS.sh, hS.vo, hS.ak⟩
      have hS2 : Sm (recD ((((GWrite.z.sKind 12).sTxn id).sStamp c).sShards l)) := ⟨hi, by show l.length ≤ _; omega, by show (List.replicate l.length 0).length ≤ _; simp; omega, by show (List.replicate l.length false).length ≤ _; simp; omega⟩
      simp only [iLt hk, cond_true, gidx_nat, e0, Option.bind_some, Order_val _ _ hS1, f1, show gidx [recD ((((GWrite.z.sKind 12).sTxn id).sStamp c).sShards l)] 0 = some (recD ((((GWrite.z.sKind 12).sTxn id).sStamp c).sShards l)) from rfl, Order_val _ _ hS2, f2, inc k (show k ≤ 1000000000 by omega)]
      cases b with
      | true =>
        have hc : c = 0 := hcb.2 rfl
        subst hc
        simp only [if_true, bne_self_eq_false, cond_false, sameWrite_1 11 id hi, Option.bind_some, Bool.not_true]
        rw [show decide (((GWrite.z.sKind 11).sTxn id).fTxn = id) = true from decide_eq_true rfl]
        exact ⟨_, rfl, rfl⟩
      | false =>
        simp only [Bool.false_eq_true, if_false, bne_self_eq_false, cond_false, sameWrite_2 10 c id hi, Option.bind_some, Bool.not_true]
        rw [show decide ((((GWrite.z.sKind 10).sTxn id).sStamp c).fTxn = id) = true from decide_eq_true rfl, show ((((GWrite.z.sKind 10).sTxn id).sStamp c).fStamp != (((dW id l vo).sState 3).sCommit c).fCommit) = false from by rw [bne_eq_false_iff_eq]; rfl]
        exact ⟨_, rfl, rfl⟩
    · rintro v rfl
      exact ⟨_, by simp only [iNlt (Nat.lt_irrefl _), cond_false] <;> rfl, rfl⟩
    · rintro r rfl
      exact hK
  by_cases hr : -1 ∈ vo
  · have hd : decS (dW id l vo) = (((dW id l vo).sState (bif true then 4 else 3)).sCommit 0, (((GWrite.z.sKind 12).sTxn id).sStamp 0).sShards l, 0) := by
      unfold decS
      rw [if_neg (by rintro (h | h); exact h rfl; exact h.1 hr)]
      simp only [show (-1 : Int) ∈ (dW id l vo).fVotes from hr, if_true]; rfl
    have hl := last 0 true (by simp) hd
    rw [hd]
    simp only [hr, decide_true, Bool.not_true, cond_false, Option.bind_some, bne_self_eq_false, cond_true]
    rw [Recover_one ⟨1, 1, ⟨#[]⟩, 0, (((GWrite.z.sKind 12).sTxn id).sStamp 0).sShards l⟩ rfl (show l.length ≤ 1000000 by omega)]
    rw [show (((((dW id l vo).sState 4).sCommit 0).fState == 3) == true) = false from rfl, show (!(((((dW id l vo).sState 4).sCommit 0).fState == 4) == true)) = false from rfl, show ((((dW id l vo).sState 4).sCommit 0).fCommit != 0) = false from rfl]
    simp only [cond_false, Option.bind_some, show ((([recD ((((GWrite.z.sKind 12).sTxn id).sStamp 0).sShards l)].length : Nat) : Int) != 1) = false from rfl]
    exact hl _ (by rw [awake_val]; rfl)
  · by_cases h0 : 0 ∈ vo
    · have hd : decS (dW id l vo) = (GDecision.z, GWrite.z, 23) := by unfold decS; rw [if_pos (.inr ⟨hr, h0⟩)]
      rw [hd]
      simp only [hr, h0, decide_true, decide_false, Bool.not_false, cond_true, Option.bind_some, BEq.rfl, awake_val]
    · have hd : decS (dW id l vo) = (((dW id l vo).sState (bif false then 4 else 3)).sCommit (mxs vo), (((GWrite.z.sKind 12).sTxn id).sStamp (mxs vo)).sShards l, 0) := by
        unfold decS
        rw [if_neg (by rintro (h | h); exact h rfl; exact h0 h.2)]
        simp only [show ¬ (-1 : Int) ∈ (dW id l vo).fVotes from hr, if_false]; rfl
      have hm : mxs vo ≠ 0 := by
        cases hvo : vo with
        | nil => rw [hvo] at hvl; simp at hvl; exact absurd (List.length_eq_zero_iff.1 hvl.symm) hne
        | cons x r =>
          have h1 := (mxs_ge vo 0).1 x (by rw [hvo]; simp)
          have h2 := hok x (by rw [hvo]; simp)
          have h3 : x ≠ 0 := fun h => h0 (by rw [hvo, ← h]; simp)
          have h4 : x ≠ -1 := fun h => hr (by rw [hvo, ← h]; simp)
          rw [← hvo]
          unfold voteOk at h2
          unfold mxs; omega
      have hl := last (mxs vo) false (by simp [hm]) hd
      rw [hd]
      simp only [hr, h0, decide_false, Bool.not_false, cond_false, Option.bind_some, bne_self_eq_false, cond_true]
      rw [Recover_one ⟨1, 1, ⟨#[]⟩, 0, (((GWrite.z.sKind 12).sTxn id).sStamp (mxs vo)).sShards l⟩ rfl (show l.length ≤ 1000000 by omega)]
      rw [show ((((dW id l vo).sState 3).sCommit (mxs vo)).fCommit != mxs vo) = false from by rw [bne_eq_false_iff_eq]; rfl]
      exact hl _ (by rw [awake_val]; rfl)
end Go.Proofs.YtplokbmdcfakbaaDoor
