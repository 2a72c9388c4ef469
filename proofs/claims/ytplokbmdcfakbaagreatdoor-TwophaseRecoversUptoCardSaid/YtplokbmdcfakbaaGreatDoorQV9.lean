/- Printed by dec.py. -/
import Derived.Test.YtplokbmdcfakbaaGreatDoorQV8
import Derived.Test.YtplokbmdcfakbaaGreatDoorQV5
import Derived.Test.YtplokbmdcfakbaaGreatDoorQVName
import Derived.Test.YtplokbmdcfakbaaGreatDoorQV4
set_option linter.unusedSimpArgs false
set_option linter.unusedVariables false
namespace Go.Proofs.YtplokbmdcfakbaaGreatDoor
open Go.RowKit
set_option maxRecDepth 20000
set_option maxHeartbeats 4000000
noncomputable section
def Q66_L0_T (p_s : List Bool) (p_v : Bool) : (Int) → Mo ((Int) ⊕ (Int) ⊕ Unit) := fun (v7349) =>
 .ite (decide ((v7349 : Int) < (p_s.length : Int))) (fun c7350 =>
 .say [.br true] (ok1 c7350) <|
 .ask (gidx p_s v7349) fun x7351 h7352 =>
 .say [.row (lfB x7351)] (okc (gidx_ok (fun _ => rfl) h7352 : (0 : Int) ≤ v7349 ∧ (p_s.map lfB)[v7349.toNat]? = some (lfB x7351)) ok0) <|
 .ite (p_v == x7351) (fun c7353 =>
 .say [.br true] (ok1 c7353) <|
 .ret ⟨[], [4], [], 0⟩ (.inr (.inl (v7349)))) fun c7353 =>
 .say [.br false] (ok1 c7353) <|
 .ret ⟨[], [0, 1, 7, 8], [], 0⟩ (.inl (IntKind.wrap .i64 (v7349 + 1)))) fun c7350 =>
 .say [.br false] (ok1 c7350) <|
 .ret ⟨[], [], [], 0⟩ (.inr (.inr (())))
def Q66_L0 (p_s : List Bool) (p_v : Bool) (v7349 : Int) : Option ((Int) ⊕ Unit) := loopM (fun v_ => (Q66_L0_T p_s p_v v_).den) FU (v7349)
def Q66_L0_H (p_s : List Bool) (p_v : Bool) : (Int) → St := fun (v7349) => ⟨[(0, .lf (.rows 1 (p_s.map lfB))), (1, .lf (.bool p_v)), (7, .lf (.int .i64 (p_s.length : Int))), (8, .lf (.int .i64 v7349))], []⟩
def Q66_L0_X (r_ : (Int) ⊕ Unit) : Exit := match r_ with
 | .inl o_ => .ret
 | .inr (o_) => .exit 0
def Q66_L0_S  (r_ : (Int) ⊕ Unit) : St := match r_ with
 | .inl o_ => ⟨[(4, .lf (.int .i64 o_))], []⟩
 | .inr (o_) => ⟨[], []⟩
theorem Q66_L0_W {p_s : List Bool} {p_v : Bool} {v7349 : Int} {r_ : (Int) ⊕ Unit} (h : Q66_L0 p_s p_v v7349 = some r_) : AWa_ Tryz.f37 0 [1, 0, 1, 0] (Q66_L0_X r_) (Q66_L0_S r_) (Q66_L0_H p_s p_v (v7349)) :=
 loop_T BaseK (body := (Code.sub (bodyC Tryz.f37) [1, 0, 1, 0, 0])) (by kernel_rfl) (Q66_L0_T p_s p_v) (Q66_L0_H p_s p_v) Q66_L0_X Q66_L0_S (fun r_ => by rcases r_ with _ | _ <;> rfl) (fun v_ => by kernel_rfl) h
def Q66_T (p_s : List Bool) (p_v : Bool) : Mo (Int) :=
 .say [.num p_s.length] (okc (by simp : p_s.length = (p_s.map lfB).length) ok0) <|
 .ask2 (Q66_L0 p_s p_v 0) (fun o7357 h7356 =>
 .say [.pt_ 0 [0, 1, 7, 8] 0 (Q66_L0_X (.inl o7357)) (Q66_L0_S (.inl o7357))] (ok1 (Q66_L0_W h7356)) <|
 .ret (fitN 1) (o7357)) fun o7358 h7356 =>
 .say [.pt_ 0 [0, 1, 7, 8] 0 (Q66_L0_X (.inr (o7358))) (Q66_L0_S (.inr (o7358)))] (ok1 (Q66_L0_W h7356)) <|
 .ret (fitN 1) ((-1))
def Q66 (p_s : List Bool) (p_v : Bool) : Option (Int) := Mo.den (Q66_T p_s p_v)
theorem Q66_ok (p_s : List Bool) (p_v : Bool) (r : Int) (h : Q66 p_s p_v = some r) : Fn Tryz.prog GI 37 [.lf (.rows 1 (p_s.map lfB)), .lf (.bool p_v)] (.lf (.int .i64 r)) :=
 fn_T BaseK Tryz.func37 (by kernel_rfl) (by kernel_rfl) (by kernel_rfl) (Q66_T p_s p_v) (fun r => [.lf (.int .i64 r)]) (by kernel_rfl) h
def Q97_T (p_s : List Bool) (p_v : Bool) : Mo (Bool) :=
 .ask (Q66 p_s p_v) fun r7359 h7360 =>
 .say [.res (.lf (.int .i64 r7359))] (ok1 (Q66_ok _ _ _ h7360)) <|
 .ret (fitN 1) (decide ((0 : Int) ≤ r7359))
def Q97 (p_s : List Bool) (p_v : Bool) : Option (Bool) := Mo.den (Q97_T p_s p_v)
theorem Q97_ok (p_s : List Bool) (p_v : Bool) (r : Bool) (h : Q97 p_s p_v = some r) : Fn Tryz.prog GI 22 [.lf (.rows 1 (p_s.map lfB)), .lf (.bool p_v)] (.lf (.bool r)) :=
 fn_T BaseK Tryz.func22 (by kernel_rfl) (by kernel_rfl) (by kernel_rfl) (Q97_T p_s p_v) (fun r => [.lf (.bool r)]) (by kernel_rfl) h
def Q102_T (p_d : GDecision) : Mo (Bool) :=
 .ite (p_d.fState != 1) (fun c7323 =>
 .say [.gd 4003 true] (ok1 c7323) <|
 .ask (Q97 p_d.fAcked false) fun r7361 h7362 =>
 .say [.res (.lf (.bool r7361))] (ok1 (Q97_ok _ _ _ h7362)) <|
 .ret (fitN 1) (!r7361)) fun c7323 =>
 .say [.gd 4003 false] (ok1 c7323) <|
 .ret (fitN 1) (false)
def Q102 (p_d : GDecision) : Option (Bool) := Mo.den (Q102_T p_d)
theorem Q102_ok (p_d : GDecision) (r : Bool) (h : Q102 p_d = some r) : Fn Tryz.prog GI 13 [.dat (GDecision.lf1 p_d)] (.lf (.bool r)) :=
 fn_T BaseK Tryz.func13 (by kernel_rfl) (by kernel_rfl) (by kernel_rfl) (Q102_T p_d) (fun r => [.lf (.bool r)]) (by kernel_rfl) h
def Q2_J0_T (r6783 : GDecision × Int) (r6787 : GDecision × Int) (r6883 : GDecision × Int) (r6887 : GDecision × Int) (r6960 : GDecision × GWrite × Int) (r6977 : GWrite × Int) (r7262 : List GDecision) : Mo (Bool) :=
 .ite (r6783.2 == 0) (fun c7264 =>
 .say [.gd 18002 true] (ok1 c7264) <|
 .ret ⟨[], [0, 1, 5, 6, 7, 8, 9, 10, 11, 52], [], 7⟩ (r6787.2 == 1)) fun c7264 =>
 .say [.gd 18002 false] (ok1 c7264) <|
 .ret ⟨[], [0, 1, 5, 6, 7, 8, 9, 10, 11, 52], [], 7⟩ (false)
def Q2_J0 (r6783 : GDecision × Int) (r6787 : GDecision × Int) (r6883 : GDecision × Int) (r6887 : GDecision × Int) (r6960 : GDecision × GWrite × Int) (r6977 : GWrite × Int) (r7262 : List GDecision) : Option (Bool) := Mo.den (Q2_J0_T r6783 r6787 r6883 r6887 r6960 r6977 r7262)
def Q2_J0_S (r6883 : GDecision × Int) (r6887 : GDecision × Int) (r6960 : GDecision × GWrite × Int) (r6977 : GWrite × Int) (r7262 : List GDecision) (r_ : Bool) : St := ⟨[(0, .lf (.bool false)), (1, .ptr 1 0), (5, .lf (.int .i64 r6883.2)), (6, .lf (.int .i64 r6887.2)), (7, .ptr 4 0), (8, .lf (.int .i64 r6960.2.2)), (9, .ptr 5 0), (10, .lf (.int .i64 r6977.2)), (11, .lf (.rows 6 (r7262.map GDecision.lf))), (52, .lf (.bool r_))], [.dead, .box 61 (.agg ((GDecision.lf1 r6960.1).map AV.lf)), .dead, .dead, .box 53 (.agg ((GWrite.lf1 r6960.2.1).map AV.lf)), .box 53 (.agg ((GWrite.lf1 r6977.1).map AV.lf)), .dead]⟩
theorem Q2_J0_W {r6783 : GDecision × Int} {r6787 : GDecision × Int} {r6883 : GDecision × Int} {r6887 : GDecision × Int} {r6960 : GDecision × GWrite × Int} {r6977 : GWrite × Int} {r7262 : List GDecision} {r_ : Bool} (h : Q2_J0 r6783 r6787 r6883 r6887 r6960 r6977 r7262 = some r_) : AWoa_ Tryz.f4 0 [1, 1, 1, 1, 1, 1, 1, 1, 0] [0, 1, 2, 3, 4, 5] (Q2_J0_S r6883 r6887 r6960 r6977 r7262 r_) ⟨[(0, .lf (.bool false)), (1, .ptr 1 0), (2, .lf (.int .i64 r6783.2)), (4, .lf (.int .i64 r6787.2)), (5, .lf (.int .i64 r6883.2)), (6, .lf (.int .i64 r6887.2)), (7, .ptr 4 0), (8, .lf (.int .i64 r6960.2.2)), (9, .ptr 5 0), (10, .lf (.int .i64 r6977.2)), (11, .lf (.rows 6 (r7262.map GDecision.lf)))], [.dead, .box 61 (.agg ((GDecision.lf1 r6960.1).map AV.lf)), .dead, .dead, .box 53 (.agg ((GWrite.lf1 r6960.2.1).map AV.lf)), .box 53 (.agg ((GWrite.lf1 r6977.1).map AV.lf)), .dead]⟩ :=
 seg_T BaseK (Q2_J0_T r6783 r6787 r6883 r6887 r6960 r6977 r7262) (Q2_J0_S r6883 r6887 r6960 r6977 r7262) (by kernel_rfl) h
def Q2_J5_T (r6883 : GDecision × Int) (r6887 : GDecision × Int) (r6960 : GDecision × GWrite × Int) (r6977 : GWrite × Int) (r7262 : List GDecision) (r7266 : Bool) : Mo (Bool) :=
 .ite (r7266) (fun c7268 =>
 .say [.gd 18006 true] (ok1 c7268) <|
 .ret ⟨[], [0, 1, 6, 7, 8, 9, 10, 11, 56], [], 7⟩ (r6883.2 == 0)) fun c7268 =>
 .say [.gd 18006 false] (ok1 c7268) <|
 .ret ⟨[], [0, 1, 6, 7, 8, 9, 10, 11, 56], [], 7⟩ (false)
def Q2_J5 (r6883 : GDecision × Int) (r6887 : GDecision × Int) (r6960 : GDecision × GWrite × Int) (r6977 : GWrite × Int) (r7262 : List GDecision) (r7266 : Bool) : Option (Bool) := Mo.den (Q2_J5_T r6883 r6887 r6960 r6977 r7262 r7266)
def Q2_J5_S (r6887 : GDecision × Int) (r6960 : GDecision × GWrite × Int) (r6977 : GWrite × Int) (r7262 : List GDecision) (r_ : Bool) : St := ⟨[(0, .lf (.bool false)), (1, .ptr 1 0), (6, .lf (.int .i64 r6887.2)), (7, .ptr 4 0), (8, .lf (.int .i64 r6960.2.2)), (9, .ptr 5 0), (10, .lf (.int .i64 r6977.2)), (11, .lf (.rows 6 (r7262.map GDecision.lf))), (56, .lf (.bool r_))], [.dead, .box 61 (.agg ((GDecision.lf1 r6960.1).map AV.lf)), .dead, .dead, .box 53 (.agg ((GWrite.lf1 r6960.2.1).map AV.lf)), .box 53 (.agg ((GWrite.lf1 r6977.1).map AV.lf)), .dead]⟩
theorem Q2_J5_W {r6883 : GDecision × Int} {r6887 : GDecision × Int} {r6960 : GDecision × GWrite × Int} {r6977 : GWrite × Int} {r7262 : List GDecision} {r7266 : Bool} {r_ : Bool} (h : Q2_J5 r6883 r6887 r6960 r6977 r7262 r7266 = some r_) : AWoa_ Tryz.f4 0 [1, 1, 1, 1, 1, 1, 1, 1, 0] [6, 7, 8, 9] (Q2_J5_S r6887 r6960 r6977 r7262 r_) ⟨[(0, .lf (.bool false)), (1, .ptr 1 0), (5, .lf (.int .i64 r6883.2)), (6, .lf (.int .i64 r6887.2)), (7, .ptr 4 0), (8, .lf (.int .i64 r6960.2.2)), (9, .ptr 5 0), (10, .lf (.int .i64 r6977.2)), (11, .lf (.rows 6 (r7262.map GDecision.lf))), (52, .lf (.bool r7266))], [.dead, .box 61 (.agg ((GDecision.lf1 r6960.1).map AV.lf)), .dead, .dead, .box 53 (.agg ((GWrite.lf1 r6960.2.1).map AV.lf)), .box 53 (.agg ((GWrite.lf1 r6977.1).map AV.lf)), .dead]⟩ :=
 seg_T BaseK (Q2_J5_T r6883 r6887 r6960 r6977 r7262 r7266) (Q2_J5_S r6887 r6960 r6977 r7262) (by kernel_rfl) h
def Q2_J10_T (r6887 : GDecision × Int) (r6960 : GDecision × GWrite × Int) (r6977 : GWrite × Int) (r7262 : List GDecision) (r7270 : Bool) : Mo (Bool) :=
 .ite (r7270) (fun c7272 =>
 .say [.gd 18010 true] (ok1 c7272) <|
 .ret ⟨[], [0, 1, 7, 8, 9, 10, 11, 60], [], 7⟩ (r6887.2 == 0)) fun c7272 =>
 .say [.gd 18010 false] (ok1 c7272) <|
 .ret ⟨[], [0, 1, 7, 8, 9, 10, 11, 60], [], 7⟩ (false)
def Q2_J10 (r6887 : GDecision × Int) (r6960 : GDecision × GWrite × Int) (r6977 : GWrite × Int) (r7262 : List GDecision) (r7270 : Bool) : Option (Bool) := Mo.den (Q2_J10_T r6887 r6960 r6977 r7262 r7270)
def Q2_J10_S (r6960 : GDecision × GWrite × Int) (r6977 : GWrite × Int) (r7262 : List GDecision) (r_ : Bool) : St := ⟨[(0, .lf (.bool false)), (1, .ptr 1 0), (7, .ptr 4 0), (8, .lf (.int .i64 r6960.2.2)), (9, .ptr 5 0), (10, .lf (.int .i64 r6977.2)), (11, .lf (.rows 6 (r7262.map GDecision.lf))), (60, .lf (.bool r_))], [.dead, .box 61 (.agg ((GDecision.lf1 r6960.1).map AV.lf)), .dead, .dead, .box 53 (.agg ((GWrite.lf1 r6960.2.1).map AV.lf)), .box 53 (.agg ((GWrite.lf1 r6977.1).map AV.lf)), .dead]⟩
theorem Q2_J10_W {r6887 : GDecision × Int} {r6960 : GDecision × GWrite × Int} {r6977 : GWrite × Int} {r7262 : List GDecision} {r7270 : Bool} {r_ : Bool} (h : Q2_J10 r6887 r6960 r6977 r7262 r7270 = some r_) : AWoa_ Tryz.f4 0 [1, 1, 1, 1, 1, 1, 1, 1, 0] [10, 11, 12, 13] (Q2_J10_S r6960 r6977 r7262 r_) ⟨[(0, .lf (.bool false)), (1, .ptr 1 0), (6, .lf (.int .i64 r6887.2)), (7, .ptr 4 0), (8, .lf (.int .i64 r6960.2.2)), (9, .ptr 5 0), (10, .lf (.int .i64 r6977.2)), (11, .lf (.rows 6 (r7262.map GDecision.lf))), (56, .lf (.bool r7270))], [.dead, .box 61 (.agg ((GDecision.lf1 r6960.1).map AV.lf)), .dead, .dead, .box 53 (.agg ((GWrite.lf1 r6960.2.1).map AV.lf)), .box 53 (.agg ((GWrite.lf1 r6977.1).map AV.lf)), .dead]⟩ :=
 seg_T BaseK (Q2_J10_T r6887 r6960 r6977 r7262 r7270) (Q2_J10_S r6960 r6977 r7262) (by kernel_rfl) h
def Q2_J15_T (r6960 : GDecision × GWrite × Int) (r6977 : GWrite × Int) (r7262 : List GDecision) (r7274 : Bool) : Mo (Bool) :=
 .ite (r7274) (fun c7276 =>
 .say [.gd 18014 true] (ok1 c7276) <|
 .ret ⟨[], [0, 1, 7, 9, 10, 11, 64], [], 7⟩ (r6960.2.2 == 0)) fun c7276 =>
 .say [.gd 18014 false] (ok1 c7276) <|
 .ret ⟨[], [0, 1, 7, 9, 10, 11, 64], [], 7⟩ (false)
def Q2_J15 (r6960 : GDecision × GWrite × Int) (r6977 : GWrite × Int) (r7262 : List GDecision) (r7274 : Bool) : Option (Bool) := Mo.den (Q2_J15_T r6960 r6977 r7262 r7274)
def Q2_J15_S (r6960 : GDecision × GWrite × Int) (r6977 : GWrite × Int) (r7262 : List GDecision) (r_ : Bool) : St := ⟨[(0, .lf (.bool false)), (1, .ptr 1 0), (7, .ptr 4 0), (9, .ptr 5 0), (10, .lf (.int .i64 r6977.2)), (11, .lf (.rows 6 (r7262.map GDecision.lf))), (64, .lf (.bool r_))], [.dead, .box 61 (.agg ((GDecision.lf1 r6960.1).map AV.lf)), .dead, .dead, .box 53 (.agg ((GWrite.lf1 r6960.2.1).map AV.lf)), .box 53 (.agg ((GWrite.lf1 r6977.1).map AV.lf)), .dead]⟩
theorem Q2_J15_W {r6960 : GDecision × GWrite × Int} {r6977 : GWrite × Int} {r7262 : List GDecision} {r7274 : Bool} {r_ : Bool} (h : Q2_J15 r6960 r6977 r7262 r7274 = some r_) : AWoa_ Tryz.f4 0 [1, 1, 1, 1, 1, 1, 1, 1, 0] [14, 15, 16, 17] (Q2_J15_S r6960 r6977 r7262 r_) ⟨[(0, .lf (.bool false)), (1, .ptr 1 0), (7, .ptr 4 0), (8, .lf (.int .i64 r6960.2.2)), (9, .ptr 5 0), (10, .lf (.int .i64 r6977.2)), (11, .lf (.rows 6 (r7262.map GDecision.lf))), (60, .lf (.bool r7274))], [.dead, .box 61 (.agg ((GDecision.lf1 r6960.1).map AV.lf)), .dead, .dead, .box 53 (.agg ((GWrite.lf1 r6960.2.1).map AV.lf)), .box 53 (.agg ((GWrite.lf1 r6977.1).map AV.lf)), .dead]⟩ :=
 seg_T BaseK (Q2_J15_T r6960 r6977 r7262 r7274) (Q2_J15_S r6960 r6977 r7262) (by kernel_rfl) h
def Q2_J20_T (r6960 : GDecision × GWrite × Int) (r6977 : GWrite × Int) (r7262 : List GDecision) (r7278 : Bool) : Mo (Bool) :=
 .ite (r7278) (fun c7280 =>
 .say [.gd 18018 true] (ok1 c7280) <|
 .ret ⟨[], [0, 1, 7, 9, 11, 68], [], 7⟩ (r6977.2 == 0)) fun c7280 =>
 .say [.gd 18018 false] (ok1 c7280) <|
 .ret ⟨[], [0, 1, 7, 9, 11, 68], [], 7⟩ (false)
def Q2_J20 (r6960 : GDecision × GWrite × Int) (r6977 : GWrite × Int) (r7262 : List GDecision) (r7278 : Bool) : Option (Bool) := Mo.den (Q2_J20_T r6960 r6977 r7262 r7278)
def Q2_J20_S (r6960 : GDecision × GWrite × Int) (r6977 : GWrite × Int) (r7262 : List GDecision) (r_ : Bool) : St := ⟨[(0, .lf (.bool false)), (1, .ptr 1 0), (7, .ptr 4 0), (9, .ptr 5 0), (11, .lf (.rows 6 (r7262.map GDecision.lf))), (68, .lf (.bool r_))], [.dead, .box 61 (.agg ((GDecision.lf1 r6960.1).map AV.lf)), .dead, .dead, .box 53 (.agg ((GWrite.lf1 r6960.2.1).map AV.lf)), .box 53 (.agg ((GWrite.lf1 r6977.1).map AV.lf)), .dead]⟩
theorem Q2_J20_W {r6960 : GDecision × GWrite × Int} {r6977 : GWrite × Int} {r7262 : List GDecision} {r7278 : Bool} {r_ : Bool} (h : Q2_J20 r6960 r6977 r7262 r7278 = some r_) : AWoa_ Tryz.f4 0 [1, 1, 1, 1, 1, 1, 1, 1, 0] [18, 19, 20, 21] (Q2_J20_S r6960 r6977 r7262 r_) ⟨[(0, .lf (.bool false)), (1, .ptr 1 0), (7, .ptr 4 0), (9, .ptr 5 0), (10, .lf (.int .i64 r6977.2)), (11, .lf (.rows 6 (r7262.map GDecision.lf))), (64, .lf (.bool r7278))], [.dead, .box 61 (.agg ((GDecision.lf1 r6960.1).map AV.lf)), .dead, .dead, .box 53 (.agg ((GWrite.lf1 r6960.2.1).map AV.lf)), .box 53 (.agg ((GWrite.lf1 r6977.1).map AV.lf)), .dead]⟩ :=
 seg_T BaseK (Q2_J20_T r6960 r6977 r7262 r7278) (Q2_J20_S r6960 r6977 r7262) (by kernel_rfl) h
def Q2_J25_T (r6960 : GDecision × GWrite × Int) (r6977 : GWrite × Int) (r7262 : List GDecision) (r7282 : Bool) : Mo (Bool) :=
 .ite (r7282) (fun c7284 =>
 .say [.gd 18022 true] (ok1 c7284) <|
 .ret ⟨[], [0, 1, 7, 9, 11, 73], [], 7⟩ (r6960.1.fState == 3)) fun c7284 =>
 .say [.gd 18022 false] (ok1 c7284) <|
 .ret ⟨[], [0, 1, 7, 9, 11, 73], [], 7⟩ (false)
def Q2_J25 (r6960 : GDecision × GWrite × Int) (r6977 : GWrite × Int) (r7262 : List GDecision) (r7282 : Bool) : Option (Bool) := Mo.den (Q2_J25_T r6960 r6977 r7262 r7282)
def Q2_J25_S (r6960 : GDecision × GWrite × Int) (r6977 : GWrite × Int) (r7262 : List GDecision) (r_ : Bool) : St := ⟨[(0, .lf (.bool false)), (1, .ptr 1 0), (7, .ptr 4 0), (9, .ptr 5 0), (11, .lf (.rows 6 (r7262.map GDecision.lf))), (73, .lf (.bool r_))], [.dead, .box 61 (.agg ((GDecision.lf1 r6960.1).map AV.lf)), .dead, .dead, .box 53 (.agg ((GWrite.lf1 r6960.2.1).map AV.lf)), .box 53 (.agg ((GWrite.lf1 r6977.1).map AV.lf)), .dead]⟩
theorem Q2_J25_W {r6960 : GDecision × GWrite × Int} {r6977 : GWrite × Int} {r7262 : List GDecision} {r7282 : Bool} {r_ : Bool} (h : Q2_J25 r6960 r6977 r7262 r7282 = some r_) : AWoa_ Tryz.f4 0 [1, 1, 1, 1, 1, 1, 1, 1, 0] [22, 23, 24, 25, 26] (Q2_J25_S r6960 r6977 r7262 r_) ⟨[(0, .lf (.bool false)), (1, .ptr 1 0), (7, .ptr 4 0), (9, .ptr 5 0), (11, .lf (.rows 6 (r7262.map GDecision.lf))), (68, .lf (.bool r7282))], [.dead, .box 61 (.agg ((GDecision.lf1 r6960.1).map AV.lf)), .dead, .dead, .box 53 (.agg ((GWrite.lf1 r6960.2.1).map AV.lf)), .box 53 (.agg ((GWrite.lf1 r6977.1).map AV.lf)), .dead]⟩ :=
 seg_T BaseK (Q2_J25_T r6960 r6977 r7262 r7282) (Q2_J25_S r6960 r6977 r7262) (by kernel_rfl) h
def Q2_J30_T (r6960 : GDecision × GWrite × Int) (r6977 : GWrite × Int) (r7262 : List GDecision) (r7286 : Bool) : Mo (Bool) :=
 .ite (r7286) (fun c7288 =>
 .say [.gd 18027 true] (ok1 c7288) <|
 .ret ⟨[], [0, 1, 7, 9, 11, 78], [], 7⟩ (r6960.1.fCommit == 7)) fun c7288 =>
 .say [.gd 18027 false] (ok1 c7288) <|
 .ret ⟨[], [0, 1, 7, 9, 11, 78], [], 7⟩ (false)
def Q2_J30 (r6960 : GDecision × GWrite × Int) (r6977 : GWrite × Int) (r7262 : List GDecision) (r7286 : Bool) : Option (Bool) := Mo.den (Q2_J30_T r6960 r6977 r7262 r7286)
def Q2_J30_S (r6960 : GDecision × GWrite × Int) (r6977 : GWrite × Int) (r7262 : List GDecision) (r_ : Bool) : St := ⟨[(0, .lf (.bool false)), (1, .ptr 1 0), (7, .ptr 4 0), (9, .ptr 5 0), (11, .lf (.rows 6 (r7262.map GDecision.lf))), (78, .lf (.bool r_))], [.dead, .box 61 (.agg ((GDecision.lf1 r6960.1).map AV.lf)), .dead, .dead, .box 53 (.agg ((GWrite.lf1 r6960.2.1).map AV.lf)), .box 53 (.agg ((GWrite.lf1 r6977.1).map AV.lf)), .dead]⟩
theorem Q2_J30_W {r6960 : GDecision × GWrite × Int} {r6977 : GWrite × Int} {r7262 : List GDecision} {r7286 : Bool} {r_ : Bool} (h : Q2_J30 r6960 r6977 r7262 r7286 = some r_) : AWoa_ Tryz.f4 0 [1, 1, 1, 1, 1, 1, 1, 1, 0] [27, 28, 29, 30, 31] (Q2_J30_S r6960 r6977 r7262 r_) ⟨[(0, .lf (.bool false)), (1, .ptr 1 0), (7, .ptr 4 0), (9, .ptr 5 0), (11, .lf (.rows 6 (r7262.map GDecision.lf))), (73, .lf (.bool r7286))], [.dead, .box 61 (.agg ((GDecision.lf1 r6960.1).map AV.lf)), .dead, .dead, .box 53 (.agg ((GWrite.lf1 r6960.2.1).map AV.lf)), .box 53 (.agg ((GWrite.lf1 r6977.1).map AV.lf)), .dead]⟩ :=
 seg_T BaseK (Q2_J30_T r6960 r6977 r7262 r7286) (Q2_J30_S r6960 r6977 r7262) (by kernel_rfl) h
def Q2_J35_T (r6960 : GDecision × GWrite × Int) (r6977 : GWrite × Int) (r7262 : List GDecision) (r7290 : Bool) : Mo (Bool) :=
 .ite (r7290) (fun c7292 =>
 .say [.gd 18032 true] (ok1 c7292) <|
 .ret ⟨[], [0, 1, 7, 9, 11, 83], [], 7⟩ (r6960.2.1.fKind == 12)) fun c7292 =>
 .say [.gd 18032 false] (ok1 c7292) <|
 .ret ⟨[], [0, 1, 7, 9, 11, 83], [], 7⟩ (false)
def Q2_J35 (r6960 : GDecision × GWrite × Int) (r6977 : GWrite × Int) (r7262 : List GDecision) (r7290 : Bool) : Option (Bool) := Mo.den (Q2_J35_T r6960 r6977 r7262 r7290)
def Q2_J35_S (r6960 : GDecision × GWrite × Int) (r6977 : GWrite × Int) (r7262 : List GDecision) (r_ : Bool) : St := ⟨[(0, .lf (.bool false)), (1, .ptr 1 0), (7, .ptr 4 0), (9, .ptr 5 0), (11, .lf (.rows 6 (r7262.map GDecision.lf))), (83, .lf (.bool r_))], [.dead, .box 61 (.agg ((GDecision.lf1 r6960.1).map AV.lf)), .dead, .dead, .box 53 (.agg ((GWrite.lf1 r6960.2.1).map AV.lf)), .box 53 (.agg ((GWrite.lf1 r6977.1).map AV.lf)), .dead]⟩
theorem Q2_J35_W {r6960 : GDecision × GWrite × Int} {r6977 : GWrite × Int} {r7262 : List GDecision} {r7290 : Bool} {r_ : Bool} (h : Q2_J35 r6960 r6977 r7262 r7290 = some r_) : AWoa_ Tryz.f4 0 [1, 1, 1, 1, 1, 1, 1, 1, 0] [32, 33, 34, 35, 36] (Q2_J35_S r6960 r6977 r7262 r_) ⟨[(0, .lf (.bool false)), (1, .ptr 1 0), (7, .ptr 4 0), (9, .ptr 5 0), (11, .lf (.rows 6 (r7262.map GDecision.lf))), (78, .lf (.bool r7290))], [.dead, .box 61 (.agg ((GDecision.lf1 r6960.1).map AV.lf)), .dead, .dead, .box 53 (.agg ((GWrite.lf1 r6960.2.1).map AV.lf)), .box 53 (.agg ((GWrite.lf1 r6977.1).map AV.lf)), .dead]⟩ :=
 seg_T BaseK (Q2_J35_T r6960 r6977 r7262 r7290) (Q2_J35_S r6960 r6977 r7262) (by kernel_rfl) h
def Q2_J40_T (r6960 : GDecision × GWrite × Int) (r6977 : GWrite × Int) (r7262 : List GDecision) (r7294 : Bool) : Mo (Bool) :=
 .ite (r7294) (fun c7296 =>
 .say [.gd 18037 true] (ok1 c7296) <|
 .ret ⟨[.kill 4], [0, 1, 9, 11, 88], [], 7⟩ (r6960.2.1.fStamp == 7)) fun c7296 =>
 .say [.gd 18037 false] (ok1 c7296) <|
 .ret ⟨[.kill 4], [0, 1, 9, 11, 88], [], 7⟩ (false)
def Q2_J40 (r6960 : GDecision × GWrite × Int) (r6977 : GWrite × Int) (r7262 : List GDecision) (r7294 : Bool) : Option (Bool) := Mo.den (Q2_J40_T r6960 r6977 r7262 r7294)
def Q2_J40_S (r6960 : GDecision × GWrite × Int) (r6977 : GWrite × Int) (r7262 : List GDecision) (r_ : Bool) : St := ⟨[(0, .lf (.bool false)), (1, .ptr 1 0), (9, .ptr 5 0), (11, .lf (.rows 6 (r7262.map GDecision.lf))), (88, .lf (.bool r_))], [.dead, .box 61 (.agg ((GDecision.lf1 r6960.1).map AV.lf)), .dead, .dead, .dead, .box 53 (.agg ((GWrite.lf1 r6977.1).map AV.lf)), .dead]⟩
theorem Q2_J40_W {r6960 : GDecision × GWrite × Int} {r6977 : GWrite × Int} {r7262 : List GDecision} {r7294 : Bool} {r_ : Bool} (h : Q2_J40 r6960 r6977 r7262 r7294 = some r_) : AWoa_ Tryz.f4 0 [1, 1, 1, 1, 1, 1, 1, 1, 0] [37, 38, 39, 40, 41] (Q2_J40_S r6960 r6977 r7262 r_) ⟨[(0, .lf (.bool false)), (1, .ptr 1 0), (7, .ptr 4 0), (9, .ptr 5 0), (11, .lf (.rows 6 (r7262.map GDecision.lf))), (83, .lf (.bool r7294))], [.dead, .box 61 (.agg ((GDecision.lf1 r6960.1).map AV.lf)), .dead, .dead, .box 53 (.agg ((GWrite.lf1 r6960.2.1).map AV.lf)), .box 53 (.agg ((GWrite.lf1 r6977.1).map AV.lf)), .dead]⟩ :=
 seg_T BaseK (Q2_J40_T r6960 r6977 r7262 r7294) (Q2_J40_S r6960 r6977 r7262) (by kernel_rfl) h
def Q2_J45_T (r6960 : GDecision × GWrite × Int) (r6977 : GWrite × Int) (r7262 : List GDecision) (r7300 : Bool) : Mo (Bool) :=
 .ite (r7300) (fun c7302 =>
 .say [.gd 18042 true] (ok1 c7302) <|
 .ret ⟨[], [0, 1, 9, 11, 93], [], 7⟩ (r6977.1.fKind == 10)) fun c7302 =>
 .say [.gd 18042 false] (ok1 c7302) <|
 .ret ⟨[], [0, 1, 9, 11, 93], [], 7⟩ (false)
def Q2_J45 (r6960 : GDecision × GWrite × Int) (r6977 : GWrite × Int) (r7262 : List GDecision) (r7300 : Bool) : Option (Bool) := Mo.den (Q2_J45_T r6960 r6977 r7262 r7300)
def Q2_J45_S (r6960 : GDecision × GWrite × Int) (r6977 : GWrite × Int) (r7262 : List GDecision) (r_ : Bool) : St := ⟨[(0, .lf (.bool false)), (1, .ptr 1 0), (9, .ptr 5 0), (11, .lf (.rows 6 (r7262.map GDecision.lf))), (93, .lf (.bool r_))], [.dead, .box 61 (.agg ((GDecision.lf1 r6960.1).map AV.lf)), .dead, .dead, .dead, .box 53 (.agg ((GWrite.lf1 r6977.1).map AV.lf)), .dead]⟩
theorem Q2_J45_W {r6960 : GDecision × GWrite × Int} {r6977 : GWrite × Int} {r7262 : List GDecision} {r7300 : Bool} {r_ : Bool} (h : Q2_J45 r6960 r6977 r7262 r7300 = some r_) : AWoa_ Tryz.f4 0 [1, 1, 1, 1, 1, 1, 1, 1, 0] [42, 43, 44, 45, 46] (Q2_J45_S r6960 r6977 r7262 r_) ⟨[(0, .lf (.bool false)), (1, .ptr 1 0), (9, .ptr 5 0), (11, .lf (.rows 6 (r7262.map GDecision.lf))), (88, .lf (.bool r7300))], [.dead, .box 61 (.agg ((GDecision.lf1 r6960.1).map AV.lf)), .dead, .dead, .dead, .box 53 (.agg ((GWrite.lf1 r6977.1).map AV.lf)), .dead]⟩ :=
 seg_T BaseK (Q2_J45_T r6960 r6977 r7262 r7300) (Q2_J45_S r6960 r6977 r7262) (by kernel_rfl) h
def Q2_J50_T (r6960 : GDecision × GWrite × Int) (r6977 : GWrite × Int) (r7262 : List GDecision) (r7304 : Bool) : Mo (Bool) :=
 .ite (r7304) (fun c7306 =>
 .say [.gd 18047 true] (ok1 c7306) <|
 .ret ⟨[.kill 5], [0, 1, 11, 98], [], 7⟩ (r6977.1.fStamp == 7)) fun c7306 =>
 .say [.gd 18047 false] (ok1 c7306) <|
 .ret ⟨[.kill 5], [0, 1, 11, 98], [], 7⟩ (false)
def Q2_J50 (r6960 : GDecision × GWrite × Int) (r6977 : GWrite × Int) (r7262 : List GDecision) (r7304 : Bool) : Option (Bool) := Mo.den (Q2_J50_T r6960 r6977 r7262 r7304)
def Q2_J50_S (r6960 : GDecision × GWrite × Int) (r7262 : List GDecision) (r_ : Bool) : St := ⟨[(0, .lf (.bool false)), (1, .ptr 1 0), (11, .lf (.rows 6 (r7262.map GDecision.lf))), (98, .lf (.bool r_))], [.dead, .box 61 (.agg ((GDecision.lf1 r6960.1).map AV.lf)), .dead, .dead, .dead, .dead, .dead]⟩
theorem Q2_J50_W {r6960 : GDecision × GWrite × Int} {r6977 : GWrite × Int} {r7262 : List GDecision} {r7304 : Bool} {r_ : Bool} (h : Q2_J50 r6960 r6977 r7262 r7304 = some r_) : AWoa_ Tryz.f4 0 [1, 1, 1, 1, 1, 1, 1, 1, 0] [47, 48, 49, 50, 51] (Q2_J50_S r6960 r7262 r_) ⟨[(0, .lf (.bool false)), (1, .ptr 1 0), (9, .ptr 5 0), (11, .lf (.rows 6 (r7262.map GDecision.lf))), (93, .lf (.bool r7304))], [.dead, .box 61 (.agg ((GDecision.lf1 r6960.1).map AV.lf)), .dead, .dead, .dead, .box 53 (.agg ((GWrite.lf1 r6977.1).map AV.lf)), .dead]⟩ :=
 seg_T BaseK (Q2_J50_T r6960 r6977 r7262 r7304) (Q2_J50_S r6960 r7262) (by kernel_rfl) h
def Q2_J55_T (r6960 : GDecision × GWrite × Int) (r7262 : List GDecision) (r7310 : Bool) : Mo (Bool) :=
 .ite (r7310) (fun c7312 =>
 .say [.gd 18052 true, .num r7262.length] (okc c7312 (okc (by simp : r7262.length = (r7262.map GDecision.lf).length) ok0)) <|
 .ret ⟨[], [0, 1, 11, 103], [], 7⟩ ((r7262.length : Int) == 1)) fun c7312 =>
 .say [.gd 18052 false] (ok1 c7312) <|
 .ret ⟨[], [0, 1, 11, 103], [], 7⟩ (false)
def Q2_J55 (r6960 : GDecision × GWrite × Int) (r7262 : List GDecision) (r7310 : Bool) : Option (Bool) := Mo.den (Q2_J55_T r6960 r7262 r7310)
def Q2_J55_S (r6960 : GDecision × GWrite × Int) (r7262 : List GDecision) (r_ : Bool) : St := ⟨[(0, .lf (.bool false)), (1, .ptr 1 0), (11, .lf (.rows 6 (r7262.map GDecision.lf))), (103, .lf (.bool r_))], [.dead, .box 61 (.agg ((GDecision.lf1 r6960.1).map AV.lf)), .dead, .dead, .dead, .dead, .dead]⟩
theorem Q2_J55_W {r6960 : GDecision × GWrite × Int} {r7262 : List GDecision} {r7310 : Bool} {r_ : Bool} (h : Q2_J55 r6960 r7262 r7310 = some r_) : AWoa_ Tryz.f4 0 [1, 1, 1, 1, 1, 1, 1, 1, 0] [52, 53, 54, 55, 56] (Q2_J55_S r6960 r7262 r_) ⟨[(0, .lf (.bool false)), (1, .ptr 1 0), (11, .lf (.rows 6 (r7262.map GDecision.lf))), (98, .lf (.bool r7310))], [.dead, .box 61 (.agg ((GDecision.lf1 r6960.1).map AV.lf)), .dead, .dead, .dead, .dead, .dead]⟩ :=
 seg_T BaseK (Q2_J55_T r6960 r7262 r7310) (Q2_J55_S r6960 r7262) (by kernel_rfl) h
def Q2_J60_T (r6960 : GDecision × GWrite × Int) (r7262 : List GDecision) (r7314 : Bool) : Mo (Bool) :=
 .ite (r7314) (fun c7316 =>
 .say [.gd 18057 true] (ok1 c7316) <|
 .ask (gidx r7262 0) fun x7317 h7318 =>
 .say [.row (GDecision.lf1 x7317)] (okc (gidx_ok GDecision.lf_eq h7318 : (0 : Int) ≤ 0 ∧ (r7262.map GDecision.lf)[(0 : Int).toNat]? = some (GDecision.lf1 x7317)) ok0) <|
 .ret ⟨[], [0, 1, 110], [], 7⟩ (x7317.fCommit == 7)) fun c7316 =>
 .say [.gd 18057 false] (ok1 c7316) <|
 .ret ⟨[], [0, 1, 110], [], 7⟩ (false)
def Q2_J60 (r6960 : GDecision × GWrite × Int) (r7262 : List GDecision) (r7314 : Bool) : Option (Bool) := Mo.den (Q2_J60_T r6960 r7262 r7314)
def Q2_J60_S (r6960 : GDecision × GWrite × Int) (r_ : Bool) : St := ⟨[(0, .lf (.bool false)), (1, .ptr 1 0), (110, .lf (.bool r_))], [.dead, .box 61 (.agg ((GDecision.lf1 r6960.1).map AV.lf)), .dead, .dead, .dead, .dead, .dead]⟩
theorem Q2_J60_W {r6960 : GDecision × GWrite × Int} {r7262 : List GDecision} {r7314 : Bool} {r_ : Bool} (h : Q2_J60 r6960 r7262 r7314 = some r_) : AWoa_ Tryz.f4 0 [1, 1, 1, 1, 1, 1, 1, 1, 0] [57, 58, 59, 60, 61, 62, 63] (Q2_J60_S r6960 r_) ⟨[(0, .lf (.bool false)), (1, .ptr 1 0), (11, .lf (.rows 6 (r7262.map GDecision.lf))), (103, .lf (.bool r7314))], [.dead, .box 61 (.agg ((GDecision.lf1 r6960.1).map AV.lf)), .dead, .dead, .dead, .dead, .dead]⟩ :=
 seg_T BaseK (Q2_J60_T r6960 r7262 r7314) (Q2_J60_S r6960) (by kernel_rfl) h
def Q2_J65_T (r6960 : GDecision × GWrite × Int) (r7320 : Bool) : Mo (Bool) :=
 .ite (r7320) (fun c7322 =>
 .say [.gd 18064 true] (ok1 c7322) <|
 .ask (Q102 r6960.1) fun r7363 h7364 =>
 .say [.res (.lf (.bool r7363))] (ok1 (Q102_ok _ _ h7364)) <|
 .ret ⟨[.kill 1], [0, 115], [], 7⟩ (!r7363)) fun c7322 =>
 .say [.gd 18064 false] (ok1 c7322) <|
 .ret ⟨[.kill 1], [0, 115], [], 7⟩ (false)
def Q2_J65 (r6960 : GDecision × GWrite × Int) (r7320 : Bool) : Option (Bool) := Mo.den (Q2_J65_T r6960 r7320)
def Q2_J65_S  (r_ : Bool) : St := ⟨[(0, .lf (.bool false)), (115, .lf (.bool r_))], [.dead, .dead, .dead, .dead, .dead, .dead, .dead]⟩
theorem Q2_J65_W {r6960 : GDecision × GWrite × Int} {r7320 : Bool} {r_ : Bool} (h : Q2_J65 r6960 r7320 = some r_) : AWoa_ Tryz.f4 0 [1, 1, 1, 1, 1, 1, 1, 1, 0] [64, 65, 66, 67, 68] (Q2_J65_S r_) ⟨[(0, .lf (.bool false)), (1, .ptr 1 0), (110, .lf (.bool r7320))], [.dead, .box 61 (.agg ((GDecision.lf1 r6960.1).map AV.lf)), .dead, .dead, .dead, .dead, .dead]⟩ :=
 seg_T BaseK (Q2_J65_T r6960 r7320) Q2_J65_S (by kernel_rfl) h
def Q2_J70_T (r7368 : Bool) : Mo (Unit) :=
 .ret ⟨[], [0], [], 7⟩ ()
def Q2_J70 (r7368 : Bool) : Option (Unit) := Mo.den (Q2_J70_T r7368)
def Q2_J70_S (r7368 : Bool) (r_ : Unit) : St := ⟨[(0, .lf (.bool r7368))], [.dead, .dead, .dead, .dead, .dead, .dead, .dead]⟩
theorem Q2_J70_W {r7368 : Bool} {r_ : Unit} (h : Q2_J70 r7368 = some r_) : AWoa_ Tryz.f4 0 [1, 1, 1, 1, 1, 1, 1, 1, 0] [69] (Q2_J70_S r7368 r_) ⟨[(0, .lf (.bool false)), (115, .lf (.bool r7368))], [.dead, .dead, .dead, .dead, .dead, .dead, .dead]⟩ :=
 seg_T BaseK (Q2_J70_T r7368) (Q2_J70_S r7368) (by kernel_rfl) h
def Q2_T  : Mo (Bool) :=
 .say [.at_ 4 1, .frzr 0 ([0, 2].map lfI)] (okc (by simp [lfI, lfK] : [0, 2].map lfI = [(lfI 0), (lfI 2)]) ok0) <|
 .ask (Q49 ⟨#[116]⟩ [0, 2]) fun r6783 h6784 =>
 .say [.res (.tup [.dat (GDecision.lf1 r6783.1), .lf (.int .i64 r6783.2)]), .at_ 6 1, .frzr 2 ([1, 0].map lfI)] (okc (Q49_ok _ _ _ h6784) (okc (by simp [lfI, lfK] : [1, 0].map lfI = [(lfI 1), (lfI 0)]) ok0)) <|
 .ask (Q49 ⟨#[116]⟩ [1, 0]) fun r6787 h6788 =>
 .say [.res (.tup [.dat (GDecision.lf1 r6787.1), .lf (.int .i64 r6787.2)])] (ok1 (Q49_ok _ _ _ h6788)) <|
 .ask (Q56 r6783.1 0 5) fun r6883 h6884 =>
 .say [.res (.tup [.dat (GDecision.lf1 r6883.1), .lf (.int .i64 r6883.2)])] (ok1 (Q56_ok _ _ _ _ h6884)) <|
 .ask (Q56 r6883.1 2 7) fun r6887 h6888 =>
 .say [.res (.tup [.dat (GDecision.lf1 r6887.1), .lf (.int .i64 r6887.2)])] (ok1 (Q56_ok _ _ _ _ h6888)) <|
 .ask (Q51 r6887.1) fun r6960 h6961 =>
 .say [.res (.tup [.dat (GDecision.lf1 r6960.1), .dat (GWrite.lf1 r6960.2.1), .lf (.int .i64 r6960.2.2)])] (ok1 (Q51_ok _ _ h6961)) <|
 .ask (Q101 r6960.1 0) fun r6977 h6978 =>
 .say [.res (.tup [.dat (GWrite.lf1 r6977.1), .lf (.int .i64 r6977.2)]), .at_ 16 3, .frzr 6 ([GEntry.mk 1 8 ⟨#[]⟩ 0 r6960.2.1].map GEntry.lf)] (okc (Q101_ok _ _ _ h6978) (okc (by simp [GEntry.lf_eq] : [GEntry.mk 1 8 ⟨#[]⟩ 0 r6960.2.1].map GEntry.lf = [(GEntry.lf1 (GEntry.mk 1 8 ⟨#[]⟩ 0 r6960.2.1))]) ok0)) <|
 .ask (Q15 [GEntry.mk 1 8 ⟨#[]⟩ 0 r6960.2.1]) fun r7262 h7263 =>
 .say [.res (.lf (.rows 6 (r7262.map GDecision.lf)))] (ok1 (Q15_ok _ _ h7263)) <|
 .ask (Q2_J0 r6783 r6787 r6883 r6887 r6960 r6977 r7262) fun r7266 h7267 =>
 .say [.seg 8 [.kill 3] 6 [0, 1, 2, 4, 5, 6, 7, 8, 9, 10, 11] 7 (Q2_J0_S r6883 r6887 r6960 r6977 r7262 r7266).T (Q2_J0_S r6883 r6887 r6960 r6977 r7262 r7266).H] (ok1 (Q2_J0_W h7267)) <|
 .ask (Q2_J5 r6883 r6887 r6960 r6977 r7262 r7266) fun r7270 h7271 =>
 .say [.sg_ 8 4 [0, 1, 5, 6, 7, 8, 9, 10, 11, 52] 7 (Q2_J5_S r6887 r6960 r6977 r7262 r7270)] (ok1 (Q2_J5_W h7271)) <|
 .ask (Q2_J10 r6887 r6960 r6977 r7262 r7270) fun r7274 h7275 =>
 .say [.sg_ 8 4 [0, 1, 6, 7, 8, 9, 10, 11, 56] 7 (Q2_J10_S r6960 r6977 r7262 r7274)] (ok1 (Q2_J10_W h7275)) <|
 .ask (Q2_J15 r6960 r6977 r7262 r7274) fun r7278 h7279 =>
 .say [.sg_ 8 4 [0, 1, 7, 8, 9, 10, 11, 60] 7 (Q2_J15_S r6960 r6977 r7262 r7278)] (ok1 (Q2_J15_W h7279)) <|
 .ask (Q2_J20 r6960 r6977 r7262 r7278) fun r7282 h7283 =>
 .say [.sg_ 8 4 [0, 1, 7, 9, 10, 11, 64] 7 (Q2_J20_S r6960 r6977 r7262 r7282)] (ok1 (Q2_J20_W h7283)) <|
 .ask (Q2_J25 r6960 r6977 r7262 r7282) fun r7286 h7287 =>
 .say [.sg_ 8 5 [0, 1, 7, 9, 11, 68] 7 (Q2_J25_S r6960 r6977 r7262 r7286)] (ok1 (Q2_J25_W h7287)) <|
 .ask (Q2_J30 r6960 r6977 r7262 r7286) fun r7290 h7291 =>
 .say [.sg_ 8 5 [0, 1, 7, 9, 11, 73] 7 (Q2_J30_S r6960 r6977 r7262 r7290)] (ok1 (Q2_J30_W h7291)) <|
 .ask (Q2_J35 r6960 r6977 r7262 r7290) fun r7294 h7295 =>
 .say [.sg_ 8 5 [0, 1, 7, 9, 11, 78] 7 (Q2_J35_S r6960 r6977 r7262 r7294)] (ok1 (Q2_J35_W h7295)) <|
 .ask (Q2_J40 r6960 r6977 r7262 r7294) fun r7300 h7301 =>
 .say [.sg_ 8 5 [0, 1, 7, 9, 11, 83] 7 (Q2_J40_S r6960 r6977 r7262 r7300)] (ok1 (Q2_J40_W h7301)) <|
 .ask (Q2_J45 r6960 r6977 r7262 r7300) fun r7304 h7305 =>
 .say [.sg_ 8 5 [0, 1, 9, 11, 88] 7 (Q2_J45_S r6960 r6977 r7262 r7304)] (ok1 (Q2_J45_W h7305)) <|
 .ask (Q2_J50 r6960 r6977 r7262 r7304) fun r7310 h7311 =>
 .say [.sg_ 8 5 [0, 1, 9, 11, 93] 7 (Q2_J50_S r6960 r7262 r7310)] (ok1 (Q2_J50_W h7311)) <|
 .ask (Q2_J55 r6960 r7262 r7310) fun r7314 h7315 =>
 .say [.sg_ 8 5 [0, 1, 11, 98] 7 (Q2_J55_S r6960 r7262 r7314)] (ok1 (Q2_J55_W h7315)) <|
 .ask (Q2_J60 r6960 r7262 r7314) fun r7320 h7321 =>
 .say [.sg_ 8 7 [0, 1, 11, 103] 7 (Q2_J60_S r6960 r7320)] (ok1 (Q2_J60_W h7321)) <|
 .ask (Q2_J65 r6960 r7320) fun r7368 h7369 =>
 .say [.sg_ 8 5 [0, 1, 110] 7 (Q2_J65_S r7368)] (ok1 (Q2_J65_W h7369)) <|
 .ask (Q2_J70 r7368) fun r7370 h7371 =>
 .say [.sg_ 8 1 [0, 115] 7 (Q2_J70_S r7368 r7370)] (ok1 (Q2_J70_W h7371)) <|
 .ret (fitN 1) (r7368)
def Q2  : Option (Bool) := Mo.den (Q2_T )
theorem Q2_ok  (r : Bool) (h : Q2  = some r) : Fn Tryz.prog GI 4 [] (.lf (.bool r)) :=
 fn_T BaseK Tryz.func4 (by kernel_rfl) (by kernel_rfl) (by kernel_rfl) (Q2_T ) (fun r => [.lf (.bool r)]) (by kernel_rfl) h
def Q63_L0_T (p_id : ByteArray) (p_l : List Int) : (Int × (List Int) × (List Int) × (List Bool)) → Mo ((Int × (List Int) × (List Int) × (List Bool)) ⊕ ((List Int) × (List Int) × (List Bool))) := fun (v7635, l7636, l7637, l7638) =>
 .say [.num p_l.length] (okc (by simp : p_l.length = (p_l.map lfI).length) ok0) <|
 .ite (decide ((v7635 : Int) < (p_l.length : Int))) (fun c7639 =>
 .say [.br true, .order [(true, 0), (true, 1), (true, 2), (true, 3), (true, 4), (true, 5), (false, 6), (false, 7), (true, 8), (false, 9)] (some 9) [2, 5, 6]] (ok1 c7639) <|
 .ask (gidx p_l v7635) fun x7640 h7641 =>
 .say [.row (lfI x7640), .rows ((l7636 ++ [x7640]).map lfI), .rows ((l7637 ++ [0]).map lfI), .rows ((l7638 ++ [false]).map lfB)] (okc (gidx_ok (fun _ => rfl) h7641 : (0 : Int) ≤ v7635 ∧ (p_l.map lfI)[v7635.toNat]? = some (lfI x7640)) (okc (by simp [lfI, lfK] : (l7636 ++ [x7640]).map lfI = (l7636.map lfI) ++ [(lfI x7640)]) ok0)) <|
 .grd ((l7636.length + [x7640].length) * 8 ≤ 140737488355328) fun h7642 =>
 .say [] (okc (by simpa using h7642 : ((l7636.map lfI).length + [(lfI x7640)].length) * 8 ≤ 140737488355328) (okc (by simp [lfI, lfK] : (l7637 ++ [0]).map lfI = (l7637.map lfI) ++ [(lfI 0)]) ok0)) <|
 .grd ((l7637.length + [0].length) * 8 ≤ 140737488355328) fun h7643 =>
 .say [] (okc (by simpa using h7643 : ((l7637.map lfI).length + [(lfI 0)].length) * 8 ≤ 140737488355328) (okc (by simp [lfB] : (l7638 ++ [false]).map lfB = (l7638.map lfB) ++ [(lfB false)]) ok0)) <|
 .grd ((l7638.length + [false].length) * 1 ≤ 140737488355328) fun h7644 =>
 .say [] (okc (by simpa using h7644 : ((l7638.map lfB).length + [(lfB false)].length) * 1 ≤ 140737488355328) ok0) <|
 .ret ⟨[], [1, 4, 5, 6], [(6, 2), (8, 3), (10, 4)], 5⟩ (.inl (IntKind.wrap .i64 (v7635 + 1), l7636 ++ [x7640], l7637 ++ [0], l7638 ++ [false]))) fun c7639 =>
 .say [.br false] (ok1 c7639) <|
 .ret ⟨[], [4, 5], [], 5⟩ (.inr (l7636, l7637, l7638))
def Q63_L0 (p_id : ByteArray) (p_l : List Int) (v7635 : Int) (l7636 : List Int) (l7637 : List Int) (l7638 : List Bool) : Option (((List Int) × (List Int) × (List Bool))) := loopM (fun v_ => (Q63_L0_T p_id p_l v_).den) FU (v7635, l7636, l7637, l7638)
def Q63_L0_H (p_id : ByteArray) (p_l : List Int) : (Int × (List Int) × (List Int) × (List Bool)) → St := fun (v7635, l7636, l7637, l7638) => ⟨[(1, .lf (.rows 1 (p_l.map lfI))), (4, .ptr 0 0), (5, .ptr 1 0), (6, .lf (.int .i64 v7635))], [.box 61 (Z61), .box 61 (.agg [.lf (.str p_id), .own 2, .own 3, .lf (.int .i64 1), .lf (.int .i64 0), .own 4]), .row 3 1 (l7636.map lfI), .row 3 1 (l7637.map lfI), .row 4 1 (l7638.map lfB)]⟩
def Q63_L0_S (p_id : ByteArray) (r_ : ((List Int) × (List Int) × (List Bool))) : St := ⟨[(4, .ptr 0 0), (5, .ptr 1 0)], [.box 61 (Z61), .box 61 (.agg [.lf (.str p_id), .own 2, .own 3, .lf (.int .i64 1), .lf (.int .i64 0), .own 4]), .row 3 1 (r_.1.map lfI), .row 3 1 (r_.2.1.map lfI), .row 4 1 (r_.2.2.map lfB)]⟩
theorem Q63_L0_W {p_id : ByteArray} {p_l : List Int} {v7635 : Int} {l7636 : List Int} {l7637 : List Int} {l7638 : List Bool} {r_ : ((List Int) × (List Int) × (List Bool))} (h : Q63_L0 p_id p_l v7635 l7636 l7637 l7638 = some r_) : AWa_ Tryz.f17 0 [1, 1, 0, 1, 0] (.exit 0) (Q63_L0_S p_id r_) (Q63_L0_H p_id p_l (v7635, l7636, l7637, l7638)) :=
 loop_T BaseK (body := (Code.sub (bodyC Tryz.f17) [1, 1, 0, 1, 0, 0])) (by kernel_rfl) (Q63_L0_T p_id p_l) (Q63_L0_H p_id p_l) (fun _ => .exit 0) (Q63_L0_S p_id) (fun r_ => rfl) (fun v_ => by kernel_rfl) h
def Q63_T (p_id : ByteArray) (p_l : List Int) : Mo (GDecision) :=
 .say [] (okc (by simp [lfI, lfK] : (([] : List Int).map lfI) = []) (okc (by simp [lfI, lfK] : (([] : List Int).map lfI) = []) (okc (by simp [lfB] : (([] : List Bool).map lfB) = []) ok0))) <|
 .ask (Q63_L0 p_id p_l 0 ([] : List Int) ([] : List Int) ([] : List Bool)) fun r7648 h7649 =>
 .say [.part [.brow 1 1 3, .brow 1 2 3, .brow 1 5 4, .rerow 2 (([] : List Int).map lfI), .rerow 3 (([] : List Int).map lfI), .rerow 4 (([] : List Bool).map lfB)] 0 [1, 4, 5, 6] 5 (.exit 0) (Q63_L0_S p_id r7648).T (Q63_L0_S p_id r7648).H, .at_ 0 0, .frz 2, .frz 3, .frz 4] (ok1 (Q63_L0_W h7649)) <|
 .ret (fitN 1) (GDecision.mk p_id r7648.1 r7648.2.1 1 0 r7648.2.2)
def Q63 (p_id : ByteArray) (p_l : List Int) : Option (GDecision) := Mo.den (Q63_T p_id p_l)
theorem Q63_ok (p_id : ByteArray) (p_l : List Int) (r : GDecision) (h : Q63 p_id p_l = some r) : Fn Tryz.prog GI 17 [.lf (.str p_id), .lf (.rows 1 (p_l.map lfI))] (.dat (GDecision.lf1 r)) :=
 fn_T BaseK Tryz.func17 (by kernel_rfl) (by kernel_rfl) (by kernel_rfl) (Q63_T p_id p_l) (fun r => [.dat (GDecision.lf1 r)]) (by kernel_rfl) h
def Q19_J0_T (l8010 : List GDecision) (p_l : List GEntry) (v8009 : Int) (v8024 : Bool) (v8025 : Int) (x8012 : GEntry) : Mo (Bool) :=
 .say [.order [(true, 0), (true, 1), (true, 2), (true, 3), (true, 4), (true, 5), (true, 6), (true, 7), (true, 8), (true, 9), (true, 10), (true, 11), (true, 12), (true, 13), (true, 14), (true, 15), (true, 16), (true, 17), (true, 18), (true, 19), (true, 20), (true, 21)] none []] ok0 <|
 .ite (v8024) (fun c8027 =>
 .say [.gd 22001 true] (ok1 c8027) <|
 .ask (gidx p_l v8025) fun x8028 h8029 =>
 .say [.row (GEntry.lf1 x8028)] (okc (gidx_ok GEntry.lf_eq h8029 : (0 : Int) ≤ v8025 ∧ (p_l.map GEntry.lf)[v8025.toNat]? = some (GEntry.lf1 x8028)) ok0) <|
 .ite (x8028.fWrite.fKind != 12) (fun c8030 =>
 .say [.gd 22009 true] (ok1 c8030) <|
 .ret ⟨[], [0, 3, 4, 5, 6, 7], [], 2⟩ (true)) fun c8030 =>
 .say [.gd 22009 false] (ok1 c8030) <|
 .ask (gidx p_l v8025) fun x8031 h8032 =>
 .say [.row (GEntry.lf1 x8031)] (okc (gidx_ok GEntry.lf_eq h8032 : (0 : Int) ≤ v8025 ∧ (p_l.map GEntry.lf)[v8025.toNat]? = some (GEntry.lf1 x8031)) ok0) <|
 .ret ⟨[], [0, 3, 4, 5, 6, 7], [], 2⟩ (!decide ((x8031.fWrite.fTxn : ByteArray) = (x8012.fWrite.fTxn : ByteArray)))) fun c8027 =>
 .say [.gd 22001 false] (ok1 c8027) <|
 .ret ⟨[], [0, 3, 4, 5, 6, 7], [], 2⟩ (false)
def Q19_J0 (l8010 : List GDecision) (p_l : List GEntry) (v8009 : Int) (v8024 : Bool) (v8025 : Int) (x8012 : GEntry) : Option (Bool) := Mo.den (Q19_J0_T l8010 p_l v8009 v8024 v8025 x8012)
def Q19_J0_S (l8010 : List GDecision) (p_l : List GEntry) (v8009 : Int) (v8025 : Int) (x8012 : GEntry) (r_ : Bool) : St := ⟨[(0, .lf (.rows 82 (p_l.map GEntry.lf))), (3, .own 0), (4, .lf (.int .i64 v8009)), (5, .ptr 1 0), (6, .lf (.bool r_)), (7, .lf (.int .i64 v8025))], [.row 61 6 (l8010.map GDecision.lf), .box 53 (.agg ((GWrite.lf1 x8012.fWrite).map AV.lf))]⟩
theorem Q19_J0_W {l8010 : List GDecision} {p_l : List GEntry} {v8009 : Int} {v8024 : Bool} {v8025 : Int} {x8012 : GEntry} {r_ : Bool} (h : Q19_J0 l8010 p_l v8009 v8024 v8025 x8012 = some r_) : AWa_ Tryz.f7 0 [1, 1, 0, 1, 0, 0, 1, 0, 0, 1, 1, 0, 1, 0, 0, 1, 0] (.normal) (Q19_J0_S l8010 p_l v8009 v8025 x8012 r_) ⟨[(0, .lf (.rows 82 (p_l.map GEntry.lf))), (3, .own 0), (4, .lf (.int .i64 v8009)), (5, .ptr 1 0), (6, .lf (.bool v8024)), (7, .lf (.int .i64 v8025))], [.row 61 6 (l8010.map GDecision.lf), .box 53 (.agg ((GWrite.lf1 x8012.fWrite).map AV.lf))]⟩ :=
 part_T BaseK (Q19_J0_T l8010 p_l v8009 v8024 v8025 x8012) (fun _ => .normal) (Q19_J0_S l8010 p_l v8009 v8025 x8012) (by kernel_rfl) h
def Q19_L5_T (l8010 : List GDecision) (p_l : List GEntry) (v8009 : Int) (x8012 : GEntry) : (Bool × Int) → Mo ((Bool × Int) ⊕ (Bool)) := fun (v8024, v8025) =>
 .say [.num p_l.length] (okc (by simp : p_l.length = (p_l.map GEntry.lf).length) ok0) <|
 .ite (decide ((v8025 : Int) < (p_l.length : Int))) (fun c8026 =>
 .say [.br true] (ok1 c8026) <|
 .ask (Q19_J0 l8010 p_l v8009 v8024 v8025 x8012) fun r8034 h8035 =>
 .say [.pt_ 12 [0, 3, 4, 5, 6, 7] 2 (.normal) (Q19_J0_S l8010 p_l v8009 v8025 x8012 r8034)] (ok1 (Q19_J0_W h8035)) <|
 .ret ⟨[], [0, 3, 4, 5, 6, 7], [], 2⟩ (.inl (r8034, IntKind.wrap .i64 (v8025 + 1)))) fun c8026 =>
 .say [.br false] (ok1 c8026) <|
 .ret ⟨[], [0, 3, 4, 5, 6], [], 2⟩ (.inr (v8024))
def Q19_L5 (l8010 : List GDecision) (p_l : List GEntry) (v8009 : Int) (x8012 : GEntry) (v8024 : Bool) (v8025 : Int) : Option (Bool) := loopM (fun v_ => (Q19_L5_T l8010 p_l v8009 x8012 v_).den) FU (v8024, v8025)
def Q19_L5_H (l8010 : List GDecision) (p_l : List GEntry) (v8009 : Int) (x8012 : GEntry) : (Bool × Int) → St := fun (v8024, v8025) => ⟨[(0, .lf (.rows 82 (p_l.map GEntry.lf))), (3, .own 0), (4, .lf (.int .i64 v8009)), (5, .ptr 1 0), (6, .lf (.bool v8024)), (7, .lf (.int .i64 v8025))], [.row 61 6 (l8010.map GDecision.lf), .box 53 (.agg ((GWrite.lf1 x8012.fWrite).map AV.lf))]⟩
def Q19_L5_S (l8010 : List GDecision) (p_l : List GEntry) (v8009 : Int) (x8012 : GEntry) (r_ : Bool) : St := ⟨[(0, .lf (.rows 82 (p_l.map GEntry.lf))), (3, .own 0), (4, .lf (.int .i64 v8009)), (5, .ptr 1 0), (6, .lf (.bool r_))], [.row 61 6 (l8010.map GDecision.lf), .box 53 (.agg ((GWrite.lf1 x8012.fWrite).map AV.lf))]⟩
theorem Q19_L5_W {l8010 : List GDecision} {p_l : List GEntry} {v8009 : Int} {x8012 : GEntry} {v8024 : Bool} {v8025 : Int} {r_ : Bool} (h : Q19_L5 l8010 p_l v8009 x8012 v8024 v8025 = some r_) : AWa_ Tryz.f7 0 [1, 1, 0, 1, 0, 0, 1, 0, 0, 1, 1, 0, 1, 0] (.exit 2) (Q19_L5_S l8010 p_l v8009 x8012 r_) (Q19_L5_H l8010 p_l v8009 x8012 (v8024, v8025)) :=
 loop_T BaseK (body := (Code.sub (bodyC Tryz.f7) [1, 1, 0, 1, 0, 0, 1, 0, 0, 1, 1, 0, 1, 0, 0])) (by kernel_rfl) (Q19_L5_T l8010 p_l v8009 x8012) (Q19_L5_H l8010 p_l v8009 x8012) (fun _ => .exit 2) (Q19_L5_S l8010 p_l v8009 x8012) (fun r_ => rfl) (fun v_ => by kernel_rfl) h
def Q19_J11_T (l8010 : List GDecision) (p_l : List GEntry) (r8040 : GDecision) (v8009 : Int) (x8012 : GEntry) : Mo (GDecision) :=
 .ite (x8012.fWrite.fStamp == 0) (fun c8042 =>
 .say [.br true] (ok1 c8042) <|
 .ret ⟨[.norm 2], [0, 3, 4, 8], [], 3⟩ (GDecision.sCommit (GDecision.sState r8040 4) x8012.fWrite.fStamp)) fun c8042 =>
 .say [.br false] (ok1 c8042) <|
 .ret ⟨[.norm 2], [0, 3, 4, 8], [], 3⟩ (GDecision.sCommit (GDecision.sState r8040 3) x8012.fWrite.fStamp)
def Q19_J11 (l8010 : List GDecision) (p_l : List GEntry) (r8040 : GDecision) (v8009 : Int) (x8012 : GEntry) : Option (GDecision) := Mo.den (Q19_J11_T l8010 p_l r8040 v8009 x8012)
def Q19_J11_S (l8010 : List GDecision) (p_l : List GEntry) (v8009 : Int) (r_ : GDecision) : St := ⟨[(0, .lf (.rows 82 (p_l.map GEntry.lf))), (3, .own 0), (4, .lf (.int .i64 v8009)), (8, .ptr 2 0)], [.row 61 6 (l8010.map GDecision.lf), .dead, .box 61 (.dat (GDecision.lf1 r_))]⟩
theorem Q19_J11_W {l8010 : List GDecision} {p_l : List GEntry} {r8040 : GDecision} {v8009 : Int} {x8012 : GEntry} {r_ : GDecision} (h : Q19_J11 l8010 p_l r8040 v8009 x8012 = some r_) : AWa_ Tryz.f7 0 [1, 1, 0, 1, 0, 0, 1, 0, 0, 1, 1, 1, 1, 1, 1, 0, 1] (.normal) (Q19_J11_S l8010 p_l v8009 r_) ⟨[(0, .lf (.rows 82 (p_l.map GEntry.lf))), (3, .own 0), (4, .lf (.int .i64 v8009)), (8, .ptr 2 0), (65, .lf (.bool (x8012.fWrite.fStamp == 0)))], [.row 61 6 (l8010.map GDecision.lf), .dead, .box 61 (aggS (.agg ((GDecision.lf1 r8040).map AV.lf)) [(3, .lf (.int .i64 3)), (4, .lf (.int .i64 x8012.fWrite.fStamp))])]⟩ :=
 part_T BaseK (Q19_J11_T l8010 p_l r8040 v8009 x8012) (fun _ => .normal) (Q19_J11_S l8010 p_l v8009) (by kernel_rfl) h
def Q19_J16_T (l8010 : List GDecision) (p_l : List GEntry) (v8009 : Int) : Mo (((List GDecision))) :=
 .ask (gidx p_l v8009) fun x8012 h8013 =>
 .say [.row (GEntry.lf1 x8012)] (okc (gidx_ok GEntry.lf_eq h8013 : (0 : Int) ≤ v8009 ∧ (p_l.map GEntry.lf)[v8009.toNat]? = some (GEntry.lf1 x8012)) ok0) <|
 .ask (Q19_L5 l8010 p_l v8009 x8012 (x8012.fWrite.fKind == 12) (IntKind.wrap .i64 (v8009 + 1))) fun r8037 h8038 =>
 .say [.pt_ 0 [0, 3, 4, 5, 6, 7] 2 (.exit 2) (Q19_L5_S l8010 p_l v8009 x8012 r8037)] (ok1 (Q19_L5_W h8038)) <|
 .ite (!r8037) (fun c8039 =>
 .say [.br true] (ok1 c8039) <|
 .ret ⟨[], [0, 3, 4], [], 1⟩ (l8010)) fun c8039 =>
 .say [.br false] (ok1 c8039) <|
 .ask (Q63 x8012.fWrite.fTxn x8012.fWrite.fShards) fun r8040 h8041 =>
 .say [.res (.dat (GDecision.lf1 r8040)), .order [(true, 0), (true, 1), (true, 2), (false, 3), (true, 4), (false, 5)] (some 5) [2]] (ok1 (Q63_ok _ _ _ h8041)) <|
 .ask (Q19_J11 l8010 p_l r8040 v8009 x8012) fun r8044 h8045 =>
 .say [.part [.kill 1] 1 [0, 3, 4, 8, 65] 3 (.normal) (Q19_J11_S l8010 p_l v8009 r8044).T (Q19_J11_S l8010 p_l v8009 r8044).H, .rows ((l8010 ++ [r8044]).map GDecision.lf)] (okc (Q19_J11_W h8045) (okc (by simp [GDecision.lf_eq] : (l8010 ++ [r8044]).map GDecision.lf = (l8010.map GDecision.lf) ++ [(GDecision.lf1 r8044)]) ok0)) <|
 .grd ((l8010.length + [r8044].length) * 104 ≤ 140737488355328) fun h8046 =>
 .say [] (okc (by simpa using h8046 : ((l8010.map GDecision.lf).length + [(GDecision.lf1 r8044)].length) * 104 ≤ 140737488355328) ok0) <|
 .ret ⟨[], [0, 3, 4], [(4, 0)], 1⟩ (l8010 ++ [r8044])
def Q19_J16 (l8010 : List GDecision) (p_l : List GEntry) (v8009 : Int) : Option (((List GDecision))) := Mo.den (Q19_J16_T l8010 p_l v8009)
def Q19_J16_S (p_l : List GEntry) (v8009 : Int) (r_ : ((List GDecision))) : St := ⟨[(0, .lf (.rows 82 (p_l.map GEntry.lf))), (3, .own 0), (4, .lf (.int .i64 v8009))], [.row 61 6 (r_.map GDecision.lf)]⟩
theorem Q19_J16_W {l8010 : List GDecision} {p_l : List GEntry} {v8009 : Int} {r_ : ((List GDecision))} (h : Q19_J16 l8010 p_l v8009 = some r_) : AWa_ Tryz.f7 0 [1, 1, 0, 1, 0, 0, 1, 0] (.normal) (Q19_J16_S p_l v8009 r_) ⟨[(0, .lf (.rows 82 (p_l.map GEntry.lf))), (3, .own 0), (4, .lf (.int .i64 v8009))], [.row 61 6 (l8010.map GDecision.lf)]⟩ :=
 part_T BaseK (Q19_J16_T l8010 p_l v8009) (fun _ => .normal) (Q19_J16_S p_l v8009) (by kernel_rfl) h
def Q19_L21_T (p_l : List GEntry) : (Int × (List GDecision)) → Mo ((Int × (List GDecision)) ⊕ ((List GDecision))) := fun (v8009, l8010) =>
 .say [.num p_l.length] (okc (by simp : p_l.length = (p_l.map GEntry.lf).length) ok0) <|
 .ite (decide ((v8009 : Int) < (p_l.length : Int))) (fun c8011 =>
 .say [.br true] (ok1 c8011) <|
 .ask (Q19_J16 l8010 p_l v8009) fun r8048 h8049 =>
 .say [.pt_ 8 [0, 3, 4] 1 (.normal) (Q19_J16_S p_l v8009 r8048)] (ok1 (Q19_J16_W h8049)) <|
 .ret ⟨[], [0, 3, 4], [], 1⟩ (.inl (IntKind.wrap .i64 (v8009 + 1), r8048))) fun c8011 =>
 .say [.br false] (ok1 c8011) <|
 .ret ⟨[], [3], [], 1⟩ (.inr (l8010))
def Q19_L21 (p_l : List GEntry) (v8009 : Int) (l8010 : List GDecision) : Option (((List GDecision))) := loopM (fun v_ => (Q19_L21_T p_l v_).den) FU (v8009, l8010)
def Q19_L21_H (p_l : List GEntry) : (Int × (List GDecision)) → St := fun (v8009, l8010) => ⟨[(0, .lf (.rows 82 (p_l.map GEntry.lf))), (3, .own 0), (4, .lf (.int .i64 v8009))], [.row 61 6 (l8010.map GDecision.lf)]⟩
def Q19_L21_S  (r_ : ((List GDecision))) : St := ⟨[(3, .own 0)], [.row 61 6 (r_.map GDecision.lf)]⟩
theorem Q19_L21_W {p_l : List GEntry} {v8009 : Int} {l8010 : List GDecision} {r_ : ((List GDecision))} (h : Q19_L21 p_l v8009 l8010 = some r_) : AWa_ Tryz.f7 0 [1, 1, 0, 1, 0] (.exit 0) (Q19_L21_S r_) (Q19_L21_H p_l (v8009, l8010)) :=
 loop_T BaseK (body := (Code.sub (bodyC Tryz.f7) [1, 1, 0, 1, 0, 0])) (by kernel_rfl) (Q19_L21_T p_l) (Q19_L21_H p_l) (fun _ => .exit 0) Q19_L21_S (fun r_ => rfl) (fun v_ => by kernel_rfl) h
def Q19_T (p_l : List GEntry) : Mo (List GDecision) :=
 .say [] (okc (by simp [GDecision.lf_eq] : (([] : List GDecision).map GDecision.lf) = []) ok0) <|
 .ask (Q19_L21 p_l 0 ([] : List GDecision)) fun r8051 h8052 =>
 .say [.part [.nrow 3 61 6, .rerow 0 (([] : List GDecision).map GDecision.lf)] 0 [0, 3, 4] 1 (.exit 0) (Q19_L21_S r8051).T (Q19_L21_S r8051).H, .at_ 0 0, .frz 0] (ok1 (Q19_L21_W h8052)) <|
 .ret (fitN 1) (r8051)
def Q19 (p_l : List GEntry) : Option (List GDecision) := Mo.den (Q19_T p_l)
theorem Q19_ok (p_l : List GEntry) (r : List GDecision) (h : Q19 p_l = some r) : Fn Tryz.prog GI 7 [.lf (.rows 82 (p_l.map GEntry.lf))] (.lf (.rows 6 (r.map GDecision.lf))) :=
 fn_T BaseK Tryz.func7 (by kernel_rfl) (by kernel_rfl) (by kernel_rfl) (Q19_T p_l) (fun r => [.lf (.rows 6 (r.map GDecision.lf))]) (by kernel_rfl) h
def Q7_J0_T (p_a : GDecision) (p_b : GDecision) : Mo (Bool) :=
 .ite (!decide ((p_a.fID : ByteArray) = (p_b.fID : ByteArray))) (fun c8087 =>
 .say [.gd 4005 true] (ok1 c8087) <|
 .ret ⟨[], [2, 3, 19], [], 2⟩ (true)) fun c8087 =>
 .say [.gd 4005 false] (ok1 c8087) <|
 .ret ⟨[], [2, 3, 19], [], 2⟩ (p_a.fState != p_b.fState)
def Q7_J0 (p_a : GDecision) (p_b : GDecision) : Option (Bool) := Mo.den (Q7_J0_T p_a p_b)
def Q7_J0_S (p_a : GDecision) (p_b : GDecision) (r_ : Bool) : St := ⟨[(2, .ptr 0 0), (3, .ptr 1 0), (19, .lf (.bool r_))], [.box 61 (.dat (GDecision.lf1 p_a)), .box 61 (.dat (GDecision.lf1 p_b))]⟩
theorem Q7_J0_W {p_a : GDecision} {p_b : GDecision} {r_ : Bool} (h : Q7_J0 p_a p_b = some r_) : AWoa_ Tryz.f8 0 [1, 0, 0] [0, 1, 2, 3, 4, 5, 6, 7, 8, 9, 10, 11] (Q7_J0_S p_a p_b r_) ⟨[(2, .ptr 0 0), (3, .ptr 1 0)], [.box 61 (.dat (GDecision.lf1 p_a)), .box 61 (.dat (GDecision.lf1 p_b))]⟩ :=
 seg_T BaseK (Q7_J0_T p_a p_b) (Q7_J0_S p_a p_b) (by kernel_rfl) h
def Q7_J5_T (p_a : GDecision) (p_b : GDecision) (r8089 : Bool) : Mo (Bool) :=
 .ite (r8089) (fun c8091 =>
 .say [.gd 4012 true] (ok1 c8091) <|
 .ret ⟨[], [2, 3, 26], [], 2⟩ (true)) fun c8091 =>
 .say [.gd 4012 false] (ok1 c8091) <|
 .ret ⟨[], [2, 3, 26], [], 2⟩ (p_a.fCommit != p_b.fCommit)
def Q7_J5 (p_a : GDecision) (p_b : GDecision) (r8089 : Bool) : Option (Bool) := Mo.den (Q7_J5_T p_a p_b r8089)
def Q7_J5_S (p_a : GDecision) (p_b : GDecision) (r_ : Bool) : St := ⟨[(2, .ptr 0 0), (3, .ptr 1 0), (26, .lf (.bool r_))], [.box 61 (.dat (GDecision.lf1 p_a)), .box 61 (.dat (GDecision.lf1 p_b))]⟩
theorem Q7_J5_W {p_a : GDecision} {p_b : GDecision} {r8089 : Bool} {r_ : Bool} (h : Q7_J5 p_a p_b r8089 = some r_) : AWoa_ Tryz.f8 0 [1, 0, 0] [12, 13, 14, 15, 16, 17, 18] (Q7_J5_S p_a p_b r_) ⟨[(2, .ptr 0 0), (3, .ptr 1 0), (19, .lf (.bool r8089))], [.box 61 (.dat (GDecision.lf1 p_a)), .box 61 (.dat (GDecision.lf1 p_b))]⟩ :=
 seg_T BaseK (Q7_J5_T p_a p_b r8089) (Q7_J5_S p_a p_b) (by kernel_rfl) h
def Q7_J10_T (p_a : GDecision) (p_b : GDecision) (r8093 : Bool) : Mo (Bool) :=
 .ite (r8093) (fun c8095 =>
 .say [.gd 4019 true] (ok1 c8095) <|
 .ret ⟨[], [2, 3, 35], [], 2⟩ (true)) fun c8095 =>
 .say [.gd 4019 false, .num p_a.fShards.length, .num p_b.fShards.length] (okc c8095 (okc (by simp : p_a.fShards.length = (p_a.fShards.map lfI).length) (okc (by simp : p_b.fShards.length = (p_b.fShards.map lfI).length) ok0))) <|
 .ret ⟨[], [2, 3, 35], [], 2⟩ ((p_a.fShards.length : Int) != (p_b.fShards.length : Int))
def Q7_J10 (p_a : GDecision) (p_b : GDecision) (r8093 : Bool) : Option (Bool) := Mo.den (Q7_J10_T p_a p_b r8093)
def Q7_J10_S (p_a : GDecision) (p_b : GDecision) (r_ : Bool) : St := ⟨[(2, .ptr 0 0), (3, .ptr 1 0), (35, .lf (.bool r_))], [.box 61 (.dat (GDecision.lf1 p_a)), .box 61 (.dat (GDecision.lf1 p_b))]⟩
theorem Q7_J10_W {p_a : GDecision} {p_b : GDecision} {r8093 : Bool} {r_ : Bool} (h : Q7_J10 p_a p_b r8093 = some r_) : AWoa_ Tryz.f8 0 [1, 0, 0] [19, 20, 21, 22, 23, 24, 25, 26, 27] (Q7_J10_S p_a p_b r_) ⟨[(2, .ptr 0 0), (3, .ptr 1 0), (26, .lf (.bool r8093))], [.box 61 (.dat (GDecision.lf1 p_a)), .box 61 (.dat (GDecision.lf1 p_b))]⟩ :=
 seg_T BaseK (Q7_J10_T p_a p_b r8093) (Q7_J10_S p_a p_b) (by kernel_rfl) h
def Q7_J15_T (p_a : GDecision) (p_b : GDecision) (r8097 : Bool) : Mo (Bool) :=
 .ite (r8097) (fun c8099 =>
 .say [.gd 4028 true] (ok1 c8099) <|
 .ret ⟨[], [2, 3, 44], [], 2⟩ (true)) fun c8099 =>
 .say [.gd 4028 false, .num p_a.fVotes.length, .num p_b.fVotes.length] (okc c8099 (okc (by simp : p_a.fVotes.length = (p_a.fVotes.map lfI).length) (okc (by simp : p_b.fVotes.length = (p_b.fVotes.map lfI).length) ok0))) <|
 .ret ⟨[], [2, 3, 44], [], 2⟩ ((p_a.fVotes.length : Int) != (p_b.fVotes.length : Int))
def Q7_J15 (p_a : GDecision) (p_b : GDecision) (r8097 : Bool) : Option (Bool) := Mo.den (Q7_J15_T p_a p_b r8097)
def Q7_J15_S (p_a : GDecision) (p_b : GDecision) (r_ : Bool) : St := ⟨[(2, .ptr 0 0), (3, .ptr 1 0), (44, .lf (.bool r_))], [.box 61 (.dat (GDecision.lf1 p_a)), .box 61 (.dat (GDecision.lf1 p_b))]⟩
theorem Q7_J15_W {p_a : GDecision} {p_b : GDecision} {r8097 : Bool} {r_ : Bool} (h : Q7_J15 p_a p_b r8097 = some r_) : AWoa_ Tryz.f8 0 [1, 0, 0] [28, 29, 30, 31, 32, 33, 34, 35, 36] (Q7_J15_S p_a p_b r_) ⟨[(2, .ptr 0 0), (3, .ptr 1 0), (35, .lf (.bool r8097))], [.box 61 (.dat (GDecision.lf1 p_a)), .box 61 (.dat (GDecision.lf1 p_b))]⟩ :=
 seg_T BaseK (Q7_J15_T p_a p_b r8097) (Q7_J15_S p_a p_b) (by kernel_rfl) h
def Q7_J20_T (p_a : GDecision) (p_b : GDecision) (r8101 : Bool) : Mo (Bool) :=
 .ite (r8101) (fun c8103 =>
 .say [.gd 4037 true] (ok1 c8103) <|
 .ret ⟨[], [2, 3, 53], [], 2⟩ (true)) fun c8103 =>
 .say [.gd 4037 false, .num p_a.fAcked.length, .num p_b.fAcked.length] (okc c8103 (okc (by simp : p_a.fAcked.length = (p_a.fAcked.map lfB).length) (okc (by simp : p_b.fAcked.length = (p_b.fAcked.map lfB).length) ok0))) <|
 .ret ⟨[], [2, 3, 53], [], 2⟩ ((p_a.fAcked.length : Int) != (p_b.fAcked.length : Int))
def Q7_J20 (p_a : GDecision) (p_b : GDecision) (r8101 : Bool) : Option (Bool) := Mo.den (Q7_J20_T p_a p_b r8101)
def Q7_J20_S (p_a : GDecision) (p_b : GDecision) (r_ : Bool) : St := ⟨[(2, .ptr 0 0), (3, .ptr 1 0), (53, .lf (.bool r_))], [.box 61 (.dat (GDecision.lf1 p_a)), .box 61 (.dat (GDecision.lf1 p_b))]⟩
theorem Q7_J20_W {p_a : GDecision} {p_b : GDecision} {r8101 : Bool} {r_ : Bool} (h : Q7_J20 p_a p_b r8101 = some r_) : AWoa_ Tryz.f8 0 [1, 0, 0] [37, 38, 39, 40, 41, 42, 43, 44, 45] (Q7_J20_S p_a p_b r_) ⟨[(2, .ptr 0 0), (3, .ptr 1 0), (44, .lf (.bool r8101))], [.box 61 (.dat (GDecision.lf1 p_a)), .box 61 (.dat (GDecision.lf1 p_b))]⟩ :=
 seg_T BaseK (Q7_J20_T p_a p_b r8101) (Q7_J20_S p_a p_b) (by kernel_rfl) h
def Q7_L25_T (p_a : GDecision) (p_b : GDecision) : (Int) → Mo ((Int) ⊕ (Unit ⊕ Unit)) := fun (v8143) =>
 .say [.num p_a.fShards.length] (okc (by simp : p_a.fShards.length = (p_a.fShards.map lfI).length) ok0) <|
 .ite (decide ((v8143 : Int) < (p_a.fShards.length : Int))) (fun c8144 =>
 .say [.br true, .order [(true, 0), (true, 1), (true, 2), (true, 3), (true, 4), (true, 5), (true, 6), (true, 7), (true, 8), (true, 9), (true, 10)] none []] (ok1 c8144) <|
 .ask (gidx p_a.fShards v8143) fun x8145 h8146 =>
 .say [.row (lfI x8145)] (okc (gidx_ok (fun _ => rfl) h8146 : (0 : Int) ≤ v8143 ∧ (p_a.fShards.map lfI)[v8143.toNat]? = some (lfI x8145)) ok0) <|
 .ask (gidx p_b.fShards v8143) fun x8147 h8148 =>
 .say [.row (lfI x8147)] (okc (gidx_ok (fun _ => rfl) h8148 : (0 : Int) ≤ v8143 ∧ (p_b.fShards.map lfI)[v8143.toNat]? = some (lfI x8147)) ok0) <|
 .ite (x8145 != x8147) (fun c8149 =>
 .say [.br true] (ok1 c8149) <|
 .ret ⟨[.kill 0, .kill 1], [4], [], 2⟩ (.inr (.inl ()))) fun c8149 =>
 .say [.br false] (ok1 c8149) <|
 .ret ⟨[], [2, 3, 5], [], 2⟩ (.inl (IntKind.wrap .i64 (v8143 + 1)))) fun c8144 =>
 .say [.br false] (ok1 c8144) <|
 .ret ⟨[], [2, 3], [], 2⟩ (.inr (.inr (())))
def Q7_L25 (p_a : GDecision) (p_b : GDecision) (v8143 : Int) : Option (Unit ⊕ Unit) := loopM (fun v_ => (Q7_L25_T p_a p_b v_).den) FU (v8143)
def Q7_L25_H (p_a : GDecision) (p_b : GDecision) : (Int) → St := fun (v8143) => ⟨[(2, .ptr 0 0), (3, .ptr 1 0), (5, .lf (.int .i64 v8143))], [.box 61 (.dat (GDecision.lf1 p_a)), .box 61 (.dat (GDecision.lf1 p_b))]⟩
def Q7_L25_X (r_ : Unit ⊕ Unit) : Exit := match r_ with
 | .inl o_ => .ret
 | .inr (o_) => .exit 0
def Q7_L25_S (p_a : GDecision) (p_b : GDecision) (r_ : Unit ⊕ Unit) : St := match r_ with
 | .inl o_ => ⟨[(4, .lf (.bool false))], [.dead, .dead]⟩
 | .inr (o_) => ⟨[(2, .ptr 0 0), (3, .ptr 1 0)], [.box 61 (.dat (GDecision.lf1 p_a)), .box 61 (.dat (GDecision.lf1 p_b))]⟩
theorem Q7_L25_W {p_a : GDecision} {p_b : GDecision} {v8143 : Int} {r_ : Unit ⊕ Unit} (h : Q7_L25 p_a p_b v8143 = some r_) : AWa_ Tryz.f8 0 [1, 1, 0, 1, 0] (Q7_L25_X r_) (Q7_L25_S p_a p_b r_) (Q7_L25_H p_a p_b (v8143)) :=
 loop_T BaseK (body := (Code.sub (bodyC Tryz.f8) [1, 1, 0, 1, 0, 0])) (by kernel_rfl) (Q7_L25_T p_a p_b) (Q7_L25_H p_a p_b) Q7_L25_X (Q7_L25_S p_a p_b) (fun r_ => by rcases r_ with _ | _ <;> rfl) (fun v_ => by kernel_rfl) h
def Q7_L31_T (p_a : GDecision) (p_b : GDecision) : (Int) → Mo ((Int) ⊕ (Unit ⊕ Unit)) := fun (v8188) =>
 .say [.num p_a.fVotes.length] (okc (by simp : p_a.fVotes.length = (p_a.fVotes.map lfI).length) ok0) <|
 .ite (decide ((v8188 : Int) < (p_a.fVotes.length : Int))) (fun c8189 =>
 .say [.br true, .order [(true, 0), (true, 1), (true, 2), (true, 3), (true, 4), (true, 5), (true, 6), (true, 7), (true, 8), (true, 9), (true, 10)] none []] (ok1 c8189) <|
 .ask (gidx p_a.fVotes v8188) fun x8190 h8191 =>
 .say [.row (lfI x8190)] (okc (gidx_ok (fun _ => rfl) h8191 : (0 : Int) ≤ v8188 ∧ (p_a.fVotes.map lfI)[v8188.toNat]? = some (lfI x8190)) ok0) <|
 .ask (gidx p_b.fVotes v8188) fun x8192 h8193 =>
 .say [.row (lfI x8192)] (okc (gidx_ok (fun _ => rfl) h8193 : (0 : Int) ≤ v8188 ∧ (p_b.fVotes.map lfI)[v8188.toNat]? = some (lfI x8192)) ok0) <|
 .ite (x8190 != x8192) (fun c8194 =>
 .say [.br true] (ok1 c8194) <|
 .ret ⟨[.kill 0, .kill 1], [4], [], 2⟩ (.inr (.inl ()))) fun c8194 =>
 .say [.br false] (ok1 c8194) <|
 .ret ⟨[], [2, 3, 6], [], 2⟩ (.inl (IntKind.wrap .i64 (v8188 + 1)))) fun c8189 =>
 .say [.br false] (ok1 c8189) <|
 .ret ⟨[], [2, 3], [], 2⟩ (.inr (.inr (())))
def Q7_L31 (p_a : GDecision) (p_b : GDecision) (v8188 : Int) : Option (Unit ⊕ Unit) := loopM (fun v_ => (Q7_L31_T p_a p_b v_).den) FU (v8188)
def Q7_L31_H (p_a : GDecision) (p_b : GDecision) : (Int) → St := fun (v8188) => ⟨[(2, .ptr 0 0), (3, .ptr 1 0), (6, .lf (.int .i64 v8188))], [.box 61 (.dat (GDecision.lf1 p_a)), .box 61 (.dat (GDecision.lf1 p_b))]⟩
def Q7_L31_X (r_ : Unit ⊕ Unit) : Exit := match r_ with
 | .inl o_ => .ret
 | .inr (o_) => .exit 2
def Q7_L31_S (p_a : GDecision) (p_b : GDecision) (r_ : Unit ⊕ Unit) : St := match r_ with
 | .inl o_ => ⟨[(4, .lf (.bool false))], [.dead, .dead]⟩
 | .inr (o_) => ⟨[(2, .ptr 0 0), (3, .ptr 1 0)], [.box 61 (.dat (GDecision.lf1 p_a)), .box 61 (.dat (GDecision.lf1 p_b))]⟩
theorem Q7_L31_W {p_a : GDecision} {p_b : GDecision} {v8188 : Int} {r_ : Unit ⊕ Unit} (h : Q7_L31 p_a p_b v8188 = some r_) : AWa_ Tryz.f8 0 [1, 1, 1, 0, 1, 0] (Q7_L31_X r_) (Q7_L31_S p_a p_b r_) (Q7_L31_H p_a p_b (v8188)) :=
 loop_T BaseK (body := (Code.sub (bodyC Tryz.f8) [1, 1, 1, 0, 1, 0, 0])) (by kernel_rfl) (Q7_L31_T p_a p_b) (Q7_L31_H p_a p_b) Q7_L31_X (Q7_L31_S p_a p_b) (fun r_ => by rcases r_ with _ | _ <;> rfl) (fun v_ => by kernel_rfl) h
def Q7_L37_T (p_a : GDecision) (p_b : GDecision) : (Int) → Mo ((Int) ⊕ (Unit ⊕ Unit)) := fun (v8233) =>
 .say [.num p_a.fAcked.length] (okc (by simp : p_a.fAcked.length = (p_a.fAcked.map lfB).length) ok0) <|
 .ite (decide ((v8233 : Int) < (p_a.fAcked.length : Int))) (fun c8234 =>
 .say [.br true, .order [(true, 0), (true, 1), (true, 2), (true, 3), (true, 4), (true, 5), (true, 6), (true, 7), (true, 8), (true, 9), (true, 10)] none []] (ok1 c8234) <|
 .ask (gidx p_a.fAcked v8233) fun x8235 h8236 =>
 .say [.row (lfB x8235)] (okc (gidx_ok (fun _ => rfl) h8236 : (0 : Int) ≤ v8233 ∧ (p_a.fAcked.map lfB)[v8233.toNat]? = some (lfB x8235)) ok0) <|
 .ask (gidx p_b.fAcked v8233) fun x8237 h8238 =>
 .say [.row (lfB x8237)] (okc (gidx_ok (fun _ => rfl) h8238 : (0 : Int) ≤ v8233 ∧ (p_b.fAcked.map lfB)[v8233.toNat]? = some (lfB x8237)) ok0) <|
 .ite (!(x8235 == x8237)) (fun c8239 =>
 .say [.br true] (ok1 c8239) <|
 .ret ⟨[.kill 0, .kill 1], [4], [], 2⟩ (.inr (.inl ()))) fun c8239 =>
 .say [.br false] (ok1 c8239) <|
 .ret ⟨[], [2, 3, 7], [], 2⟩ (.inl (IntKind.wrap .i64 (v8233 + 1)))) fun c8234 =>
 .say [.br false] (ok1 c8234) <|
 .ret ⟨[.kill 0, .kill 1], [], [], 2⟩ (.inr (.inr (())))
def Q7_L37 (p_a : GDecision) (p_b : GDecision) (v8233 : Int) : Option (Unit ⊕ Unit) := loopM (fun v_ => (Q7_L37_T p_a p_b v_).den) FU (v8233)
def Q7_L37_H (p_a : GDecision) (p_b : GDecision) : (Int) → St := fun (v8233) => ⟨[(2, .ptr 0 0), (3, .ptr 1 0), (7, .lf (.int .i64 v8233))], [.box 61 (.dat (GDecision.lf1 p_a)), .box 61 (.dat (GDecision.lf1 p_b))]⟩
def Q7_L37_X (r_ : Unit ⊕ Unit) : Exit := match r_ with
 | .inl o_ => .ret
 | .inr (o_) => .exit 4
def Q7_L37_S  (r_ : Unit ⊕ Unit) : St := match r_ with
 | .inl o_ => ⟨[(4, .lf (.bool false))], [.dead, .dead]⟩
 | .inr (o_) => ⟨[], [.dead, .dead]⟩
theorem Q7_L37_W {p_a : GDecision} {p_b : GDecision} {v8233 : Int} {r_ : Unit ⊕ Unit} (h : Q7_L37 p_a p_b v8233 = some r_) : AWa_ Tryz.f8 0 [1, 1, 1, 1, 0, 1, 0] (Q7_L37_X r_) (Q7_L37_S r_) (Q7_L37_H p_a p_b (v8233)) :=
 loop_T BaseK (body := (Code.sub (bodyC Tryz.f8) [1, 1, 1, 1, 0, 1, 0, 0])) (by kernel_rfl) (Q7_L37_T p_a p_b) (Q7_L37_H p_a p_b) Q7_L37_X Q7_L37_S (fun r_ => by rcases r_ with _ | _ <;> rfl) (fun v_ => by kernel_rfl) h
def Q7_T (p_a : GDecision) (p_b : GDecision) : Mo (Bool) :=
 .ask (Q7_J0 p_a p_b) fun r8089 h8090 =>
 .say [.sg_ 1 12 [2, 3] 2 (Q7_J0_S p_a p_b r8089)] (ok1 (Q7_J0_W h8090)) <|
 .ask (Q7_J5 p_a p_b r8089) fun r8093 h8094 =>
 .say [.sg_ 1 7 [2, 3, 19] 2 (Q7_J5_S p_a p_b r8093)] (ok1 (Q7_J5_W h8094)) <|
 .ask (Q7_J10 p_a p_b r8093) fun r8097 h8098 =>
 .say [.sg_ 1 9 [2, 3, 26] 2 (Q7_J10_S p_a p_b r8097)] (ok1 (Q7_J10_W h8098)) <|
 .ask (Q7_J15 p_a p_b r8097) fun r8101 h8102 =>
 .say [.sg_ 1 9 [2, 3, 35] 2 (Q7_J15_S p_a p_b r8101)] (ok1 (Q7_J15_W h8102)) <|
 .ask (Q7_J20 p_a p_b r8101) fun r8105 h8106 =>
 .say [.sg_ 1 9 [2, 3, 44] 2 (Q7_J20_S p_a p_b r8105)] (ok1 (Q7_J20_W h8106)) <|
 .ite (r8105) (fun c8108 =>
 .say [.br true] (ok1 c8108) <|
 .ret (fitN 1) (false)) fun c8108 =>
 .say [.br false] (ok1 c8108) <|
 .ask2 (Q7_L25 p_a p_b 0) (fun o8152 h8151 =>
 .say [.pt_ 0 [2, 3, 5] 2 (Q7_L25_X (.inl o8152)) (Q7_L25_S p_a p_b (.inl o8152))] (ok1 (Q7_L25_W h8151)) <|
 .ret (fitN 1) (false)) fun o8153 h8151 =>
 .say [.pt_ 0 [2, 3, 5] 2 (Q7_L25_X (.inr (o8153))) (Q7_L25_S p_a p_b (.inr (o8153)))] (ok1 (Q7_L25_W h8151)) <|
 .ask2 (Q7_L31 p_a p_b 0) (fun o8197 h8196 =>
 .say [.pt_ 0 [2, 3, 6] 2 (Q7_L31_X (.inl o8197)) (Q7_L31_S p_a p_b (.inl o8197))] (ok1 (Q7_L31_W h8196)) <|
 .ret (fitN 1) (false)) fun o8198 h8196 =>
 .say [.pt_ 0 [2, 3, 6] 2 (Q7_L31_X (.inr (o8198))) (Q7_L31_S p_a p_b (.inr (o8198)))] (ok1 (Q7_L31_W h8196)) <|
 .ask2 (Q7_L37 p_a p_b 0) (fun o8242 h8241 =>
 .say [.pt_ 0 [2, 3, 7] 2 (Q7_L37_X (.inl o8242)) (Q7_L37_S (.inl o8242))] (ok1 (Q7_L37_W h8241)) <|
 .ret (fitN 1) (false)) fun o8243 h8241 =>
 .say [.pt_ 0 [2, 3, 7] 2 (Q7_L37_X (.inr (o8243))) (Q7_L37_S (.inr (o8243)))] (ok1 (Q7_L37_W h8241)) <|
 .ret (fitN 1) (true)
def Q7 (p_a : GDecision) (p_b : GDecision) : Option (Bool) := Mo.den (Q7_T p_a p_b)
theorem Q7_ok (p_a : GDecision) (p_b : GDecision) (r : Bool) (h : Q7 p_a p_b = some r) : Fn Tryz.prog GI 8 [.dat (GDecision.lf1 p_a), .dat (GDecision.lf1 p_b)] (.lf (.bool r)) :=
 fn_T BaseK Tryz.func8 (by kernel_rfl) (by kernel_rfl) (by kernel_rfl) (Q7_T p_a p_b) (fun r => [.lf (.bool r)]) (by kernel_rfl) h
def Q23_L0_T (p_l : List GEntry) : (Int) → Mo ((Int) ⊕ (Bool) ⊕ Unit) := fun (v7426) =>
 .say [.num p_l.length] (okc (by simp : p_l.length = (p_l.map GEntry.lf).length) ok0) <|
 .ite (decide ((v7426 : Int) < (p_l.length : Int))) (fun c7427 =>
 .say [.br true] (ok1 c7427) <|
 .ask (gidx p_l v7426) fun x7428 h7429 =>
 .say [.row (GEntry.lf1 x7428)] (okc (gidx_ok GEntry.lf_eq h7429 : (0 : Int) ≤ v7426 ∧ (p_l.map GEntry.lf)[v7426.toNat]? = some (GEntry.lf1 x7428)) ok0) <|
 .ask (Q16 x7428) fun r7430 h7431 =>
 .say [.res (.lf (.int .i64 r7430))] (ok1 (Q16_ok _ _ h7431)) <|
 .ite (r7430 != 0) (fun c7432 =>
 .say [.br true] (ok1 c7432) <|
 .ask (Q2) fun r7433 h7434 =>
 .say [.res (.lf (.bool r7433))] (ok1 (Q2_ok  _ h7434)) <|
 .ret ⟨[], [2], [], 0⟩ (.inr (.inl (r7433)))) fun c7432 =>
 .say [.br false] (ok1 c7432) <|
 .ret ⟨[], [0, 3], [], 0⟩ (.inl (IntKind.wrap .i64 (v7426 + 1)))) fun c7427 =>
 .say [.br false] (ok1 c7427) <|
 .ret ⟨[], [0], [], 0⟩ (.inr (.inr (())))
def Q23_L0 (p_l : List GEntry) (v7426 : Int) : Option ((Bool) ⊕ Unit) := loopM (fun v_ => (Q23_L0_T p_l v_).den) FU (v7426)
def Q23_L0_H (p_l : List GEntry) : (Int) → St := fun (v7426) => ⟨[(0, .lf (.rows 82 (p_l.map GEntry.lf))), (3, .lf (.int .i64 v7426))], []⟩
def Q23_L0_X (r_ : (Bool) ⊕ Unit) : Exit := match r_ with
 | .inl o_ => .ret
 | .inr (o_) => .exit 0
def Q23_L0_S (p_l : List GEntry) (r_ : (Bool) ⊕ Unit) : St := match r_ with
 | .inl o_ => ⟨[(2, .lf (.bool o_))], []⟩
 | .inr (o_) => ⟨[(0, .lf (.rows 82 (p_l.map GEntry.lf)))], []⟩
theorem Q23_L0_W {p_l : List GEntry} {v7426 : Int} {r_ : (Bool) ⊕ Unit} (h : Q23_L0 p_l v7426 = some r_) : AWa_ Tryz.f3 0 [1, 1, 0, 1, 0] (Q23_L0_X r_) (Q23_L0_S p_l r_) (Q23_L0_H p_l (v7426)) :=
 loop_T BaseK (body := (Code.sub (bodyC Tryz.f3) [1, 1, 0, 1, 0, 0])) (by kernel_rfl) (Q23_L0_T p_l) (Q23_L0_H p_l) Q23_L0_X (Q23_L0_S p_l) (fun r_ => by rcases r_ with _ | _ <;> rfl) (fun v_ => by kernel_rfl) h
def Q23_L6_T (r8055 : List GDecision) (r8057 : List GDecision) : (Int) → Mo ((Int) ⊕ (Unit ⊕ Unit)) := fun (v8282) =>
 .say [.num r8055.length] (okc (by simp : r8055.length = (r8055.map GDecision.lf).length) ok0) <|
 .ite (decide ((v8282 : Int) < (r8055.length : Int))) (fun c8283 =>
 .say [.br true] (ok1 c8283) <|
 .ask (gidx r8055 v8282) fun x8284 h8285 =>
 .say [] (okc (gidx_ok GDecision.lf_eq h8285 : (0 : Int) ≤ v8282 ∧ (r8055.map GDecision.lf)[v8282.toNat]? = some (GDecision.lf1 x8284)) ok0) <|
 .ask (gidx r8057 v8282) fun x8286 h8287 =>
 .say [] (okc (gidx_ok GDecision.lf_eq h8287 : (0 : Int) ≤ v8282 ∧ (r8057.map GDecision.lf)[v8282.toNat]? = some (GDecision.lf1 x8286)) ok0) <|
 .ask (Q7 x8284 x8286) fun r8288 h8289 =>
 .say [.orderT (.q 0 (.q 1 (.q 2 (.q 3 (.q 4 (.q 5 (.q 6 (.q 7 (.l 8 (.q 9 .fin)))))))))) (some 8) [] [.row (GDecision.lf1 x8284), .row (GDecision.lf1 x8286), .res (.lf (.bool r8288))] [4, 5, 6, 48] 0 [(4, .lf (.rows 6 (r8055.map GDecision.lf))), (5, .lf (.rows 6 (r8057.map GDecision.lf))), (6, .lf (.int .i64 v8282)), (48, .lf (.bool (!r8288)))] []] (okc (Q7_ok _ _ _ h8289) (okc (rfl : (some ⟨[(4, .lf (.rows 6 (r8055.map GDecision.lf))), (5, .lf (.rows 6 (r8057.map GDecision.lf))), (6, .lf (.int .i64 v8282)), (48, .lf (.bool (!r8288)))], []⟩ : Option St) = some ⟨[(4, .lf (.rows 6 (r8055.map GDecision.lf))), (5, .lf (.rows 6 (r8057.map GDecision.lf))), (6, .lf (.int .i64 v8282)), (48, .lf (.bool (!r8288)))], []⟩) ok0)) <|
 .ite (!r8288) (fun c8290 =>
 .say [.br true] (ok1 c8290) <|
 .ret ⟨[], [2], [], 0⟩ (.inr (.inl ()))) fun c8290 =>
 .say [.br false] (ok1 c8290) <|
 .ret ⟨[], [4, 5, 6], [], 0⟩ (.inl (IntKind.wrap .i64 (v8282 + 1)))) fun c8283 =>
 .say [.br false] (ok1 c8283) <|
 .ret ⟨[], [], [], 0⟩ (.inr (.inr (())))
def Q23_L6 (r8055 : List GDecision) (r8057 : List GDecision) (v8282 : Int) : Option (Unit ⊕ Unit) := loopM (fun v_ => (Q23_L6_T r8055 r8057 v_).den) FU (v8282)
def Q23_L6_H (r8055 : List GDecision) (r8057 : List GDecision) : (Int) → St := fun (v8282) => ⟨[(4, .lf (.rows 6 (r8055.map GDecision.lf))), (5, .lf (.rows 6 (r8057.map GDecision.lf))), (6, .lf (.int .i64 v8282))], []⟩
def Q23_L6_X (r_ : Unit ⊕ Unit) : Exit := match r_ with
 | .inl o_ => .ret
 | .inr (o_) => .exit 2
def Q23_L6_S  (r_ : Unit ⊕ Unit) : St := match r_ with
 | .inl o_ => ⟨[(2, .lf (.bool false))], []⟩
 | .inr (o_) => ⟨[], []⟩
theorem Q23_L6_W {r8055 : List GDecision} {r8057 : List GDecision} {v8282 : Int} {r_ : Unit ⊕ Unit} (h : Q23_L6 r8055 r8057 v8282 = some r_) : AWa_ Tryz.f3 0 [1, 1, 1, 1, 1, 0, 1, 0] (Q23_L6_X r_) (Q23_L6_S r_) (Q23_L6_H r8055 r8057 (v8282)) :=
 loop_T BaseK (body := (Code.sub (bodyC Tryz.f3) [1, 1, 1, 1, 1, 0, 1, 0, 0])) (by kernel_rfl) (Q23_L6_T r8055 r8057) (Q23_L6_H r8055 r8057) Q23_L6_X Q23_L6_S (fun r_ => by rcases r_ with _ | _ <;> rfl) (fun v_ => by kernel_rfl) h
def Q23_T (p_l : List GEntry) : Mo (Bool) :=
 .say [.num p_l.length] (okc (by simp : p_l.length = (p_l.map GEntry.lf).length) ok0) <|
 .ite (decide ((40 : Int) < (p_l.length : Int))) (fun c7374 =>
 .say [.br true] (ok1 c7374) <|
 .ask (Q2) fun r7377 h7378 =>
 .say [.res (.lf (.bool r7377))] (ok1 (Q2_ok  _ h7378)) <|
 .ret (fitN 1) (r7377)) fun c7374 =>
 .say [.br false] (ok1 c7374) <|
 .ask2 (Q23_L0 p_l 0) (fun o7438 h7437 =>
 .say [.pt_ 0 [0, 3] 0 (Q23_L0_X (.inl o7438)) (Q23_L0_S p_l (.inl o7438))] (ok1 (Q23_L0_W h7437)) <|
 .ret (fitN 1) (o7438)) fun o7439 h7437 =>
 .say [.pt_ 0 [0, 3] 0 (Q23_L0_X (.inr (o7439))) (Q23_L0_S p_l (.inr (o7439)))] (ok1 (Q23_L0_W h7437)) <|
 .ask (Q15 p_l) fun r8055 h8056 =>
 .say [.res (.lf (.rows 6 (r8055.map GDecision.lf)))] (ok1 (Q15_ok _ _ h8056)) <|
 .ask (Q19 p_l) fun r8057 h8058 =>
 .say [.res (.lf (.rows 6 (r8057.map GDecision.lf))), .num r8055.length, .num r8057.length] (okc (Q19_ok _ _ h8058) (okc (by simp : r8055.length = (r8055.map GDecision.lf).length) (okc (by simp : r8057.length = (r8057.map GDecision.lf).length) ok0))) <|
 .ite ((r8055.length : Int) != (r8057.length : Int)) (fun c8060 =>
 .say [.br true] (ok1 c8060) <|
 .ret (fitN 1) (false)) fun c8060 =>
 .say [.br false] (ok1 c8060) <|
 .ask2 (Q23_L6 r8055 r8057 0) (fun o8293 h8292 =>
 .say [.pt_ 0 [4, 5, 6] 0 (Q23_L6_X (.inl o8293)) (Q23_L6_S (.inl o8293))] (ok1 (Q23_L6_W h8292)) <|
 .ret (fitN 1) (false)) fun o8294 h8292 =>
 .say [.pt_ 0 [4, 5, 6] 0 (Q23_L6_X (.inr (o8294))) (Q23_L6_S (.inr (o8294)))] (ok1 (Q23_L6_W h8292)) <|
 .ask (Q2) fun r8295 h8296 =>
 .say [.res (.lf (.bool r8295))] (ok1 (Q2_ok  _ h8296)) <|
 .ret (fitN 1) (r8295)
def Q23 (p_l : List GEntry) : Option (Bool) := Mo.den (Q23_T p_l)
theorem Q23_ok (p_l : List GEntry) (r : Bool) (h : Q23 p_l = some r) : Fn Tryz.prog GI 3 [.lf (.rows 82 (p_l.map GEntry.lf))] (.lf (.bool r)) :=
 fn_T BaseK Tryz.func3 (by kernel_rfl) (by kernel_rfl) (by kernel_rfl) (Q23_T p_l) (fun r => [.lf (.bool r)]) (by kernel_rfl) h
end
end Go.Proofs.YtplokbmdcfakbaaGreatDoor
set_option linter.unusedSimpArgs false
set_option linter.unusedVariables false
namespace Go.Proofs.YtplokbmdcfakbaaGreatDoor
open Go.RowKit
theorem sidx_at (s : ByteArray) (k : Nat) (h : k < s.size) : sidx s (k : Int) = some s[k] := by
  unfold sidx; rw [if_pos (by omega), Int.toNat_natCast]; exact getElem?_pos s k h
theorem gidx_at {α : Type} (l : List α) (k : Nat) (h : k < l.length) : gidx l (k : Int) = some l[k] := by
  rw [gidx_nat, List.getElem?_eq_getElem h]
theorem bulkR_mem {α : Type} (f : α → List Lf) {x : α} : ∀ {l : List α}, x ∈ l → bulkL (f x) ≤ bulkR (l.map f)
  | y :: r, h => by
    simp only [List.map_cons, bulkR]
    rcases List.mem_cons.1 h with rfl | h
    · omega
    · have := bulkR_mem f h; omega
theorem bulkR_len1 {α : Type} (f : α → List Lf) (hf : ∀ x, 1 ≤ bulkL (f x)) : ∀ l : List α, l.length ≤ bulkR (l.map f)
  | [] => by simp
  | x :: r => by have := bulkR_len1 f hf r; have := hf x; simp only [List.map_cons, List.length_cons, bulkR]; omega
theorem bulk_val (v : GValue) : bulkL v.lf1 = 5 + v.fText.size + bulkR (v.fList.map GValue.lf) + bulkR (v.fDoc.map GField.lf) := by simp only [GValue.lf1, bulkL, Lf.bulk]; omega
theorem bulk_field (v : GField) : bulkL v.lf1 = 1 + v.fName.size + bulkL v.fValue.lf1 := by simp only [GField.lf1, bulkL_app, bulkL, Lf.bulk]; omega
theorem bulk_order (v : GOrder) : bulkL v.lf1 = 2 + bulkR (v.fPath.map lfS) := by simp only [GOrder.lf1, bulkL, Lf.bulk]; omega
theorem bulk_point (v : GPoint) : bulkL v.lf1 = 2 := by simp only [GPoint.lf1, bulkL, Lf.bulk]
theorem bulk_shape (v : GShape) : bulkL v.lf1 = 3 + bulkR (v.fPoints.map GPoint.lf) := by simp only [GShape.lf1, bulkL, Lf.bulk]; omega
theorem bulk_expr (v : GExpr) : bulkL v.lf1 = 6 + bulkR (v.fPath.map lfS) + v.fName.size + bulkR (v.fNames.map lfS) + bulkL v.fArg.lf1 + bulkR (v.fKids.map GExpr.lf) := by simp only [GExpr.lf1, bulkL_app, bulkL, Lf.bulk]; omega
theorem bulk_pred (v : GPred) : bulkL v.lf1 = 6 + bulkR (v.fPath.map lfS) + bulkL v.fArg.lf1 + bulkR (v.fArgs.map GValue.lf) + bulkL v.fShape.lf1 + bulkL v.fExpr.lf1 + bulkR (v.fKids.map GPred.lf) := by simp only [GPred.lf1, bulkL_app, bulkL, Lf.bulk]; omega
theorem bulk_index (v : GIndex) : bulkL v.lf1 = 6 + v.fName.size + bulkR (v.fKeys.map GOrder.lf) + bulkL v.fWhere.lf1 := by simp only [GIndex.lf1, bulkL_app, bulkL, Lf.bulk]; omega
theorem bulk_prop (v : GProp) : bulkL v.lf1 = 1 + v.fName.size + bulkL v.fSchema.lf1 := by simp only [GProp.lf1, bulkL_app, bulkL, Lf.bulk]; omega
theorem bulk_schema (v : GSchema) : bulkL v.lf1 = 11 + bulkL v.fMin.lf1 + bulkL v.fMax.lf1 + bulkR (v.fEnum.map GValue.lf) + bulkR (v.fRequired.map lfS) + bulkR (v.fProps.map GProp.lf) + bulkR (v.fItems.map GSchema.lf) := by simp only [GSchema.lf1, bulkL_app, bulkL, Lf.bulk]; omega
theorem bulk_space (v : GSpace) : bulkL v.lf1 = 4 + v.fName.size + bulkR (v.fIndexes.map GIndex.lf) + bulkL v.fSchema.lf1 := by simp only [GSpace.lf1, bulkL_app, bulkL, Lf.bulk]; omega
theorem bulk_write (v : GWrite) : bulkL v.lf1 = 7 + v.fSpace.size + bulkL v.fKey.lf1 + bulkL v.fDoc.lf1 + bulkL v.fBefore.lf1 + bulkL v.fDef.lf1 + bulkL v.fIndex.lf1 + v.fTxn.size + bulkR (v.fWrites.map GWrite.lf) + bulkR (v.fShards.map lfI) := by simp only [GWrite.lf1, bulkL_app, bulkL, Lf.bulk]; omega
theorem bulk_entry (v : GEntry) : bulkL v.lf1 = 4 + v.fSession.size + bulkL v.fWrite.lf1 := by simp only [GEntry.lf1, bulkL_app, bulkL, Lf.bulk]; omega
theorem bulk_S (s : ByteArray) : bulkL (lfS s) = s.size + 1 := by simp only [lfS, bulkL, Lf.bulk, Nat.add_zero]
theorem bulk_I (n : Int) : bulkL (lfI n) = 1 := by simp only [lfI, bulkL, Lf.bulk]
theorem len_vals (l : List GValue) : l.length ≤ bulkR (l.map GValue.lf) := bulkR_len1 _ (fun x => by rw [GValue.lf_eq, bulk_val]; omega) l
theorem len_fields (l : List GField) : l.length ≤ bulkR (l.map GField.lf) := bulkR_len1 _ (fun x => by rw [GField.lf_eq, bulk_field]; omega) l
theorem len_orders (l : List GOrder) : l.length ≤ bulkR (l.map GOrder.lf) := bulkR_len1 _ (fun x => by rw [GOrder.lf_eq, bulk_order]; omega) l
theorem len_points (l : List GPoint) : l.length ≤ bulkR (l.map GPoint.lf) := bulkR_len1 _ (fun x => by have := bulk_point x; rw [GPoint.lf_eq]; omega) l
theorem len_exprs (l : List GExpr) : l.length ≤ bulkR (l.map GExpr.lf) := bulkR_len1 _ (fun x => by rw [GExpr.lf_eq, bulk_expr]; omega) l
theorem len_preds (l : List GPred) : l.length ≤ bulkR (l.map GPred.lf) := bulkR_len1 _ (fun x => by rw [GPred.lf_eq, bulk_pred]; omega) l
theorem len_indexes (l : List GIndex) : l.length ≤ bulkR (l.map GIndex.lf) := bulkR_len1 _ (fun x => by rw [GIndex.lf_eq, bulk_index]; omega) l
theorem len_props (l : List GProp) : l.length ≤ bulkR (l.map GProp.lf) := bulkR_len1 _ (fun x => by rw [GProp.lf_eq, bulk_prop]; omega) l
theorem len_schemas (l : List GSchema) : l.length ≤ bulkR (l.map GSchema.lf) := bulkR_len1 _ (fun x => by rw [GSchema.lf_eq, bulk_schema]; omega) l
theorem len_writes (l : List GWrite) : l.length ≤ bulkR (l.map GWrite.lf) := bulkR_len1 _ (fun x => by rw [GWrite.lf_eq, bulk_write]; omega) l
theorem len_strs (l : List ByteArray) : l.length ≤ bulkR (l.map lfS) := bulkR_len1 _ (fun x => by rw [bulk_S]; omega) l
theorem len_ints (l : List Int) : l.length ≤ bulkR (l.map lfI) := bulkR_len1 _ (fun x => by rw [bulk_I]; omega) l
theorem mem_val {x : GValue} {l : List GValue} (h : x ∈ l) : bulkL x.lf1 ≤ bulkR (l.map GValue.lf) := by rw [← GValue.lf_eq]; exact bulkR_mem _ h
theorem mem_field {x : GField} {l : List GField} (h : x ∈ l) : bulkL x.lf1 ≤ bulkR (l.map GField.lf) := by rw [← GField.lf_eq]; exact bulkR_mem _ h
theorem mem_order {x : GOrder} {l : List GOrder} (h : x ∈ l) : bulkL x.lf1 ≤ bulkR (l.map GOrder.lf) := bulkR_mem _ h
theorem mem_expr {x : GExpr} {l : List GExpr} (h : x ∈ l) : bulkL x.lf1 ≤ bulkR (l.map GExpr.lf) := by rw [← GExpr.lf_eq]; exact bulkR_mem _ h
theorem mem_pred {x : GPred} {l : List GPred} (h : x ∈ l) : bulkL x.lf1 ≤ bulkR (l.map GPred.lf) := by rw [← GPred.lf_eq]; exact bulkR_mem _ h
theorem mem_index {x : GIndex} {l : List GIndex} (h : x ∈ l) : bulkL x.lf1 ≤ bulkR (l.map GIndex.lf) := bulkR_mem _ h
theorem mem_prop {x : GProp} {l : List GProp} (h : x ∈ l) : bulkL x.lf1 ≤ bulkR (l.map GProp.lf) := by rw [← GProp.lf_eq]; exact bulkR_mem _ h
theorem mem_schema {x : GSchema} {l : List GSchema} (h : x ∈ l) : bulkL x.lf1 ≤ bulkR (l.map GSchema.lf) := by rw [← GSchema.lf_eq]; exact bulkR_mem _ h
theorem mem_write {x : GWrite} {l : List GWrite} (h : x ∈ l) : bulkL x.lf1 ≤ bulkR (l.map GWrite.lf) := by rw [← GWrite.lf_eq]; exact bulkR_mem _ h
theorem mem_entry {x : GEntry} {l : List GEntry} (h : x ∈ l) : bulkL x.lf1 ≤ bulkR (l.map GEntry.lf) := bulkR_mem _ h
theorem mem_str {x : ByteArray} {l : List ByteArray} (h : x ∈ l) : x.size + 1 ≤ bulkR (l.map lfS) := by rw [← bulk_S]; exact bulkR_mem _ h
/-- numbers -/
theorem size_nums1 (x : Int) : (strOfNums [x]).size = 1 := by rw [size_nums]; rfl
theorem Num_tot (n : Int) : ∃ r, Q31 n = some r ∧ r.size ≤ 11 := by
  unfold Q31 Q31_T Q31_J0 Q31_J0_T Q31_L10 Q31_L10_T Q31_J5 Q31_J5_T
  simp only [Mo.den, sbind2_eq, bcase_eq, sbind_eq, gcase_eq]
  have key : ∀ a : Int, ∃ r, ((loopM (fun v_ : Int × ByteArray × Int => (bif decide ((v_.2.2 : Int) < 10) then some (decide ((128 : Int) ≤ v_.1)) else some false).bind fun a_1 => bif a_1 then if v_.2.1.size + (strOfNums [ibits .or .u8 (IntKind.wrap .u8 (Int.tmod v_.1 128)) 128]).size ≤ 9223372036854775807 then some (.inl (IntKind.wrap .u64 (Int.tdiv v_.1 128), v_.2.1 ++ strOfNums [ibits .or .u8 (IntKind.wrap .u8 (Int.tmod v_.1 128)) 128], IntKind.wrap .i64 (v_.2.2 + 1))) else none else some (.inr (v_.1, v_.2.1))) FU (a, ⟨#[]⟩, 0)) = some r) ∧ (r : Int × ByteArray).2.size ≤ 10 := by
    intro a
    refine for_post 10 (by omega) (fun (k : Nat) (v : Int × ByteArray × Int) => v.2.2 = (k : Int) ∧ v.2.1.size = k) (fun (r : Int × ByteArray) => r.2.size ≤ 10) ⟨rfl, rfl⟩ ?_ ?_
    · rintro k ⟨u, s, i⟩ hk ⟨h1, h2⟩
      simp only at h1 h2
      subst h1
      simp only [decide_eq_true (show (k : Int) < 10 by omega), cond_true, Option.bind_some]
      cases decide ((128 : Int) ≤ u) with
      | true =>
        left
        simp only [cond_true, size_nums1, h2]
        rw [if_pos (by omega)]
        exact ⟨_, rfl, inc k (by omega), by rw [ByteArray.size_append, size_nums1, h2]⟩
      | false => right; exact ⟨_, rfl, by simp only; omega⟩
    · rintro ⟨u, s, i⟩ ⟨h1, h2⟩
      simp only at h1 h2
      subst h1
      exact ⟨_, rfl, by simp only; omega⟩
  have fin : ∀ a : Int, ∃ r, (Option.bind (loopM (fun v_ : Int × ByteArray × Int => (bif decide ((v_.2.2 : Int) < 10) then some (decide ((128 : Int) ≤ v_.1)) else some false).bind fun a_1 => bif a_1 then if v_.2.1.size + (strOfNums [ibits .or .u8 (IntKind.wrap .u8 (Int.tmod v_.1 128)) 128]).size ≤ 9223372036854775807 then some (.inl (IntKind.wrap .u64 (Int.tdiv v_.1 128), v_.2.1 ++ strOfNums [ibits .or .u8 (IntKind.wrap .u8 (Int.tmod v_.1 128)) 128], IntKind.wrap .i64 (v_.2.2 + 1))) else none else some (.inr (v_.1, v_.2.1))) FU (a, ⟨#[]⟩, 0)) (fun r : Int × ByteArray => if r.2.size + (strOfNums [IntKind.wrap .u8 r.1]).size ≤ 9223372036854775807 then some (r.2 ++ strOfNums [IntKind.wrap .u8 r.1]) else none)) = some r ∧ r.size ≤ 11 := by
    intro a
    obtain ⟨r, h1, h2⟩ := key a
    rw [h1]
    simp only [Option.bind_some, size_nums1]
    rw [if_pos (by omega)]
    exact ⟨_, rfl, by rw [ByteArray.size_append, size_nums1]; omega⟩
  cases decide (n < 0)
  · exact fin _
  · exact fin _
noncomputable def numE (n : Int) : ByteArray := (Q31 n).getD ⟨#[]⟩
theorem Num_val (n : Int) : Q31 n = some (numE n) := by
  obtain ⟨r, h, _⟩ := Num_tot n
  unfold numE; rw [h]; rfl
theorem numE_size (n : Int) : (numE n).size ≤ 11 := by
  obtain ⟨r, h, h2⟩ := Num_tot n
  unfold numE; rw [h]; exact h2
end Go.Proofs.YtplokbmdcfakbaaGreatDoor
set_option linter.unusedSimpArgs false
set_option linter.unusedVariables false
namespace Go.Proofs.YtplokbmdcfakbaaGreatDoor
open Go.RowKit
mutual
noncomputable def wrF : Lf → ByteArray
  | .int _ n => numE n
  | .str s => numE (s.size : Int) ++ s
  | .bool b => if b then ⟨#[1]⟩ else ⟨#[0]⟩
  | .rows _ l => numE (l.length : Int) ++ wrQ l
noncomputable def wrQ : List (List Lf) → ByteArray
  | [] => ByteArray.empty
  | r :: q => wrL r ++ wrQ q
noncomputable def wrL : List Lf → ByteArray
  | [] => ByteArray.empty
  | x :: r => wrF x ++ wrL r
end
theorem wrL_app (r s : List Lf) : wrL (r ++ s) = wrL r ++ wrL s := by
  induction r with
  | nil => simp [wrL]
  | cons x r ih => simp only [List.cons_append, wrL, ih, ByteArray.append_assoc]
theorem size1 (b : UInt8) : (⟨#[b]⟩ : ByteArray).size = 1 := rfl
mutual
theorem wrF_le : ∀ x : Lf, (wrF x).size ≤ 12 * x.bulk
  | .int _ n => by have := numE_size n; simp only [wrF, Lf.bulk]; omega
  | .str s => by have := numE_size (s.size : Int); simp only [wrF, Lf.bulk, ByteArray.size_append]; omega
  | .bool b => by cases b <;> simp [wrF, Lf.bulk, size1]
  | .rows _ l => by have := numE_size (l.length : Int); have := wrQ_le l; simp only [wrF, Lf.bulk, ByteArray.size_append]; omega
theorem wrQ_le : ∀ l : List (List Lf), (wrQ l).size ≤ 12 * bulkR l
  | [] => by simp [wrQ, bulkR]
  | r :: q => by have := wrL_le r; have := wrQ_le q; simp only [wrQ, bulkR, ByteArray.size_append]; omega
theorem wrL_le : ∀ l : List Lf, (wrL l).size ≤ 12 * bulkL l
  | [] => by simp [wrL, bulkL]
  | x :: r => by have := wrF_le x; have := wrL_le r; simp only [wrL, bulkL, ByteArray.size_append]; omega
end
/-- m appends s -/
def Ap (m : GRef40Out → Option GRef40Out) (s : ByteArray) : Prop := ∀ b, b.fRaw = true → b.fS.size + s.size ≤ 4611686018427387904 → m b = some ⟨b.fS ++ s, b.fBad, b.fRaw⟩
theorem Ap.bind {m k : GRef40Out → Option GRef40Out} {s t : ByteArray} (h : Ap m s) (h2 : Ap k t) : Ap (fun b => (m b).bind k) (s ++ t) := by
  intro b hb hs
  rw [ByteArray.size_append] at hs
  show (m b).bind k = _
  rw [h b hb (by omega), Option.bind_some]
  refine (h2 ⟨b.fS ++ s, b.fBad, b.fRaw⟩ hb (by simp only [ByteArray.size_append]; omega)).trans ?_
  simp only [ByteArray.append_assoc]
theorem Ap.to {m : GRef40Out → Option GRef40Out} {s t : ByteArray} (h : Ap m s) (e : s = t) : Ap m t := e ▸ h
theorem Ap.nil : Ap some ByteArray.empty := fun b _ _ => by rw [ByteArray.append_empty]
theorem Ap.of {m k : GRef40Out → Option GRef40Out} {s : ByteArray} (h : Ap k s) (e : ∀ b, b.fRaw = true → m b = k b) : Ap m s := fun b hb hs => by rw [e b hb]; exact h b hb hs
theorem Ap.loop {α : Type} (f : α → List Lf) (l : List α) (g : α → GRef40Out → Option GRef40Out) (T : Int × GRef40Out → Option ((Int × GRef40Out) ⊕ GRef40Out)) (hl : l.length ≤ 1000000000)
    (hg : ∀ x ∈ l, Ap (g x) (wrL (f x)))
    (hT : ∀ (k : Nat) s, (∀ x, l[k]? = some x → T ((k : Int), s) = (g x s).bind fun r => some (.inl (IntKind.wrap .i64 ((k : Int) + 1), r))) ∧ (l[k]? = none → T ((k : Int), s) = some (.inr s))) :
    Ap (fun b => loopM T FU (0, b)) (wrQ (l.map f)) := by
  intro b hb hs
  have key : ∀ (m : List α) (k : Nat) (b : GRef40Out) (n : Nat), l.drop k = m → m.length < n → b.fRaw = true → b.fS.size + (wrQ (m.map f)).size ≤ 4611686018427387904 →
      loopM T n ((k : Int), b) = some ⟨b.fS ++ wrQ (m.map f), b.fBad, b.fRaw⟩ := by
    intro m
    induction m with
    | nil =>
      intro k b n hd hn hb hs
      obtain ⟨n, rfl⟩ : ∃ j, n = j + 1 := ⟨n - 1, by simp at hn; omega⟩
      have h1 : l[k]? = none := by
        have := congrArg List.length hd
        simp only [List.length_drop, List.length_nil] at this
        rw [List.getElem?_eq_none]; omega
      unfold loopM
      rw [(hT k b).2 h1]
      simp only [List.map_nil, wrQ, ByteArray.append_empty, Option.bind_some]
    | cons x m ih =>
      intro k b n hd hn hb hs
      obtain ⟨n, rfl⟩ : ∃ j, n = j + 1 := ⟨n - 1, by simp at hn; omega⟩
      have h1 : l[k]? = some x := by rw [← List.head?_drop, hd]; rfl
      have h2 : l.drop (k + 1) = m := by rw [← List.tail_drop, hd]; rfl
      have hk : k < l.length := (List.getElem?_eq_some_iff.1 h1).1
      simp only [List.map_cons, wrQ, ByteArray.size_append] at hs
      unfold loopM
      rw [(hT k b).1 x h1, hg x (List.mem_of_getElem? h1) b hb (by omega)]
      simp only [Option.bind_some]
      rw [inc k (by omega)]
      refine (ih (k + 1) ⟨b.fS ++ wrL (f x), b.fBad, b.fRaw⟩ n h2 (by simp at hn; omega) hb (by simp only [ByteArray.size_append]; omega)).trans ?_
      simp only [List.map_cons, wrQ, ByteArray.append_assoc]
  exact key l 0 b FU rfl (lt_FU (by omega)) hb hs
theorem Ap_num (n : Int) : Ap (Q29 n) (numE n) := by
  intro b _ hs
  unfold Q29 Q29_T
  simp only [Mo.den, sbind_eq, gcase_eq, Num_val, Option.bind_some]
  rw [if_pos (by omega)]
theorem Ap_str (s : ByteArray) : Ap (Q70 s) (numE (s.size : Int) ++ s) := by
  intro b hb hs
  rw [ByteArray.size_append] at hs
  unfold Q70 Q70_T
  simp only [Mo.den, sbind_eq, gcase_eq]
  rw [Ap_num _ b hb (by omega)]
  simp only [Option.bind_some, ByteArray.size_append]
  rw [if_pos (by omega)]
  simp only [ByteArray.append_assoc]
theorem Ap_flag (c : Bool) : Ap (Q68 c) (wrF (.bool c)) := by
  intro b hb hs
  unfold Q68 Q68_T
  simp only [Mo.den, sbind_eq, bcase_eq, gcase_eq, size1]
  cases c
  · simp only [wrF, cond_false, Bool.false_eq_true, if_false, size1] at hs ⊢; rw [if_pos (by omega)]
  · simp only [wrF, cond_true, if_true, size1] at hs ⊢; rw [if_pos (by omega)]
theorem loop_case {α : Type} (l : List α) (k : Nat) : (∀ x, l[k]? = some x → decide ((k : Int) < (l.length : Int)) = true ∧ gidx l (k : Int) = some x) ∧ (l[k]? = none → decide ((k : Int) < (l.length : Int)) = false) := by
  refine ⟨fun x h => ?_, fun h => ?_⟩
  · have := (List.getElem?_eq_some_iff.1 h).1
    exact ⟨iLt this, by rw [gidx_nat, h]⟩
  · rw [List.getElem?_eq_none_iff] at h
    exact iNlt (by omega)
theorem Ap.of' {m k : GRef40Out → Option GRef40Out} {s t : ByteArray} (e : ∀ b, b.fRaw = true → m b = k b) (h : Ap k s) (hs : s = t) : Ap m t := hs ▸ Ap.of h e
theorem Ap_strs (l : List ByteArray) (hl : l.length ≤ 1000000000) : Ap (Q50 l) (wrF (.rows 1 (l.map lfS))) := by
  have hL : Ap (Q50_L0 l 0) (wrQ (l.map lfS)) := by
    refine Ap.of' (fun b hb => by unfold Q50_L0; rfl) (Ap.loop lfS l Q70 _ hl (fun x _ => (Ap_str x).to (by simp only [lfS, wrL, wrF, ByteArray.append_empty])) fun k s => ⟨fun x h => ?_, fun h => ?_⟩) rfl
    · obtain ⟨h1, h2⟩ := (loop_case l k).1 x h
      simp only [Q50_L0_T, Mo.den, sbind_eq, bcase_eq, h1, h2, cond_true, Option.bind_some]
    · simp only [Q50_L0_T, Mo.den, sbind_eq, bcase_eq, (loop_case l k).2 h, cond_false]
  refine Ap.of' (fun b hb => ?_) (Ap.bind (Ap_num (l.length : Int)) (Ap.bind hL Ap.nil)) ?_
  · simp only [Q50, Q50_T, Mo.den, sbind_eq]
  · simp only [wrF, List.length_map, ByteArray.append_empty]
end Go.Proofs.YtplokbmdcfakbaaGreatDoor
set_option linter.unusedSimpArgs false
set_option linter.unusedVariables false
namespace Go.Proofs.YtplokbmdcfakbaaGreatDoor
open Go.RowKit
theorem Ap_shape (x : GShape) (hb : bulkL x.lf1 ≤ 100000000) : Ap (Q59 x) (wrL x.lf1) := by
  have hl := len_points x.fPoints
  rw [bulk_shape] at hb
  have hL : Ap (Q59_L0 x 0) (wrQ (x.fPoints.map GPoint.lf)) := by
    refine Ap.of' (fun b hb => by unfold Q59_L0; rfl) (Ap.loop GPoint.lf x.fPoints (fun p b => (Q29 p.fX b).bind fun r => Q29 p.fY r) _ (by omega) (fun x hx => (Ap.bind (Ap_num _) (Ap_num _)).to (by simp only [GPoint.lf, GPoint.lf1, wrL, wrF, ByteArray.append_empty])) fun k s => ⟨fun y h => ?_, fun h => ?_⟩) rfl
    · obtain ⟨h1, h2⟩ := (loop_case x.fPoints k).1 y h
      simp only [Q59_L0_T, Mo.den, sbind_eq, bcase_eq, h1, h2, cond_true, Option.bind_some, Option.bind_assoc]
    · simp only [Q59_L0_T, Mo.den, sbind_eq, bcase_eq, (loop_case x.fPoints k).2 h, cond_false]
  refine Ap.of' (fun b hb => ?_) (Ap.bind (Ap_num (x.fKind)) (Ap.bind (Ap_num ((x.fPoints.length : Int))) (Ap.bind hL (Ap.bind (Ap_num (x.fR)) Ap.nil)))) ?_
  · simp only [Q59, Q59_T, Mo.den, sbind_eq, bcase_eq]
  · simp only [GShape.lf1, wrL, wrF, List.length_map, ByteArray.append_empty, ByteArray.append_assoc]
theorem Ap_val2 : ∀ n, (∀ v : GValue, 2 * bulkL v.lf1 < n → bulkL v.lf1 ≤ 100000000 → Ap ((RB2_F n).m1 v) (wrL v.lf1)) ∧ ∀ l : List GValue, 2 * bulkR (l.map GValue.lf) + 1 < n → bulkR (l.map GValue.lf) ≤ 100000000 → Ap ((RB2_F n).m2 l) (wrF (.rows 5 (l.map GValue.lf)))
  | 0 => ⟨fun v h => by omega, fun l h => by omega⟩
  | n + 1 => by
    have ih := Ap_val2 n
    refine ⟨fun x h hb => ?_, fun l h hb => ?_⟩
    · have hl := len_fields x.fDoc
      rw [bulk_val] at h hb
      have hL : Ap (Q35_L0 (RB2_F n) x 0) (wrQ (x.fDoc.map GField.lf)) := by
        refine Ap.of' (fun b hb => by unfold Q35_L0; rfl) (Ap.loop GField.lf x.fDoc (fun p b => (Q70 p.fName b).bind fun r => (RB2_F n).m1 p.fValue r) _ (by omega) (fun x hx => by have h1 := mem_field hx; rw [bulk_field] at h1; exact (Ap.bind (Ap_str _) (ih.1 _ (by omega) (by omega))).to (by rw [GField.lf_eq]; simp only [GField.lf1, wrL_app, wrL, wrF, ByteArray.append_empty])) fun k s => ⟨fun y h => ?_, fun h => ?_⟩) rfl
        · obtain ⟨h1, h2⟩ := (loop_case x.fDoc k).1 y h
          simp only [Q35_L0_T, Mo.den, sbind_eq, bcase_eq, h1, h2, cond_true, Option.bind_some, Option.bind_assoc]
        · simp only [Q35_L0_T, Mo.den, sbind_eq, bcase_eq, (loop_case x.fDoc k).2 h, cond_false]
      refine Ap.of' (fun b hr => ?_) (Ap.bind (Ap_num (x.fKind)) (Ap.bind (Ap_num (x.fInt)) (Ap.bind (Ap_str (x.fText)) (Ap.bind (ih.2 x.fList (by omega) (by omega)) (Ap.bind (Ap_num ((x.fDoc.length : Int))) (Ap.bind hL Ap.nil)))))) ?_
      · simp only [RB2_F, Q35_T, Mo.den, sbind_eq, bcase_eq, hr, cond_true]
      · simp only [GValue.lf1, wrL, wrF, List.length_map, ByteArray.append_empty, ByteArray.append_assoc]
    · have hl := len_vals l
      have hL : Ap (Q52_L0 (RB2_F n) l 0) (wrQ (l.map GValue.lf)) := by
        refine Ap.of' (fun b hb => by unfold Q52_L0; rfl) (Ap.loop GValue.lf l (fun p b => (RB2_F n).m1 p b) _ (by omega) (fun x hx => by have h1 := mem_val hx; exact (ih.1 _ (by omega) (by omega)).to (by rw [GValue.lf_eq])) fun k s => ⟨fun y h => ?_, fun h => ?_⟩) rfl
        · obtain ⟨h1, h2⟩ := (loop_case l k).1 y h
          simp only [Q52_L0_T, Mo.den, sbind_eq, bcase_eq, h1, h2, cond_true, Option.bind_some, Option.bind_assoc]
        · simp only [Q52_L0_T, Mo.den, sbind_eq, bcase_eq, (loop_case l k).2 h, cond_false]
      refine Ap.of' (fun b hr => ?_) (Ap.bind (Ap_num ((l.length : Int))) (Ap.bind hL Ap.nil)) ?_
      · simp only [RB2_F, Q52_T, Mo.den, sbind_eq, bcase_eq]
      · simp only [wrF, List.length_map, ByteArray.append_empty]
theorem Ap_value (v : GValue) (hb : bulkL v.lf1 ≤ 100000000) : Ap (Q35 v) (wrL v.lf1) := (Ap_val2 FU).1 v (lt_FU (by omega)) hb
theorem Ap_values (l : List GValue) (hb : bulkR (l.map GValue.lf) ≤ 100000000) : Ap (Q52 l) (wrF (.rows 5 (l.map GValue.lf))) := (Ap_val2 FU).2 l (lt_FU (by omega)) hb
theorem Ap_expr2 (n : Nat) : ∀ x : GExpr, bulkL x.lf1 < n → bulkL x.lf1 ≤ 100000000 → Ap ((RB7_F n).m1 x) (wrL x.lf1) := by
  induction n with
  | zero => intro x h _; omega
  | succ n ih =>
    intro x h hb
    have hl := len_exprs x.fKids
    have hl1 := len_strs x.fPath
    have hl2 := len_strs x.fNames
    rw [bulk_expr] at h hb
    have hL : Ap (Q57_L0 (RB7_F n) x 0) (wrQ (x.fKids.map GExpr.lf)) := by
      refine Ap.of' (fun b hb => by unfold Q57_L0; rfl) (Ap.loop GExpr.lf x.fKids (fun p b => (RB7_F n).m1 p b) _ (by omega) (fun x hx => by have h1 := mem_expr hx; exact (ih _ (by omega) (by omega)).to (by rw [GExpr.lf_eq])) fun k s => ⟨fun y h => ?_, fun h => ?_⟩) rfl
      · obtain ⟨h1, h2⟩ := (loop_case x.fKids k).1 y h
        simp only [Q57_L0_T, Mo.den, sbind_eq, bcase_eq, h1, h2, cond_true, Option.bind_some, Option.bind_assoc]
      · simp only [Q57_L0_T, Mo.den, sbind_eq, bcase_eq, (loop_case x.fKids k).2 h, cond_false]
    refine Ap.of' (fun b hr => ?_) (Ap.bind (Ap_num (x.fOp)) (Ap.bind (Ap_strs (x.fPath) (by omega)) (Ap.bind (Ap_str (x.fName)) (Ap.bind (Ap_strs (x.fNames) (by omega)) (Ap.bind (Ap_value (x.fArg) (by omega)) (Ap.bind (Ap_num (x.fN)) (Ap.bind (Ap_num ((x.fKids.length : Int))) (Ap.bind hL Ap.nil)))))))) ?_
    · simp only [RB7_F, Q57_T, Mo.den, sbind_eq, bcase_eq]
    · simp only [GExpr.lf1, wrL_app, wrL, wrF, List.length_map, ByteArray.append_empty, ByteArray.append_assoc]
theorem Ap_expr (v : GExpr) (hb : bulkL v.lf1 ≤ 100000000) : Ap (Q57 v) (wrL v.lf1) := Ap_expr2 FU v (lt_FU (by omega)) hb
theorem Ap_pred2 (n : Nat) : ∀ x : GPred, bulkL x.lf1 < n → bulkL x.lf1 ≤ 100000000 → Ap ((RB1_F n).m1 x) (wrL x.lf1) := by
  induction n with
  | zero => intro x h _; omega
  | succ n ih =>
    intro x h hb
    have hl := len_preds x.fKids
    have hl1 := len_strs x.fPath
    rw [bulk_pred] at h hb
    have hL : Ap (Q58_L0 (RB1_F n) x 0) (wrQ (x.fKids.map GPred.lf)) := by
      refine Ap.of' (fun b hb => by unfold Q58_L0; rfl) (Ap.loop GPred.lf x.fKids (fun p b => (RB1_F n).m1 p b) _ (by omega) (fun x hx => by have h1 := mem_pred hx; exact (ih _ (by omega) (by omega)).to (by rw [GPred.lf_eq])) fun k s => ⟨fun y h => ?_, fun h => ?_⟩) rfl
      · obtain ⟨h1, h2⟩ := (loop_case x.fKids k).1 y h
        simp only [Q58_L0_T, Mo.den, sbind_eq, bcase_eq, h1, h2, cond_true, Option.bind_some, Option.bind_assoc]
      · simp only [Q58_L0_T, Mo.den, sbind_eq, bcase_eq, (loop_case x.fKids k).2 h, cond_false]
    refine Ap.of' (fun b hr => ?_) (Ap.bind (Ap_num (x.fOp)) (Ap.bind (Ap_strs (x.fPath) (by omega)) (Ap.bind (Ap_value (x.fArg) (by omega)) (Ap.bind (Ap_values (x.fArgs) (by omega)) (Ap.bind (Ap_num (x.fN)) (Ap.bind (Ap_num (x.fM)) (Ap.bind (Ap_shape (x.fShape) (by omega)) (Ap.bind (Ap_expr (x.fExpr) (by omega)) (Ap.bind (Ap_num ((x.fKids.length : Int))) (Ap.bind hL Ap.nil)))))))))) ?_
    · simp only [RB1_F, Q58_T, Mo.den, sbind_eq, bcase_eq]
    · simp only [GPred.lf1, wrL_app, wrL, wrF, List.length_map, ByteArray.append_empty, ByteArray.append_assoc]
theorem Ap_pred (v : GPred) (hb : bulkL v.lf1 ≤ 100000000) : Ap (Q58 v) (wrL v.lf1) := Ap_pred2 FU v (lt_FU (by omega)) hb
theorem Ap_index (x : GIndex) (hb : bulkL x.lf1 ≤ 100000000) : Ap (Q53 x) (wrL x.lf1) := by
  have hl := len_orders x.fKeys
  rw [bulk_index] at hb
  have hL : Ap (Q53_L0 x 0) (wrQ (x.fKeys.map GOrder.lf)) := by
    refine Ap.of' (fun b hb => by unfold Q53_L0; rfl) (Ap.loop GOrder.lf x.fKeys (fun p b => (Q50 p.fPath b).bind fun r => Q68 p.fDesc r) _ (by omega) (fun x hx => by have h1 := mem_order hx; rw [bulk_order] at h1; have h2 := len_strs x.fPath; exact (Ap.bind (Ap_strs _ (by omega)) (Ap_flag _)).to (by simp only [GOrder.lf, GOrder.lf1, wrL, ByteArray.append_empty])) fun k s => ⟨fun y h => ?_, fun h => ?_⟩) rfl
    · obtain ⟨h1, h2⟩ := (loop_case x.fKeys k).1 y h
      simp only [Q53_L0_T, Mo.den, sbind_eq, bcase_eq, h1, h2, cond_true, Option.bind_some, Option.bind_assoc]
    · simp only [Q53_L0_T, Mo.den, sbind_eq, bcase_eq, (loop_case x.fKeys k).2 h, cond_false]
  refine Ap.of' (fun b hb => ?_) (Ap.bind (Ap_str (x.fName)) (Ap.bind (Ap_num (x.fKind)) (Ap.bind (Ap_num ((x.fKeys.length : Int))) (Ap.bind hL (Ap.bind (Ap_flag (x.fUnique)) (Ap.bind (Ap_flag (x.fSparse)) (Ap.bind (Ap_flag (x.fPartial)) (Ap.bind (Ap_pred (x.fWhere) (by omega)) Ap.nil)))))))) ?_
  · simp only [Q53, Q53_T, Mo.den, sbind_eq, bcase_eq]
  · simp only [GIndex.lf1, wrL_app, wrL, wrF, List.length_map, ByteArray.append_empty, ByteArray.append_assoc]
theorem Ap_schema2 (n : Nat) : ∀ x : GSchema, bulkL x.lf1 < n → bulkL x.lf1 ≤ 100000000 → Ap ((RB8_F n).m1 x) (wrL x.lf1) := by
  induction n with
  | zero => intro x h _; omega
  | succ n ih =>
    intro x h hb
    have hl := len_props x.fProps
    have hl1 := len_schemas x.fItems
    have hl2 := len_strs x.fRequired
    rw [bulk_schema] at h hb
    have hL : Ap (Q32_L0 (RB8_F n) x 0) (wrQ (x.fProps.map GProp.lf)) := by
      refine Ap.of' (fun b hb => by unfold Q32_L0; rfl) (Ap.loop GProp.lf x.fProps (fun p b => (Q70 p.fName b).bind fun r => (RB8_F n).m1 p.fSchema r) _ (by omega) (fun x hx => by have h1 := mem_prop hx; rw [bulk_prop] at h1; exact (Ap.bind (Ap_str _) (ih _ (by omega) (by omega))).to (by rw [GProp.lf_eq]; simp only [GProp.lf1, wrL_app, wrL, wrF, ByteArray.append_empty])) fun k s => ⟨fun y h => ?_, fun h => ?_⟩) rfl
      · obtain ⟨h1, h2⟩ := (loop_case x.fProps k).1 y h
        simp only [Q32_L0_T, Mo.den, sbind_eq, bcase_eq, h1, h2, cond_true, Option.bind_some, Option.bind_assoc]
      · simp only [Q32_L0_T, Mo.den, sbind_eq, bcase_eq, (loop_case x.fProps k).2 h, cond_false]
    have hL2 : Ap (Q32_L6 (RB8_F n) x 0) (wrQ (x.fItems.map GSchema.lf)) := by
      refine Ap.of' (fun b hb => by unfold Q32_L6; rfl) (Ap.loop GSchema.lf x.fItems (fun p b => (RB8_F n).m1 p b) _ (by omega) (fun x hx => by have h1 := mem_schema hx; exact (ih _ (by omega) (by omega)).to (by rw [GSchema.lf_eq])) fun k s => ⟨fun y h => ?_, fun h => ?_⟩) rfl
      · obtain ⟨h1, h2⟩ := (loop_case x.fItems k).1 y h
        simp only [Q32_L6_T, Mo.den, sbind_eq, bcase_eq, h1, h2, cond_true, Option.bind_some, Option.bind_assoc]
      · simp only [Q32_L6_T, Mo.den, sbind_eq, bcase_eq, (loop_case x.fItems k).2 h, cond_false]
    refine Ap.of' (fun b hr => ?_) (Ap.bind (Ap_num (x.fKinds)) (Ap.bind (Ap_flag (x.fHasMin)) (Ap.bind (Ap_value (x.fMin) (by omega)) (Ap.bind (Ap_flag (x.fHasMax)) (Ap.bind (Ap_value (x.fMax) (by omega)) (Ap.bind (Ap_values (x.fEnum) (by omega)) (Ap.bind (Ap_num (x.fMinLen)) (Ap.bind (Ap_num (x.fMaxLen)) (Ap.bind (Ap_strs (x.fRequired) (by omega)) (Ap.bind (Ap_num ((x.fProps.length : Int))) (Ap.bind hL (Ap.bind (Ap_flag (x.fClosed)) (Ap.bind (Ap_num ((x.fItems.length : Int))) (Ap.bind hL2 (Ap.bind (Ap_flag (x.fUnique)) Ap.nil))))))))))))))) ?_
    · simp only [RB8_F, Q32_T, Mo.den, sbind_eq, bcase_eq]
    · simp only [GSchema.lf1, wrL_app, wrL, wrF, List.length_map, ByteArray.append_empty, ByteArray.append_assoc]
theorem Ap_schema (v : GSchema) (hb : bulkL v.lf1 ≤ 100000000) : Ap (Q32 v) (wrL v.lf1) := Ap_schema2 FU v (lt_FU (by omega)) hb
theorem Ap_space (x : GSpace) (hb : bulkL x.lf1 ≤ 100000000) : Ap (Q55 x) (wrL x.lf1) := by
  have hl := len_indexes x.fIndexes
  rw [bulk_space] at hb
  have hL : Ap (Q55_L0 x 0) (wrQ (x.fIndexes.map GIndex.lf)) := by
    refine Ap.of' (fun b hb => by unfold Q55_L0; rfl) (Ap.loop GIndex.lf x.fIndexes (fun p b => Q53 p b) _ (by omega) (fun x hx => by have h1 := mem_index hx; exact Ap_index _ (by omega)) fun k s => ⟨fun y h => ?_, fun h => ?_⟩) rfl
    · obtain ⟨h1, h2⟩ := (loop_case x.fIndexes k).1 y h
      simp only [Q55_L0_T, Mo.den, sbind_eq, bcase_eq, h1, h2, cond_true, Option.bind_some, Option.bind_assoc]
    · simp only [Q55_L0_T, Mo.den, sbind_eq, bcase_eq, (loop_case x.fIndexes k).2 h, cond_false]
  refine Ap.of' (fun b hb => ?_) (Ap.bind (Ap_str (x.fName)) (Ap.bind (Ap_num ((x.fIndexes.length : Int))) (Ap.bind hL (Ap.bind (Ap_schema (x.fSchema) (by omega)) (Ap.bind (Ap_num (x.fLevel)) (Ap.bind (Ap_num (x.fAction)) Ap.nil)))))) ?_
  · simp only [Q55, Q55_T, Mo.den, sbind_eq, bcase_eq]
  · simp only [GSpace.lf1, wrL_app, wrL, wrF, List.length_map, ByteArray.append_empty, ByteArray.append_assoc]
end Go.Proofs.YtplokbmdcfakbaaGreatDoor
set_option linter.unusedSimpArgs false
set_option linter.unusedVariables false
namespace Go.Proofs.YtplokbmdcfakbaaGreatDoor
open Go.RowKit
def Tot {ρ : Type} (m : Option ρ) (Q : ρ → Prop) : Prop := ∃ r, m = some r ∧ Q r
def LP {σ ρ : Type} (P : σ → Prop) (Q : ρ → Prop) : σ ⊕ ρ → Prop
  | .inl s => P s
  | .inr r => Q r
def Any {ρ : Type} : ρ → Prop := fun _ => True
namespace T
variable {ρ α σ : Type}
theorem ret {Q : ρ → Prop} {r : ρ} (h : Q r) : Tot (some r) Q := ⟨r, rfl, h⟩
theorem any {r : ρ} : Tot (some r) Any := ⟨r, rfl, trivial⟩
theorem bind {m : Option α} {R : α → Prop} {k : α → Option ρ} {Q : ρ → Prop} (h : Tot m R) (h2 : ∀ a, R a → Tot (k a) Q) : Tot (m.bind k) Q := by
  obtain ⟨a, rfl, ha⟩ := h
  exact h2 a ha
theorem ite {b : Bool} {x y : Option ρ} {Q : ρ → Prop} (h1 : b = true → Tot x Q) (h2 : b = false → Tot y Q) : Tot (bif b then x else y) Q := by
  cases b
  · exact h2 rfl
  · exact h1 rfl
theorem grd {p : Prop} [Decidable p] {x : Option ρ} {Q : ρ → Prop} (h : p) (h2 : Tot x Q) : Tot (if p then x else none) Q := by
  rw [if_pos h]; exact h2
theorem mono {m : Option ρ} {Q R : ρ → Prop} (h : Tot m Q) (h2 : ∀ r, Q r → R r) : Tot m R := by
  obtain ⟨r, h1, h3⟩ := h; exact ⟨r, h1, h2 r h3⟩
theorem wk {m : Option ρ} {Q : ρ → Prop} (h : Tot m Q) : Tot m Any := mono h fun _ _ => trivial
theorem val {m : Option ρ} {r : ρ} (h : m = some r) : Tot m (fun x => x = r) := ⟨r, h, rfl⟩
theorem forP {T : σ → Option (σ ⊕ ρ)} {s0 : σ} (n : Nat) (hn : n ≤ 1000000000) (P : Nat → σ → Prop) (Q : ρ → Prop) (h0 : P 0 s0) (step : ∀ k s, k < n → P k s → Tot (T s) (LP (P (k + 1)) Q)) (fin : ∀ s, P n s → Tot (T s) (LP (fun _ => False) Q)) : Tot (loopM T FU s0) Q := by
  refine for_post n hn P Q h0 ?_ ?_
  · intro k s hk hP
    obtain ⟨r, h1, h2⟩ := step k s hk hP
    rcases r with v | r
    · exact .inl ⟨v, h1, h2⟩
    · exact .inr ⟨r, h1, h2⟩
  · intro s hP
    obtain ⟨r, h1, h2⟩ := fin s hP
    rcases r with v | r
    · exact h2.elim
    · exact ⟨r, h1, h2⟩
/-- a loop that counts and nothing else -/
theorem forI {T : Int → Option (Int ⊕ ρ)} (n : Nat) (hn : n ≤ 1000000000) (Q : ρ → Prop) (step : ∀ k : Nat, k < n → Tot (T (k : Int)) (LP (fun v => v = IntKind.wrap .i64 ((k : Int) + 1)) Q)) (fin : Tot (T (n : Int)) (LP (fun _ => False) Q)) : Tot (loopM T FU 0) Q :=
  forP n hn (fun k v => v = (k : Int)) Q rfl (fun k s hk hs => by
    obtain rfl : s = (k : Int) := hs
    refine mono (step k hk) ?_
    rintro (v | r) h
    · exact (show v = _ from h).trans (inc k (by omega))
    · exact h) (fun s hs => by
    obtain rfl : s = (n : Int) := hs
    exact fin)
/-- the same, over a list of which each element ends -/
theorem forL {T : Int → Option (Int ⊕ ρ)} (l : List α) (hn : l.length ≤ 1000000000) (Q : ρ → Prop) (step : ∀ (k : Nat) x, l[k]? = some x → Tot (T (k : Int)) (LP (fun v => v = IntKind.wrap .i64 ((k : Int) + 1)) Q)) (fin : Tot (T (l.length : Int)) (LP (fun _ => False) Q)) : Tot (loopM T FU 0) Q :=
  forI l.length hn Q (fun k hk => step k _ (List.getElem?_eq_getElem hk)) fin
end T
theorem ltt {α : Type} {l : List α} {k : Nat} {x : α} (h : l[k]? = some x) : decide ((k : Int) < (l.length : Int)) = true := iLt (List.getElem?_eq_some_iff.1 h).1
theorem ltn (n : Nat) : decide ((n : Int) < (n : Int)) = false := iNlt (Nat.lt_irrefl _)
theorem gid {α : Type} {l : List α} {k : Nat} {x : α} (h : l[k]? = some x) : gidx l (k : Int) = some x := by rw [gidx_nat, h]
theorem mem_at {α : Type} {l : List α} {k : Nat} {x : α} (h : l[k]? = some x) : x ∈ l := List.mem_of_getElem? h
theorem len_at {α : Type} {l : List α} {k : Nat} {x : α} (h : l[k]? = some x) : k < l.length := (List.getElem?_eq_some_iff.1 h).1
theorem bulkR_app (l m : List (List Lf)) : bulkR (l ++ m) = bulkR l + bulkR m := by
  induction l with
  | nil => simp [bulkR]
  | cons x l ih => simp only [List.cons_append, bulkR, ih]; omega
theorem bulkR_take {α : Type} (f : α → List Lf) {l : List α} {k : Nat} {x : α} (h : l[k]? = some x) : bulkR ((l.take (k + 1)).map f) = bulkR ((l.take k).map f) + bulkL (f x) := by
  have hk := len_at h
  rw [List.take_succ_eq_append_getElem hk, List.map_append, bulkR_app]
  have : l[k] = x := by rw [List.getElem?_eq_getElem hk] at h; injection h
  simp only [this, List.map_cons, List.map_nil, bulkR]; omega
theorem bulkR_take_le {α : Type} (f : α → List Lf) (l : List α) (k : Nat) : bulkR ((l.take k).map f) ≤ bulkR (l.map f) := by
  have := bulkR_app ((l.take k).map f) ((l.drop k).map f)
  rw [← List.map_append, List.take_append_drop] at this; omega
/-- names -/
theorem Name_val (s : ByteArray) : Q20 s = some (nameB s) := by
  unfold Q20 Q20_T Q20_L20 Q20_L20_T Q20_J15 Q20_J15_T Q20_J10 Q20_J10_T Q20_J5 Q20_J5_T Q20_J0 Q20_J0_T
  simp only [Mo.den, sbind_eq, sbind2_eq, sbind3_eq, bcase_eq, gcase_eq]
  by_cases h0 : s.size < 1
  · rw [decide_eq_true (show (s.size : Int) < 1 by omega), nameB_nil s (by omega)]; rfl
  rw [decide_eq_false (show ¬ (s.size : Int) < 1 by omega)]; simp only [cond_false, Option.bind_some]
  by_cases h1 : 32 < s.size
  · rw [decide_eq_true (show (32 : Int) < (s.size : Int) by omega), nameB_big s h1]; rfl
  rw [decide_eq_false (show ¬ (32 : Int) < (s.size : Int) by omega)]; simp only [cond_false]
  have hz : sidx s 0 = some s[0] := sidx_at s 0 (by omega)
  rw [hz, nameB_some s (by omega) (by omega)]
  simp only [Option.bind_some]
  have e36 : ((s[0].toNat : Int) == 36) = (s[0].toNat == 36) := by rw [Bool.eq_iff_iff]; simp; omega
  rw [e36]
  cases hq : s[0].toNat == 36 with
  | true => rfl
  | false =>
    simp only [cond_false, Bool.not_false, Bool.true_and]
    refine for_bind s.size (by omega) (fun n k => k = n ∧ ∀ i (hi : i < s.size), i < n → nameC s[i].toNat = true) (fun r => match r with | .inl _ => s.data.toList.all (fun c => nameC c.toNat) = false | .inr _ => s.data.toList.all (fun c => nameC c.toNat) = true) ⟨rfl, by omega⟩ ?_ ?_ ?_
    · rintro n k hn ⟨rfl, hv⟩
      simp only [iLt hn, cond_true, sidx_at s n hn, Option.bind_some]
      have hc : nameC s[n].toNat = (decide (33 ≤ s[n].toNat) && decide (s[n].toNat ≤ 126) && !(s[n].toNat == 46)) := rfl
      have e46 : ((s[n].toNat : Int) == 46) = (s[n].toNat == 46) := by rw [Bool.eq_iff_iff]; simp; omega
      by_cases a1 : s[n].toNat < 33
      · rw [decide_eq_true (show (s[n].toNat : Int) < 33 by omega)]; right
        exact ⟨_, rfl, all_no s _ n hn (by rw [hc, decide_eq_false (show ¬ 33 ≤ s[n].toNat by omega)]; rfl)⟩
      rw [decide_eq_false (show ¬ (s[n].toNat : Int) < 33 by omega)]; simp only [cond_false]
      by_cases a2 : 126 < s[n].toNat
      · rw [decide_eq_true (show (126 : Int) < (s[n].toNat : Int) by omega)]; right
        exact ⟨_, rfl, all_no s _ n hn (by rw [hc, decide_eq_false (show ¬ s[n].toNat ≤ 126 by omega), Bool.and_false]; rfl)⟩
      rw [decide_eq_false (show ¬ (126 : Int) < (s[n].toNat : Int) by omega), e46]; simp only [cond_false, Option.bind_some]
      cases a3 : s[n].toNat == 46 with
      | true => right; exact ⟨_, rfl, all_no s _ n hn (by rw [hc, a3, Bool.not_true, Bool.and_false])⟩
      | false =>
        left
        refine ⟨_, rfl, inc n (by omega), fun i hi hl => ?_⟩
        rcases Nat.lt_succ_iff_lt_or_eq.1 hl with h3 | rfl
        · exact hv i hi h3
        · rw [hc, a3, decide_eq_true (show 33 ≤ s[i].toNat by omega), decide_eq_true (show s[i].toNat ≤ 126 by omega)]; rfl
    · rintro k ⟨rfl, hv⟩
      exact ⟨.inr (), by simp only [iNlt (Nat.lt_irrefl _), cond_false], all_yes s _ fun i hi => hv i hi hi⟩
    · rintro (u | u) h2
      · exact congrArg some h2.symm
      · exact congrArg some h2.symm
/-- a path -/
def pathB (p : List ByteArray) : Bool := decide (1 ≤ p.length) && decide (p.length ≤ 16) && p.all nameB
theorem all_take {α : Type} (f : α → Bool) {l : List α} {k : Nat} {x : α} (h : l[k]? = some x) : (l.take (k + 1)).all f = ((l.take k).all f && f x) := by
  have hk := len_at h
  have : l[k] = x := by rw [List.getElem?_eq_getElem hk] at h; injection h
  rw [List.take_succ_eq_append_getElem hk, List.all_append, this]; simp
theorem all_at {α : Type} (f : α → Bool) {l : List α} {k : Nat} {x : α} (h : l[k]? = some x) (hf : f x = false) : l.all f = false := by
  rw [List.all_eq_false]; exact ⟨x, mem_at h, by simp [hf]⟩
theorem Path_val (p : List ByteArray) : Q38 p = some (pathB p) := by
  unfold Q38 Q38_T Q38_L5 Q38_L5_T Q38_J0 Q38_J0_T
  simp only [Mo.den, sbind_eq, sbind2_eq, sbind3_eq, bcase_eq, gcase_eq, pathB]
  by_cases h0 : p.length < 1
  · rw [decide_eq_true (show (p.length : Int) < 1 by omega), decide_eq_false (show ¬ 1 ≤ p.length by omega)]; rfl
  rw [decide_eq_false (show ¬ (p.length : Int) < 1 by omega), decide_eq_true (show 1 ≤ p.length by omega)]; simp only [cond_false, Option.bind_some, Bool.true_and]
  by_cases h1 : 16 < p.length
  · rw [decide_eq_true (show (16 : Int) < (p.length : Int) by omega), decide_eq_false (show ¬ p.length ≤ 16 by omega)]; rfl
  rw [decide_eq_false (show ¬ (16 : Int) < (p.length : Int) by omega), decide_eq_true (show p.length ≤ 16 by omega)]; simp only [cond_false, Bool.true_and]
  refine for_bind p.length (by omega) (fun n k => k = n ∧ (p.take n).all nameB = true) (fun r => match r with | .inl _ => p.all nameB = false | .inr _ => p.all nameB = true) ⟨rfl, by simp⟩ ?_ ?_ ?_
  · rintro n k hn ⟨rfl, hv⟩
    have hx := List.getElem?_eq_getElem hn
    simp only [iLt hn, cond_true, gid hx, Option.bind_some, Name_val]
    cases hb : nameB p[n] with
    | false => right; exact ⟨_, rfl, all_at _ hx hb⟩
    | true => left; exact ⟨_, rfl, inc n (by omega), by rw [all_take _ hx, hv, hb]; rfl⟩
  · rintro k ⟨rfl, hv⟩
    exact ⟨.inr (), by simp only [iNlt (Nat.lt_irrefl _), cond_false], by rw [List.take_length] at hv; exact hv⟩
  · rintro (u | u) h2
    · exact congrArg some h2.symm
    · exact congrArg some h2.symm
theorem RName_val (s : ByteArray) : Q74 s = some (nameB s) := by
  simp only [Q74, Q74_T, Mo.den, sbind_eq, sbind2_eq, sbind3_eq, bcase_eq, gcase_eq, Path_val, Option.bind_some, pathB, List.length_cons, List.length_nil, List.all_cons, List.all_nil, Bool.and_true]; rfl
/-- the missing value -/
def missB (v : GValue) : Bool := v.fKind == 0 && v.fInt == 0 && decide (v.fText = ⟨#[]⟩) && (v.fList.length : Int) == 0 && (v.fDoc.length : Int) == 0
theorem Missing_val (v : GValue) : Q17 v = some (missB v) := by
  simp only [Q17, Q17_T, Q17_J20, Q17_J20_T, Q17_J15, Q17_J15_T, Q17_J10, Q17_J10_T, Q17_J5, Q17_J5_T, Q17_J0, Q17_J0_T, Mo.den, sbind_eq, sbind2_eq, sbind3_eq, bcase_eq, gcase_eq, missB]
  cases v.fKind == 0 <;> cases v.fInt == 0 <;> cases decide (v.fText = ⟨#[]⟩) <;> cases (v.fList.length : Int) == 0 <;> rfl
/-- parts -/
def parts (v : GValue) : List GValue := (if v.fKind = 6 then v.fList else []) ++ (if v.fKind = 5 then v.fDoc.map GField.fValue else [])
theorem Parts_val (v : GValue) (hb : bulkL v.lf1 ≤ 100000000) : Q24 v = some (parts v) := by
  have hl := len_vals v.fList
  have hd := len_fields v.fDoc
  rw [bulk_val] at hb
  have h0 : Q24_L0 v 0 [] = some v.fList := by
    have : Tot (Q24_L0 v 0 []) (fun r => r = v.fList) := by
      refine T.forP v.fList.length (by omega) (fun k s => s = ((k : Int), v.fList.take k)) _ rfl ?_ ?_
      · rintro k s hk rfl
        have hx := List.getElem?_eq_getElem hk
        simp only [Q24_L0_T, Mo.den, sbind_eq, sbind2_eq, sbind3_eq, bcase_eq, gcase_eq, ltt hx, gid hx, cond_true, Option.bind_some]
        refine T.grd (by simp only [List.length_take, List.length_cons, List.length_nil]; omega) (T.ret ?_)
        show _ = _
        rw [inc k (by omega), List.take_succ_eq_append_getElem hk]
      · rintro s rfl
        simp only [Q24_L0_T, Mo.den, sbind_eq, sbind2_eq, sbind3_eq, bcase_eq, gcase_eq, ltn, cond_false]
        exact T.ret (show _ = _ by rw [List.take_length])
    obtain ⟨r, h, rfl⟩ := this; exact h
  have h1 : ∀ l0 : List GValue, l0.length ≤ 100000000 → Q24_L11 v 0 l0 = some (l0 ++ v.fDoc.map GField.fValue) := by
    intro l0 hl0
    have : Tot (Q24_L11 v 0 l0) (fun r => r = l0 ++ v.fDoc.map GField.fValue) := by
      refine T.forP v.fDoc.length (by omega) (fun k s => s = ((k : Int), l0 ++ (v.fDoc.take k).map GField.fValue)) _ (by simp) ?_ ?_
      · rintro k s hk rfl
        have hx := List.getElem?_eq_getElem hk
        simp only [Q24_L11_T, Mo.den, sbind_eq, sbind2_eq, sbind3_eq, bcase_eq, gcase_eq, ltt hx, gid hx, cond_true, Option.bind_some]
        refine T.grd (by simp only [List.length_append, List.length_map, List.length_take, List.length_cons, List.length_nil]; omega) (T.ret ?_)
        show _ = _
        rw [inc k (by omega), List.take_succ_eq_append_getElem hk, List.map_append, List.append_assoc]; rfl
      · rintro s rfl
        simp only [Q24_L11_T, Mo.den, sbind_eq, sbind2_eq, sbind3_eq, bcase_eq, gcase_eq, ltn, cond_false]
        exact T.ret (show _ = _ by rw [List.take_length])
    obtain ⟨r, h, rfl⟩ := this; exact h
  unfold Q24 Q24_T Q24_J6 Q24_J6_T Q24_J17 Q24_J17_T parts
  simp only [Mo.den, sbind_eq, sbind2_eq, sbind3_eq, bcase_eq, gcase_eq, h0]
  by_cases a : v.fKind = 6
  · have b : v.fKind ≠ 5 := by omega
    rw [show (v.fKind == 6) = true by simpa using a, show (v.fKind == 5) = false by simpa using b]
    simp [a]
  · rw [show (v.fKind == 6) = false by simpa using a]
    by_cases b : v.fKind = 5
    · rw [show (v.fKind == 5) = true by simpa using b]; simp [a, b, h1]
    · rw [show (v.fKind == 5) = false by simpa using b]; simp [a, b]
theorem parts_bulk {v x : GValue} (h : x ∈ parts v) : bulkL x.lf1 < bulkL v.lf1 := by
  rw [bulk_val v]
  unfold parts at h
  rcases List.mem_append.1 h with h | h
  · split at h
    · have := mem_val h; omega
    · simp at h
  · split at h
    · obtain ⟨f, hf, rfl⟩ := List.mem_map.1 h
      have := mem_field hf; rw [bulk_field] at this; omega
    · simp at h
theorem parts_len (v : GValue) : (parts v).length ≤ bulkL v.lf1 := by
  have hl := len_vals v.fList
  have hd := len_fields v.fDoc
  rw [bulk_val v]
  unfold parts
  rw [List.length_append]
  split <;> split <;> simp <;> omega
theorem levels_tot (n : Nat) : ∀ (F : Nat) (v : GValue) (m : Int), m ≤ n → n < F → bulkL v.lf1 ≤ 100000000 → n ≤ 100 → Tot ((RB3_F F).m1 v m) Any := by
  induction n using Nat.strongRecOn with
  | _ n ih =>
    intro F v m hm hF hb hn
    obtain ⟨F, rfl⟩ : ∃ G, F = G + 1 := ⟨F - 1, by omega⟩
    have hpl := parts_len v
    simp only [RB3_F, Q48_T, Q48_J0, Q48_J0_T, Mo.den, sbind_eq, sbind2_eq, sbind3_eq, bcase_eq, gcase_eq, Parts_val v hb, Option.bind_some]
    by_cases h2 : m < 2
    · rw [decide_eq_true h2]; exact T.any
    · rw [decide_eq_false h2]
      simp only [cond_false, Option.bind_some]
      refine T.ite (fun _ => T.any) (fun _ => T.bind (R := Any) ?_ (fun r _ => T.any))
      refine T.forP (parts v).length (by omega) (fun k s => s.2 = (k : Int)) _ rfl ?_ ?_
      · rintro k ⟨a, i⟩ hk rfl
        have hx := List.getElem?_eq_getElem hk
        have hxb := parts_bulk (mem_at hx)
        simp only [Q48_L5_T, Mo.den, sbind_eq, sbind2_eq, sbind3_eq, bcase_eq, gcase_eq, ltt hx, gid hx, cond_true, Option.bind_some]
        refine T.bind (ih (n - 1) (by omega) F _ _ (by rw [w64 (by omega) (by omega)]; omega) (by omega) (by omega) (by omega)) fun r _ => T.ret ?_
        exact inc k (by omega)
      · rintro ⟨a, i⟩ rfl
        simp only [Q48_L5_T, Mo.den, sbind_eq, sbind2_eq, sbind3_eq, bcase_eq, gcase_eq, ltn, cond_false]
        exact T.ret trivial
theorem count_tot (n : Nat) : ∀ (F : Nat) (v : GValue) (m : Int), m ≤ n → n < F → bulkL v.lf1 ≤ 100000000 → n ≤ 2000 → Tot ((RB4_F F).m1 v m) (fun r => 1 ≤ r ∧ (r ≤ m ∨ r = 1)) := by
  induction n using Nat.strongRecOn with
  | _ n ih =>
    intro F v m hm hF hb hn
    obtain ⟨F, rfl⟩ : ∃ G, F = G + 1 := ⟨F - 1, by omega⟩
    have hpl := parts_len v
    simp only [RB4_F, Q47_T, Mo.den, sbind_eq, sbind2_eq, sbind3_eq, bcase_eq, gcase_eq, Parts_val v hb, Option.bind_some]
    refine T.bind (R := fun r => 1 ≤ r ∧ (r ≤ m ∨ r = 1)) ?_ (fun r h => T.ret h)
    refine T.forP (parts v).length (by omega) (fun k s => s.2 = (k : Int) ∧ 1 ≤ s.1 ∧ (s.1 ≤ m ∨ s.1 = 1)) _ ⟨rfl, by show (1 : Int) ≤ 1; omega, .inr rfl⟩ ?_ ?_
    · rintro k ⟨a, i⟩ hk ⟨h1, h2, h3⟩
      obtain rfl : i = (k : Int) := h1
      have h2 : 1 ≤ a := h2
      have h3 : a ≤ m ∨ a = 1 := h3
      have hx := List.getElem?_eq_getElem hk
      have hxb := parts_bulk (mem_at hx)
      simp only [Q47_L5_T, Q47_J0, Q47_J0_T, Mo.den, sbind_eq, sbind2_eq, sbind3_eq, bcase_eq, gcase_eq, ltt hx, gid hx, cond_true, Option.bind_some]
      refine T.ite (fun h => ?_) (fun h => T.ret ⟨h2, h3⟩)
      have h := of_decide_eq_true h
      refine T.bind (ih (n - 1) (by omega) F _ _ (by rw [w64 (by omega) (by omega)]; omega) (by omega) (by omega) (by omega)) fun r hr => T.ret ?_
      rw [w64 (by omega) (by omega)] at hr
      exact ⟨inc k (by omega), by rw [w64 (by omega) (by omega)]; omega, by rw [w64 (by omega) (by omega)]; omega⟩
    · rintro ⟨a, i⟩ ⟨h1, h2, h3⟩
      obtain rfl : i = ((parts v).length : Int) := h1
      simp only [Q47_L5_T, Q47_J0, Q47_J0_T, Mo.den, sbind_eq, sbind2_eq, sbind3_eq, bcase_eq, gcase_eq, ltn, cond_false, Option.bind_some]
      exact T.ret ⟨h2, h3⟩
theorem FU_big : 1152921504606846975 < FU := by unfold FU; omega
theorem Depth_tot (v : GValue) (hb : bulkL v.lf1 ≤ 100000000) : Tot (Q90 v) Any := by
  simp only [Q90, Q90_T, Mo.den, sbind_eq, sbind2_eq, sbind3_eq, bcase_eq, gcase_eq, Q48]
  exact T.bind (levels_tot 17 FU v 17 (by omega) (by have := FU_big; omega) hb (by omega)) fun r _ => T.any
theorem Nodes_tot (v : GValue) (hb : bulkL v.lf1 ≤ 100000000) : Tot (Q91 v) Any := by
  simp only [Q91, Q91_T, Mo.den, sbind_eq, sbind2_eq, sbind3_eq, bcase_eq, gcase_eq, Q47]
  exact T.bind (count_tot 1025 FU v 1025 (by omega) (by have := FU_big; omega) hb (by omega)) fun r _ => T.any
/-- text -/
theorem tail_tot (s : ByteArray) (i : Nat) (n : Int) (hs : s.size ≤ 100000000) (hi : i ≤ 100000000) (h0 : 0 ≤ n) (h1 : n ≤ 10) : Tot (Q46 s (i : Int) n) (fun b => b = true → (i : Int) + n ≤ s.size) := by
  unfold Q46 Q46_T
  simp only [Mo.den, sbind_eq, sbind2_eq, sbind3_eq, bcase_eq, gcase_eq]
  rw [w64 (by omega) (by omega)]
  refine T.ite (fun _ => T.ret (by simp)) (fun h => ?_)
  have h := of_decide_eq_false h
  obtain ⟨n, rfl⟩ := Int.eq_ofNat_of_zero_le h0
  refine T.bind (R := Any) ?_ ?_
  · refine T.forI n (by omega) _ (fun k hk => ?_) ?_
    · have e : sidx s (IntKind.wrap .i64 ((i : Int) + (k : Int))) = some s[i + k] := by
        rw [w64 (by omega) (by omega), show (i : Int) + (k : Int) = ((i + k : Nat) : Int) by omega]; exact sidx_at s _ (by omega)
      simp only [Q46_L5_T, Q46_J0, Q46_J0_T, Mo.den, sbind_eq, sbind2_eq, sbind3_eq, bcase_eq, gcase_eq, iLt hk, cond_true, e, Option.bind_some]
      refine T.bind (R := Any) (T.ite (fun _ => T.any) (fun _ => T.any)) fun b _ => T.ite (fun _ => T.ret trivial) (fun _ => T.ret rfl)
    · simp only [Q46_L5_T, Mo.den, sbind_eq, sbind2_eq, sbind3_eq, bcase_eq, gcase_eq, ltn, cond_false]
      exact T.ret trivial
  · rintro (r | r) _
    · exact T.ret (by simp)
    · exact T.ret fun _ => by omega
theorem UTF8_tot (s : ByteArray) (hs : s.size ≤ 100000000) : Tot (Q5 s) Any := by
  unfold Q5 Q5_T
  simp only [Mo.den, sbind_eq, sbind2_eq, sbind3_eq, bcase_eq, gcase_eq]
  refine T.bind (R := Any) ?_ (by rintro (r | r) _ <;> exact T.any)
  refine loopM_post (fun v : Int => 0 ≤ v ∧ v ≤ s.size) (fun v : Int => s.size - v.toNat) Any ?_ FU 0 ⟨by omega, by omega⟩ (by have := FU_big; omega)
  rintro v ⟨h0, h1⟩
  obtain ⟨k, rfl⟩ := Int.eq_ofNat_of_zero_le h0
  have key : Tot (Q5_L40_T s (k : Int)).den (LP (fun v' => (k : Int) < v' ∧ v' ≤ s.size) Any) := by
    by_cases hk : k < s.size
    · simp only [Q5_L40_T, Mo.den, sbind_eq, sbind2_eq, sbind3_eq, bcase_eq, gcase_eq, iLt hk, cond_true, sidx_at s k hk, Option.bind_some]
      refine T.bind (R := LP (fun n : Int => (n = 0 ∧ s[k].toNat < 128) ∨ (1 ≤ n ∧ n ≤ 3)) Any) ?_ ?_
      · simp only [Q5, Q5_T, Q5_L40, Q5_L40_T, Q5_J35, Q5_J35_T, Q5_J30, Q5_J30_T, Q5_J25, Q5_J25_T, Q5_J20, Q5_J20_T, Q5_J15, Q5_J15_T, Q5_J10, Q5_J10_T, Q5_J5, Q5_J5_T, Q5_J0, Q5_J0_T, Mo.den, sbind_eq, sbind2_eq, sbind3_eq, bcase_eq, gcase_eq]
        refine T.ite (fun h => T.ret (.inl ⟨rfl, by have := of_decide_eq_true h; omega⟩)) fun _ => T.bind (R := Any) (T.ite (fun _ => T.any) fun _ => T.any) fun b _ => T.ite (fun _ => T.ret (.inr (by omega))) fun _ =>
          T.bind (R := Any) (T.ite (fun _ => T.any) fun _ => T.any) fun b _ => T.ite (fun _ => T.ret (.inr (by omega))) fun _ => T.bind (R := Any) (T.ite (fun _ => T.any) fun _ => T.any) fun b _ => T.ite (fun _ => T.ret (.inr (by omega))) fun _ => T.ret trivial
      · rintro (n | u) hn
        · have hn : (n = 0 ∧ s[k].toNat < 128) ∨ (1 ≤ n ∧ n ≤ 3) := hn
          simp only
          rw [inc k (by omega)]
          refine T.bind (tail_tot s (k + 1) n hs (by omega) (by omega) (by omega)) fun b hb => T.ite (fun _ => T.ret trivial) fun h => ?_
          have hb := hb (by simpa using h)
          have e : ∀ c : Nat, 128 ≤ c → ((s[k].toNat : Int) == (c : Int)) = true → ∃ x, sidx s ((k + 1 : Nat) : Int) = some x := by
            intro c hc h
            have h : (s[k].toNat : Int) = c := by simpa using h
            exact ⟨_, sidx_at s (k + 1) (by omega)⟩
          simp only [Q5, Q5_T, Q5_L40, Q5_L40_T, Q5_J35, Q5_J35_T, Q5_J30, Q5_J30_T, Q5_J25, Q5_J25_T, Q5_J20, Q5_J20_T, Q5_J15, Q5_J15_T, Q5_J10, Q5_J10_T, Q5_J5, Q5_J5_T, Q5_J0, Q5_J0_T, Mo.den, sbind_eq, sbind2_eq, sbind3_eq, bcase_eq, gcase_eq]
          rw [inc k (by omega)]
          refine T.bind (R := Any) (T.ite (fun h => by obtain ⟨x, hx⟩ := e 224 (by omega) h; rw [hx]; exact T.any) fun _ => T.any) fun b1 _ => ?_
          refine T.bind (R := Any) (T.ite (fun h => T.any) fun _ => T.ite (fun h => by obtain ⟨x, hx⟩ := e 237 (by omega) h; rw [hx]; exact T.any) fun _ => T.any) fun b2 _ => ?_
          refine T.bind (R := Any) (T.ite (fun h => T.any) fun _ => T.ite (fun h => by obtain ⟨x, hx⟩ := e 240 (by omega) h; rw [hx]; exact T.any) fun _ => T.any) fun b3 _ => ?_
          refine T.bind (R := Any) (T.ite (fun h => T.any) fun _ => T.ite (fun h => by obtain ⟨x, hx⟩ := e 244 (by omega) h; rw [hx]; exact T.any) fun _ => T.any) fun b4 _ => ?_
          refine T.ite (fun _ => T.ret trivial) fun _ => T.ret ?_
          show (k : Int) < IntKind.wrap .i64 (IntKind.wrap .i64 ((k : Int) + n) + 1) ∧ IntKind.wrap .i64 (IntKind.wrap .i64 ((k : Int) + n) + 1) ≤ s.size
          rw [w64 (x := (k : Int) + n) (by omega) (by omega), w64 (by omega) (by omega)]; omega
        · exact T.ret trivial
    · simp only [Q5_L40_T, Mo.den, sbind_eq, sbind2_eq, sbind3_eq, bcase_eq, gcase_eq, iNlt hk, cond_false]
      exact T.ret trivial
  obtain ⟨r, h2, h3⟩ := key
  rcases r with v' | r
  · have h3 : (k : Int) < v' ∧ v' ≤ s.size := h3
    exact .inl ⟨v', h2, ⟨by omega, h3.2⟩, by omega⟩
  · exact .inr ⟨r, h2, trivial⟩
theorem formed_tot (f : Nat) : (∀ v : GValue, 2 * bulkL v.lf1 + 1 < f → bulkL v.lf1 ≤ 100000000 → Tot ((RB5_F f).m1 v true) Any) ∧ ∀ v : GValue, 2 * bulkL v.lf1 < f → bulkL v.lf1 ≤ 100000000 → Tot ((RB5_F f).m2 v true) Any := by
  induction f with
  | zero => exact ⟨fun v h => by omega, fun v h => by omega⟩
  | succ f ih =>
    refine ⟨fun v h hb => ?_, fun v h hb => ?_⟩
    · have hm2 := ih.2 v (by omega) hb
      have hl := len_vals v.fList
      have hbv := bulk_val v
      simp only [RB5_F, Q0, Q0_T, Q0_L70, Q0_L70_T, Q0_J65, Q0_J65_T, Q0_J60, Q0_J60_T, Q0_J55, Q0_J55_T, Q0_J50, Q0_J50_T, Q0_J45, Q0_J45_T, Q0_J40, Q0_J40_T, Q0_J35, Q0_J35_T, Q0_J30, Q0_J30_T, Q0_J25, Q0_J25_T, Q0_J20, Q0_J20_T, Q0_J15, Q0_J15_T, Q0_J10, Q0_J10_T, Q0_J5, Q0_J5_T, Q0_J0, Q0_J0_T, Mo.den, sbind_eq, sbind2_eq, sbind3_eq, bcase_eq, gcase_eq, Option.bind_some]
      refine T.bind (R := Any) (T.ite (fun _ => T.any) fun _ => T.any) fun _ _ => ?_
      refine T.bind (R := Any) (T.ite (fun _ => T.any) fun _ => T.ite (fun _ => T.any) fun _ => T.any) fun _ _ => T.ite (fun _ => T.any) fun _ => ?_
      refine T.bind (R := Any) (T.ite (fun _ => T.any) fun _ => T.any) fun _ _ => ?_
      refine T.bind (R := Any) (T.ite (fun _ => T.any) fun _ => T.any) fun _ _ => ?_
      refine T.bind (R := Any) (T.ite (fun _ => T.any) fun _ => T.any) fun _ _ => ?_
      refine T.bind (R := Any) (T.ite (fun _ => T.any) fun _ => T.any) fun _ _ => ?_
      refine T.bind (R := Any) (T.ite (fun _ => T.any) fun _ => T.any) fun _ _ => ?_
      refine T.bind (R := Any) (T.ite (fun _ => T.any) fun _ => T.ite (fun _ => T.any) fun _ => T.any) fun _ _ => ?_
      refine T.bind (R := Any) (T.ite (fun _ => T.any) fun _ => T.any) fun _ _ => ?_
      refine T.bind (R := Any) (T.ite (fun _ => T.any) fun _ => T.any) fun _ _ => T.ite (fun _ => T.any) fun _ => ?_
      refine T.ite (fun _ => T.bind (R := Any) (T.ite (fun _ => T.any) fun _ => T.any) fun _ _ => T.any) fun _ => T.ite (fun _ => T.any) fun _ => ?_
      refine T.ite (fun _ => T.bind (R := Any) (T.ite (fun _ => T.bind (UTF8_tot _ (by omega)) fun _ _ => T.any) fun _ => T.any) fun _ _ => T.any) fun _ => T.ite (fun _ => T.any) fun _ => T.ite (fun _ => T.any) fun _ => ?_
      refine T.bind (R := Any) ?_ (by rintro (r | r) _; exact T.any; exact T.bind hm2 fun _ _ => T.any)
      refine T.forL v.fList (by omega) _ (fun k x hx => ?_) ?_
      · have hxb := mem_val (mem_at hx)
        simp only [ltt hx, gid hx, cond_true, Option.bind_some]
        exact T.bind (ih.1 x (by omega) (by omega)) fun b _ => T.ite (fun _ => T.ret trivial) fun _ => T.ret rfl
      · simp only [ltn, cond_false]; exact T.ret trivial
    · have hl := len_fields v.fDoc
      have hbv := bulk_val v
      simp only [RB5_F, Q14, Q14_T, Q14_L21, Q14_L21_T, Q14_L15, Q14_L15_T, Q14_J10, Q14_J10_T, Q14_J5, Q14_J5_T, Q14_J0, Q14_J0_T, Mo.den, sbind_eq, sbind2_eq, sbind3_eq, bcase_eq, gcase_eq, Name_val, cond_true, Option.bind_some, Bool.not_true, cond_false]
      refine T.bind (R := Any) ?_ (by rintro (r | r) _ <;> exact T.any)
      refine T.forL v.fDoc (by omega) _ (fun k x hx => ?_) ?_
      · have hxb := mem_field (mem_at hx)
        have hk := len_at hx
        rw [bulk_field] at hxb
        simp only [ltt hx, gid hx, cond_true, Option.bind_some]
        refine T.bind (R := Any) (T.ite (fun _ => T.any) fun _ => T.any) fun _ _ => ?_
        refine T.bind (R := Any) (T.ite (fun _ => T.any) fun _ => T.bind (ih.1 x.fValue (by omega) (by omega)) fun _ _ => T.any) fun _ _ => T.ite (fun _ => T.ret trivial) fun _ => ?_
        refine T.bind (R := Any) ?_ (by rintro (r | r) _; exact T.ret trivial; exact T.ret rfl)
        refine T.forI k (by omega) _ (fun j hj => ?_) ?_
        · have hy := List.getElem?_eq_getElem (show j < v.fDoc.length by omega)
          simp only [iLt hj, gid hy, cond_true, Option.bind_some]
          exact T.ite (fun _ => T.ret trivial) fun _ => T.ret rfl
        · simp only [ltn, cond_false]; exact T.ret trivial
      · simp only [ltn, cond_false]; exact T.ret trivial
theorem Valid_tot (v : GValue) (hb : bulkL v.lf1 ≤ 100000000) : Tot (Q71 v) Any := by
  simp only [Q71, Q71_T, Mo.den, sbind_eq, sbind2_eq, sbind3_eq, bcase_eq, gcase_eq, Q0]
  refine T.bind (Depth_tot v hb) fun _ _ => T.ite (fun _ => T.bind (Nodes_tot v hb) fun _ _ => T.ite (fun _ => T.bind ((formed_tot FU).1 v (by have := FU_big; omega) hb) fun _ _ => T.any) fun _ => T.any) fun _ => T.any
end Go.Proofs.YtplokbmdcfakbaaGreatDoor
set_option linter.unusedSimpArgs false
set_option linter.unusedVariables false
namespace Go.Proofs.YtplokbmdcfakbaaGreatDoor
open Go.RowKit
theorem plain_tot (f : Nat) : ∀ v : GValue, bulkL v.lf1 < f → bulkL v.lf1 ≤ 100000000 → Tot ((RB6_F f).m1 v) (fun r => r.size ≤ 12 * bulkL v.lf1) := by
  induction f with
  | zero => intro v h; omega
  | succ f ih =>
    intro v h hb
    have hl := len_vals v.fList
    have hd := len_fields v.fDoc
    have hbv := bulk_val v
    have e1 : ∀ n, (numE n).size ≤ 11 := numE_size
    have hL : ∀ s0 : ByteArray, s0.size ≤ 100 → Tot (Q21_L10 (RB6_F f) v s0 0) (fun r => r.size ≤ s0.size + 12 * bulkR (v.fList.map GValue.lf)) := by
      intro s0 hs0
      refine T.forP v.fList.length (by omega) (fun k s => s.2 = (k : Int) ∧ s.1.size ≤ s0.size + 12 * bulkR ((v.fList.take k).map GValue.lf)) _ ⟨rfl, by simp⟩ ?_ ?_
      · rintro k ⟨s, i⟩ hk ⟨h1, h2⟩
        obtain rfl : i = (k : Int) := h1
        have h2 : s.size ≤ s0.size + 12 * bulkR ((v.fList.take k).map GValue.lf) := h2
        have hx := List.getElem?_eq_getElem hk
        have hxb := mem_val (mem_at hx)
        have ht := bulkR_take GValue.lf hx
        have ht2 := bulkR_take_le GValue.lf v.fList k
        rw [GValue.lf_eq] at ht
        simp only [Q21_L10_T, Mo.den, sbind_eq, sbind2_eq, sbind3_eq, bcase_eq, gcase_eq, ltt hx, gid hx, cond_true, Option.bind_some]
        refine T.bind (ih _ (by omega) (by omega)) fun r hr => T.grd (by omega) (T.ret ⟨inc k (by omega), ?_⟩)
        show (s ++ r).size ≤ _
        rw [ByteArray.size_append]; omega
      · rintro ⟨s, i⟩ ⟨h1, h2⟩
        obtain rfl : i = (v.fList.length : Int) := h1
        simp only [Q21_L10_T, Mo.den, sbind_eq, sbind2_eq, sbind3_eq, bcase_eq, gcase_eq, ltn, cond_false]
        rw [List.take_length] at h2
        exact T.ret h2
    have hF : ∀ s0 : ByteArray, s0.size ≤ 100 → Tot (Q21_L16 (RB6_F f) v s0 0) (fun r => r.size ≤ s0.size + 12 * bulkR (v.fDoc.map GField.lf)) := by
      intro s0 hs0
      refine T.forP v.fDoc.length (by omega) (fun k s => s.2 = (k : Int) ∧ s.1.size ≤ s0.size + 12 * bulkR ((v.fDoc.take k).map GField.lf)) _ ⟨rfl, by simp⟩ ?_ ?_
      · rintro k ⟨s, i⟩ hk ⟨h1, h2⟩
        obtain rfl : i = (k : Int) := h1
        have h2 : s.size ≤ s0.size + 12 * bulkR ((v.fDoc.take k).map GField.lf) := h2
        have hx := List.getElem?_eq_getElem hk
        have hxb := mem_field (mem_at hx)
        have ht := bulkR_take GField.lf hx
        have ht2 := bulkR_take_le GField.lf v.fDoc k
        rw [GField.lf_eq] at ht
        have hf := bulk_field v.fDoc[k]
        have hn := e1 (v.fDoc[k].fName.size : Int)
        simp only [Q21_L16_T, Mo.den, sbind_eq, sbind2_eq, sbind3_eq, bcase_eq, gcase_eq, ltt hx, gid hx, cond_true, Option.bind_some, Num_val, ByteArray.size_append]
        refine T.grd (by omega) (T.grd (by omega) (T.bind (ih _ (by omega) (by omega)) fun r hr => T.grd (by omega) (T.ret ⟨inc k (by omega), ?_⟩)))
        show (s ++ numE _ ++ v.fDoc[k].fName ++ r).size ≤ _
        simp only [ByteArray.size_append]; omega
      · rintro ⟨s, i⟩ ⟨h1, h2⟩
        obtain rfl : i = (v.fDoc.length : Int) := h1
        simp only [Q21_L16_T, Mo.den, sbind_eq, sbind2_eq, sbind3_eq, bcase_eq, gcase_eq, ltn, cond_false]
        rw [List.take_length] at h2
        exact T.ret h2
    simp only [RB6_F, Q21_T, Q21_J22, Q21_J22_T, Q21_J0, Q21_J0_T, Q21_J5, Q21_J5_T, Mo.den, sbind_eq, sbind2_eq, sbind3_eq, bcase_eq, gcase_eq, Num_val, Option.bind_some, ByteArray.size_append, size_nums1]
    refine T.bind (R := fun r => r.size ≤ 12 * bulkL v.lf1) ?_ fun r hr => T.ret hr
    have e2 := e1 v.fInt
    have e3 := e1 (v.fText.size : Int)
    have e4 := e1 (v.fList.length : Int)
    have e5 := e1 (v.fDoc.length : Int)
    refine T.bind (R := Any) (T.ite (fun _ => T.any) fun _ => T.any) fun _ _ => ?_
    refine T.ite (fun _ => T.grd (by omega) (T.ret (by simp only [ByteArray.size_append, size_nums1]; omega))) fun _ => ?_
    refine T.ite (fun _ => T.grd (by omega) (T.ret (by simp only [ByteArray.size_append, size_nums1]; omega))) fun _ => ?_
    refine T.bind (R := Any) (T.ite (fun _ => T.any) fun _ => T.any) fun _ _ => ?_
    refine T.ite (fun _ => T.grd (by omega) (T.grd (by omega) (T.ret (by simp only [ByteArray.size_append, size_nums1]; omega)))) fun _ => ?_
    refine T.ite (fun _ => T.grd (by omega) (T.ret (by simp only [ByteArray.size_append, size_nums1]; omega))) fun _ => ?_
    refine T.ite (fun _ => T.grd (by omega) (T.bind (hL _ (by simp only [ByteArray.size_append, size_nums1]; omega)) fun r hr => T.ret (by simp only [ByteArray.size_append, size_nums1] at hr; omega))) fun _ => ?_
    refine T.ite (fun _ => T.grd (by omega) (T.bind (hF _ (by simp only [ByteArray.size_append, size_nums1]; omega)) fun r hr => T.ret (by simp only [ByteArray.size_append, size_nums1] at hr; omega))) fun _ => ?_
    exact T.ret (by simp only [size_nums1]; omega)
theorem Encode_tot (v : GValue) (hb : bulkL v.lf1 ≤ 100000000) : Tot (Q80 v) (fun r => r.1.size ≤ 12 * bulkL v.lf1 ∧ (r.2 = 0 ∨ r.2 = 8)) := by
  simp only [Q80, Q80_T, Mo.den, sbind_eq, sbind2_eq, sbind3_eq, bcase_eq, gcase_eq, Q21]
  refine T.bind (Valid_tot v hb) fun b _ => T.ite (fun _ => T.ret ⟨Nat.zero_le _, .inr rfl⟩) fun _ => ?_
  exact T.bind (plain_tot FU v (by have := FU_big; omega) hb) fun r hr => T.ret ⟨hr, .inl rfl⟩
theorem Length_tot (v : GValue) (hb : bulkL v.lf1 ≤ 100000000) : Tot (Q89 v) (fun r => r.2 = 0 ∨ r.2 = 8) := by
  simp only [Q89, Q89_T, Mo.den, sbind_eq, sbind2_eq, sbind3_eq, bcase_eq, gcase_eq]
  exact T.bind (Encode_tot v hb) fun r hr => T.ret hr.2
theorem gid0 {α : Type} {l : List α} (h : 0 < l.length) : gidx l 0 = some l[0] := gidx_at l 0 h
theorem ID_tot (v : GValue) (hb : bulkL v.lf1 ≤ 100000000) : Tot (Q33 v) (fun r => r.2 = true → 0 < v.fDoc.length) := by
  unfold Q33 Q33_T Q33_J15 Q33_J15_T Q33_J10 Q33_J10_T Q33_J5 Q33_J5_T Q33_J0 Q33_J0_T
  simp only [Mo.den, sbind_eq, sbind2_eq, sbind3_eq, bcase_eq, gcase_eq]
  refine T.bind (R := fun b => b = false → 0 < v.fDoc.length) (T.bind (Valid_tot v hb) fun b _ => T.ite (fun _ => T.ret (by simp)) fun _ => T.ret fun h => ?_) fun b hb => ?_
  · have h : ¬ (v.fDoc.length : Int) = 0 := by simpa using h
    omega
  refine T.bind (R := fun b => b = false → 0 < v.fDoc.length) (T.ite (fun _ => T.ret (by simp)) fun h => ?_) fun c hc => T.ite (fun _ => T.ret (by simp)) fun h => ?_
  · rw [gid0 (hb h)]; exact T.ret fun _ => hb h
  · have h0 := hc h
    rw [gid0 h0]
    simp only [Option.bind_some]
    exact T.bind (R := Any) (T.ite (fun _ => T.any) fun _ => T.any) fun _ _ => T.bind (R := Any) (T.ite (fun _ => T.any) fun _ => T.any) fun _ _ => T.ite (fun _ => T.ret (by simp)) fun _ => T.ret fun _ => h0
theorem Storing_tot' (v : GValue) (hb : bulkL v.lf1 ≤ 100000000) : Tot (Q78 v) (fun e => e = 0 ∨ e = 2 → 0 < v.fDoc.length) := by
  simp only [Q78, Q78_T, Mo.den, sbind_eq, sbind2_eq, sbind3_eq, bcase_eq, gcase_eq]
  refine T.bind (ID_tot v hb) fun r hr => T.ite (fun _ => T.ret (by omega)) fun h => ?_
  have h0 := hr (by simpa using h)
  exact T.bind (Length_tot v hb) fun r hr => T.ite (fun _ => T.ret fun _ => h0) fun _ => T.ite (fun _ => T.ret fun _ => h0) fun _ => T.ret fun _ => h0
theorem Storing_tot (v : GValue) (hb : bulkL v.lf1 ≤ 100000000) : Tot (Q78 v) Any := T.wk (Storing_tot' v hb)
theorem Ints_tot (a b : Int) : Tot (Q72 a b) Any := by
  simp only [Q72, Q72_T, Mo.den, sbind_eq, sbind2_eq, sbind3_eq, bcase_eq, gcase_eq]
  exact T.ite (fun _ => T.any) fun _ => T.ite (fun _ => T.any) fun _ => T.any
theorem Texts_tot (a b : ByteArray) (ha : a.size ≤ 100000000) (hb : b.size ≤ 100000000) : Tot (Q41 a b) Any := by
  unfold Q41 Q41_T Q41_L5 Q41_L5_T Q41_J0 Q41_J0_T
  simp only [Mo.den, sbind_eq, sbind2_eq, sbind3_eq, bcase_eq, gcase_eq]
  refine T.bind (R := Any) ?_ (by rintro (r | r) _; exact T.any; exact T.bind (Ints_tot _ _) fun _ _ => T.any)
  refine T.forI (min a.size b.size) (by omega) _ (fun k hk => ?_) ?_
  · simp only [iLt (show k < a.size by omega), iLt (show k < b.size by omega), cond_true, Option.bind_some, sidx_at a k (by omega), sidx_at b k (by omega)]
    exact T.ite (fun _ => T.bind (Ints_tot _ _) fun _ _ => T.ret trivial) fun _ => T.ret rfl
  · have : (bif decide (((min a.size b.size : Nat) : Int) < (a.size : Int)) then some (decide (((min a.size b.size : Nat) : Int) < (b.size : Int))) else some false) = some false := by
      by_cases h : a.size ≤ b.size
      · rw [Nat.min_eq_left h, ltn]; rfl
      · rw [Nat.min_eq_right (by omega), ltn]; cases decide ((b.size : Int) < (a.size : Int)) <;> rfl
    rw [this]; exact T.ret trivial
theorem Compare_tot0 (f : Nat) : ∀ a b : GValue, bulkL a.lf1 < f → bulkL a.lf1 ≤ 100000000 → bulkL b.lf1 ≤ 100000000 → Tot ((RB9_F f).m1 a b) Any := by
  induction f with
  | zero => intro a b h; omega
  | succ f ih =>
    intro a b h ha hb
    have hla := len_vals a.fList
    have hda := len_fields a.fDoc
    have hlb := len_vals b.fList
    have hdb := len_fields b.fDoc
    have hav := bulk_val a
    have hbv := bulk_val b
    simp only [RB9_F, Q10, Q10_T, Q10_L31, Q10_L31_T, Q10_J26, Q10_J26_T, Q10_J21, Q10_J21_T, Q10_L15, Q10_L15_T, Q10_J10, Q10_J10_T, Q10_J5, Q10_J5_T, Q10_J0, Q10_J0_T, Mo.den, sbind_eq, sbind2_eq, sbind3_eq, bcase_eq, gcase_eq]
    refine T.ite (fun _ => T.bind (Ints_tot _ _) fun _ _ => T.any) fun _ => ?_
    refine T.bind (R := Any) (T.ite (fun _ => T.any) fun _ => T.ite (fun _ => T.any) fun _ => T.any) fun _ _ => T.ite (fun _ => T.bind (Ints_tot _ _) fun _ _ => T.any) fun _ => ?_
    refine T.bind (R := Any) (T.ite (fun _ => T.any) fun _ => T.ite (fun _ => T.any) fun _ => T.any) fun _ _ => T.ite (fun _ => T.bind (Texts_tot _ _ (by omega) (by omega)) fun _ _ => T.any) fun _ => ?_
    refine T.ite (fun _ => ?_) fun _ => T.ite (fun _ => ?_) fun _ => T.any
    · refine T.bind (R := Any) ?_ (by rintro (r | r) _; exact T.any; exact T.bind (Ints_tot _ _) fun _ _ => T.any)
      refine T.forI (min a.fList.length b.fList.length) (by omega) _ (fun k hk => ?_) ?_
      · have hx := List.getElem?_eq_getElem (show k < a.fList.length by omega)
        have hy := List.getElem?_eq_getElem (show k < b.fList.length by omega)
        have hxb := mem_val (mem_at hx)
        have hyb := mem_val (mem_at hy)
        simp only [ltt hx, ltt hy, gid hx, gid hy, cond_true, Option.bind_some]
        exact T.bind (ih _ _ (by omega) (by omega) (by omega)) fun _ _ => T.ite (fun _ => T.ret trivial) fun _ => T.ret rfl
      · have : (bif decide (((min a.fList.length b.fList.length : Nat) : Int) < (a.fList.length : Int)) then some (decide (((min a.fList.length b.fList.length : Nat) : Int) < (b.fList.length : Int))) else some false) = some false := by
          by_cases h : a.fList.length ≤ b.fList.length
          · rw [Nat.min_eq_left h, ltn]; rfl
          · rw [Nat.min_eq_right (by omega), ltn]; cases decide ((b.fList.length : Int) < (a.fList.length : Int)) <;> rfl
        rw [this]; exact T.ret trivial
    · refine T.bind (R := Any) ?_ (by rintro (r | r) _; exact T.any; exact T.bind (Ints_tot _ _) fun _ _ => T.any)
      refine T.forI (min a.fDoc.length b.fDoc.length) (by omega) _ (fun k hk => ?_) ?_
      · have hx := List.getElem?_eq_getElem (show k < a.fDoc.length by omega)
        have hy := List.getElem?_eq_getElem (show k < b.fDoc.length by omega)
        have hxb := mem_field (mem_at hx)
        have hyb := mem_field (mem_at hy)
        rw [bulk_field] at hxb hyb
        simp only [ltt hx, ltt hy, gid hx, gid hy, cond_true, Option.bind_some]
        exact T.bind (Texts_tot _ _ (by omega) (by omega)) fun _ _ => T.bind (R := Any) (T.ite (fun _ => T.bind (ih _ _ (by omega) (by omega) (by omega)) fun _ _ => T.any) fun _ => T.any) fun _ _ => T.ite (fun _ => T.ret trivial) fun _ => T.ret rfl
      · have : (bif decide (((min a.fDoc.length b.fDoc.length : Nat) : Int) < (a.fDoc.length : Int)) then some (decide (((min a.fDoc.length b.fDoc.length : Nat) : Int) < (b.fDoc.length : Int))) else some false) = some false := by
          by_cases h : a.fDoc.length ≤ b.fDoc.length
          · rw [Nat.min_eq_left h, ltn]; rfl
          · rw [Nat.min_eq_right (by omega), ltn]; cases decide ((b.fDoc.length : Int) < (a.fDoc.length : Int)) <;> rfl
        rw [this]; exact T.ret trivial
theorem Compare_tot (a b : GValue) (ha : bulkL a.lf1 ≤ 100000000) (hb : bulkL b.lf1 ≤ 100000000) : Tot (Q10 a b) Any := Compare_tot0 FU a b (by have := FU_big; omega) ha hb
theorem stored_tot (d k : GValue) (hd : bulkL d.lf1 ≤ 100000000) (hk : bulkL k.lf1 ≤ 100000000) : Tot (Q67 d k) Any := by
  have hbv := bulk_val d
  simp only [Q67, Q67_T, Q67_J0, Q67_J0_T, Mo.den, sbind_eq, sbind2_eq, sbind3_eq, bcase_eq, gcase_eq]
  refine T.bind (Storing_tot' d hd) fun e he => T.bind (R := fun b => b = false → 0 < d.fDoc.length) (T.ite (fun _ => T.ret fun h => he (.inr (by simpa using h))) fun h => T.ret fun _ => he (.inl (by simpa using h))) fun b hb => T.ite (fun _ => T.any) fun h => ?_
  have h0 := hb h
  have hm := mem_field (List.getElem_mem h0)
  rw [bulk_field] at hm
  rw [gid0 h0]
  simp only [Option.bind_some]
  exact T.bind (Compare_tot _ _ (by omega) hk) fun _ _ => T.ite (fun _ => T.any) fun _ => T.bind (Storing_tot d hd) fun _ _ => T.any
theorem noSpace_tot (d : GSpace) (hb : bulkL d.lf1 ≤ 100000000) : Tot (Q69 d) Any := by
  have h1 := wrL_le d.lf1
  have h2 := Ap_space d hb ⟨⟨#[]⟩, false, true⟩ rfl (by show 0 + _ ≤ _; omega)
  have hz : bulkL (GSpace.mk ⟨#[]⟩ [] GSchema.z 0 0).lf1 = 25 := by kernel_rfl
  have h3 := wrL_le (GSpace.mk ⟨#[]⟩ [] GSchema.z 0 0).lf1
  have h4 := Ap_space (GSpace.mk ⟨#[]⟩ [] GSchema.z 0 0) (by omega) ⟨⟨#[]⟩, false, true⟩ rfl (by show 0 + _ ≤ _; omega)
  simp only [Q69, Q69_T, Q69_J0, Q69_J0_T, Mo.den, sbind_eq, sbind2_eq, sbind3_eq, bcase_eq, gcase_eq, h2, h4, Option.bind_some]
  exact T.bind (R := Any) (T.ite (fun _ => T.any) fun _ => T.any) fun _ _ => T.ite (fun _ => T.any) fun _ => T.any
theorem noIndex_tot (d : GIndex) (hb : bulkL d.lf1 ≤ 100000000) : Tot (Q87 d) Any := by
  have h1 := wrL_le d.lf1
  have h2 := Ap_index d hb ⟨⟨#[]⟩, false, true⟩ rfl (by show 0 + _ ≤ _; omega)
  have hz : bulkL GIndex.z.lf1 = 31 := by kernel_rfl
  have h3 := wrL_le GIndex.z.lf1
  have h4 := Ap_index GIndex.z (by omega) ⟨⟨#[]⟩, false, true⟩ rfl (by show 0 + _ ≤ _; omega)
  simp only [Q87, Q87_T, Mo.den, sbind_eq, sbind2_eq, sbind3_eq, bcase_eq, gcase_eq, h2, h4, Option.bind_some]
  exact T.any
theorem single_L0_tot (s : GSchema) (hb : bulkL s.lf1 ≤ 100000000) : Tot (Q8_L0 s 0 []) (fun r => bulkR (r.map lfS) ≤ 100000000) := by
  have hl := len_props s.fProps
  rw [bulk_schema] at hb
  have e : ∀ l : List GProp, bulkR ((l.map GProp.fName).map lfS) ≤ bulkR (l.map GProp.lf) := by
    intro l
    induction l with
    | nil => simp
    | cons x l ih => simp only [List.map_cons, bulkR, GProp.lf_eq, bulk_prop, bulk_S]; omega
  have : Tot (Q8_L0 s 0 []) (fun r => r = s.fProps.map GProp.fName) := by
    refine T.forP s.fProps.length (by omega) (fun k v => v = ((k : Int), (s.fProps.take k).map GProp.fName)) _ rfl ?_ ?_
    · rintro k v hk rfl
      have hx := List.getElem?_eq_getElem hk
      simp only [Q8_L0_T, Mo.den, sbind_eq, sbind2_eq, sbind3_eq, bcase_eq, gcase_eq, ltt hx, gid hx, cond_true, Option.bind_some]
      refine T.grd (by simp only [List.length_map, List.length_take, List.length_cons, List.length_nil]; omega) (T.ret ?_)
      show _ = _
      rw [inc k (by omega), List.take_succ_eq_append_getElem hk, List.map_append]; rfl
    · rintro v rfl
      simp only [Q8_L0_T, Mo.den, sbind_eq, sbind2_eq, sbind3_eq, bcase_eq, gcase_eq, ltn, cond_false]
      exact T.ret (show _ = _ by rw [List.take_length])
  refine T.mono this ?_
  rintro r rfl
  have := e s.fProps
  omega
theorem bulk_sName (x : GIndex) : bulkL (GIndex.sName x ⟨#[]⟩).lf1 ≤ bulkL x.lf1 := by
  rw [bulk_index, bulk_index]
  show 6 + 0 + bulkR (x.fKeys.map GOrder.lf) + bulkL x.fWhere.lf1 ≤ _
  omega
/-- for the printed proofs -/
def MT {ρ : Type} (t : Mo ρ) (Q : ρ → Prop) : Prop := Tot t.den Q
namespace MT
variable {ρ α β γ : Type}
theorem ret {f : Fit} {r : ρ} {Q : ρ → Prop} (h : Q r) : MT (.ret f r) Q := ⟨r, rfl, h⟩
theorem any {f : Fit} {r : ρ} : MT (.ret f r) Any := ⟨r, rfl, trivial⟩
theorem say {qs : List Ans} {Φ : List Prop} {ok : AllP Φ} {k : Mo ρ} {Q : ρ → Prop} (h : MT k Q) : MT (.say qs ok k) Q := h
theorem ite {b : Bool} {t : b = true → Mo ρ} {e : b = false → Mo ρ} {Q : ρ → Prop} (h1 : ∀ h, MT (t h) Q) (h2 : ∀ h, MT (e h) Q) : MT (.ite b t e) Q := by
  cases b
  · exact h2 rfl
  · exact h1 rfl
theorem grd {p : Prop} [d : Decidable p] {k : p → Mo ρ} {Q : ρ → Prop} (h : p) (h2 : ∀ h, MT (k h) Q) : MT (.grd p k) Q := by
  unfold MT Tot
  show ∃ r, gcase p _ = some r ∧ Q r
  unfold gcase
  cases d with
  | isTrue hh => exact h2 hh
  | isFalse hh => exact absurd h hh
theorem ask {m : Option α} {k : (a : α) → m = some a → Mo ρ} {R : α → Prop} {Q : ρ → Prop} (h : Tot m R) (h2 : ∀ a h, R a → MT (k a h) Q) : MT (.ask m k) Q := by
  obtain ⟨a, rfl, ha⟩ := h
  exact h2 a rfl ha
theorem ask2 {m : Option (α ⊕ β)} {k1 : (a : α) → m = some (.inl a) → Mo ρ} {k2 : (b : β) → m = some (.inr b) → Mo ρ} {R : α ⊕ β → Prop} {Q : ρ → Prop} (h : Tot m R) (h1 : ∀ a h, R (.inl a) → MT (k1 a h) Q) (h2 : ∀ b h, R (.inr b) → MT (k2 b h) Q) : MT (.ask2 m k1 k2) Q := by
  obtain ⟨a, rfl, ha⟩ := h
  rcases a with a | a
  · exact h1 a rfl ha
  · exact h2 a rfl ha
theorem ask3 {m : Option (α ⊕ β ⊕ γ)} {k1 : (a : α) → m = some (.inl a) → Mo ρ} {k2 : (b : β) → m = some (.inr (.inl b)) → Mo ρ} {k3 : (c : γ) → m = some (.inr (.inr c)) → Mo ρ} {R : α ⊕ β ⊕ γ → Prop} {Q : ρ → Prop} (h : Tot m R) (h1 : ∀ a h, R (.inl a) → MT (k1 a h) Q) (h2 : ∀ b h, R (.inr (.inl b)) → MT (k2 b h) Q) (h3 : ∀ b h, R (.inr (.inr b)) → MT (k3 b h) Q) : MT (.ask3 m k1 k2 k3) Q := by
  obtain ⟨a, rfl, ha⟩ := h
  rcases a with a | a | a
  · exact h1 a rfl ha
  · exact h2 a rfl ha
  · exact h3 a rfl ha
end MT
/-- a call, shut -/
structure Clo {ρ : Type} (m : Option ρ) : Prop where
  h : Tot m Any
namespace MT
variable {ρ α β γ : Type}
theorem askT {m : Option α} {k : (a : α) → m = some a → Mo ρ} {Q : ρ → Prop} (h : Clo m) (h2 : ∀ a h, MT (k a h) Q) : MT (.ask m k) Q := ask h.h fun a h _ => h2 a h
end MT
theorem tot_gidx {α : Type} (l : List α) (i : Int) (h0 : 0 ≤ i) (h1 : i < l.length) : Tot (gidx l i) (fun x => x ∈ l) := by
  obtain ⟨x, h2, h3⟩ := gidx_of h0 h1
  exact ⟨x, h2, List.mem_of_getElem? h3⟩
namespace T
variable {ρ σ : Type}
theorem cntP {T : σ → Option (σ ⊕ ρ)} {s0 : σ} (c : σ → Int) (P : σ → Prop) (Q : ρ → Prop) (h0 : c s0 = 0) (hP : P s0) (step : ∀ (k : Nat) s, k ≤ 100000000 → c s = k → P s → Tot (T s) (LP (fun v => c v = IntKind.wrap .i64 ((k : Int) + 1) ∧ P v ∧ k < 100000000) Q)) : Tot (loopM T FU s0) Q := by
  refine loopM_post (fun s => 0 ≤ c s ∧ c s ≤ 100000000 ∧ P s) (fun s => 100000000 - (c s).toNat) Q ?_ FU s0 ⟨by omega, by omega, hP⟩ (by have := FU_big; omega)
  rintro s ⟨h1, h2, h3⟩
  obtain ⟨r, h4, h5⟩ := step (c s).toNat s (by omega) (by omega) h3
  rcases r with v | r
  · have h5 : c v = IntKind.wrap .i64 (((c s).toNat : Int) + 1) ∧ P v ∧ (c s).toNat < 100000000 := h5
    have h6 := h5.1
    rw [inc _ (by omega)] at h6
    exact .inl ⟨v, h4, ⟨by omega, by omega, h5.2.1⟩, by omega⟩
  · exact .inr ⟨r, h4, h5⟩
theorem cnt {T : Int → Option (Int ⊕ ρ)} (Q : ρ → Prop) (step : ∀ k : Nat, k ≤ 100000000 → Tot (T (k : Int)) (LP (fun v => v = IntKind.wrap .i64 ((k : Int) + 1) ∧ k < 100000000) Q)) : Tot (loopM T FU 0) Q :=
  cntP (fun v => v) (fun _ => True) Q rfl trivial fun k s hk hs _ => by
    obtain rfl : s = (k : Int) := hs
    refine mono (step k hk) ?_
    rintro (v | r) h
    · exact ⟨h.1, trivial, h.2⟩
    · exact h
theorem cntR {α : Type} {T : α × Int → Option ((α × Int) ⊕ ρ)} {a : α} (Q : ρ → Prop) (step : ∀ (a : α) (k : Nat), k ≤ 100000000 → Tot (T (a, (k : Int))) (LP (fun v => v.2 = IntKind.wrap .i64 ((k : Int) + 1) ∧ k < 100000000) Q)) : Tot (loopM T FU (a, 0)) Q :=
  cntP (fun v => v.2) (fun _ => True) Q rfl trivial fun k s hk hs _ => by
    obtain ⟨a, i⟩ := s
    obtain rfl : i = (k : Int) := hs
    refine mono (step a k hk) ?_
    rintro (v | r) h
    · exact ⟨h.1, trivial, h.2⟩
    · exact h
theorem cntL {α : Type} {T : Int × α → Option ((Int × α) ⊕ ρ)} {a : α} (Q : ρ → Prop) (step : ∀ (k : Nat) (a : α), k ≤ 100000000 → Tot (T ((k : Int), a)) (LP (fun v => v.1 = IntKind.wrap .i64 ((k : Int) + 1) ∧ k < 100000000) Q)) : Tot (loopM T FU (0, a)) Q :=
  cntP (fun v => v.1) (fun _ => True) Q rfl trivial fun k s hk hs _ => by
    obtain ⟨i, a⟩ := s
    obtain rfl : i = (k : Int) := hs
    refine mono (step k a hk) ?_
    rintro (v | r) h
    · exact ⟨h.1, trivial, h.2⟩
    · exact h
end T
end Go.Proofs.YtplokbmdcfakbaaGreatDoor
