/- Printed by dec.py. -/
import Derived.Test.YtdnafbfmaphhhaaGreatDoorQBManR
set_option linter.unusedSimpArgs false
set_option linter.unusedVariables false
namespace Go.Proofs.YtdnafbfmaphhhaaGreatDoor
open Go.RowKit
set_option maxRecDepth 20000
set_option maxHeartbeats 4000000
noncomputable section
def Q4_J0_T (p_m : GMember) (v162 : Int) (v163 : Int) (v164 : Int) (x166 : GEntry) : Mo (Bool) :=
 .ite (decide ((x166.fTerm : Int) < v162)) (fun c168 =>
 .say [.gd 18004 true] (ok1 c168) <|
 .ret ⟨[], [1, 4, 5, 6, 33], [], 2⟩ (true)) fun c168 =>
 .say [.gd 18004 false] (ok1 c168) <|
 .ret ⟨[], [1, 4, 5, 6, 33], [], 2⟩ (decide ((p_m.fTerm : Int) < x166.fTerm))
def Q4_J0 (p_m : GMember) (v162 : Int) (v163 : Int) (v164 : Int) (x166 : GEntry) : Option (Bool) := Mo.den (Q4_J0_T p_m v162 v163 v164 x166)
def Q4_J0_S (p_m : GMember) (v163 : Int) (v164 : Int) (x166 : GEntry) (r_ : Bool) : St := ⟨[(1, .ptr 0 0), (4, .lf (.int .i64 v163)), (5, .lf (.int .i64 v164)), (6, .ptr 1 0), (33, .lf (.bool r_))], [.box 25 (.dat (GMember.lf1 p_m)), .box 54 (.agg ((GEntry.lf1 x166).map AV.lf))]⟩
theorem Q4_J0_W {p_m : GMember} {v162 : Int} {v163 : Int} {v164 : Int} {x166 : GEntry} {r_ : Bool} (h : Q4_J0 p_m v162 v163 v164 x166 = some r_) : AWoa_ Tryz.f66 0 [1, 1, 1, 0, 1, 0, 0, 1, 0, 0, 1, 0, 0] [0, 1, 2, 3, 4, 5, 6, 7, 8, 9, 10] (Q4_J0_S p_m v163 v164 x166 r_) ⟨[(1, .ptr 0 0), (3, .lf (.int .i64 v162)), (4, .lf (.int .i64 v163)), (5, .lf (.int .i64 v164)), (6, .ptr 1 0)], [.box 25 (.dat (GMember.lf1 p_m)), .box 54 (.agg ((GEntry.lf1 x166).map AV.lf))]⟩ :=
 seg_T BaseK (Q4_J0_T p_m v162 v163 v164 x166) (Q4_J0_S p_m v163 v164 x166) (by kernel_rfl) h
def Q4_J5_T (p_m : GMember) (r170 : Bool) (v163 : Int) (v164 : Int) (x166 : GEntry) : Mo (Bool) :=
 .ite (r170) (fun c172 =>
 .say [.gd 18011 true] (ok1 c172) <|
 .ret ⟨[], [1, 5, 6, 39], [], 2⟩ (true)) fun c172 =>
 .say [.gd 18011 false] (ok1 c172) <|
 .ret ⟨[], [1, 5, 6, 39], [], 2⟩ (decide ((x166.fStamp : Int) ≤ v163))
def Q4_J5 (p_m : GMember) (r170 : Bool) (v163 : Int) (v164 : Int) (x166 : GEntry) : Option (Bool) := Mo.den (Q4_J5_T p_m r170 v163 v164 x166)
def Q4_J5_S (p_m : GMember) (v164 : Int) (x166 : GEntry) (r_ : Bool) : St := ⟨[(1, .ptr 0 0), (5, .lf (.int .i64 v164)), (6, .ptr 1 0), (39, .lf (.bool r_))], [.box 25 (.dat (GMember.lf1 p_m)), .box 54 (.agg ((GEntry.lf1 x166).map AV.lf))]⟩
theorem Q4_J5_W {p_m : GMember} {r170 : Bool} {v163 : Int} {v164 : Int} {x166 : GEntry} {r_ : Bool} (h : Q4_J5 p_m r170 v163 v164 x166 = some r_) : AWoa_ Tryz.f66 0 [1, 1, 1, 0, 1, 0, 0, 1, 0, 0, 1, 0, 0] [11, 12, 13, 14, 15, 16] (Q4_J5_S p_m v164 x166 r_) ⟨[(1, .ptr 0 0), (4, .lf (.int .i64 v163)), (5, .lf (.int .i64 v164)), (6, .ptr 1 0), (33, .lf (.bool r170))], [.box 25 (.dat (GMember.lf1 p_m)), .box 54 (.agg ((GEntry.lf1 x166).map AV.lf))]⟩ :=
 seg_T BaseK (Q4_J5_T p_m r170 v163 v164 x166) (Q4_J5_S p_m v164 x166) (by kernel_rfl) h
def Q4_J10_T (p_m : GMember) (r174 : Bool) (v164 : Int) (x166 : GEntry) : Mo (Bool) :=
 .ite (r174) (fun c176 =>
 .say [.gd 18017 true] (ok1 c176) <|
 .ret ⟨[], [1, 5, 6, 44], [], 2⟩ (true)) fun c176 =>
 .say [.gd 18017 false] (ok1 c176) <|
 .ret ⟨[], [1, 5, 6, 44], [], 2⟩ (decide ((1099511627776 : Int) < x166.fStamp))
def Q4_J10 (p_m : GMember) (r174 : Bool) (v164 : Int) (x166 : GEntry) : Option (Bool) := Mo.den (Q4_J10_T p_m r174 v164 x166)
def Q4_J10_S (p_m : GMember) (v164 : Int) (x166 : GEntry) (r_ : Bool) : St := ⟨[(1, .ptr 0 0), (5, .lf (.int .i64 v164)), (6, .ptr 1 0), (44, .lf (.bool r_))], [.box 25 (.dat (GMember.lf1 p_m)), .box 54 (.agg ((GEntry.lf1 x166).map AV.lf))]⟩
theorem Q4_J10_W {p_m : GMember} {r174 : Bool} {v164 : Int} {x166 : GEntry} {r_ : Bool} (h : Q4_J10 p_m r174 v164 x166 = some r_) : AWoa_ Tryz.f66 0 [1, 1, 1, 0, 1, 0, 0, 1, 0, 0, 1, 0, 0] [17, 18, 19, 20, 21] (Q4_J10_S p_m v164 x166 r_) ⟨[(1, .ptr 0 0), (5, .lf (.int .i64 v164)), (6, .ptr 1 0), (39, .lf (.bool r174))], [.box 25 (.dat (GMember.lf1 p_m)), .box 54 (.agg ((GEntry.lf1 x166).map AV.lf))]⟩ :=
 seg_T BaseK (Q4_J10_T p_m r174 v164 x166) (Q4_J10_S p_m v164 x166) (by kernel_rfl) h
def Q4_L15_T (p_m : GMember) : (Int × Int × Int) → Mo ((Int × Int × Int) ⊕ (Unit ⊕ Unit)) := fun (v162, v163, v164) =>
 .say [.num p_m.fLog.length] (okc (by simp : p_m.fLog.length = (p_m.fLog.map GEntry.lf).length) ok0) <|
 .ite (decide ((v164 : Int) < (p_m.fLog.length : Int))) (fun c165 =>
 .say [.br true] (ok1 c165) <|
 .ask (gidx p_m.fLog v164) fun x166 h167 =>
 .say [.row (GEntry.lf1 x166)] (okc (gidx_ok GEntry.lf_eq h167 : (0 : Int) ≤ v164 ∧ (p_m.fLog.map GEntry.lf)[v164.toNat]? = some (GEntry.lf1 x166)) ok0) <|
 .ask (Q4_J0 p_m v162 v163 v164 x166) fun r170 h171 =>
 .say [.sg_ 8 11 [1, 3, 4, 5, 6] 2 (Q4_J0_S p_m v163 v164 x166 r170)] (ok1 (Q4_J0_W h171)) <|
 .ask (Q4_J5 p_m r170 v163 v164 x166) fun r174 h175 =>
 .say [.sg_ 8 6 [1, 4, 5, 6, 33] 2 (Q4_J5_S p_m v164 x166 r174)] (ok1 (Q4_J5_W h175)) <|
 .ask (Q4_J10 p_m r174 v164 x166) fun r178 h179 =>
 .say [.sg_ 8 5 [1, 5, 6, 39] 2 (Q4_J10_S p_m v164 x166 r178)] (ok1 (Q4_J10_W h179)) <|
 .ite (r178) (fun c180 =>
 .say [.br true] (ok1 c180) <|
 .ret ⟨[.kill 0], [2], [], 1⟩ (.inr (.inl ()))) fun c180 =>
 .say [.br false] (ok1 c180) <|
 .ret ⟨[], [1, 3, 4, 5], [], 1⟩ (.inl (x166.fTerm, x166.fStamp, IntKind.wrap .i64 (v164 + 1)))) fun c165 =>
 .say [.br false] (ok1 c165) <|
 .ret ⟨[], [1], [], 1⟩ (.inr (.inr (())))
def Q4_L15 (p_m : GMember) (v162 : Int) (v163 : Int) (v164 : Int) : Option (Unit ⊕ Unit) := loopM (fun v_ => (Q4_L15_T p_m v_).den) FU (v162, v163, v164)
def Q4_L15_H (p_m : GMember) : (Int × Int × Int) → St := fun (v162, v163, v164) => ⟨[(1, .ptr 0 0), (3, .lf (.int .i64 v162)), (4, .lf (.int .i64 v163)), (5, .lf (.int .i64 v164))], [.box 25 (.dat (GMember.lf1 p_m))]⟩
def Q4_L15_X (r_ : Unit ⊕ Unit) : Exit := match r_ with
 | .inl o_ => .ret
 | .inr (o_) => .exit 0
def Q4_L15_S (p_m : GMember) (r_ : Unit ⊕ Unit) : St := match r_ with
 | .inl o_ => ⟨[(2, .lf (.bool false))], [.dead]⟩
 | .inr (o_) => ⟨[(1, .ptr 0 0)], [.box 25 (.dat (GMember.lf1 p_m))]⟩
theorem Q4_L15_W {p_m : GMember} {v162 : Int} {v163 : Int} {v164 : Int} {r_ : Unit ⊕ Unit} (h : Q4_L15 p_m v162 v163 v164 = some r_) : AWa_ Tryz.f66 0 [1, 1, 1, 0, 1, 0] (Q4_L15_X r_) (Q4_L15_S p_m r_) (Q4_L15_H p_m (v162, v163, v164)) :=
 loop_T BaseK (body := (Code.sub (bodyC Tryz.f66) [1, 1, 1, 0, 1, 0, 0])) (by kernel_rfl) (Q4_L15_T p_m) (Q4_L15_H p_m) Q4_L15_X (Q4_L15_S p_m) (fun r_ => by rcases r_ with _ | _ <;> rfl) (fun v_ => by kernel_rfl) h
def Q4_J21_T (p_m : GMember) : Mo (Bool) :=
 .ite (decide ((0 : Int) ≤ p_m.fCommit)) (fun c185 =>
 .say [.gd 26003 true, .num p_m.fLog.length] (okc c185 (okc (by simp : p_m.fLog.length = (p_m.fLog.map GEntry.lf).length) ok0)) <|
 .ret ⟨[.kill 0], [59], [], 1⟩ (decide ((p_m.fCommit : Int) ≤ (p_m.fLog.length : Int)))) fun c185 =>
 .say [.gd 26003 false] (ok1 c185) <|
 .ret ⟨[.kill 0], [59], [], 1⟩ (false)
def Q4_J21 (p_m : GMember) : Option (Bool) := Mo.den (Q4_J21_T p_m)
def Q4_J21_S  (r_ : Bool) : St := ⟨[(59, .lf (.bool r_))], [.dead]⟩
theorem Q4_J21_W {p_m : GMember} {r_ : Bool} (h : Q4_J21 p_m = some r_) : AWoa_ Tryz.f66 0 [1, 1, 1, 1, 0] [0, 1, 2, 3, 4, 5, 6, 7, 8, 9, 10] (Q4_J21_S r_) ⟨[(1, .ptr 0 0)], [.box 25 (.dat (GMember.lf1 p_m))]⟩ :=
 seg_T BaseK (Q4_J21_T p_m) Q4_J21_S (by kernel_rfl) h
def Q4_J26_T (r189 : Bool) : Mo (Unit) :=
 .ret ⟨[], [2], [], 1⟩ ()
def Q4_J26 (r189 : Bool) : Option (Unit) := Mo.den (Q4_J26_T r189)
def Q4_J26_S (r189 : Bool) (r_ : Unit) : St := ⟨[(2, .lf (.bool r189))], [.dead]⟩
theorem Q4_J26_W {r189 : Bool} {r_ : Unit} (h : Q4_J26 r189 = some r_) : AWoa_ Tryz.f66 0 [1, 1, 1, 1, 0] [11] (Q4_J26_S r189 r_) ⟨[(59, .lf (.bool r189))], [.dead]⟩ :=
 seg_T BaseK (Q4_J26_T r189) (Q4_J26_S r189) (by kernel_rfl) h
def Q4_T (p_m : GMember) : Mo (Bool) :=
 .say [.num p_m.fLog.length] (okc (by simp : p_m.fLog.length = (p_m.fLog.map GEntry.lf).length) ok0) <|
 .ite (decide ((16384 : Int) < (p_m.fLog.length : Int))) (fun c75 =>
 .say [.br true] (ok1 c75) <|
 .ret (fitN 1) (false)) fun c75 =>
 .say [.br false] (ok1 c75) <|
 .ask2 (Q4_L15 p_m 0 0 0) (fun o183 h182 =>
 .say [.pt_ 0 [1, 3, 4, 5] 1 (Q4_L15_X (.inl o183)) (Q4_L15_S p_m (.inl o183))] (ok1 (Q4_L15_W h182)) <|
 .ret (fitN 1) (false)) fun o184 h182 =>
 .say [.pt_ 0 [1, 3, 4, 5] 1 (Q4_L15_X (.inr (o184))) (Q4_L15_S p_m (.inr (o184)))] (ok1 (Q4_L15_W h182)) <|
 .ask (Q4_J21 p_m) fun r189 h190 =>
 .say [.sg_ 12 11 [1] 1 (Q4_J21_S r189)] (ok1 (Q4_J21_W h190)) <|
 .ask (Q4_J26 r189) fun r191 h192 =>
 .say [.sg_ 12 1 [59] 1 (Q4_J26_S r189 r191)] (ok1 (Q4_J26_W h192)) <|
 .ret (fitN 1) (r189)
def Q4 (p_m : GMember) : Option (Bool) := Mo.den (Q4_T p_m)
theorem Q4_ok (p_m : GMember) (r : Bool) (h : Q4 p_m = some r) : Fn Tryz.prog GI 66 [.dat (GMember.lf1 p_m)] (.lf (.bool r)) :=
 fn_T BaseK Tryz.func66 (by kernel_rfl) (by kernel_rfl) (by kernel_rfl) (Q4_T p_m) (fun r => [.lf (.bool r)]) (by kernel_rfl) h
def Q69_L0_T (p_set : Int) (p_size : Int) : (Int × Int) → Mo ((Int × Int) ⊕ (Int)) := fun (v231, v232) =>
 .ite (decide ((v232 : Int) < p_size)) (fun c233 =>
 .say [.br true] (ok1 c233) <|
 .grd ((0 : Int) ≤ v232) fun h234 =>
 .say [] (okc h234 (okc (by decide : (2 : Int) ≠ 0) ok0)) <|
 .ret ⟨[], [0, 1, 5, 6], [], 0⟩ (.inl (IntKind.wrap .i64 (v231 + (Int.tmod (ishr .i64 p_set v232) 2)), IntKind.wrap .i64 (v232 + 1)))) fun c233 =>
 .say [.br false] (ok1 c233) <|
 .ret ⟨[], [5], [], 0⟩ (.inr (v231))
def Q69_L0 (p_set : Int) (p_size : Int) (v231 : Int) (v232 : Int) : Option (Int) := loopM (fun v_ => (Q69_L0_T p_set p_size v_).den) FU (v231, v232)
def Q69_L0_H (p_set : Int) (p_size : Int) : (Int × Int) → St := fun (v231, v232) => ⟨[(0, .lf (.int .i64 p_set)), (1, .lf (.int .i64 p_size)), (5, .lf (.int .i64 v231)), (6, .lf (.int .i64 v232))], []⟩
def Q69_L0_S  (r_ : Int) : St := ⟨[(5, .lf (.int .i64 r_))], []⟩
theorem Q69_L0_W {p_set : Int} {p_size : Int} {v231 : Int} {v232 : Int} {r_ : Int} (h : Q69_L0 p_set p_size v231 v232 = some r_) : AWa_ Tryz.f67 0 [1, 1, 0, 1, 0] (.exit 0) (Q69_L0_S r_) (Q69_L0_H p_set p_size (v231, v232)) :=
 loop_T BaseK (body := (Code.sub (bodyC Tryz.f67) [1, 1, 0, 1, 0, 0])) (by kernel_rfl) (Q69_L0_T p_set p_size) (Q69_L0_H p_set p_size) (fun _ => .exit 0) Q69_L0_S (fun r_ => rfl) (fun v_ => by kernel_rfl) h
def Q69_T (p_set : Int) (p_size : Int) : Mo (Int) :=
 .ask (Q69_L0 p_set p_size 0 0) fun r236 h237 =>
 .say [.pt_ 0 [0, 1, 5, 6] 0 (.exit 0) (Q69_L0_S r236)] (ok1 (Q69_L0_W h237)) <|
 .ret (fitN 1) (r236)
def Q69 (p_set : Int) (p_size : Int) : Option (Int) := Mo.den (Q69_T p_set p_size)
theorem Q69_ok (p_set : Int) (p_size : Int) (r : Int) (h : Q69 p_set p_size = some r) : Fn Tryz.prog GI 67 [.lf (.int .i64 p_set), .lf (.int .i64 p_size)] (.lf (.int .i64 r)) :=
 fn_T BaseK Tryz.func67 (by kernel_rfl) (by kernel_rfl) (by kernel_rfl) (Q69_T p_set p_size) (fun r => [.lf (.int .i64 r)]) (by kernel_rfl) h
def Q67_J0_T (p_size : Int) : Mo (Bool) :=
 .ite (decide ((p_size : Int) < 1)) (fun c241 =>
 .say [.gd 4002 true] (ok1 c241) <|
 .ret ⟨[], [0, 8], [], 0⟩ (true)) fun c241 =>
 .say [.gd 4002 false] (ok1 c241) <|
 .ret ⟨[], [0, 8], [], 0⟩ (decide ((7 : Int) < p_size))
def Q67_J0 (p_size : Int) : Option (Bool) := Mo.den (Q67_J0_T p_size)
def Q67_J0_S (p_size : Int) (r_ : Bool) : St := ⟨[(0, .lf (.int .i64 p_size)), (8, .lf (.bool r_))], []⟩
theorem Q67_J0_W {p_size : Int} {r_ : Bool} (h : Q67_J0 p_size = some r_) : AWa_ Tryz.f56 0 [1, 0, 0] (.normal) (Q67_J0_S p_size r_) ⟨[(0, .lf (.int .i64 p_size))], []⟩ :=
 part_T BaseK (Q67_J0_T p_size) (fun _ => .normal) (Q67_J0_S p_size) (by kernel_rfl) h
def Q67_T (p_size : Int) : Mo (Int) :=
 .ask (Q67_J0 p_size) fun r243 h244 =>
 .say [.pt_ 9 [0] 0 (.normal) (Q67_J0_S p_size r243)] (ok1 (Q67_J0_W h244)) <|
 .ite (r243) (fun c246 =>
 .say [.br true] (ok1 c246) <|
 .ret (fitN 1) (0)) fun c246 =>
 .say [.br false] (okc c246 (okc (by decide : (2 : Int) ≠ 0) ok0)) <|
 .ret (fitN 1) (IntKind.wrap .i64 ((IntKind.wrap .i64 (Int.tdiv p_size 2)) + 1))
def Q67 (p_size : Int) : Option (Int) := Mo.den (Q67_T p_size)
theorem Q67_ok (p_size : Int) (r : Int) (h : Q67 p_size = some r) : Fn Tryz.prog GI 56 [.lf (.int .i64 p_size)] (.lf (.int .i64 r)) :=
 fn_T BaseK Tryz.func56 (by kernel_rfl) (by kernel_rfl) (by kernel_rfl) (Q67_T p_size) (fun r => [.lf (.int .i64 r)]) (by kernel_rfl) h
def Q21_J0_T (p_l : List Int) (p_most : Int) (v325 : Int) : Mo (Bool) :=
 .ask (gidx p_l v325) fun x327 h328 =>
 .say [.row (lfI x327)] (okc (gidx_ok (fun _ => rfl) h328 : (0 : Int) ≤ v325 ∧ (p_l.map lfI)[v325.toNat]? = some (lfI x327)) ok0) <|
 .ite (decide ((x327 : Int) < 0)) (fun c329 =>
 .say [.gd 10005 true] (ok1 c329) <|
 .ret ⟨[], [0, 1, 5, 24], [], 0⟩ (true)) fun c329 =>
 .say [.gd 10005 false] (ok1 c329) <|
 .ask (gidx p_l v325) fun x330 h331 =>
 .say [.row (lfI x330)] (okc (gidx_ok (fun _ => rfl) h331 : (0 : Int) ≤ v325 ∧ (p_l.map lfI)[v325.toNat]? = some (lfI x330)) ok0) <|
 .ret ⟨[], [0, 1, 5, 24], [], 0⟩ (decide ((p_most : Int) < x330))
def Q21_J0 (p_l : List Int) (p_most : Int) (v325 : Int) : Option (Bool) := Mo.den (Q21_J0_T p_l p_most v325)
def Q21_J0_S (p_l : List Int) (p_most : Int) (v325 : Int) (r_ : Bool) : St := ⟨[(0, .lf (.rows 1 (p_l.map lfI))), (1, .lf (.int .i64 p_most)), (5, .lf (.int .i64 v325)), (24, .lf (.bool r_))], []⟩
theorem Q21_J0_W {p_l : List Int} {p_most : Int} {v325 : Int} {r_ : Bool} (h : Q21_J0 p_l p_most v325 = some r_) : AWa_ Tryz.f68 0 [1, 0, 1, 0, 0, 1, 0, 0, 0] (.normal) (Q21_J0_S p_l p_most v325 r_) ⟨[(0, .lf (.rows 1 (p_l.map lfI))), (1, .lf (.int .i64 p_most)), (5, .lf (.int .i64 v325))], []⟩ :=
 part_T BaseK (Q21_J0_T p_l p_most v325) (fun _ => .normal) (Q21_J0_S p_l p_most v325) (by kernel_rfl) h
def Q21_L5_T (p_l : List Int) (p_most : Int) : (Int) → Mo ((Int) ⊕ (Unit ⊕ Unit)) := fun (v325) =>
 .say [.num p_l.length] (okc (by simp : p_l.length = (p_l.map lfI).length) ok0) <|
 .ite (decide ((v325 : Int) < (p_l.length : Int))) (fun c326 =>
 .say [.br true] (ok1 c326) <|
 .ask (Q21_J0 p_l p_most v325) fun r333 h334 =>
 .say [.pt_ 15 [0, 1, 5] 0 (.normal) (Q21_J0_S p_l p_most v325 r333)] (ok1 (Q21_J0_W h334)) <|
 .ite (r333) (fun c335 =>
 .say [.br true] (ok1 c335) <|
 .ret ⟨[], [4], [], 0⟩ (.inr (.inl ()))) fun c335 =>
 .say [.br false] (ok1 c335) <|
 .ret ⟨[], [0, 1, 5], [], 0⟩ (.inl (IntKind.wrap .i64 (v325 + 1)))) fun c326 =>
 .say [.br false] (ok1 c326) <|
 .ret ⟨[], [], [], 0⟩ (.inr (.inr (())))
def Q21_L5 (p_l : List Int) (p_most : Int) (v325 : Int) : Option (Unit ⊕ Unit) := loopM (fun v_ => (Q21_L5_T p_l p_most v_).den) FU (v325)
def Q21_L5_H (p_l : List Int) (p_most : Int) : (Int) → St := fun (v325) => ⟨[(0, .lf (.rows 1 (p_l.map lfI))), (1, .lf (.int .i64 p_most)), (5, .lf (.int .i64 v325))], []⟩
def Q21_L5_X (r_ : Unit ⊕ Unit) : Exit := match r_ with
 | .inl o_ => .ret
 | .inr (o_) => .exit 0
def Q21_L5_S  (r_ : Unit ⊕ Unit) : St := match r_ with
 | .inl o_ => ⟨[(4, .lf (.bool false))], []⟩
 | .inr (o_) => ⟨[], []⟩
theorem Q21_L5_W {p_l : List Int} {p_most : Int} {v325 : Int} {r_ : Unit ⊕ Unit} (h : Q21_L5 p_l p_most v325 = some r_) : AWa_ Tryz.f68 0 [1, 0, 1, 0] (Q21_L5_X r_) (Q21_L5_S r_) (Q21_L5_H p_l p_most (v325)) :=
 loop_T BaseK (body := (Code.sub (bodyC Tryz.f68) [1, 0, 1, 0, 0])) (by kernel_rfl) (Q21_L5_T p_l p_most) (Q21_L5_H p_l p_most) Q21_L5_X Q21_L5_S (fun r_ => by rcases r_ with _ | _ <;> rfl) (fun v_ => by kernel_rfl) h
def Q21_T (p_l : List Int) (p_most : Int) : Mo (Bool) :=
 .ask2 (Q21_L5 p_l p_most 0) (fun o338 h337 =>
 .say [.pt_ 0 [0, 1, 5] 0 (Q21_L5_X (.inl o338)) (Q21_L5_S (.inl o338))] (ok1 (Q21_L5_W h337)) <|
 .ret (fitN 1) (false)) fun o339 h337 =>
 .say [.pt_ 0 [0, 1, 5] 0 (Q21_L5_X (.inr (o339))) (Q21_L5_S (.inr (o339)))] (ok1 (Q21_L5_W h337)) <|
 .ret (fitN 1) (true)
def Q21 (p_l : List Int) (p_most : Int) : Option (Bool) := Mo.den (Q21_T p_l p_most)
theorem Q21_ok (p_l : List Int) (p_most : Int) (r : Bool) (h : Q21 p_l p_most = some r) : Fn Tryz.prog GI 68 [.lf (.rows 1 (p_l.map lfI)), .lf (.int .i64 p_most)] (.lf (.bool r)) :=
 fn_T BaseK Tryz.func68 (by kernel_rfl) (by kernel_rfl) (by kernel_rfl) (Q21_T p_l p_most) (fun r => [.lf (.bool r)]) (by kernel_rfl) h
def Q0_J0_T (p_m : GMember) : Mo (Bool) :=
 .ite (decide ((p_m.fSize : Int) < 1)) (fun c34 =>
 .say [.gd 4003 true] (ok1 c34) <|
 .ret ⟨[], [1, 11], [], 1⟩ (true)) fun c34 =>
 .say [.gd 4003 false] (ok1 c34) <|
 .ret ⟨[], [1, 11], [], 1⟩ (decide ((7 : Int) < p_m.fSize))
def Q0_J0 (p_m : GMember) : Option (Bool) := Mo.den (Q0_J0_T p_m)
def Q0_J0_S (p_m : GMember) (r_ : Bool) : St := ⟨[(1, .ptr 0 0), (11, .lf (.bool r_))], [.box 25 (.dat (GMember.lf1 p_m))]⟩
theorem Q0_J0_W {p_m : GMember} {r_ : Bool} (h : Q0_J0 p_m = some r_) : AWoa_ Tryz.f32 0 [1, 0, 0] [0, 1, 2, 3, 4, 5, 6, 7] (Q0_J0_S p_m r_) ⟨[(1, .ptr 0 0)], [.box 25 (.dat (GMember.lf1 p_m))]⟩ :=
 seg_T BaseK (Q0_J0_T p_m) (Q0_J0_S p_m) (by kernel_rfl) h
def Q0_J5_T (p_m : GMember) (r36 : Bool) : Mo (Bool) :=
 .ite (r36) (fun c38 =>
 .say [.gd 4008 true] (ok1 c38) <|
 .ret ⟨[], [1, 16], [], 1⟩ (true)) fun c38 =>
 .say [.gd 4008 false] (ok1 c38) <|
 .ret ⟨[], [1, 16], [], 1⟩ (decide ((p_m.fID : Int) < 0))
def Q0_J5 (p_m : GMember) (r36 : Bool) : Option (Bool) := Mo.den (Q0_J5_T p_m r36)
def Q0_J5_S (p_m : GMember) (r_ : Bool) : St := ⟨[(1, .ptr 0 0), (16, .lf (.bool r_))], [.box 25 (.dat (GMember.lf1 p_m))]⟩
theorem Q0_J5_W {p_m : GMember} {r36 : Bool} {r_ : Bool} (h : Q0_J5 p_m r36 = some r_) : AWoa_ Tryz.f32 0 [1, 0, 0] [8, 9, 10, 11, 12] (Q0_J5_S p_m r_) ⟨[(1, .ptr 0 0), (11, .lf (.bool r36))], [.box 25 (.dat (GMember.lf1 p_m))]⟩ :=
 seg_T BaseK (Q0_J5_T p_m r36) (Q0_J5_S p_m) (by kernel_rfl) h
def Q0_J10_T (p_m : GMember) (r40 : Bool) : Mo (Bool) :=
 .ite (r40) (fun c42 =>
 .say [.gd 4013 true] (ok1 c42) <|
 .ret ⟨[], [1, 23], [], 1⟩ (true)) fun c42 =>
 .say [.gd 4013 false] (ok1 c42) <|
 .ret ⟨[], [1, 23], [], 1⟩ (decide ((p_m.fSize : Int) ≤ p_m.fID))
def Q0_J10 (p_m : GMember) (r40 : Bool) : Option (Bool) := Mo.den (Q0_J10_T p_m r40)
def Q0_J10_S (p_m : GMember) (r_ : Bool) : St := ⟨[(1, .ptr 0 0), (23, .lf (.bool r_))], [.box 25 (.dat (GMember.lf1 p_m))]⟩
theorem Q0_J10_W {p_m : GMember} {r40 : Bool} {r_ : Bool} (h : Q0_J10 p_m r40 = some r_) : AWoa_ Tryz.f32 0 [1, 0, 0] [13, 14, 15, 16, 17, 18, 19] (Q0_J10_S p_m r_) ⟨[(1, .ptr 0 0), (16, .lf (.bool r40))], [.box 25 (.dat (GMember.lf1 p_m))]⟩ :=
 seg_T BaseK (Q0_J10_T p_m r40) (Q0_J10_S p_m) (by kernel_rfl) h
def Q0_J15_T (p_m : GMember) (r44 : Bool) : Mo (Bool) :=
 .ite (r44) (fun c46 =>
 .say [.gd 4020 true] (ok1 c46) <|
 .ret ⟨[], [1, 28], [], 1⟩ (true)) fun c46 =>
 .say [.gd 4020 false] (ok1 c46) <|
 .ret ⟨[], [1, 28], [], 1⟩ (decide ((p_m.fTerm : Int) < 0))
def Q0_J15 (p_m : GMember) (r44 : Bool) : Option (Bool) := Mo.den (Q0_J15_T p_m r44)
def Q0_J15_S (p_m : GMember) (r_ : Bool) : St := ⟨[(1, .ptr 0 0), (28, .lf (.bool r_))], [.box 25 (.dat (GMember.lf1 p_m))]⟩
theorem Q0_J15_W {p_m : GMember} {r44 : Bool} {r_ : Bool} (h : Q0_J15 p_m r44 = some r_) : AWoa_ Tryz.f32 0 [1, 0, 0] [20, 21, 22, 23, 24] (Q0_J15_S p_m r_) ⟨[(1, .ptr 0 0), (23, .lf (.bool r44))], [.box 25 (.dat (GMember.lf1 p_m))]⟩ :=
 seg_T BaseK (Q0_J15_T p_m r44) (Q0_J15_S p_m) (by kernel_rfl) h
def Q0_J20_T (p_m : GMember) (r48 : Bool) : Mo (Bool) :=
 .ite (r48) (fun c50 =>
 .say [.gd 4025 true] (ok1 c50) <|
 .ret ⟨[], [1, 33], [], 1⟩ (true)) fun c50 =>
 .say [.gd 4025 false] (ok1 c50) <|
 .ret ⟨[], [1, 33], [], 1⟩ (decide ((p_m.fVote : Int) < (-1)))
def Q0_J20 (p_m : GMember) (r48 : Bool) : Option (Bool) := Mo.den (Q0_J20_T p_m r48)
def Q0_J20_S (p_m : GMember) (r_ : Bool) : St := ⟨[(1, .ptr 0 0), (33, .lf (.bool r_))], [.box 25 (.dat (GMember.lf1 p_m))]⟩
theorem Q0_J20_W {p_m : GMember} {r48 : Bool} {r_ : Bool} (h : Q0_J20 p_m r48 = some r_) : AWoa_ Tryz.f32 0 [1, 0, 0] [25, 26, 27, 28, 29] (Q0_J20_S p_m r_) ⟨[(1, .ptr 0 0), (28, .lf (.bool r48))], [.box 25 (.dat (GMember.lf1 p_m))]⟩ :=
 seg_T BaseK (Q0_J20_T p_m r48) (Q0_J20_S p_m) (by kernel_rfl) h
def Q0_J25_T (p_m : GMember) (r52 : Bool) : Mo (Bool) :=
 .ite (r52) (fun c54 =>
 .say [.gd 4030 true] (ok1 c54) <|
 .ret ⟨[], [1, 40], [], 1⟩ (true)) fun c54 =>
 .say [.gd 4030 false] (ok1 c54) <|
 .ret ⟨[], [1, 40], [], 1⟩ (decide ((p_m.fSize : Int) ≤ p_m.fVote))
def Q0_J25 (p_m : GMember) (r52 : Bool) : Option (Bool) := Mo.den (Q0_J25_T p_m r52)
def Q0_J25_S (p_m : GMember) (r_ : Bool) : St := ⟨[(1, .ptr 0 0), (40, .lf (.bool r_))], [.box 25 (.dat (GMember.lf1 p_m))]⟩
theorem Q0_J25_W {p_m : GMember} {r52 : Bool} {r_ : Bool} (h : Q0_J25 p_m r52 = some r_) : AWoa_ Tryz.f32 0 [1, 0, 0] [30, 31, 32, 33, 34, 35, 36] (Q0_J25_S p_m r_) ⟨[(1, .ptr 0 0), (33, .lf (.bool r52))], [.box 25 (.dat (GMember.lf1 p_m))]⟩ :=
 seg_T BaseK (Q0_J25_T p_m r52) (Q0_J25_S p_m) (by kernel_rfl) h
def Q0_J30_T (p_m : GMember) (r56 : Bool) : Mo (Bool) :=
 .ite (r56) (fun c58 =>
 .say [.gd 4037 true] (ok1 c58) <|
 .ret ⟨[], [1, 45], [], 1⟩ (true)) fun c58 =>
 .say [.gd 4037 false] (ok1 c58) <|
 .ret ⟨[], [1, 45], [], 1⟩ (decide ((p_m.fLeader : Int) < (-1)))
def Q0_J30 (p_m : GMember) (r56 : Bool) : Option (Bool) := Mo.den (Q0_J30_T p_m r56)
def Q0_J30_S (p_m : GMember) (r_ : Bool) : St := ⟨[(1, .ptr 0 0), (45, .lf (.bool r_))], [.box 25 (.dat (GMember.lf1 p_m))]⟩
theorem Q0_J30_W {p_m : GMember} {r56 : Bool} {r_ : Bool} (h : Q0_J30 p_m r56 = some r_) : AWoa_ Tryz.f32 0 [1, 0, 0] [37, 38, 39, 40, 41] (Q0_J30_S p_m r_) ⟨[(1, .ptr 0 0), (40, .lf (.bool r56))], [.box 25 (.dat (GMember.lf1 p_m))]⟩ :=
 seg_T BaseK (Q0_J30_T p_m r56) (Q0_J30_S p_m) (by kernel_rfl) h
def Q0_J35_T (p_m : GMember) (r60 : Bool) : Mo (Bool) :=
 .ite (r60) (fun c62 =>
 .say [.gd 4042 true] (ok1 c62) <|
 .ret ⟨[], [1, 52], [], 1⟩ (true)) fun c62 =>
 .say [.gd 4042 false] (ok1 c62) <|
 .ret ⟨[], [1, 52], [], 1⟩ (decide ((p_m.fSize : Int) ≤ p_m.fLeader))
def Q0_J35 (p_m : GMember) (r60 : Bool) : Option (Bool) := Mo.den (Q0_J35_T p_m r60)
def Q0_J35_S (p_m : GMember) (r_ : Bool) : St := ⟨[(1, .ptr 0 0), (52, .lf (.bool r_))], [.box 25 (.dat (GMember.lf1 p_m))]⟩
theorem Q0_J35_W {p_m : GMember} {r60 : Bool} {r_ : Bool} (h : Q0_J35 p_m r60 = some r_) : AWoa_ Tryz.f32 0 [1, 0, 0] [42, 43, 44, 45, 46, 47, 48] (Q0_J35_S p_m r_) ⟨[(1, .ptr 0 0), (45, .lf (.bool r60))], [.box 25 (.dat (GMember.lf1 p_m))]⟩ :=
 seg_T BaseK (Q0_J35_T p_m r60) (Q0_J35_S p_m) (by kernel_rfl) h
def Q0_J40_T (p_m : GMember) : Mo (Bool) :=
 .ite (decide ((p_m.fRole : Int) < 0)) (fun c195 =>
 .say [.orderT (.q 0 (.q 1 (.q 2 (.q 3 (.q 4 (.q 5 (.q 6 (.q 7 (.q 8 (.q 9 (.q 10 (.q 11 (.q 12 (.q 13 (.q 14 (.q 15 (.q 16 (.q 17 (.q 18 (.q 19 (.q 20 (.q 21 (.q 22 (.q 23 (.q 24 (.q 25 (.q 26 (.q 27 (.l 28 (.q 29 (.q 30 .fin))))))))))))))))))))))))))))))) (some 28) [] [.gd 8003 true] [1, 83] 1 [(1, .ptr 0 0), (83, .lf (.bool true))] [.box 25 (.dat (GMember.lf1 p_m))]] (okc c195 (okc (rfl : (some ⟨[(1, .ptr 0 0), (83, .lf (.bool true))], [.box 25 (.dat (GMember.lf1 p_m))]⟩ : Option St) = some ⟨[(1, .ptr 0 0), (83, .lf (.bool true))], [.box 25 (.dat (GMember.lf1 p_m))]⟩) ok0)) <|
 .ret ⟨[], [1, 83], [], 1⟩ (true)) fun c195 =>
 .say [] (ok1 c195) <|
 .ite (decide ((2 : Int) < p_m.fRole)) (fun c196 =>
 .say [.orderT (.q 0 (.q 1 (.q 2 (.q 3 (.q 4 (.q 5 (.q 6 (.q 7 (.q 8 (.q 9 (.q 10 (.q 11 (.q 12 (.q 13 (.q 14 (.q 15 (.q 16 (.q 17 (.q 18 (.q 19 (.q 20 (.q 21 (.q 22 (.q 23 (.q 24 (.q 25 (.q 26 (.q 27 (.l 28 (.q 29 (.q 30 .fin))))))))))))))))))))))))))))))) (some 28) [] [.gd 8003 false, .gd 8008 true] [1, 83] 1 [(1, .ptr 0 0), (83, .lf (.bool true))] [.box 25 (.dat (GMember.lf1 p_m))]] (okc c196 (okc (rfl : (some ⟨[(1, .ptr 0 0), (83, .lf (.bool true))], [.box 25 (.dat (GMember.lf1 p_m))]⟩ : Option St) = some ⟨[(1, .ptr 0 0), (83, .lf (.bool true))], [.box 25 (.dat (GMember.lf1 p_m))]⟩) ok0)) <|
 .ret ⟨[], [1, 83], [], 1⟩ (true)) fun c196 =>
 .say [] (ok1 c196) <|
 .ite (decide ((p_m.fTimer : Int) < 0)) (fun c197 =>
 .say [.orderT (.q 0 (.q 1 (.q 2 (.q 3 (.q 4 (.q 5 (.q 6 (.q 7 (.q 8 (.q 9 (.q 10 (.q 11 (.q 12 (.q 13 (.q 14 (.q 15 (.q 16 (.q 17 (.q 18 (.q 19 (.q 20 (.q 21 (.q 22 (.q 23 (.q 24 (.q 25 (.q 26 (.q 27 (.l 28 (.q 29 (.q 30 .fin))))))))))))))))))))))))))))))) (some 28) [] [.gd 8003 false, .gd 8008 false, .gd 8013 true] [1, 83] 1 [(1, .ptr 0 0), (83, .lf (.bool true))] [.box 25 (.dat (GMember.lf1 p_m))]] (okc c197 (okc (rfl : (some ⟨[(1, .ptr 0 0), (83, .lf (.bool true))], [.box 25 (.dat (GMember.lf1 p_m))]⟩ : Option St) = some ⟨[(1, .ptr 0 0), (83, .lf (.bool true))], [.box 25 (.dat (GMember.lf1 p_m))]⟩) ok0)) <|
 .ret ⟨[], [1, 83], [], 1⟩ (true)) fun c197 =>
 .say [] (ok1 c197) <|
 .ite (decide ((p_m.fVotes : Int) < 0)) (fun c198 =>
 .say [.orderT (.q 0 (.q 1 (.q 2 (.q 3 (.q 4 (.q 5 (.q 6 (.q 7 (.q 8 (.q 9 (.q 10 (.q 11 (.q 12 (.q 13 (.q 14 (.q 15 (.q 16 (.q 17 (.q 18 (.q 19 (.q 20 (.q 21 (.q 22 (.q 23 (.q 24 (.q 25 (.q 26 (.q 27 (.l 28 (.q 29 (.q 30 .fin))))))))))))))))))))))))))))))) (some 28) [] [.gd 8003 false, .gd 8008 false, .gd 8013 false, .gd 8018 true] [1, 83] 1 [(1, .ptr 0 0), (83, .lf (.bool true))] [.box 25 (.dat (GMember.lf1 p_m))]] (okc c198 (okc (rfl : (some ⟨[(1, .ptr 0 0), (83, .lf (.bool true))], [.box 25 (.dat (GMember.lf1 p_m))]⟩ : Option St) = some ⟨[(1, .ptr 0 0), (83, .lf (.bool true))], [.box 25 (.dat (GMember.lf1 p_m))]⟩) ok0)) <|
 .ret ⟨[], [1, 83], [], 1⟩ (true)) fun c198 =>
 .say [] (ok1 c198) <|
 .grd ((0 : Int) ≤ p_m.fSize) fun h199 =>
 .say [] (ok1 h199) <|
 .ite (decide ((ishl .i64 1 p_m.fSize : Int) ≤ p_m.fVotes)) (fun c200 =>
 .say [.orderT (.q 0 (.q 1 (.q 2 (.q 3 (.q 4 (.q 5 (.q 6 (.q 7 (.q 8 (.q 9 (.q 10 (.q 11 (.q 12 (.q 13 (.q 14 (.q 15 (.q 16 (.q 17 (.q 18 (.q 19 (.q 20 (.q 21 (.q 22 (.q 23 (.q 24 (.q 25 (.q 26 (.q 27 (.l 28 (.q 29 (.q 30 .fin))))))))))))))))))))))))))))))) (some 28) [] [.gd 8003 false, .gd 8008 false, .gd 8013 false, .gd 8018 false, .gd 8026 true] [1, 83] 1 [(1, .ptr 0 0), (83, .lf (.bool true))] [.box 25 (.dat (GMember.lf1 p_m))]] (okc c200 (okc (rfl : (some ⟨[(1, .ptr 0 0), (83, .lf (.bool true))], [.box 25 (.dat (GMember.lf1 p_m))]⟩ : Option St) = some ⟨[(1, .ptr 0 0), (83, .lf (.bool true))], [.box 25 (.dat (GMember.lf1 p_m))]⟩) ok0)) <|
 .ret ⟨[], [1, 83], [], 1⟩ (true)) fun c200 =>
 .say [] (ok1 c200) <|
 .ask (Q4 p_m) fun r201 h202 =>
 .say [.orderT (.q 0 (.q 1 (.q 2 (.q 3 (.q 4 (.q 5 (.q 6 (.q 7 (.q 8 (.q 9 (.q 10 (.q 11 (.q 12 (.q 13 (.q 14 (.q 15 (.q 16 (.q 17 (.q 18 (.q 19 (.q 20 (.q 21 (.q 22 (.q 23 (.q 24 (.q 25 (.q 26 (.q 27 (.l 28 (.q 29 (.q 30 .fin))))))))))))))))))))))))))))))) (some 28) [] [.gd 8003 false, .gd 8008 false, .gd 8013 false, .gd 8018 false, .gd 8026 false, .res (.lf (.bool r201))] [1, 83] 1 [(1, .ptr 0 0), (83, .lf (.bool (!r201)))] [.box 25 (.dat (GMember.lf1 p_m))]] (okc (Q4_ok _ _ h202) (okc (rfl : (some ⟨[(1, .ptr 0 0), (83, .lf (.bool (!r201)))], [.box 25 (.dat (GMember.lf1 p_m))]⟩ : Option St) = some ⟨[(1, .ptr 0 0), (83, .lf (.bool (!r201)))], [.box 25 (.dat (GMember.lf1 p_m))]⟩) ok0)) <|
 .ret ⟨[], [1, 83], [], 1⟩ (!r201)
def Q0_J40 (p_m : GMember) : Option (Bool) := Mo.den (Q0_J40_T p_m)
def Q0_J40_S (p_m : GMember) (r_ : Bool) : St := ⟨[(1, .ptr 0 0), (83, .lf (.bool r_))], [.box 25 (.dat (GMember.lf1 p_m))]⟩
theorem Q0_J40_W {p_m : GMember} {r_ : Bool} (h : Q0_J40 p_m = some r_) : AWa_ Tryz.f32 0 [1, 1, 0, 0] (.normal) (Q0_J40_S p_m r_) ⟨[(1, .ptr 0 0)], [.box 25 (.dat (GMember.lf1 p_m))]⟩ :=
 part_T BaseK (Q0_J40_T p_m) (fun _ => .normal) (Q0_J40_S p_m) (by kernel_rfl) h
def Q0_J45_T (p_m : GMember) : Mo (Bool) :=
 .ite (p_m.fRole != 0) (fun c212 =>
 .say [.gd 12003 true] (ok1 c212) <|
 .ite (decide ((p_m.fTerm : Int) < 1)) (fun c213 =>
 .say [.gd 12007 true] (ok1 c213) <|
 .ret ⟨[], [1, 107], [], 1⟩ (true)) fun c213 =>
 .say [.gd 12007 false] (ok1 c213) <|
 .ite (p_m.fVote != p_m.fID) (fun c214 =>
 .say [.gd 12014 true] (ok1 c214) <|
 .ret ⟨[], [1, 107], [], 1⟩ (true)) fun c214 =>
 .say [.gd 12014 false] (ok1 c214) <|
 .grd ((0 : Int) ≤ p_m.fID) fun h215 =>
 .say [] (okc h215 (okc (by decide : (2 : Int) ≠ 0) ok0)) <|
 .ret ⟨[], [1, 107], [], 1⟩ ((Int.tmod (ishr .i64 p_m.fVotes p_m.fID) 2) == 0)) fun c212 =>
 .say [.gd 12003 false] (ok1 c212) <|
 .ret ⟨[], [1, 107], [], 1⟩ (false)
def Q0_J45 (p_m : GMember) : Option (Bool) := Mo.den (Q0_J45_T p_m)
def Q0_J45_S (p_m : GMember) (r_ : Bool) : St := ⟨[(1, .ptr 0 0), (107, .lf (.bool r_))], [.box 25 (.dat (GMember.lf1 p_m))]⟩
theorem Q0_J45_W {p_m : GMember} {r_ : Bool} (h : Q0_J45 p_m = some r_) : AWa_ Tryz.f32 0 [1, 1, 1, 0, 0] (.normal) (Q0_J45_S p_m r_) ⟨[(1, .ptr 0 0)], [.box 25 (.dat (GMember.lf1 p_m))]⟩ :=
 part_T BaseK (Q0_J45_T p_m) (fun _ => .normal) (Q0_J45_S p_m) (by kernel_rfl) h
def Q0_J50_T (p_m : GMember) (r249 : Int) (r251 : Int) : Mo (Bool) :=
 .ite (p_m.fLeader != (-1)) (fun c356 =>
 .say [.gd 22003 true] (ok1 c356) <|
 .ret ⟨[], [1, 126], [], 1⟩ (true)) fun c356 =>
 .say [.gd 22003 false] (ok1 c356) <|
 .ret ⟨[], [1, 126], [], 1⟩ (decide ((r251 : Int) ≤ r249))
def Q0_J50 (p_m : GMember) (r249 : Int) (r251 : Int) : Option (Bool) := Mo.den (Q0_J50_T p_m r249 r251)
def Q0_J50_S (p_m : GMember) (r_ : Bool) : St := ⟨[(1, .ptr 0 0), (126, .lf (.bool r_))], [.box 25 (.dat (GMember.lf1 p_m))]⟩
theorem Q0_J50_W {p_m : GMember} {r249 : Int} {r251 : Int} {r_ : Bool} (h : Q0_J50 p_m r249 r251 = some r_) : AWa_ Tryz.f32 0 [1, 1, 1, 1, 1, 0, 1, 0, 1, 0, 0] (.normal) (Q0_J50_S p_m r_) ⟨[(1, .ptr 0 0), (3, .lf (.bool (decide ((r251 : Int) ≤ r249))))], [.box 25 (.dat (GMember.lf1 p_m))]⟩ :=
 part_T BaseK (Q0_J50_T p_m r249 r251) (fun _ => .normal) (Q0_J50_S p_m) (by kernel_rfl) h
def Q0_J55_T (p_m : GMember) (r249 : Int) (r251 : Int) : Mo (Bool) :=
 .ite (p_m.fLeader == p_m.fID) (fun c362 =>
 .say [.gd 28005 true] (ok1 c362) <|
 .ret ⟨[], [1, 136], [], 1⟩ (decide ((r251 : Int) ≤ r249))) fun c362 =>
 .say [.gd 28005 false] (ok1 c362) <|
 .ret ⟨[], [1, 136], [], 1⟩ (false)
def Q0_J55 (p_m : GMember) (r249 : Int) (r251 : Int) : Option (Bool) := Mo.den (Q0_J55_T p_m r249 r251)
def Q0_J55_S (p_m : GMember) (r_ : Bool) : St := ⟨[(1, .ptr 0 0), (136, .lf (.bool r_))], [.box 25 (.dat (GMember.lf1 p_m))]⟩
theorem Q0_J55_W {p_m : GMember} {r249 : Int} {r251 : Int} {r_ : Bool} (h : Q0_J55 p_m r249 r251 = some r_) : AWoa_ Tryz.f32 0 [1, 1, 1, 1, 1, 0, 1, 0, 1, 1, 1, 0, 0] [0, 1, 2, 3, 4, 5, 6, 7] (Q0_J55_S p_m r_) ⟨[(1, .ptr 0 0), (3, .lf (.bool (decide ((r251 : Int) ≤ r249))))], [.box 25 (.dat (GMember.lf1 p_m))]⟩ :=
 seg_T BaseK (Q0_J55_T p_m r249 r251) (Q0_J55_S p_m) (by kernel_rfl) h
def Q0_J60_T (p_m : GMember) (r364 : Bool) : Mo (Bool) :=
 .ite (r364) (fun c366 =>
 .say [.gd 28008 true, .num p_m.fNext.length] (okc c366 (okc (by simp : p_m.fNext.length = (p_m.fNext.map lfI).length) ok0)) <|
 .ret ⟨[], [1, 144], [], 1⟩ ((p_m.fNext.length : Int) == p_m.fSize)) fun c366 =>
 .say [.gd 28008 false] (ok1 c366) <|
 .ret ⟨[], [1, 144], [], 1⟩ (false)
def Q0_J60 (p_m : GMember) (r364 : Bool) : Option (Bool) := Mo.den (Q0_J60_T p_m r364)
def Q0_J60_S (p_m : GMember) (r_ : Bool) : St := ⟨[(1, .ptr 0 0), (144, .lf (.bool r_))], [.box 25 (.dat (GMember.lf1 p_m))]⟩
theorem Q0_J60_W {p_m : GMember} {r364 : Bool} {r_ : Bool} (h : Q0_J60 p_m r364 = some r_) : AWoa_ Tryz.f32 0 [1, 1, 1, 1, 1, 0, 1, 0, 1, 1, 1, 0, 0] [8, 9, 10, 11, 12, 13, 14, 15] (Q0_J60_S p_m r_) ⟨[(1, .ptr 0 0), (136, .lf (.bool r364))], [.box 25 (.dat (GMember.lf1 p_m))]⟩ :=
 seg_T BaseK (Q0_J60_T p_m r364) (Q0_J60_S p_m) (by kernel_rfl) h
def Q0_J65_T (p_m : GMember) (r368 : Bool) : Mo (Bool) :=
 .ite (r368) (fun c370 =>
 .say [.gd 28016 true, .num p_m.fMatch.length] (okc c370 (okc (by simp : p_m.fMatch.length = (p_m.fMatch.map lfI).length) ok0)) <|
 .ret ⟨[], [1, 152], [], 1⟩ ((p_m.fMatch.length : Int) == p_m.fSize)) fun c370 =>
 .say [.gd 28016 false] (ok1 c370) <|
 .ret ⟨[], [1, 152], [], 1⟩ (false)
def Q0_J65 (p_m : GMember) (r368 : Bool) : Option (Bool) := Mo.den (Q0_J65_T p_m r368)
def Q0_J65_S (p_m : GMember) (r_ : Bool) : St := ⟨[(1, .ptr 0 0), (152, .lf (.bool r_))], [.box 25 (.dat (GMember.lf1 p_m))]⟩
theorem Q0_J65_W {p_m : GMember} {r368 : Bool} {r_ : Bool} (h : Q0_J65 p_m r368 = some r_) : AWoa_ Tryz.f32 0 [1, 1, 1, 1, 1, 0, 1, 0, 1, 1, 1, 0, 0] [16, 17, 18, 19, 20, 21, 22, 23] (Q0_J65_S p_m r_) ⟨[(1, .ptr 0 0), (144, .lf (.bool r368))], [.box 25 (.dat (GMember.lf1 p_m))]⟩ :=
 seg_T BaseK (Q0_J65_T p_m r368) (Q0_J65_S p_m) (by kernel_rfl) h
def Q0_J70_T (p_m : GMember) (r372 : Bool) : Mo (Bool) :=
 .ite (r372) (fun c374 =>
 .say [.gd 28024 true, .num p_m.fLog.length] (okc c374 (okc (by simp : p_m.fLog.length = (p_m.fLog.map GEntry.lf).length) ok0)) <|
 .ask (Q21 p_m.fNext (p_m.fLog.length : Int)) fun r375 h376 =>
 .say [.res (.lf (.bool r375))] (ok1 (Q21_ok _ _ _ h376)) <|
 .ret ⟨[], [1, 160], [], 1⟩ (r375)) fun c374 =>
 .say [.gd 28024 false] (ok1 c374) <|
 .ret ⟨[], [1, 160], [], 1⟩ (false)
def Q0_J70 (p_m : GMember) (r372 : Bool) : Option (Bool) := Mo.den (Q0_J70_T p_m r372)
def Q0_J70_S (p_m : GMember) (r_ : Bool) : St := ⟨[(1, .ptr 0 0), (160, .lf (.bool r_))], [.box 25 (.dat (GMember.lf1 p_m))]⟩
theorem Q0_J70_W {p_m : GMember} {r372 : Bool} {r_ : Bool} (h : Q0_J70 p_m r372 = some r_) : AWoa_ Tryz.f32 0 [1, 1, 1, 1, 1, 0, 1, 0, 1, 1, 1, 0, 0] [24, 25, 26, 27, 28, 29, 30, 31] (Q0_J70_S p_m r_) ⟨[(1, .ptr 0 0), (152, .lf (.bool r372))], [.box 25 (.dat (GMember.lf1 p_m))]⟩ :=
 seg_T BaseK (Q0_J70_T p_m r372) (Q0_J70_S p_m) (by kernel_rfl) h
def Q0_J75_T (p_m : GMember) (r378 : Bool) : Mo (Bool) :=
 .ite (r378) (fun c380 =>
 .say [.gd 28032 true, .num p_m.fLog.length] (okc c380 (okc (by simp : p_m.fLog.length = (p_m.fLog.map GEntry.lf).length) ok0)) <|
 .ask (Q21 p_m.fMatch (p_m.fLog.length : Int)) fun r381 h382 =>
 .say [.res (.lf (.bool r381))] (ok1 (Q21_ok _ _ _ h382)) <|
 .ret ⟨[.kill 0], [168], [], 1⟩ (r381)) fun c380 =>
 .say [.gd 28032 false] (ok1 c380) <|
 .ret ⟨[.kill 0], [168], [], 1⟩ (false)
def Q0_J75 (p_m : GMember) (r378 : Bool) : Option (Bool) := Mo.den (Q0_J75_T p_m r378)
def Q0_J75_S  (r_ : Bool) : St := ⟨[(168, .lf (.bool r_))], [.dead]⟩
theorem Q0_J75_W {p_m : GMember} {r378 : Bool} {r_ : Bool} (h : Q0_J75 p_m r378 = some r_) : AWoa_ Tryz.f32 0 [1, 1, 1, 1, 1, 0, 1, 0, 1, 1, 1, 0, 0] [32, 33, 34, 35, 36, 37, 38, 39] (Q0_J75_S r_) ⟨[(1, .ptr 0 0), (160, .lf (.bool r378))], [.box 25 (.dat (GMember.lf1 p_m))]⟩ :=
 seg_T BaseK (Q0_J75_T p_m r378) Q0_J75_S (by kernel_rfl) h
def Q0_J80_T (r386 : Bool) : Mo (Unit) :=
 .ret ⟨[], [2], [], 1⟩ ()
def Q0_J80 (r386 : Bool) : Option (Unit) := Mo.den (Q0_J80_T r386)
def Q0_J80_S (r386 : Bool) (r_ : Unit) : St := ⟨[(2, .lf (.bool r386))], [.dead]⟩
theorem Q0_J80_W {r386 : Bool} {r_ : Unit} (h : Q0_J80 r386 = some r_) : AWoa_ Tryz.f32 0 [1, 1, 1, 1, 1, 0, 1, 0, 1, 1, 1, 0, 0] [40] (Q0_J80_S r386 r_) ⟨[(168, .lf (.bool r386))], [.dead]⟩ :=
 seg_T BaseK (Q0_J80_T r386) (Q0_J80_S r386) (by kernel_rfl) h
def Q0_J85_T (p_m : GMember) (r249 : Int) (r251 : Int) : Mo ((Bool) ⊕ Unit) :=
 .ite (p_m.fRole == 1) (fun c355 =>
 .say [.br true] (ok1 c355) <|
 .ask (Q0_J50 p_m r249 r251) fun r358 h359 =>
 .say [.pt_ 27 [1, 3] 1 (.normal) (Q0_J50_S p_m r358)] (ok1 (Q0_J50_W h359)) <|
 .ite (r358) (fun c360 =>
 .say [.br true] (ok1 c360) <|
 .ret ⟨[.kill 0], [2], [], 1⟩ (.inl (false))) fun c360 =>
 .say [.br false] (ok1 c360) <|
 .ret ⟨[], [1], [], 1⟩ (.inr (()))) fun c355 =>
 .say [.br false] (ok1 c355) <|
 .ite (p_m.fRole == 2) (fun c361 =>
 .say [.br true] (ok1 c361) <|
 .ask (Q0_J55 p_m r249 r251) fun r364 h365 =>
 .say [.sg_ 13 8 [1, 3] 1 (Q0_J55_S p_m r364)] (ok1 (Q0_J55_W h365)) <|
 .ask (Q0_J60 p_m r364) fun r368 h369 =>
 .say [.sg_ 13 8 [1, 136] 1 (Q0_J60_S p_m r368)] (ok1 (Q0_J60_W h369)) <|
 .ask (Q0_J65 p_m r368) fun r372 h373 =>
 .say [.sg_ 13 8 [1, 144] 1 (Q0_J65_S p_m r372)] (ok1 (Q0_J65_W h373)) <|
 .ask (Q0_J70 p_m r372) fun r378 h379 =>
 .say [.sg_ 13 8 [1, 152] 1 (Q0_J70_S p_m r378)] (ok1 (Q0_J70_W h379)) <|
 .ask (Q0_J75 p_m r378) fun r386 h387 =>
 .say [.sg_ 13 8 [1, 160] 1 (Q0_J75_S r386)] (ok1 (Q0_J75_W h387)) <|
 .ask (Q0_J80 r386) fun r388 h389 =>
 .say [.sg_ 13 1 [168] 1 (Q0_J80_S r386 r388)] (ok1 (Q0_J80_W h389)) <|
 .ret ⟨[], [2], [], 1⟩ (.inl (r386))) fun c361 =>
 .say [.br false] (ok1 c361) <|
 .ret ⟨[], [1], [], 1⟩ (.inr (()))
def Q0_J85 (p_m : GMember) (r249 : Int) (r251 : Int) : Option ((Bool) ⊕ Unit) := Mo.den (Q0_J85_T p_m r249 r251)
def Q0_J85_X (r_ : (Bool) ⊕ Unit) : Exit := match r_ with
 | .inl o_ => .ret
 | .inr (o_) => .normal
def Q0_J85_S (p_m : GMember) (r_ : (Bool) ⊕ Unit) : St := match r_ with
 | .inl o_ => ⟨[(2, .lf (.bool o_))], [.dead]⟩
 | .inr (o_) => ⟨[(1, .ptr 0 0)], [.box 25 (.dat (GMember.lf1 p_m))]⟩
theorem Q0_J85_W {p_m : GMember} {r249 : Int} {r251 : Int} {r_ : (Bool) ⊕ Unit} (h : Q0_J85 p_m r249 r251 = some r_) : AWa_ Tryz.f32 0 [1, 1, 1, 1, 1, 0, 1] (Q0_J85_X r_) (Q0_J85_S p_m r_) ⟨[(1, .ptr 0 0), (3, .lf (.bool (decide ((r251 : Int) ≤ r249)))), (118, .lf (.int .i64 p_m.fRole))], [.box 25 (.dat (GMember.lf1 p_m))]⟩ :=
 part_T BaseK (Q0_J85_T p_m r249 r251) Q0_J85_X (Q0_J85_S p_m) (by kernel_rfl) h
def Q0_T (p_m : GMember) : Mo (Bool) :=
 .ask (Q0_J0 p_m) fun r36 h37 =>
 .say [.sg_ 1 8 [1] 1 (Q0_J0_S p_m r36)] (ok1 (Q0_J0_W h37)) <|
 .ask (Q0_J5 p_m r36) fun r40 h41 =>
 .say [.sg_ 1 5 [1, 11] 1 (Q0_J5_S p_m r40)] (ok1 (Q0_J5_W h41)) <|
 .ask (Q0_J10 p_m r40) fun r44 h45 =>
 .say [.sg_ 1 7 [1, 16] 1 (Q0_J10_S p_m r44)] (ok1 (Q0_J10_W h45)) <|
 .ask (Q0_J15 p_m r44) fun r48 h49 =>
 .say [.sg_ 1 5 [1, 23] 1 (Q0_J15_S p_m r48)] (ok1 (Q0_J15_W h49)) <|
 .ask (Q0_J20 p_m r48) fun r52 h53 =>
 .say [.sg_ 1 5 [1, 28] 1 (Q0_J20_S p_m r52)] (ok1 (Q0_J20_W h53)) <|
 .ask (Q0_J25 p_m r52) fun r56 h57 =>
 .say [.sg_ 1 7 [1, 33] 1 (Q0_J25_S p_m r56)] (ok1 (Q0_J25_W h57)) <|
 .ask (Q0_J30 p_m r56) fun r60 h61 =>
 .say [.sg_ 1 5 [1, 40] 1 (Q0_J30_S p_m r60)] (ok1 (Q0_J30_W h61)) <|
 .ask (Q0_J35 p_m r60) fun r64 h65 =>
 .say [.sg_ 1 7 [1, 45] 1 (Q0_J35_S p_m r64)] (ok1 (Q0_J35_W h65)) <|
 .ite (r64) (fun c67 =>
 .say [.br true] (ok1 c67) <|
 .ret (fitN 1) (false)) fun c67 =>
 .say [.br false] (ok1 c67) <|
 .ask (Q0_J40 p_m) fun r204 h205 =>
 .say [.pt_ 13 [1] 1 (.normal) (Q0_J40_S p_m r204)] (ok1 (Q0_J40_W h205)) <|
 .ite (r204) (fun c207 =>
 .say [.br true] (ok1 c207) <|
 .ret (fitN 1) (false)) fun c207 =>
 .say [.br false] (ok1 c207) <|
 .ask (Q0_J45 p_m) fun r217 h218 =>
 .say [.pt_ 17 [1] 1 (.normal) (Q0_J45_S p_m r217)] (ok1 (Q0_J45_W h218)) <|
 .ite (r217) (fun c220 =>
 .say [.br true] (ok1 c220) <|
 .ret (fitN 1) (false)) fun c220 =>
 .say [.br false] (ok1 c220) <|
 .ask (Q69 p_m.fVotes p_m.fSize) fun r249 h250 =>
 .say [] (ok1 (Q69_ok _ _ _ h250)) <|
 .ask (Q67 p_m.fSize) fun r251 h252 =>
 .say [.orderT (.q 0 (.q 1 (.q 2 (.q 3 (.q 5 (.q 6 (.l 4 (.l 7 (.q 8 (.q 9 .fin)))))))))) (some 7) [] [.res (.lf (.int .i64 r249)), .res (.lf (.int .i64 r251))] [1, 3] 1 [(1, .ptr 0 0), (3, .lf (.bool (decide ((r251 : Int) ≤ r249))))] [.box 25 (.dat (GMember.lf1 p_m))]] (okc (Q67_ok _ _ h252) (okc (rfl : (some ⟨[(1, .ptr 0 0), (3, .lf (.bool (decide ((r251 : Int) ≤ r249))))], [.box 25 (.dat (GMember.lf1 p_m))]⟩ : Option St) = some ⟨[(1, .ptr 0 0), (3, .lf (.bool (decide ((r251 : Int) ≤ r249))))], [.box 25 (.dat (GMember.lf1 p_m))]⟩) ok0)) <|
 .ask2 (Q0_J85 p_m r249 r251) (fun o394 h393 =>
 .say [.pt_ 6 [1, 3, 118] 1 (Q0_J85_X (.inl o394)) (Q0_J85_S p_m (.inl o394))] (ok1 (Q0_J85_W h393)) <|
 .ret (fitN 1) (o394)) fun o395 h393 =>
 .say [.pt_ 6 [1, 3, 118] 1 (Q0_J85_X (.inr (o395))) (Q0_J85_S p_m (.inr (o395))), .num p_m.fNext.length] (okc (Q0_J85_W h393) (okc (by simp : p_m.fNext.length = (p_m.fNext.map lfI).length) ok0)) <|
 .ite ((p_m.fNext.length : Int) == 0) (fun c396 =>
 .say [.gd 30004 true, .num p_m.fMatch.length] (okc c396 (okc (by simp : p_m.fMatch.length = (p_m.fMatch.map lfI).length) ok0)) <|
 .ret (fitN 1) ((p_m.fMatch.length : Int) == 0)) fun c396 =>
 .say [.gd 30004 false] (ok1 c396) <|
 .ret (fitN 1) (false)
def Q0 (p_m : GMember) : Option (Bool) := Mo.den (Q0_T p_m)
theorem Q0_ok (p_m : GMember) (r : Bool) (h : Q0 p_m = some r) : Fn Tryz.prog GI 32 [.dat (GMember.lf1 p_m)] (.lf (.bool r)) :=
 fn_T BaseK Tryz.func32 (by kernel_rfl) (by kernel_rfl) (by kernel_rfl) (Q0_T p_m) (fun r => [.lf (.bool r)]) (by kernel_rfl) h
def Q108_T (p_m : GMember) : Mo (Bool) :=
 .say [.num p_m.fLog.length] (okc (by simp : p_m.fLog.length = (p_m.fLog.map GEntry.lf).length) ok0) <|
 .ite (decide (((p_m.fLog.length : Int) : Int) ≤ 200)) (fun c1 =>
 .say [.gd 4004 true] (ok1 c1) <|
 .ask (Q0 p_m) fun r397 h398 =>
 .say [.res (.lf (.bool r397))] (ok1 (Q0_ok _ _ h398)) <|
 .ret (fitN 1) (r397)) fun c1 =>
 .say [.gd 4004 false] (ok1 c1) <|
 .ret (fitN 1) (false)
def Q108 (p_m : GMember) : Option (Bool) := Mo.den (Q108_T p_m)
theorem Q108_ok (p_m : GMember) (r : Bool) (h : Q108 p_m = some r) : Fn Tryz.prog GI 10 [.dat (GMember.lf1 p_m)] (.lf (.bool r)) :=
 fn_T BaseK Tryz.func10 (by kernel_rfl) (by kernel_rfl) (by kernel_rfl) (Q108_T p_m) (fun r => [.lf (.bool r)]) (by kernel_rfl) h
def Q117_T (p_id : Int) : Mo (Int) :=
 .ret (fitN 1) (IntKind.wrap .i64 (10 + (IntKind.wrap .i64 (3 * p_id))))
def Q117 (p_id : Int) : Option (Int) := Mo.den (Q117_T p_id)
theorem Q117_ok (p_id : Int) (r : Int) (h : Q117 p_id = some r) : Fn Tryz.prog GI 69 [.lf (.int .i64 p_id)] (.lf (.int .i64 r)) :=
 fn_T BaseK Tryz.func69 (by kernel_rfl) (by kernel_rfl) (by kernel_rfl) (Q117_T p_id) (fun r => [.lf (.int .i64 r)]) (by kernel_rfl) h
def Q29_J0_T (p_id : Int) (p_size : Int) : Mo (Bool) :=
 .ite (decide ((p_size : Int) < 1)) (fun c416 =>
 .say [.gd 4002 true] (ok1 c416) <|
 .ret ⟨[], [0, 1, 4, 11], [], 1⟩ (true)) fun c416 =>
 .say [.gd 4002 false] (ok1 c416) <|
 .ret ⟨[], [0, 1, 4, 11], [], 1⟩ (decide ((7 : Int) < p_size))
def Q29_J0 (p_id : Int) (p_size : Int) : Option (Bool) := Mo.den (Q29_J0_T p_id p_size)
def Q29_J0_S (p_id : Int) (p_size : Int) (r_ : Bool) : St := ⟨[(0, .lf (.int .i64 p_id)), (1, .lf (.int .i64 p_size)), (4, .ptr 0 0), (11, .lf (.bool r_))], [.box 25 (Z25)]⟩
theorem Q29_J0_W {p_id : Int} {p_size : Int} {r_ : Bool} (h : Q29_J0 p_id p_size = some r_) : AWoa_ Tryz.f33 0 [1, 0, 0] [0, 1, 2, 3, 4, 5] (Q29_J0_S p_id p_size r_) ⟨[(0, .lf (.int .i64 p_id)), (1, .lf (.int .i64 p_size)), (4, .ptr 0 0)], [.box 25 (Z25)]⟩ :=
 seg_T BaseK (Q29_J0_T p_id p_size) (Q29_J0_S p_id p_size) (by kernel_rfl) h
def Q29_J5_T (p_id : Int) (p_size : Int) (r418 : Bool) : Mo (Bool) :=
 .ite (r418) (fun c420 =>
 .say [.gd 4006 true] (ok1 c420) <|
 .ret ⟨[], [0, 1, 4, 15], [], 1⟩ (true)) fun c420 =>
 .say [.gd 4006 false] (ok1 c420) <|
 .ret ⟨[], [0, 1, 4, 15], [], 1⟩ (decide ((p_id : Int) < 0))
def Q29_J5 (p_id : Int) (p_size : Int) (r418 : Bool) : Option (Bool) := Mo.den (Q29_J5_T p_id p_size r418)
def Q29_J5_S (p_id : Int) (p_size : Int) (r_ : Bool) : St := ⟨[(0, .lf (.int .i64 p_id)), (1, .lf (.int .i64 p_size)), (4, .ptr 0 0), (15, .lf (.bool r_))], [.box 25 (Z25)]⟩
theorem Q29_J5_W {p_id : Int} {p_size : Int} {r418 : Bool} {r_ : Bool} (h : Q29_J5 p_id p_size r418 = some r_) : AWoa_ Tryz.f33 0 [1, 0, 0] [6, 7, 8, 9] (Q29_J5_S p_id p_size r_) ⟨[(0, .lf (.int .i64 p_id)), (1, .lf (.int .i64 p_size)), (4, .ptr 0 0), (11, .lf (.bool r418))], [.box 25 (Z25)]⟩ :=
 seg_T BaseK (Q29_J5_T p_id p_size r418) (Q29_J5_S p_id p_size) (by kernel_rfl) h
def Q29_J10_T (p_id : Int) (p_size : Int) (r422 : Bool) : Mo (Bool) :=
 .ite (r422) (fun c424 =>
 .say [.gd 4010 true] (ok1 c424) <|
 .ret ⟨[], [0, 1, 4, 20], [], 1⟩ (true)) fun c424 =>
 .say [.gd 4010 false] (ok1 c424) <|
 .ret ⟨[], [0, 1, 4, 20], [], 1⟩ (decide ((p_size : Int) ≤ p_id))
def Q29_J10 (p_id : Int) (p_size : Int) (r422 : Bool) : Option (Bool) := Mo.den (Q29_J10_T p_id p_size r422)
def Q29_J10_S (p_id : Int) (p_size : Int) (r_ : Bool) : St := ⟨[(0, .lf (.int .i64 p_id)), (1, .lf (.int .i64 p_size)), (4, .ptr 0 0), (20, .lf (.bool r_))], [.box 25 (Z25)]⟩
theorem Q29_J10_W {p_id : Int} {p_size : Int} {r422 : Bool} {r_ : Bool} (h : Q29_J10 p_id p_size r422 = some r_) : AWoa_ Tryz.f33 0 [1, 0, 0] [10, 11, 12, 13, 14] (Q29_J10_S p_id p_size r_) ⟨[(0, .lf (.int .i64 p_id)), (1, .lf (.int .i64 p_size)), (4, .ptr 0 0), (15, .lf (.bool r422))], [.box 25 (Z25)]⟩ :=
 seg_T BaseK (Q29_J10_T p_id p_size r422) (Q29_J10_S p_id p_size) (by kernel_rfl) h
def Q29_T (p_id : Int) (p_size : Int) : Mo (GMember × Int) :=
 .ask (Q29_J0 p_id p_size) fun r418 h419 =>
 .say [.sg_ 1 6 [0, 1, 4] 1 (Q29_J0_S p_id p_size r418)] (ok1 (Q29_J0_W h419)) <|
 .ask (Q29_J5 p_id p_size r418) fun r422 h423 =>
 .say [.sg_ 1 4 [0, 1, 4, 11] 1 (Q29_J5_S p_id p_size r422)] (ok1 (Q29_J5_W h423)) <|
 .ask (Q29_J10 p_id p_size r422) fun r426 h427 =>
 .say [.sg_ 1 5 [0, 1, 4, 15] 1 (Q29_J10_S p_id p_size r426)] (ok1 (Q29_J10_W h427)) <|
 .ite (r426) (fun c429 =>
 .say [.br true] (ok1 c429) <|
 .ret (fitN 2) (GMember.z, 1)) fun c429 =>
 .say [.br false] (ok1 c429) <|
 .ask (Q117 p_id) fun r430 h431 =>
 .say [.res (.lf (.int .i64 r430))] (ok1 (Q117_ok _ _ h431)) <|
 .ret (fitN 2) (GMember.sTimer (GMember.sLeader (GMember.sVote (GMember.sSize (GMember.sID GMember.z p_id) p_size) (-1)) (-1)) r430, 0)
def Q29 (p_id : Int) (p_size : Int) : Option (GMember × Int) := Mo.den (Q29_T p_id p_size)
theorem Q29_ok (p_id : Int) (p_size : Int) (r : GMember × Int) (h : Q29 p_id p_size = some r) : Fn Tryz.prog GI 33 [.lf (.int .i64 p_id), .lf (.int .i64 p_size)] (.tup [.dat (GMember.lf1 r.1), .lf (.int .i64 r.2)]) :=
 fn_T BaseK Tryz.func33 (by kernel_rfl) (by kernel_rfl) (by kernel_rfl) (Q29_T p_id p_size) (fun r => [.dat (GMember.lf1 r.1), .lf (.int .i64 r.2)]) (by kernel_rfl) h
def Q107_T (p_term : Int) (p_stamp : Int) : Mo (GEntry) :=
 .ret (fitN 1) (GEntry.mk p_term p_stamp ⟨#[]⟩ 0 (GWrite.sKind GWrite.z 1))
def Q107 (p_term : Int) (p_stamp : Int) : Option (GEntry) := Mo.den (Q107_T p_term p_stamp)
theorem Q107_ok (p_term : Int) (p_stamp : Int) (r : GEntry) (h : Q107 p_term p_stamp = some r) : Fn Tryz.prog GI 34 [.lf (.int .i64 p_term), .lf (.int .i64 p_stamp)] (.dat (GEntry.lf1 r)) :=
 fn_T BaseK Tryz.func34 (by kernel_rfl) (by kernel_rfl) (by kernel_rfl) (Q107_T p_term p_stamp) (fun r => [.dat (GEntry.lf1 r)]) (by kernel_rfl) h
structure RB2 where
 m1 : (p_v : GValue) → Option (GValue)
 ok1 : ∀ (p_v : GValue) (r : GValue), m1 p_v = some r → Fn Tryz.prog GI 209 [.dat (GValue.lf1 p_v)] (.dat (GValue.lf1 r))
 m2 : (p_l : List GValue) → Option (List GValue)
 ok2 : ∀ (p_l : List GValue) (r : List GValue), m2 p_l = some r → FnH Tryz.prog GI 252 [.lf (.rows 5 (p_l.map GValue.lf)), .raw (.func (.func 209) #[] #[])] [] (.lf (.rows 5 (r.map GValue.lf))) []
 m3 : (p_l : List GField) → Option (List GField)
 ok3 : ∀ (p_l : List GField) (r : List GField), m3 p_l = some r → FnH Tryz.prog GI 253 [.lf (.rows 6 (p_l.map GField.lf)), .raw (.func (.func 254) #[] #[])] [] (.lf (.rows 6 (r.map GField.lf))) []
 m4 : (p_f : GField) → Option (GField)
 ok4 : ∀ (p_f : GField) (r : GField), m4 p_f = some r → Fn Tryz.prog GI 254 [.dat (GField.lf1 p_f)] (.dat (GField.lf1 r))
def Q72_T (R_ : RB2) (p_v : GValue) : Mo (GValue) :=
 .ask (R_.m2 p_v.fList) fun r479 h480 =>
 .say [.resH [] (.lf (.rows 5 (r479.map GValue.lf))) []] (ok1 (R_.ok2 _ _ h480)) <|
 .ask (R_.m3 p_v.fDoc) fun r483 h484 =>
 .say [.resH [] (.lf (.rows 6 (r483.map GField.lf))) []] (ok1 (R_.ok3 _ _ h484)) <|
 .ret (fitN 1) (GValue.mk p_v.fKind p_v.fInt p_v.fText r479 r483)
theorem Q72_okT (R_ : RB2) (p_v : GValue) (r : GValue) (h : Mo.den (Q72_T R_ p_v) = some r) : Fn Tryz.prog GI 209 [.dat (GValue.lf1 p_v)] (.dat (GValue.lf1 r)) :=
 fn_T BaseK Tryz.func209 (by kernel_rfl) (by kernel_rfl) (by kernel_rfl) (Q72_T R_ p_v) (fun r => [.dat (GValue.lf1 r)]) (by kernel_rfl) h
def Q32_L0_T (R_ : RB2) (p_l : List GValue) : (Int × (List GValue)) → Mo ((Int × (List GValue)) ⊕ ((List GValue))) := fun (v528, l529) =>
 .ite (decide ((v528 : Int) < (p_l.length : Int))) (fun c530 =>
 .say [.br true] (ok1 c530) <|
 .ask (gidx p_l v528) fun x531 h532 =>
 .say [.row (GValue.lf1 x531)] (okc (gidx_ok GValue.lf_eq h532 : (0 : Int) ≤ v528 ∧ (p_l.map GValue.lf)[v528.toNat]? = some (GValue.lf1 x531)) ok0) <|
 .ask (R_.m1 x531) fun r533 h534 =>
 .say [.res (.dat (GValue.lf1 r533))] (ok1 (R_.ok1 _ _ h534)) <|
 .ask (gidx l529 v528) fun x535 h536 =>
 .say [.row (GValue.lf1 x535), .rows ((l529.set v528.toNat r533).map GValue.lf)] (okc (gidx_lt GValue.lf_eq h536 : (0 : Int) ≤ v528 ∧ v528.toNat < (l529.map GValue.lf).length) (okc (by simp [GValue.lf_eq] : (l529.set v528.toNat r533).map GValue.lf = (l529.map GValue.lf).set v528.toNat (GValue.lf1 r533)) (okc ((gidx_ok GValue.lf_eq h536).2 : (l529.map GValue.lf)[v528.toNat]? = some (GValue.lf1 x535)) ok0))) <|
 .ret ⟨[], [1, 5, 14, 15, 16], [], 1⟩ (.inl (IntKind.wrap .i64 (v528 + 1), l529.set v528.toNat r533))) fun c530 =>
 .say [.br false] (ok1 c530) <|
 .ret ⟨[], [5], [], 1⟩ (.inr (l529))
def Q32_L0 (R_ : RB2) (p_l : List GValue) (v528 : Int) (l529 : List GValue) : Option (((List GValue))) := loopM (fun v_ => (Q32_L0_T R_ p_l v_).den) FU (v528, l529)
def Q32_L0_H (R_ : RB2) (p_l : List GValue) : (Int × (List GValue)) → St := fun (v528, l529) => ⟨[(1, .raw (.func (.func 209) #[] #[])), (5, .own 0), (14, .lf (.rows 5 (p_l.map GValue.lf))), (15, .lf (.int .i64 (p_l.length : Int))), (16, .lf (.int .i64 v528))], [.row 29 5 (l529.map GValue.lf)]⟩
def Q32_L0_S  (r_ : ((List GValue))) : St := ⟨[(5, .own 0)], [.row 29 5 (r_.map GValue.lf)]⟩
theorem Q32_L0_W {R_ : RB2} {p_l : List GValue} {v528 : Int} {l529 : List GValue} {r_ : ((List GValue))} (h : Q32_L0 R_ p_l v528 l529 = some r_) : AWa_ Tryz.f252 0 [1, 1, 1, 0, 1, 0] (.exit 0) (Q32_L0_S r_) (Q32_L0_H R_ p_l (v528, l529)) :=
 loop_T BaseK (body := (Code.sub (bodyC Tryz.f252) [1, 1, 1, 0, 1, 0, 0])) (by kernel_rfl) (Q32_L0_T R_ p_l) (Q32_L0_H R_ p_l) (fun _ => .exit 0) Q32_L0_S (fun r_ => rfl) (fun v_ => by kernel_rfl) h
def Q32_T (R_ : RB2) (p_l : List GValue) : Mo (List GValue) :=
 .say [.num p_l.length] (okc (by simp : p_l.length = (p_l.map GValue.lf).length) ok0) <|
 .ite ((p_l.length : Int) == 0) (fun c486 =>
 .say [.br true] (ok1 c486) <|
 .ret ⟨[.nil 0 5, .tod 0], [0], [], 0⟩ ([])) fun c486 =>
 .say [.br false, .num p_l.length, .rows ((List.replicate (p_l.length : Int).toNat (GValue.mk 0 0 ⟨#[]⟩ [] [])).map GValue.lf), .num p_l.length] (okc c486 (okc (by simp : p_l.length = (p_l.map GValue.lf).length) (okc (by simp [GValue.lf_eq] : (List.replicate (p_l.length : Int).toNat (GValue.mk 0 0 ⟨#[]⟩ [] [])).map GValue.lf = List.replicate (p_l.length : Int).toNat (GValue.lf1 (GValue.mk 0 0 ⟨#[]⟩ [] []))) ok0))) <|
 .grd ((0 : Int) ≤ (p_l.length : Int) ∧ 80 * (p_l.length : Int).toNat ≤ 281474976710656 ∧ (p_l.length : Int).toNat ≤ maxLen) fun h488 =>
 .say [] (okc (⟨rfl, h488⟩ : ((p_l.length : Int) : Int) = (p_l.length : Int) ∧ (0 : Int) ≤ (p_l.length : Int) ∧ 80 * (p_l.length : Int).toNat ≤ 281474976710656 ∧ (p_l.length : Int).toNat ≤ maxLen) (okc (by simp : p_l.length = (p_l.map GValue.lf).length) ok0)) <|
 .ask (Q32_L0 R_ p_l 0 (List.replicate (p_l.length : Int).toNat (GValue.mk 0 0 ⟨#[]⟩ [] []))) fun r538 h539 =>
 .say [.pt_ 0 [1, 5, 14, 15, 16] 1 (.exit 0) (Q32_L0_S r538)] (ok1 (Q32_L0_W h539)) <|
 .ret ⟨[.frz 0], [0], [], 0⟩ (r538)
theorem Q32_okT (R_ : RB2) (p_l : List GValue) (r : List GValue) (h : Mo.den (Q32_T R_ p_l) = some r) : FnH Tryz.prog GI 252 [.lf (.rows 5 (p_l.map GValue.lf)), .raw (.func (.func 209) #[] #[])] [] (.lf (.rows 5 (r.map GValue.lf))) [] :=
 fn_TH BaseK Tryz.func252 (by kernel_rfl) (by kernel_rfl) (by kernel_rfl) (Q32_T R_ p_l) (fun r => [.lf (.rows 5 (r.map GValue.lf))]) (fun r => []) (by kernel_rfl) h
def Q56_L0_T (R_ : RB2) (p_l : List GField) : (Int × (List GField)) → Mo ((Int × (List GField)) ⊕ ((List GField))) := fun (v583, l584) =>
 .ite (decide ((v583 : Int) < (p_l.length : Int))) (fun c585 =>
 .say [.br true] (ok1 c585) <|
 .ask (gidx p_l v583) fun x586 h587 =>
 .say [.row (GField.lf1 x586)] (okc (gidx_ok GField.lf_eq h587 : (0 : Int) ≤ v583 ∧ (p_l.map GField.lf)[v583.toNat]? = some (GField.lf1 x586)) ok0) <|
 .ask (R_.m4 x586) fun r588 h589 =>
 .say [.res (.dat (GField.lf1 r588))] (ok1 (R_.ok4 _ _ h589)) <|
 .ask (gidx l584 v583) fun x590 h591 =>
 .say [.row (GField.lf1 x590), .rows ((l584.set v583.toNat r588).map GField.lf)] (okc (gidx_lt GField.lf_eq h591 : (0 : Int) ≤ v583 ∧ v583.toNat < (l584.map GField.lf).length) (okc (by simp [GField.lf_eq] : (l584.set v583.toNat r588).map GField.lf = (l584.map GField.lf).set v583.toNat (GField.lf1 r588)) (okc ((gidx_ok GField.lf_eq h591).2 : (l584.map GField.lf)[v583.toNat]? = some (GField.lf1 x590)) ok0))) <|
 .ret ⟨[], [1, 5, 14, 15, 16], [], 1⟩ (.inl (IntKind.wrap .i64 (v583 + 1), l584.set v583.toNat r588))) fun c585 =>
 .say [.br false] (ok1 c585) <|
 .ret ⟨[], [5], [], 1⟩ (.inr (l584))
def Q56_L0 (R_ : RB2) (p_l : List GField) (v583 : Int) (l584 : List GField) : Option (((List GField))) := loopM (fun v_ => (Q56_L0_T R_ p_l v_).den) FU (v583, l584)
def Q56_L0_H (R_ : RB2) (p_l : List GField) : (Int × (List GField)) → St := fun (v583, l584) => ⟨[(1, .raw (.func (.func 254) #[] #[])), (5, .own 0), (14, .lf (.rows 6 (p_l.map GField.lf))), (15, .lf (.int .i64 (p_l.length : Int))), (16, .lf (.int .i64 v583))], [.row 174 6 (l584.map GField.lf)]⟩
def Q56_L0_S  (r_ : ((List GField))) : St := ⟨[(5, .own 0)], [.row 174 6 (r_.map GField.lf)]⟩
theorem Q56_L0_W {R_ : RB2} {p_l : List GField} {v583 : Int} {l584 : List GField} {r_ : ((List GField))} (h : Q56_L0 R_ p_l v583 l584 = some r_) : AWa_ Tryz.f253 0 [1, 1, 1, 0, 1, 0] (.exit 0) (Q56_L0_S r_) (Q56_L0_H R_ p_l (v583, l584)) :=
 loop_T BaseK (body := (Code.sub (bodyC Tryz.f253) [1, 1, 1, 0, 1, 0, 0])) (by kernel_rfl) (Q56_L0_T R_ p_l) (Q56_L0_H R_ p_l) (fun _ => .exit 0) Q56_L0_S (fun r_ => rfl) (fun v_ => by kernel_rfl) h
def Q56_T (R_ : RB2) (p_l : List GField) : Mo (List GField) :=
 .say [.num p_l.length] (okc (by simp : p_l.length = (p_l.map GField.lf).length) ok0) <|
 .ite ((p_l.length : Int) == 0) (fun c541 =>
 .say [.br true] (ok1 c541) <|
 .ret ⟨[.nil 0 6, .tod 0], [0], [], 0⟩ ([])) fun c541 =>
 .say [.br false, .num p_l.length, .rows ((List.replicate (p_l.length : Int).toNat (GField.mk ⟨#[]⟩ (GValue.mk 0 0 ⟨#[]⟩ [] []))).map GField.lf), .num p_l.length] (okc c541 (okc (by simp : p_l.length = (p_l.map GField.lf).length) (okc (by simp [GField.lf_eq] : (List.replicate (p_l.length : Int).toNat (GField.mk ⟨#[]⟩ (GValue.mk 0 0 ⟨#[]⟩ [] []))).map GField.lf = List.replicate (p_l.length : Int).toNat (GField.lf1 (GField.mk ⟨#[]⟩ (GValue.mk 0 0 ⟨#[]⟩ [] [])))) ok0))) <|
 .grd ((0 : Int) ≤ (p_l.length : Int) ∧ 96 * (p_l.length : Int).toNat ≤ 281474976710656 ∧ (p_l.length : Int).toNat ≤ maxLen) fun h543 =>
 .say [] (okc (⟨rfl, h543⟩ : ((p_l.length : Int) : Int) = (p_l.length : Int) ∧ (0 : Int) ≤ (p_l.length : Int) ∧ 96 * (p_l.length : Int).toNat ≤ 281474976710656 ∧ (p_l.length : Int).toNat ≤ maxLen) (okc (by simp : p_l.length = (p_l.map GField.lf).length) ok0)) <|
 .ask (Q56_L0 R_ p_l 0 (List.replicate (p_l.length : Int).toNat (GField.mk ⟨#[]⟩ (GValue.mk 0 0 ⟨#[]⟩ [] [])))) fun r593 h594 =>
 .say [.pt_ 0 [1, 5, 14, 15, 16] 1 (.exit 0) (Q56_L0_S r593)] (ok1 (Q56_L0_W h594)) <|
 .ret ⟨[.frz 0], [0], [], 0⟩ (r593)
theorem Q56_okT (R_ : RB2) (p_l : List GField) (r : List GField) (h : Mo.den (Q56_T R_ p_l) = some r) : FnH Tryz.prog GI 253 [.lf (.rows 6 (p_l.map GField.lf)), .raw (.func (.func 254) #[] #[])] [] (.lf (.rows 6 (r.map GField.lf))) [] :=
 fn_TH BaseK Tryz.func253 (by kernel_rfl) (by kernel_rfl) (by kernel_rfl) (Q56_T R_ p_l) (fun r => [.lf (.rows 6 (r.map GField.lf))]) (fun r => []) (by kernel_rfl) h
def Q124_T (R_ : RB2) (p_f : GField) : Mo (GField) :=
 .say [.order [(true, 0), (true, 1), (true, 2), (true, 3), (false, 4), (true, 5), (false, 6)] (some 6) []] ok0 <|
 .ask (R_.m1 p_f.fValue) fun r595 h596 =>
 .say [.res (.dat (GValue.lf1 r595))] (ok1 (R_.ok1 _ _ h596)) <|
 .ret (fitN 1) (GField.mk p_f.fName r595)
theorem Q124_okT (R_ : RB2) (p_f : GField) (r : GField) (h : Mo.den (Q124_T R_ p_f) = some r) : Fn Tryz.prog GI 254 [.dat (GField.lf1 p_f)] (.dat (GField.lf1 r)) :=
 fn_T BaseK Tryz.func254 (by kernel_rfl) (by kernel_rfl) (by kernel_rfl) (Q124_T R_ p_f) (fun r => [.dat (GField.lf1 r)]) (by kernel_rfl) h
def RB2_F : Nat → RB2
 | 0 => { m1 := fun p_v => none, ok1 := fun _ _ h => (by cases h), m2 := fun p_l => none, ok2 := fun _ _ h => (by cases h), m3 := fun p_l => none, ok3 := fun _ _ h => (by cases h), m4 := fun p_f => none, ok4 := fun _ _ h => (by cases h) }
 | n_ + 1 => { m1 := fun p_v => Mo.den (Q72_T (RB2_F n_) p_v), ok1 := fun p_v r h => Q72_okT (RB2_F n_) p_v r h, m2 := fun p_l => Mo.den (Q32_T (RB2_F n_) p_l), ok2 := fun p_l r h => Q32_okT (RB2_F n_) p_l r h, m3 := fun p_l => Mo.den (Q56_T (RB2_F n_) p_l), ok3 := fun p_l r h => Q56_okT (RB2_F n_) p_l r h, m4 := fun p_f => Mo.den (Q124_T (RB2_F n_) p_f), ok4 := fun p_f r h => Q124_okT (RB2_F n_) p_f r h }
def Q72 (p_v : GValue) : Option (GValue) := (RB2_F FU).m1 p_v
theorem Q72_ok (p_v : GValue) (r : GValue) (h : Q72 p_v = some r) : Fn Tryz.prog GI 209 [.dat (GValue.lf1 p_v)] (.dat (GValue.lf1 r)) := (RB2_F FU).ok1 p_v r h
def Q32 (p_l : List GValue) : Option (List GValue) := (RB2_F FU).m2 p_l
theorem Q32_ok (p_l : List GValue) (r : List GValue) (h : Q32 p_l = some r) : FnH Tryz.prog GI 252 [.lf (.rows 5 (p_l.map GValue.lf)), .raw (.func (.func 209) #[] #[])] [] (.lf (.rows 5 (r.map GValue.lf))) [] := (RB2_F FU).ok2 p_l r h
def Q80_T (p_l : List ByteArray) : Mo (List ByteArray) :=
 .say [.rows (p_l.map lfS), .at_ 0 0, .frz 0] (okc (by simp [lfS] : p_l.map lfS = [] ++ (p_l.map lfS)) ok0) <|
 .grd ((([] : List ByteArray).length + p_l.length) * 16 ≤ 140737488355328) fun h629 =>
 .say [] (okc (by simpa using h629 : (([] : List (List Lf)).length + (p_l.map lfS).length) * 16 ≤ 140737488355328) ok0) <|
 .ret (fitN 1) (p_l)
def Q80 (p_l : List ByteArray) : Option (List ByteArray) := Mo.den (Q80_T p_l)
theorem Q80_ok (p_l : List ByteArray) (r : List ByteArray) (h : Q80 p_l = some r) : Fn Tryz.prog GI 299 [.lf (.rows 1 (p_l.map lfS))] (.lf (.rows 1 (r.map lfS))) :=
 fn_T BaseK Tryz.func299 (by kernel_rfl) (by kernel_rfl) (by kernel_rfl) (Q80_T p_l) (fun r => [.lf (.rows 1 (r.map lfS))]) (by kernel_rfl) h
def Q103_T (p_o : GOrder) : Mo (GOrder) :=
 .ask (Q80 p_o.fPath) fun r632 h633 =>
 .say [.res (.lf (.rows 1 (r632.map lfS)))] (ok1 (Q80_ok _ _ h633)) <|
 .ret (fitN 1) (GOrder.mk r632 p_o.fDesc)
def Q103 (p_o : GOrder) : Option (GOrder) := Mo.den (Q103_T p_o)
theorem Q103_ok (p_o : GOrder) (r : GOrder) (h : Q103 p_o = some r) : Fn Tryz.prog GI 258 [.dat (GOrder.lf1 p_o)] (.dat (GOrder.lf1 r)) :=
 fn_T BaseK Tryz.func258 (by kernel_rfl) (by kernel_rfl) (by kernel_rfl) (Q103_T p_o) (fun r => [.dat (GOrder.lf1 r)]) (by kernel_rfl) h
def Q44_L0_T (p_l : List GOrder) : (Int × (List GOrder)) → Mo ((Int × (List GOrder)) ⊕ ((List GOrder))) := fun (v667, l668) =>
 .ite (decide ((v667 : Int) < (p_l.length : Int))) (fun c669 =>
 .say [.br true] (ok1 c669) <|
 .ask (gidx p_l v667) fun x670 h671 =>
 .say [.row (GOrder.lf1 x670)] (okc (gidx_ok GOrder.lf_eq h671 : (0 : Int) ≤ v667 ∧ (p_l.map GOrder.lf)[v667.toNat]? = some (GOrder.lf1 x670)) ok0) <|
 .ask (Q103 x670) fun r672 h673 =>
 .say [.res (.dat (GOrder.lf1 r672))] (ok1 (Q103_ok _ _ h673)) <|
 .ask (gidx l668 v667) fun x674 h675 =>
 .say [.row (GOrder.lf1 x674), .rows ((l668.set v667.toNat r672).map GOrder.lf)] (okc (gidx_lt GOrder.lf_eq h675 : (0 : Int) ≤ v667 ∧ v667.toNat < (l668.map GOrder.lf).length) (okc (by simp [GOrder.lf_eq] : (l668.set v667.toNat r672).map GOrder.lf = (l668.map GOrder.lf).set v667.toNat (GOrder.lf1 r672)) (okc ((gidx_ok GOrder.lf_eq h675).2 : (l668.map GOrder.lf)[v667.toNat]? = some (GOrder.lf1 x674)) ok0))) <|
 .ret ⟨[], [1, 5, 14, 15, 16], [], 1⟩ (.inl (IntKind.wrap .i64 (v667 + 1), l668.set v667.toNat r672))) fun c669 =>
 .say [.br false] (ok1 c669) <|
 .ret ⟨[], [5], [], 1⟩ (.inr (l668))
def Q44_L0 (p_l : List GOrder) (v667 : Int) (l668 : List GOrder) : Option (((List GOrder))) := loopM (fun v_ => (Q44_L0_T p_l v_).den) FU (v667, l668)
def Q44_L0_H (p_l : List GOrder) : (Int × (List GOrder)) → St := fun (v667, l668) => ⟨[(1, .raw (.func (.func 258) #[] #[])), (5, .own 0), (14, .lf (.rows 2 (p_l.map GOrder.lf))), (15, .lf (.int .i64 (p_l.length : Int))), (16, .lf (.int .i64 v667))], [.row 152 2 (l668.map GOrder.lf)]⟩
def Q44_L0_S  (r_ : ((List GOrder))) : St := ⟨[(5, .own 0)], [.row 152 2 (r_.map GOrder.lf)]⟩
theorem Q44_L0_W {p_l : List GOrder} {v667 : Int} {l668 : List GOrder} {r_ : ((List GOrder))} (h : Q44_L0 p_l v667 l668 = some r_) : AWa_ Tryz.f257 0 [1, 1, 1, 0, 1, 0] (.exit 0) (Q44_L0_S r_) (Q44_L0_H p_l (v667, l668)) :=
 loop_T BaseK (body := (Code.sub (bodyC Tryz.f257) [1, 1, 1, 0, 1, 0, 0])) (by kernel_rfl) (Q44_L0_T p_l) (Q44_L0_H p_l) (fun _ => .exit 0) Q44_L0_S (fun r_ => rfl) (fun v_ => by kernel_rfl) h
def Q44_T (p_l : List GOrder) : Mo (List GOrder) :=
 .say [.num p_l.length] (okc (by simp : p_l.length = (p_l.map GOrder.lf).length) ok0) <|
 .ite ((p_l.length : Int) == 0) (fun c620 =>
 .say [.br true] (okc c620 (okc (by simp [GOrder.lf_eq] : (([] : List GOrder).map GOrder.lf) = []) ok0)) <|
 .ret ⟨[.nrow 0 152 2, .rerow 0 (([] : List GOrder).map GOrder.lf), .mvn 0], [0], [(1, 0)], 1⟩ (([] : List GOrder))) fun c620 =>
 .say [.br false, .num p_l.length, .rows ((List.replicate (p_l.length : Int).toNat (GOrder.mk [] false)).map GOrder.lf), .num p_l.length] (okc c620 (okc (by simp : p_l.length = (p_l.map GOrder.lf).length) (okc (by simp [GOrder.lf_eq] : (List.replicate (p_l.length : Int).toNat (GOrder.mk [] false)).map GOrder.lf = List.replicate (p_l.length : Int).toNat (GOrder.lf1 (GOrder.mk [] false))) ok0))) <|
 .grd ((0 : Int) ≤ (p_l.length : Int) ∧ 32 * (p_l.length : Int).toNat ≤ 281474976710656 ∧ (p_l.length : Int).toNat ≤ maxLen) fun h622 =>
 .say [] (okc (⟨rfl, h622⟩ : ((p_l.length : Int) : Int) = (p_l.length : Int) ∧ (0 : Int) ≤ (p_l.length : Int) ∧ 32 * (p_l.length : Int).toNat ≤ 281474976710656 ∧ (p_l.length : Int).toNat ≤ maxLen) (okc (by simp : p_l.length = (p_l.map GOrder.lf).length) ok0)) <|
 .ask (Q44_L0 p_l 0 (List.replicate (p_l.length : Int).toNat (GOrder.mk [] false))) fun r677 h678 =>
 .say [.pt_ 0 [1, 5, 14, 15, 16] 1 (.exit 0) (Q44_L0_S r677)] (ok1 (Q44_L0_W h678)) <|
 .ret ⟨[.mvn 0], [0], [(1, 0)], 1⟩ (r677)
def Q44 (p_l : List GOrder) : Option (List GOrder) := Mo.den (Q44_T p_l)
theorem Q44_ok (p_l : List GOrder) (r : List GOrder) (h : Q44 p_l = some r) : FnH Tryz.prog GI 257 [.lf (.rows 2 (p_l.map GOrder.lf)), .raw (.func (.func 258) #[] #[])] [] (.own 0) [.row 152 2 (r.map GOrder.lf)] :=
 fn_TH BaseK Tryz.func257 (by kernel_rfl) (by kernel_rfl) (by kernel_rfl) (Q44_T p_l) (fun r => [.own 0]) (fun r => [.row 152 2 (r.map GOrder.lf)]) (by kernel_rfl) h
structure RB4 where
 m1 : (p_e : GExpr) → Option (GExpr)
 ok1 : ∀ (p_e : GExpr) (r : GExpr), m1 p_e = some r → Fn Tryz.prog GI 303 [.dat (GExpr.lf1 p_e)] (.dat (GExpr.lf1 r))
 m2 : (p_l : List GExpr) → Option (List GExpr)
 ok2 : ∀ (p_l : List GExpr) (r : List GExpr), m2 p_l = some r → FnH Tryz.prog GI 320 [.lf (.rows 11 (p_l.map GExpr.lf)), .raw (.func (.func 303) #[] #[])] [] (.lf (.rows 11 (r.map GExpr.lf))) []
def Q97_T (R_ : RB4) (p_e : GExpr) : Mo (GExpr) :=
 .ask (Q80 p_e.fPath) fun r699 h700 =>
 .say [.res (.lf (.rows 1 (r699.map lfS)))] (ok1 (Q80_ok _ _ h700)) <|
 .ask (Q80 p_e.fNames) fun r703 h704 =>
 .say [.res (.lf (.rows 1 (r703.map lfS)))] (ok1 (Q80_ok _ _ h704)) <|
 .ask (Q72 p_e.fArg) fun r707 h708 =>
 .say [.res (.dat (GValue.lf1 r707))] (ok1 (Q72_ok _ _ h708)) <|
 .ask (R_.m2 p_e.fKids) fun r711 h712 =>
 .say [.resH [] (.lf (.rows 11 (r711.map GExpr.lf))) []] (ok1 (R_.ok2 _ _ h712)) <|
 .ret (fitN 1) (GExpr.mk p_e.fOp r699 p_e.fName r703 r707 p_e.fN r711)
theorem Q97_okT (R_ : RB4) (p_e : GExpr) (r : GExpr) (h : Mo.den (Q97_T R_ p_e) = some r) : Fn Tryz.prog GI 303 [.dat (GExpr.lf1 p_e)] (.dat (GExpr.lf1 r)) :=
 fn_T BaseK Tryz.func303 (by kernel_rfl) (by kernel_rfl) (by kernel_rfl) (Q97_T R_ p_e) (fun r => [.dat (GExpr.lf1 r)]) (by kernel_rfl) h
def Q60_L0_T (R_ : RB4) (p_l : List GExpr) : (Int × (List GExpr)) → Mo ((Int × (List GExpr)) ⊕ ((List GExpr))) := fun (v756, l757) =>
 .ite (decide ((v756 : Int) < (p_l.length : Int))) (fun c758 =>
 .say [.br true] (ok1 c758) <|
 .ask (gidx p_l v756) fun x759 h760 =>
 .say [.row (GExpr.lf1 x759)] (okc (gidx_ok GExpr.lf_eq h760 : (0 : Int) ≤ v756 ∧ (p_l.map GExpr.lf)[v756.toNat]? = some (GExpr.lf1 x759)) ok0) <|
 .ask (R_.m1 x759) fun r761 h762 =>
 .say [.res (.dat (GExpr.lf1 r761))] (ok1 (R_.ok1 _ _ h762)) <|
 .ask (gidx l757 v756) fun x763 h764 =>
 .say [.row (GExpr.lf1 x763), .rows ((l757.set v756.toNat r761).map GExpr.lf)] (okc (gidx_lt GExpr.lf_eq h764 : (0 : Int) ≤ v756 ∧ v756.toNat < (l757.map GExpr.lf).length) (okc (by simp [GExpr.lf_eq] : (l757.set v756.toNat r761).map GExpr.lf = (l757.map GExpr.lf).set v756.toNat (GExpr.lf1 r761)) (okc ((gidx_ok GExpr.lf_eq h764).2 : (l757.map GExpr.lf)[v756.toNat]? = some (GExpr.lf1 x763)) ok0))) <|
 .ret ⟨[], [1, 5, 14, 15, 16], [], 1⟩ (.inl (IntKind.wrap .i64 (v756 + 1), l757.set v756.toNat r761))) fun c758 =>
 .say [.br false] (ok1 c758) <|
 .ret ⟨[], [5], [], 1⟩ (.inr (l757))
def Q60_L0 (R_ : RB4) (p_l : List GExpr) (v756 : Int) (l757 : List GExpr) : Option (((List GExpr))) := loopM (fun v_ => (Q60_L0_T R_ p_l v_).den) FU (v756, l757)
def Q60_L0_H (R_ : RB4) (p_l : List GExpr) : (Int × (List GExpr)) → St := fun (v756, l757) => ⟨[(1, .raw (.func (.func 303) #[] #[])), (5, .own 0), (14, .lf (.rows 11 (p_l.map GExpr.lf))), (15, .lf (.int .i64 (p_l.length : Int))), (16, .lf (.int .i64 v756))], [.row 44 11 (l757.map GExpr.lf)]⟩
def Q60_L0_S  (r_ : ((List GExpr))) : St := ⟨[(5, .own 0)], [.row 44 11 (r_.map GExpr.lf)]⟩
theorem Q60_L0_W {R_ : RB4} {p_l : List GExpr} {v756 : Int} {l757 : List GExpr} {r_ : ((List GExpr))} (h : Q60_L0 R_ p_l v756 l757 = some r_) : AWa_ Tryz.f320 0 [1, 1, 1, 0, 1, 0] (.exit 0) (Q60_L0_S r_) (Q60_L0_H R_ p_l (v756, l757)) :=
 loop_T BaseK (body := (Code.sub (bodyC Tryz.f320) [1, 1, 1, 0, 1, 0, 0])) (by kernel_rfl) (Q60_L0_T R_ p_l) (Q60_L0_H R_ p_l) (fun _ => .exit 0) Q60_L0_S (fun r_ => rfl) (fun v_ => by kernel_rfl) h
def Q60_T (R_ : RB4) (p_l : List GExpr) : Mo (List GExpr) :=
 .say [.num p_l.length] (okc (by simp : p_l.length = (p_l.map GExpr.lf).length) ok0) <|
 .ite ((p_l.length : Int) == 0) (fun c714 =>
 .say [.br true] (ok1 c714) <|
 .ret ⟨[.nil 0 11, .tod 0], [0], [], 0⟩ ([])) fun c714 =>
 .say [.br false, .num p_l.length, .rows ((List.replicate (p_l.length : Int).toNat GExpr.z).map GExpr.lf), .num p_l.length] (okc c714 (okc (by simp : p_l.length = (p_l.map GExpr.lf).length) (okc (by simp [GExpr.lf_eq] : (List.replicate (p_l.length : Int).toNat GExpr.z).map GExpr.lf = List.replicate (p_l.length : Int).toNat (GExpr.lf1 GExpr.z)) ok0))) <|
 .grd ((0 : Int) ≤ (p_l.length : Int) ∧ 184 * (p_l.length : Int).toNat ≤ 281474976710656 ∧ (p_l.length : Int).toNat ≤ maxLen) fun h716 =>
 .say [] (okc (⟨rfl, h716⟩ : ((p_l.length : Int) : Int) = (p_l.length : Int) ∧ (0 : Int) ≤ (p_l.length : Int) ∧ 184 * (p_l.length : Int).toNat ≤ 281474976710656 ∧ (p_l.length : Int).toNat ≤ maxLen) (okc (by simp : p_l.length = (p_l.map GExpr.lf).length) ok0)) <|
 .ask (Q60_L0 R_ p_l 0 (List.replicate (p_l.length : Int).toNat GExpr.z)) fun r766 h767 =>
 .say [.pt_ 0 [1, 5, 14, 15, 16] 1 (.exit 0) (Q60_L0_S r766)] (ok1 (Q60_L0_W h767)) <|
 .ret ⟨[.frz 0], [0], [], 0⟩ (r766)
theorem Q60_okT (R_ : RB4) (p_l : List GExpr) (r : List GExpr) (h : Mo.den (Q60_T R_ p_l) = some r) : FnH Tryz.prog GI 320 [.lf (.rows 11 (p_l.map GExpr.lf)), .raw (.func (.func 303) #[] #[])] [] (.lf (.rows 11 (r.map GExpr.lf))) [] :=
 fn_TH BaseK Tryz.func320 (by kernel_rfl) (by kernel_rfl) (by kernel_rfl) (Q60_T R_ p_l) (fun r => [.lf (.rows 11 (r.map GExpr.lf))]) (fun r => []) (by kernel_rfl) h
def RB4_F : Nat → RB4
 | 0 => { m1 := fun p_e => none, ok1 := fun _ _ h => (by cases h), m2 := fun p_l => none, ok2 := fun _ _ h => (by cases h) }
 | n_ + 1 => { m1 := fun p_e => Mo.den (Q97_T (RB4_F n_) p_e), ok1 := fun p_e r h => Q97_okT (RB4_F n_) p_e r h, m2 := fun p_l => Mo.den (Q60_T (RB4_F n_) p_l), ok2 := fun p_l r h => Q60_okT (RB4_F n_) p_l r h }
def Q97 (p_e : GExpr) : Option (GExpr) := (RB4_F FU).m1 p_e
theorem Q97_ok (p_e : GExpr) (r : GExpr) (h : Q97 p_e = some r) : Fn Tryz.prog GI 303 [.dat (GExpr.lf1 p_e)] (.dat (GExpr.lf1 r)) := (RB4_F FU).ok1 p_e r h
structure RB3 where
 m1 : (p_p : GPred) → Option (GPred)
 ok1 : ∀ (p_p : GPred) (r : GPred), m1 p_p = some r → Fn Tryz.prog GI 259 [.dat (GPred.lf1 p_p)] (.dat (GPred.lf1 r))
 m2 : (p_l : List GPred) → Option (List GPred)
 ok2 : ∀ (p_l : List GPred) (r : List GPred), m2 p_l = some r → FnH Tryz.prog GI 304 [.lf (.rows 25 (p_l.map GPred.lf)), .raw (.func (.func 259) #[] #[])] [] (.lf (.rows 25 (r.map GPred.lf))) []
def Q98_T (R_ : RB3) (p_p : GPred) : Mo (GPred) :=
 .ask (Q80 p_p.fPath) fun r685 h686 =>
 .say [.res (.lf (.rows 1 (r685.map lfS)))] (ok1 (Q80_ok _ _ h686)) <|
 .ask (Q72 p_p.fArg) fun r689 h690 =>
 .say [.res (.dat (GValue.lf1 r689))] (ok1 (Q72_ok _ _ h690)) <|
 .ask (Q32 p_p.fArgs) fun r693 h694 =>
 .say [.resH [] (.lf (.rows 5 (r693.map GValue.lf))) [], .rows (p_p.fShape.fPoints.map GPoint.lf)] (okc (Q32_ok _ _ h694) (okc (by simp [GPoint.lf_eq] : p_p.fShape.fPoints.map GPoint.lf = [] ++ (p_p.fShape.fPoints.map GPoint.lf)) ok0)) <|
 .grd ((([] : List GPoint).length + p_p.fShape.fPoints.length) * 16 ≤ 140737488355328) fun h696 =>
 .say [] (okc (by simpa using h696 : (([] : List (List Lf)).length + (p_p.fShape.fPoints.map GPoint.lf).length) * 16 ≤ 140737488355328) ok0) <|
 .ask (Q97 p_p.fExpr) fun r770 h771 =>
 .say [.res (.dat (GExpr.lf1 r770))] (ok1 (Q97_ok _ _ h771)) <|
 .ask (R_.m2 p_p.fKids) fun r774 h775 =>
 .say [.resH [] (.lf (.rows 25 (r774.map GPred.lf))) [], .at_ 0 0, .frz 2] (ok1 (R_.ok2 _ _ h775)) <|
 .ret (fitN 1) (GPred.mk p_p.fOp r685 r689 r693 p_p.fN p_p.fM p_p.fShape r770 r774)
theorem Q98_okT (R_ : RB3) (p_p : GPred) (r : GPred) (h : Mo.den (Q98_T R_ p_p) = some r) : Fn Tryz.prog GI 259 [.dat (GPred.lf1 p_p)] (.dat (GPred.lf1 r)) :=
 fn_T BaseK Tryz.func259 (by kernel_rfl) (by kernel_rfl) (by kernel_rfl) (Q98_T R_ p_p) (fun r => [.dat (GPred.lf1 r)]) (by kernel_rfl) h
def Q61_L0_T (R_ : RB3) (p_l : List GPred) : (Int × (List GPred)) → Mo ((Int × (List GPred)) ⊕ ((List GPred))) := fun (v819, l820) =>
 .ite (decide ((v819 : Int) < (p_l.length : Int))) (fun c821 =>
 .say [.br true] (ok1 c821) <|
 .ask (gidx p_l v819) fun x822 h823 =>
 .say [.row (GPred.lf1 x822)] (okc (gidx_ok GPred.lf_eq h823 : (0 : Int) ≤ v819 ∧ (p_l.map GPred.lf)[v819.toNat]? = some (GPred.lf1 x822)) ok0) <|
 .ask (R_.m1 x822) fun r824 h825 =>
 .say [.res (.dat (GPred.lf1 r824))] (ok1 (R_.ok1 _ _ h825)) <|
 .ask (gidx l820 v819) fun x826 h827 =>
 .say [.row (GPred.lf1 x826), .rows ((l820.set v819.toNat r824).map GPred.lf)] (okc (gidx_lt GPred.lf_eq h827 : (0 : Int) ≤ v819 ∧ v819.toNat < (l820.map GPred.lf).length) (okc (by simp [GPred.lf_eq] : (l820.set v819.toNat r824).map GPred.lf = (l820.map GPred.lf).set v819.toNat (GPred.lf1 r824)) (okc ((gidx_ok GPred.lf_eq h827).2 : (l820.map GPred.lf)[v819.toNat]? = some (GPred.lf1 x826)) ok0))) <|
 .ret ⟨[], [1, 5, 14, 15, 16], [], 1⟩ (.inl (IntKind.wrap .i64 (v819 + 1), l820.set v819.toNat r824))) fun c821 =>
 .say [.br false] (ok1 c821) <|
 .ret ⟨[], [5], [], 1⟩ (.inr (l820))
def Q61_L0 (R_ : RB3) (p_l : List GPred) (v819 : Int) (l820 : List GPred) : Option (((List GPred))) := loopM (fun v_ => (Q61_L0_T R_ p_l v_).den) FU (v819, l820)
def Q61_L0_H (R_ : RB3) (p_l : List GPred) : (Int × (List GPred)) → St := fun (v819, l820) => ⟨[(1, .raw (.func (.func 259) #[] #[])), (5, .own 0), (14, .lf (.rows 25 (p_l.map GPred.lf))), (15, .lf (.int .i64 (p_l.length : Int))), (16, .lf (.int .i64 v819))], [.row 47 25 (l820.map GPred.lf)]⟩
def Q61_L0_S  (r_ : ((List GPred))) : St := ⟨[(5, .own 0)], [.row 47 25 (r_.map GPred.lf)]⟩
theorem Q61_L0_W {R_ : RB3} {p_l : List GPred} {v819 : Int} {l820 : List GPred} {r_ : ((List GPred))} (h : Q61_L0 R_ p_l v819 l820 = some r_) : AWa_ Tryz.f304 0 [1, 1, 1, 0, 1, 0] (.exit 0) (Q61_L0_S r_) (Q61_L0_H R_ p_l (v819, l820)) :=
 loop_T BaseK (body := (Code.sub (bodyC Tryz.f304) [1, 1, 1, 0, 1, 0, 0])) (by kernel_rfl) (Q61_L0_T R_ p_l) (Q61_L0_H R_ p_l) (fun _ => .exit 0) Q61_L0_S (fun r_ => rfl) (fun v_ => by kernel_rfl) h
def Q61_T (R_ : RB3) (p_l : List GPred) : Mo (List GPred) :=
 .say [.num p_l.length] (okc (by simp : p_l.length = (p_l.map GPred.lf).length) ok0) <|
 .ite ((p_l.length : Int) == 0) (fun c777 =>
 .say [.br true] (ok1 c777) <|
 .ret ⟨[.nil 0 25, .tod 0], [0], [], 0⟩ ([])) fun c777 =>
 .say [.br false, .num p_l.length, .rows ((List.replicate (p_l.length : Int).toNat GPred.z).map GPred.lf), .num p_l.length] (okc c777 (okc (by simp : p_l.length = (p_l.map GPred.lf).length) (okc (by simp [GPred.lf_eq] : (List.replicate (p_l.length : Int).toNat GPred.z).map GPred.lf = List.replicate (p_l.length : Int).toNat (GPred.lf1 GPred.z)) ok0))) <|
 .grd ((0 : Int) ≤ (p_l.length : Int) ∧ 400 * (p_l.length : Int).toNat ≤ 281474976710656 ∧ (p_l.length : Int).toNat ≤ maxLen) fun h779 =>
 .say [] (okc (⟨rfl, h779⟩ : ((p_l.length : Int) : Int) = (p_l.length : Int) ∧ (0 : Int) ≤ (p_l.length : Int) ∧ 400 * (p_l.length : Int).toNat ≤ 281474976710656 ∧ (p_l.length : Int).toNat ≤ maxLen) (okc (by simp : p_l.length = (p_l.map GPred.lf).length) ok0)) <|
 .ask (Q61_L0 R_ p_l 0 (List.replicate (p_l.length : Int).toNat GPred.z)) fun r829 h830 =>
 .say [.pt_ 0 [1, 5, 14, 15, 16] 1 (.exit 0) (Q61_L0_S r829)] (ok1 (Q61_L0_W h830)) <|
 .ret ⟨[.frz 0], [0], [], 0⟩ (r829)
theorem Q61_okT (R_ : RB3) (p_l : List GPred) (r : List GPred) (h : Mo.den (Q61_T R_ p_l) = some r) : FnH Tryz.prog GI 304 [.lf (.rows 25 (p_l.map GPred.lf)), .raw (.func (.func 259) #[] #[])] [] (.lf (.rows 25 (r.map GPred.lf))) [] :=
 fn_TH BaseK Tryz.func304 (by kernel_rfl) (by kernel_rfl) (by kernel_rfl) (Q61_T R_ p_l) (fun r => [.lf (.rows 25 (r.map GPred.lf))]) (fun r => []) (by kernel_rfl) h
def RB3_F : Nat → RB3
 | 0 => { m1 := fun p_p => none, ok1 := fun _ _ h => (by cases h), m2 := fun p_l => none, ok2 := fun _ _ h => (by cases h) }
 | n_ + 1 => { m1 := fun p_p => Mo.den (Q98_T (RB3_F n_) p_p), ok1 := fun p_p r h => Q98_okT (RB3_F n_) p_p r h, m2 := fun p_l => Mo.den (Q61_T (RB3_F n_) p_l), ok2 := fun p_l r h => Q61_okT (RB3_F n_) p_l r h }
def Q98 (p_p : GPred) : Option (GPred) := (RB3_F FU).m1 p_p
theorem Q98_ok (p_p : GPred) (r : GPred) (h : Q98 p_p = some r) : Fn Tryz.prog GI 259 [.dat (GPred.lf1 p_p)] (.dat (GPred.lf1 r)) := (RB3_F FU).ok1 p_p r h
def Q86_T (p_x : GIndex) : Mo (GIndex) :=
 .ask (Q44 p_x.fKeys) fun r681 h682 =>
 .say [.resH [] (.own 0) [.row 152 2 (r681.map GOrder.lf)]] (ok1 (Q44_ok _ _ h682)) <|
 .ask (Q98 p_x.fWhere) fun r833 h834 =>
 .say [.res (.dat (GPred.lf1 r833)), .at_ 0 0, .frz 2] (ok1 (Q98_ok _ _ h834)) <|
 .ret (fitN 1) (GIndex.sWhere (GIndex.sKeys p_x r681) r833)
def Q86 (p_x : GIndex) : Option (GIndex) := Mo.den (Q86_T p_x)
theorem Q86_ok (p_x : GIndex) (r : GIndex) (h : Q86 p_x = some r) : Fn Tryz.prog GI 211 [.dat (GIndex.lf1 p_x)] (.dat (GIndex.lf1 r)) :=
 fn_T BaseK Tryz.func211 (by kernel_rfl) (by kernel_rfl) (by kernel_rfl) (Q86_T p_x) (fun r => [.dat (GIndex.lf1 r)]) (by kernel_rfl) h
def Q45_L0_T (p_l : List GIndex) : (Int × (List GIndex)) → Mo ((Int × (List GIndex)) ⊕ ((List GIndex))) := fun (v868, l869) =>
 .ite (decide ((v868 : Int) < (p_l.length : Int))) (fun c870 =>
 .say [.br true] (ok1 c870) <|
 .ask (gidx p_l v868) fun x871 h872 =>
 .say [.row (GIndex.lf1 x871)] (okc (gidx_ok GIndex.lf_eq h872 : (0 : Int) ≤ v868 ∧ (p_l.map GIndex.lf)[v868.toNat]? = some (GIndex.lf1 x871)) ok0) <|
 .ask (Q86 x871) fun r873 h874 =>
 .say [.res (.dat (GIndex.lf1 r873))] (ok1 (Q86_ok _ _ h874)) <|
 .ask (gidx l869 v868) fun x875 h876 =>
 .say [.row (GIndex.lf1 x875), .rows ((l869.set v868.toNat r873).map GIndex.lf)] (okc (gidx_lt GIndex.lf_eq h876 : (0 : Int) ≤ v868 ∧ v868.toNat < (l869.map GIndex.lf).length) (okc (by simp [GIndex.lf_eq] : (l869.set v868.toNat r873).map GIndex.lf = (l869.map GIndex.lf).set v868.toNat (GIndex.lf1 r873)) (okc ((gidx_ok GIndex.lf_eq h876).2 : (l869.map GIndex.lf)[v868.toNat]? = some (GIndex.lf1 x875)) ok0))) <|
 .ret ⟨[], [1, 5, 14, 15, 16], [], 1⟩ (.inl (IntKind.wrap .i64 (v868 + 1), l869.set v868.toNat r873))) fun c870 =>
 .say [.br false] (ok1 c870) <|
 .ret ⟨[], [5], [], 1⟩ (.inr (l869))
def Q45_L0 (p_l : List GIndex) (v868 : Int) (l869 : List GIndex) : Option (((List GIndex))) := loopM (fun v_ => (Q45_L0_T p_l v_).den) FU (v868, l869)
def Q45_L0_H (p_l : List GIndex) : (Int × (List GIndex)) → St := fun (v868, l869) => ⟨[(1, .raw (.func (.func 211) #[] #[])), (5, .own 0), (14, .lf (.rows 31 (p_l.map GIndex.lf))), (15, .lf (.int .i64 (p_l.length : Int))), (16, .lf (.int .i64 v868))], [.row 49 31 (l869.map GIndex.lf)]⟩
def Q45_L0_S  (r_ : ((List GIndex))) : St := ⟨[(5, .own 0)], [.row 49 31 (r_.map GIndex.lf)]⟩
theorem Q45_L0_W {p_l : List GIndex} {v868 : Int} {l869 : List GIndex} {r_ : ((List GIndex))} (h : Q45_L0 p_l v868 l869 = some r_) : AWa_ Tryz.f255 0 [1, 1, 1, 0, 1, 0] (.exit 0) (Q45_L0_S r_) (Q45_L0_H p_l (v868, l869)) :=
 loop_T BaseK (body := (Code.sub (bodyC Tryz.f255) [1, 1, 1, 0, 1, 0, 0])) (by kernel_rfl) (Q45_L0_T p_l) (Q45_L0_H p_l) (fun _ => .exit 0) Q45_L0_S (fun r_ => rfl) (fun v_ => by kernel_rfl) h
def Q45_T (p_l : List GIndex) : Mo (List GIndex) :=
 .say [.num p_l.length] (okc (by simp : p_l.length = (p_l.map GIndex.lf).length) ok0) <|
 .ite ((p_l.length : Int) == 0) (fun c610 =>
 .say [.br true] (okc c610 (okc (by simp [GIndex.lf_eq] : (([] : List GIndex).map GIndex.lf) = []) ok0)) <|
 .ret ⟨[.nrow 0 49 31, .rerow 0 (([] : List GIndex).map GIndex.lf), .mvn 0], [0], [(1, 0)], 1⟩ (([] : List GIndex))) fun c610 =>
 .say [.br false, .num p_l.length, .rows ((List.replicate (p_l.length : Int).toNat GIndex.z).map GIndex.lf), .num p_l.length] (okc c610 (okc (by simp : p_l.length = (p_l.map GIndex.lf).length) (okc (by simp [GIndex.lf_eq] : (List.replicate (p_l.length : Int).toNat GIndex.z).map GIndex.lf = List.replicate (p_l.length : Int).toNat (GIndex.lf1 GIndex.z)) ok0))) <|
 .grd ((0 : Int) ≤ (p_l.length : Int) ∧ 456 * (p_l.length : Int).toNat ≤ 281474976710656 ∧ (p_l.length : Int).toNat ≤ maxLen) fun h612 =>
 .say [] (okc (⟨rfl, h612⟩ : ((p_l.length : Int) : Int) = (p_l.length : Int) ∧ (0 : Int) ≤ (p_l.length : Int) ∧ 456 * (p_l.length : Int).toNat ≤ 281474976710656 ∧ (p_l.length : Int).toNat ≤ maxLen) (okc (by simp : p_l.length = (p_l.map GIndex.lf).length) ok0)) <|
 .ask (Q45_L0 p_l 0 (List.replicate (p_l.length : Int).toNat GIndex.z)) fun r878 h879 =>
 .say [.pt_ 0 [1, 5, 14, 15, 16] 1 (.exit 0) (Q45_L0_S r878)] (ok1 (Q45_L0_W h879)) <|
 .ret ⟨[.mvn 0], [0], [(1, 0)], 1⟩ (r878)
def Q45 (p_l : List GIndex) : Option (List GIndex) := Mo.den (Q45_T p_l)
theorem Q45_ok (p_l : List GIndex) (r : List GIndex) (h : Q45 p_l = some r) : FnH Tryz.prog GI 255 [.lf (.rows 31 (p_l.map GIndex.lf)), .raw (.func (.func 211) #[] #[])] [] (.own 0) [.row 49 31 (r.map GIndex.lf)] :=
 fn_TH BaseK Tryz.func255 (by kernel_rfl) (by kernel_rfl) (by kernel_rfl) (Q45_T p_l) (fun r => [.own 0]) (fun r => [.row 49 31 (r.map GIndex.lf)]) (by kernel_rfl) h
structure RB5 where
 m1 : (p_s : GSchema) → Option (GSchema)
 ok1 : ∀ (p_s : GSchema) (r : GSchema), m1 p_s = some r → Fn Tryz.prog GI 256 [.dat (GSchema.lf1 p_s)] (.dat (GSchema.lf1 r))
 m2 : (p_l : List GProp) → Option (List GProp)
 ok2 : ∀ (p_l : List GProp) (r : List GProp), m2 p_l = some r → FnH Tryz.prog GI 300 [.lf (.rows 22 (p_l.map GProp.lf)), .raw (.func (.func 301) #[] #[])] [] (.lf (.rows 22 (r.map GProp.lf))) []
 m3 : (p_l : List GSchema) → Option (List GSchema)
 ok3 : ∀ (p_l : List GSchema) (r : List GSchema), m3 p_l = some r → FnH Tryz.prog GI 302 [.lf (.rows 21 (p_l.map GSchema.lf)), .raw (.func (.func 256) #[] #[])] [] (.lf (.rows 21 (r.map GSchema.lf))) []
 m4 : (p_p : GProp) → Option (GProp)
 ok4 : ∀ (p_p : GProp) (r : GProp), m4 p_p = some r → Fn Tryz.prog GI 301 [.dat (GProp.lf1 p_p)] (.dat (GProp.lf1 r))
def Q87_T (R_ : RB5) (p_s : GSchema) : Mo (GSchema) :=
 .ask (Q72 p_s.fMin) fun r886 h887 =>
 .say [.res (.dat (GValue.lf1 r886))] (ok1 (Q72_ok _ _ h887)) <|
 .ask (Q72 p_s.fMax) fun r890 h891 =>
 .say [.res (.dat (GValue.lf1 r890))] (ok1 (Q72_ok _ _ h891)) <|
 .ask (Q32 p_s.fEnum) fun r894 h895 =>
 .say [.resH [] (.lf (.rows 5 (r894.map GValue.lf))) []] (ok1 (Q32_ok _ _ h895)) <|
 .ask (Q80 p_s.fRequired) fun r898 h899 =>
 .say [.res (.lf (.rows 1 (r898.map lfS)))] (ok1 (Q80_ok _ _ h899)) <|
 .ask (R_.m2 p_s.fProps) fun r902 h903 =>
 .say [.resH [] (.lf (.rows 22 (r902.map GProp.lf))) []] (ok1 (R_.ok2 _ _ h903)) <|
 .ask (R_.m3 p_s.fItems) fun r906 h907 =>
 .say [.resH [] (.lf (.rows 21 (r906.map GSchema.lf))) []] (ok1 (R_.ok3 _ _ h907)) <|
 .ret (fitN 1) (GSchema.mk p_s.fKinds p_s.fHasMin r886 p_s.fHasMax r890 r894 p_s.fMinLen p_s.fMaxLen r898 r902 p_s.fClosed r906 p_s.fUnique)
theorem Q87_okT (R_ : RB5) (p_s : GSchema) (r : GSchema) (h : Mo.den (Q87_T R_ p_s) = some r) : Fn Tryz.prog GI 256 [.dat (GSchema.lf1 p_s)] (.dat (GSchema.lf1 r)) :=
 fn_T BaseK Tryz.func256 (by kernel_rfl) (by kernel_rfl) (by kernel_rfl) (Q87_T R_ p_s) (fun r => [.dat (GSchema.lf1 r)]) (by kernel_rfl) h
def Q62_L0_T (R_ : RB5) (p_l : List GProp) : (Int × (List GProp)) → Mo ((Int × (List GProp)) ⊕ ((List GProp))) := fun (v951, l952) =>
 .ite (decide ((v951 : Int) < (p_l.length : Int))) (fun c953 =>
 .say [.br true] (ok1 c953) <|
 .ask (gidx p_l v951) fun x954 h955 =>
 .say [.row (GProp.lf1 x954)] (okc (gidx_ok GProp.lf_eq h955 : (0 : Int) ≤ v951 ∧ (p_l.map GProp.lf)[v951.toNat]? = some (GProp.lf1 x954)) ok0) <|
 .ask (R_.m4 x954) fun r956 h957 =>
 .say [.res (.dat (GProp.lf1 r956))] (ok1 (R_.ok4 _ _ h957)) <|
 .ask (gidx l952 v951) fun x958 h959 =>
 .say [.row (GProp.lf1 x958), .rows ((l952.set v951.toNat r956).map GProp.lf)] (okc (gidx_lt GProp.lf_eq h959 : (0 : Int) ≤ v951 ∧ v951.toNat < (l952.map GProp.lf).length) (okc (by simp [GProp.lf_eq] : (l952.set v951.toNat r956).map GProp.lf = (l952.map GProp.lf).set v951.toNat (GProp.lf1 r956)) (okc ((gidx_ok GProp.lf_eq h959).2 : (l952.map GProp.lf)[v951.toNat]? = some (GProp.lf1 x958)) ok0))) <|
 .ret ⟨[], [1, 5, 14, 15, 16], [], 1⟩ (.inl (IntKind.wrap .i64 (v951 + 1), l952.set v951.toNat r956))) fun c953 =>
 .say [.br false] (ok1 c953) <|
 .ret ⟨[], [5], [], 1⟩ (.inr (l952))
def Q62_L0 (R_ : RB5) (p_l : List GProp) (v951 : Int) (l952 : List GProp) : Option (((List GProp))) := loopM (fun v_ => (Q62_L0_T R_ p_l v_).den) FU (v951, l952)
def Q62_L0_H (R_ : RB5) (p_l : List GProp) : (Int × (List GProp)) → St := fun (v951, l952) => ⟨[(1, .raw (.func (.func 301) #[] #[])), (5, .own 0), (14, .lf (.rows 22 (p_l.map GProp.lf))), (15, .lf (.int .i64 (p_l.length : Int))), (16, .lf (.int .i64 v951))], [.row 217 22 (l952.map GProp.lf)]⟩
def Q62_L0_S  (r_ : ((List GProp))) : St := ⟨[(5, .own 0)], [.row 217 22 (r_.map GProp.lf)]⟩
theorem Q62_L0_W {R_ : RB5} {p_l : List GProp} {v951 : Int} {l952 : List GProp} {r_ : ((List GProp))} (h : Q62_L0 R_ p_l v951 l952 = some r_) : AWa_ Tryz.f300 0 [1, 1, 1, 0, 1, 0] (.exit 0) (Q62_L0_S r_) (Q62_L0_H R_ p_l (v951, l952)) :=
 loop_T BaseK (body := (Code.sub (bodyC Tryz.f300) [1, 1, 1, 0, 1, 0, 0])) (by kernel_rfl) (Q62_L0_T R_ p_l) (Q62_L0_H R_ p_l) (fun _ => .exit 0) Q62_L0_S (fun r_ => rfl) (fun v_ => by kernel_rfl) h
def Q62_T (R_ : RB5) (p_l : List GProp) : Mo (List GProp) :=
 .say [.num p_l.length] (okc (by simp : p_l.length = (p_l.map GProp.lf).length) ok0) <|
 .ite ((p_l.length : Int) == 0) (fun c909 =>
 .say [.br true] (ok1 c909) <|
 .ret ⟨[.nil 0 22, .tod 0], [0], [], 0⟩ ([])) fun c909 =>
 .say [.br false, .num p_l.length, .rows ((List.replicate (p_l.length : Int).toNat (GProp.mk ⟨#[]⟩ GSchema.z)).map GProp.lf), .num p_l.length] (okc c909 (okc (by simp : p_l.length = (p_l.map GProp.lf).length) (okc (by simp [GProp.lf_eq] : (List.replicate (p_l.length : Int).toNat (GProp.mk ⟨#[]⟩ GSchema.z)).map GProp.lf = List.replicate (p_l.length : Int).toNat (GProp.lf1 (GProp.mk ⟨#[]⟩ GSchema.z))) ok0))) <|
 .grd ((0 : Int) ≤ (p_l.length : Int) ∧ 328 * (p_l.length : Int).toNat ≤ 281474976710656 ∧ (p_l.length : Int).toNat ≤ maxLen) fun h911 =>
 .say [] (okc (⟨rfl, h911⟩ : ((p_l.length : Int) : Int) = (p_l.length : Int) ∧ (0 : Int) ≤ (p_l.length : Int) ∧ 328 * (p_l.length : Int).toNat ≤ 281474976710656 ∧ (p_l.length : Int).toNat ≤ maxLen) (okc (by simp : p_l.length = (p_l.map GProp.lf).length) ok0)) <|
 .ask (Q62_L0 R_ p_l 0 (List.replicate (p_l.length : Int).toNat (GProp.mk ⟨#[]⟩ GSchema.z))) fun r961 h962 =>
 .say [.pt_ 0 [1, 5, 14, 15, 16] 1 (.exit 0) (Q62_L0_S r961)] (ok1 (Q62_L0_W h962)) <|
 .ret ⟨[.frz 0], [0], [], 0⟩ (r961)
theorem Q62_okT (R_ : RB5) (p_l : List GProp) (r : List GProp) (h : Mo.den (Q62_T R_ p_l) = some r) : FnH Tryz.prog GI 300 [.lf (.rows 22 (p_l.map GProp.lf)), .raw (.func (.func 301) #[] #[])] [] (.lf (.rows 22 (r.map GProp.lf))) [] :=
 fn_TH BaseK Tryz.func300 (by kernel_rfl) (by kernel_rfl) (by kernel_rfl) (Q62_T R_ p_l) (fun r => [.lf (.rows 22 (r.map GProp.lf))]) (fun r => []) (by kernel_rfl) h
def Q53_L0_T (R_ : RB5) (p_l : List GSchema) : (Int × (List GSchema)) → Mo ((Int × (List GSchema)) ⊕ ((List GSchema))) := fun (v1006, l1007) =>
 .ite (decide ((v1006 : Int) < (p_l.length : Int))) (fun c1008 =>
 .say [.br true] (ok1 c1008) <|
 .ask (gidx p_l v1006) fun x1009 h1010 =>
 .say [.row (GSchema.lf1 x1009)] (okc (gidx_ok GSchema.lf_eq h1010 : (0 : Int) ≤ v1006 ∧ (p_l.map GSchema.lf)[v1006.toNat]? = some (GSchema.lf1 x1009)) ok0) <|
 .ask (R_.m1 x1009) fun r1011 h1012 =>
 .say [.res (.dat (GSchema.lf1 r1011))] (ok1 (R_.ok1 _ _ h1012)) <|
 .ask (gidx l1007 v1006) fun x1013 h1014 =>
 .say [.row (GSchema.lf1 x1013), .rows ((l1007.set v1006.toNat r1011).map GSchema.lf)] (okc (gidx_lt GSchema.lf_eq h1014 : (0 : Int) ≤ v1006 ∧ v1006.toNat < (l1007.map GSchema.lf).length) (okc (by simp [GSchema.lf_eq] : (l1007.set v1006.toNat r1011).map GSchema.lf = (l1007.map GSchema.lf).set v1006.toNat (GSchema.lf1 r1011)) (okc ((gidx_ok GSchema.lf_eq h1014).2 : (l1007.map GSchema.lf)[v1006.toNat]? = some (GSchema.lf1 x1013)) ok0))) <|
 .ret ⟨[], [1, 5, 14, 15, 16], [], 1⟩ (.inl (IntKind.wrap .i64 (v1006 + 1), l1007.set v1006.toNat r1011))) fun c1008 =>
 .say [.br false] (ok1 c1008) <|
 .ret ⟨[], [5], [], 1⟩ (.inr (l1007))
def Q53_L0 (R_ : RB5) (p_l : List GSchema) (v1006 : Int) (l1007 : List GSchema) : Option (((List GSchema))) := loopM (fun v_ => (Q53_L0_T R_ p_l v_).den) FU (v1006, l1007)
def Q53_L0_H (R_ : RB5) (p_l : List GSchema) : (Int × (List GSchema)) → St := fun (v1006, l1007) => ⟨[(1, .raw (.func (.func 256) #[] #[])), (5, .own 0), (14, .lf (.rows 21 (p_l.map GSchema.lf))), (15, .lf (.int .i64 (p_l.length : Int))), (16, .lf (.int .i64 v1006))], [.row 35 21 (l1007.map GSchema.lf)]⟩
def Q53_L0_S  (r_ : ((List GSchema))) : St := ⟨[(5, .own 0)], [.row 35 21 (r_.map GSchema.lf)]⟩
theorem Q53_L0_W {R_ : RB5} {p_l : List GSchema} {v1006 : Int} {l1007 : List GSchema} {r_ : ((List GSchema))} (h : Q53_L0 R_ p_l v1006 l1007 = some r_) : AWa_ Tryz.f302 0 [1, 1, 1, 0, 1, 0] (.exit 0) (Q53_L0_S r_) (Q53_L0_H R_ p_l (v1006, l1007)) :=
 loop_T BaseK (body := (Code.sub (bodyC Tryz.f302) [1, 1, 1, 0, 1, 0, 0])) (by kernel_rfl) (Q53_L0_T R_ p_l) (Q53_L0_H R_ p_l) (fun _ => .exit 0) Q53_L0_S (fun r_ => rfl) (fun v_ => by kernel_rfl) h
def Q53_T (R_ : RB5) (p_l : List GSchema) : Mo (List GSchema) :=
 .say [.num p_l.length] (okc (by simp : p_l.length = (p_l.map GSchema.lf).length) ok0) <|
 .ite ((p_l.length : Int) == 0) (fun c964 =>
 .say [.br true] (ok1 c964) <|
 .ret ⟨[.nil 0 21, .tod 0], [0], [], 0⟩ ([])) fun c964 =>
 .say [.br false, .num p_l.length, .rows ((List.replicate (p_l.length : Int).toNat GSchema.z).map GSchema.lf), .num p_l.length] (okc c964 (okc (by simp : p_l.length = (p_l.map GSchema.lf).length) (okc (by simp [GSchema.lf_eq] : (List.replicate (p_l.length : Int).toNat GSchema.z).map GSchema.lf = List.replicate (p_l.length : Int).toNat (GSchema.lf1 GSchema.z)) ok0))) <|
 .grd ((0 : Int) ≤ (p_l.length : Int) ∧ 312 * (p_l.length : Int).toNat ≤ 281474976710656 ∧ (p_l.length : Int).toNat ≤ maxLen) fun h966 =>
 .say [] (okc (⟨rfl, h966⟩ : ((p_l.length : Int) : Int) = (p_l.length : Int) ∧ (0 : Int) ≤ (p_l.length : Int) ∧ 312 * (p_l.length : Int).toNat ≤ 281474976710656 ∧ (p_l.length : Int).toNat ≤ maxLen) (okc (by simp : p_l.length = (p_l.map GSchema.lf).length) ok0)) <|
 .ask (Q53_L0 R_ p_l 0 (List.replicate (p_l.length : Int).toNat GSchema.z)) fun r1016 h1017 =>
 .say [.pt_ 0 [1, 5, 14, 15, 16] 1 (.exit 0) (Q53_L0_S r1016)] (ok1 (Q53_L0_W h1017)) <|
 .ret ⟨[.frz 0], [0], [], 0⟩ (r1016)
theorem Q53_okT (R_ : RB5) (p_l : List GSchema) (r : List GSchema) (h : Mo.den (Q53_T R_ p_l) = some r) : FnH Tryz.prog GI 302 [.lf (.rows 21 (p_l.map GSchema.lf)), .raw (.func (.func 256) #[] #[])] [] (.lf (.rows 21 (r.map GSchema.lf))) [] :=
 fn_TH BaseK Tryz.func302 (by kernel_rfl) (by kernel_rfl) (by kernel_rfl) (Q53_T R_ p_l) (fun r => [.lf (.rows 21 (r.map GSchema.lf))]) (fun r => []) (by kernel_rfl) h
def Q126_T (R_ : RB5) (p_p : GProp) : Mo (GProp) :=
 .say [.order [(true, 0), (true, 1), (true, 2), (true, 3), (false, 4), (true, 5), (false, 6)] (some 6) []] ok0 <|
 .ask (R_.m1 p_p.fSchema) fun r1018 h1019 =>
 .say [.res (.dat (GSchema.lf1 r1018))] (ok1 (R_.ok1 _ _ h1019)) <|
 .ret (fitN 1) (GProp.mk p_p.fName r1018)
theorem Q126_okT (R_ : RB5) (p_p : GProp) (r : GProp) (h : Mo.den (Q126_T R_ p_p) = some r) : Fn Tryz.prog GI 301 [.dat (GProp.lf1 p_p)] (.dat (GProp.lf1 r)) :=
 fn_T BaseK Tryz.func301 (by kernel_rfl) (by kernel_rfl) (by kernel_rfl) (Q126_T R_ p_p) (fun r => [.dat (GProp.lf1 r)]) (by kernel_rfl) h
def RB5_F : Nat → RB5
 | 0 => { m1 := fun p_s => none, ok1 := fun _ _ h => (by cases h), m2 := fun p_l => none, ok2 := fun _ _ h => (by cases h), m3 := fun p_l => none, ok3 := fun _ _ h => (by cases h), m4 := fun p_p => none, ok4 := fun _ _ h => (by cases h) }
 | n_ + 1 => { m1 := fun p_s => Mo.den (Q87_T (RB5_F n_) p_s), ok1 := fun p_s r h => Q87_okT (RB5_F n_) p_s r h, m2 := fun p_l => Mo.den (Q62_T (RB5_F n_) p_l), ok2 := fun p_l r h => Q62_okT (RB5_F n_) p_l r h, m3 := fun p_l => Mo.den (Q53_T (RB5_F n_) p_l), ok3 := fun p_l r h => Q53_okT (RB5_F n_) p_l r h, m4 := fun p_p => Mo.den (Q126_T (RB5_F n_) p_p), ok4 := fun p_p r h => Q126_okT (RB5_F n_) p_p r h }
def Q87 (p_s : GSchema) : Option (GSchema) := (RB5_F FU).m1 p_s
theorem Q87_ok (p_s : GSchema) (r : GSchema) (h : Q87 p_s = some r) : Fn Tryz.prog GI 256 [.dat (GSchema.lf1 p_s)] (.dat (GSchema.lf1 r)) := (RB5_F FU).ok1 p_s r h
def Q109_T (p_d : GSpace) : Mo (GSpace) :=
 .ask (Q45 p_d.fIndexes) fun r882 h883 =>
 .say [.resH [] (.own 0) [.row 49 31 (r882.map GIndex.lf)]] (ok1 (Q45_ok _ _ h883)) <|
 .ask (Q87 p_d.fSchema) fun r1022 h1023 =>
 .say [.res (.dat (GSchema.lf1 r1022)), .at_ 0 0, .frz 2] (ok1 (Q87_ok _ _ h1023)) <|
 .ret (fitN 1) (GSpace.mk p_d.fName r882 r1022 p_d.fLevel p_d.fAction)
def Q109 (p_d : GSpace) : Option (GSpace) := Mo.den (Q109_T p_d)
theorem Q109_ok (p_d : GSpace) (r : GSpace) (h : Q109 p_d = some r) : Fn Tryz.prog GI 210 [.dat (GSpace.lf1 p_d)] (.dat (GSpace.lf1 r)) :=
 fn_T BaseK Tryz.func210 (by kernel_rfl) (by kernel_rfl) (by kernel_rfl) (Q109_T p_d) (fun r => [.dat (GSpace.lf1 r)]) (by kernel_rfl) h
def Q84_T (p_l : List Int) : Mo (List Int) :=
 .say [.rows (p_l.map lfI)] (okc (by simp [lfI, lfK] : p_l.map lfI = [] ++ (p_l.map lfI)) ok0) <|
 .grd ((([] : List Int).length + p_l.length) * 8 ≤ 140737488355328) fun h1036 =>
 .say [] (okc (by simpa using h1036 : (([] : List (List Lf)).length + (p_l.map lfI).length) * 8 ≤ 140737488355328) ok0) <|
 .ret ⟨[.mvn 0], [0], [(1, 0)], 1⟩ (p_l)
def Q84 (p_l : List Int) : Option (List Int) := Mo.den (Q84_T p_l)
theorem Q84_ok (p_l : List Int) (r : List Int) (h : Q84 p_l = some r) : FnH Tryz.prog GI 122 [.lf (.rows 1 (p_l.map lfI))] [] (.own 0) [.row 3 1 (r.map lfI)] :=
 fn_TH BaseK Tryz.func122 (by kernel_rfl) (by kernel_rfl) (by kernel_rfl) (Q84_T p_l) (fun r => [.own 0]) (fun r => [.row 3 1 (r.map lfI)]) (by kernel_rfl) h
structure RB1 where
 m1 : (p_w : GWrite) → Option (GWrite)
 ok1 : ∀ (p_w : GWrite) (r : GWrite), m1 p_w = some r → Fn Tryz.prog GI 165 [.dat (GWrite.lf1 p_w)] (.dat (GWrite.lf1 r))
 m2 : (p_l : List GWrite) → Option (List GWrite)
 ok2 : ∀ (p_l : List GWrite) (r : List GWrite), m2 p_l = some r → FnH Tryz.prog GI 212 [.lf (.rows 78 (p_l.map GWrite.lf)), .raw (.func (.func 165) #[] #[])] [] (.lf (.rows 78 (r.map GWrite.lf))) []
def Q93_T (R_ : RB1) (p_w : GWrite) : Mo (GWrite) :=
 .ask (Q72 p_w.fKey) fun r599 h600 =>
 .say [.res (.dat (GValue.lf1 r599))] (ok1 (Q72_ok _ _ h600)) <|
 .ask (Q72 p_w.fDoc) fun r603 h604 =>
 .say [.res (.dat (GValue.lf1 r603))] (ok1 (Q72_ok _ _ h604)) <|
 .ask (Q72 p_w.fBefore) fun r607 h608 =>
 .say [.res (.dat (GValue.lf1 r607))] (ok1 (Q72_ok _ _ h608)) <|
 .ask (Q109 p_w.fDef) fun r1026 h1027 =>
 .say [.res (.dat (GSpace.lf1 r1026))] (ok1 (Q109_ok _ _ h1027)) <|
 .ask (Q86 p_w.fIndex) fun r1030 h1031 =>
 .say [.res (.dat (GIndex.lf1 r1030))] (ok1 (Q86_ok _ _ h1031)) <|
 .ask (R_.m2 p_w.fWrites) fun r1034 h1035 =>
 .say [.resH [] (.lf (.rows 78 (r1034.map GWrite.lf))) []] (ok1 (R_.ok2 _ _ h1035)) <|
 .ask (Q84 p_w.fShards) fun r1039 h1040 =>
 .say [.resH [] (.own 0) [.row 3 1 (r1039.map lfI)], .at_ 0 0, .frz 2] (ok1 (Q84_ok _ _ h1040)) <|
 .ret (fitN 1) (GWrite.mk p_w.fKind p_w.fSpace r599 r603 r607 r1026 r1030 p_w.fTxn p_w.fStamp r1034 r1039 p_w.fSilent)
theorem Q93_okT (R_ : RB1) (p_w : GWrite) (r : GWrite) (h : Mo.den (Q93_T R_ p_w) = some r) : Fn Tryz.prog GI 165 [.dat (GWrite.lf1 p_w)] (.dat (GWrite.lf1 r)) :=
 fn_T BaseK Tryz.func165 (by kernel_rfl) (by kernel_rfl) (by kernel_rfl) (Q93_T R_ p_w) (fun r => [.dat (GWrite.lf1 r)]) (by kernel_rfl) h
def Q57_L0_T (R_ : RB1) (p_l : List GWrite) : (Int × (List GWrite)) → Mo ((Int × (List GWrite)) ⊕ ((List GWrite))) := fun (v1084, l1085) =>
 .ite (decide ((v1084 : Int) < (p_l.length : Int))) (fun c1086 =>
 .say [.br true] (ok1 c1086) <|
 .ask (gidx p_l v1084) fun x1087 h1088 =>
 .say [.row (GWrite.lf1 x1087)] (okc (gidx_ok GWrite.lf_eq h1088 : (0 : Int) ≤ v1084 ∧ (p_l.map GWrite.lf)[v1084.toNat]? = some (GWrite.lf1 x1087)) ok0) <|
 .ask (R_.m1 x1087) fun r1089 h1090 =>
 .say [.res (.dat (GWrite.lf1 r1089))] (ok1 (R_.ok1 _ _ h1090)) <|
 .ask (gidx l1085 v1084) fun x1091 h1092 =>
 .say [.row (GWrite.lf1 x1091), .rows ((l1085.set v1084.toNat r1089).map GWrite.lf)] (okc (gidx_lt GWrite.lf_eq h1092 : (0 : Int) ≤ v1084 ∧ v1084.toNat < (l1085.map GWrite.lf).length) (okc (by simp [GWrite.lf_eq] : (l1085.set v1084.toNat r1089).map GWrite.lf = (l1085.map GWrite.lf).set v1084.toNat (GWrite.lf1 r1089)) (okc ((gidx_ok GWrite.lf_eq h1092).2 : (l1085.map GWrite.lf)[v1084.toNat]? = some (GWrite.lf1 x1091)) ok0))) <|
 .ret ⟨[], [1, 5, 14, 15, 16], [], 1⟩ (.inl (IntKind.wrap .i64 (v1084 + 1), l1085.set v1084.toNat r1089))) fun c1086 =>
 .say [.br false] (ok1 c1086) <|
 .ret ⟨[], [5], [], 1⟩ (.inr (l1085))
def Q57_L0 (R_ : RB1) (p_l : List GWrite) (v1084 : Int) (l1085 : List GWrite) : Option (((List GWrite))) := loopM (fun v_ => (Q57_L0_T R_ p_l v_).den) FU (v1084, l1085)
def Q57_L0_H (R_ : RB1) (p_l : List GWrite) : (Int × (List GWrite)) → St := fun (v1084, l1085) => ⟨[(1, .raw (.func (.func 165) #[] #[])), (5, .own 0), (14, .lf (.rows 78 (p_l.map GWrite.lf))), (15, .lf (.int .i64 (p_l.length : Int))), (16, .lf (.int .i64 v1084))], [.row 52 78 (l1085.map GWrite.lf)]⟩
def Q57_L0_S  (r_ : ((List GWrite))) : St := ⟨[(5, .own 0)], [.row 52 78 (r_.map GWrite.lf)]⟩
theorem Q57_L0_W {R_ : RB1} {p_l : List GWrite} {v1084 : Int} {l1085 : List GWrite} {r_ : ((List GWrite))} (h : Q57_L0 R_ p_l v1084 l1085 = some r_) : AWa_ Tryz.f212 0 [1, 1, 1, 0, 1, 0] (.exit 0) (Q57_L0_S r_) (Q57_L0_H R_ p_l (v1084, l1085)) :=
 loop_T BaseK (body := (Code.sub (bodyC Tryz.f212) [1, 1, 1, 0, 1, 0, 0])) (by kernel_rfl) (Q57_L0_T R_ p_l) (Q57_L0_H R_ p_l) (fun _ => .exit 0) Q57_L0_S (fun r_ => rfl) (fun v_ => by kernel_rfl) h
def Q57_T (R_ : RB1) (p_l : List GWrite) : Mo (List GWrite) :=
 .say [.num p_l.length] (okc (by simp : p_l.length = (p_l.map GWrite.lf).length) ok0) <|
 .ite ((p_l.length : Int) == 0) (fun c1042 =>
 .say [.br true] (ok1 c1042) <|
 .ret ⟨[.nil 0 78, .tod 0], [0], [], 0⟩ ([])) fun c1042 =>
 .say [.br false, .num p_l.length, .rows ((List.replicate (p_l.length : Int).toNat GWrite.z).map GWrite.lf), .num p_l.length] (okc c1042 (okc (by simp : p_l.length = (p_l.map GWrite.lf).length) (okc (by simp [GWrite.lf_eq] : (List.replicate (p_l.length : Int).toNat GWrite.z).map GWrite.lf = List.replicate (p_l.length : Int).toNat (GWrite.lf1 GWrite.z)) ok0))) <|
 .grd ((0 : Int) ≤ (p_l.length : Int) ∧ 1168 * (p_l.length : Int).toNat ≤ 281474976710656 ∧ (p_l.length : Int).toNat ≤ maxLen) fun h1044 =>
 .say [] (okc (⟨rfl, h1044⟩ : ((p_l.length : Int) : Int) = (p_l.length : Int) ∧ (0 : Int) ≤ (p_l.length : Int) ∧ 1168 * (p_l.length : Int).toNat ≤ 281474976710656 ∧ (p_l.length : Int).toNat ≤ maxLen) (okc (by simp : p_l.length = (p_l.map GWrite.lf).length) ok0)) <|
 .ask (Q57_L0 R_ p_l 0 (List.replicate (p_l.length : Int).toNat GWrite.z)) fun r1094 h1095 =>
 .say [.pt_ 0 [1, 5, 14, 15, 16] 1 (.exit 0) (Q57_L0_S r1094)] (ok1 (Q57_L0_W h1095)) <|
 .ret ⟨[.frz 0], [0], [], 0⟩ (r1094)
theorem Q57_okT (R_ : RB1) (p_l : List GWrite) (r : List GWrite) (h : Mo.den (Q57_T R_ p_l) = some r) : FnH Tryz.prog GI 212 [.lf (.rows 78 (p_l.map GWrite.lf)), .raw (.func (.func 165) #[] #[])] [] (.lf (.rows 78 (r.map GWrite.lf))) [] :=
 fn_TH BaseK Tryz.func212 (by kernel_rfl) (by kernel_rfl) (by kernel_rfl) (Q57_T R_ p_l) (fun r => [.lf (.rows 78 (r.map GWrite.lf))]) (fun r => []) (by kernel_rfl) h
def RB1_F : Nat → RB1
 | 0 => { m1 := fun p_w => none, ok1 := fun _ _ h => (by cases h), m2 := fun p_l => none, ok2 := fun _ _ h => (by cases h) }
 | n_ + 1 => { m1 := fun p_w => Mo.den (Q93_T (RB1_F n_) p_w), ok1 := fun p_w r h => Q93_okT (RB1_F n_) p_w r h, m2 := fun p_l => Mo.den (Q57_T (RB1_F n_) p_l), ok2 := fun p_l r h => Q57_okT (RB1_F n_) p_l r h }
def Q93 (p_w : GWrite) : Option (GWrite) := (RB1_F FU).m1 p_w
theorem Q93_ok (p_w : GWrite) (r : GWrite) (h : Q93 p_w = some r) : Fn Tryz.prog GI 165 [.dat (GWrite.lf1 p_w)] (.dat (GWrite.lf1 r)) := (RB1_F FU).ok1 p_w r h
def Q104_T (p_e : GEntry) : Mo (GEntry) :=
 .ask (Q93 p_e.fWrite) fun r1098 h1099 =>
 .say [.res (.dat (GWrite.lf1 r1098))] (ok1 (Q93_ok _ _ h1099)) <|
 .ret (fitN 1) (GEntry.mk p_e.fTerm p_e.fStamp p_e.fSession p_e.fNumber r1098)
def Q104 (p_e : GEntry) : Option (GEntry) := Mo.den (Q104_T p_e)
theorem Q104_ok (p_e : GEntry) (r : GEntry) (h : Q104 p_e = some r) : Fn Tryz.prog GI 121 [.dat (GEntry.lf1 p_e)] (.dat (GEntry.lf1 r)) :=
 fn_T BaseK Tryz.func121 (by kernel_rfl) (by kernel_rfl) (by kernel_rfl) (Q104_T p_e) (fun r => [.dat (GEntry.lf1 r)]) (by kernel_rfl) h
def Q46_L0_T (p_l : List GEntry) : (Int × (List GEntry)) → Mo ((Int × (List GEntry)) ⊕ ((List GEntry))) := fun (v1133, l1134) =>
 .ite (decide ((v1133 : Int) < (p_l.length : Int))) (fun c1135 =>
 .say [.br true] (ok1 c1135) <|
 .ask (gidx p_l v1133) fun x1136 h1137 =>
 .say [.row (GEntry.lf1 x1136)] (okc (gidx_ok GEntry.lf_eq h1137 : (0 : Int) ≤ v1133 ∧ (p_l.map GEntry.lf)[v1133.toNat]? = some (GEntry.lf1 x1136)) ok0) <|
 .ask (Q104 x1136) fun r1138 h1139 =>
 .say [.res (.dat (GEntry.lf1 r1138))] (ok1 (Q104_ok _ _ h1139)) <|
 .ask (gidx l1134 v1133) fun x1140 h1141 =>
 .say [.row (GEntry.lf1 x1140), .rows ((l1134.set v1133.toNat r1138).map GEntry.lf)] (okc (gidx_lt GEntry.lf_eq h1141 : (0 : Int) ≤ v1133 ∧ v1133.toNat < (l1134.map GEntry.lf).length) (okc (by simp [GEntry.lf_eq] : (l1134.set v1133.toNat r1138).map GEntry.lf = (l1134.map GEntry.lf).set v1133.toNat (GEntry.lf1 r1138)) (okc ((gidx_ok GEntry.lf_eq h1141).2 : (l1134.map GEntry.lf)[v1133.toNat]? = some (GEntry.lf1 x1140)) ok0))) <|
 .ret ⟨[], [1, 5, 14, 15, 16], [], 1⟩ (.inl (IntKind.wrap .i64 (v1133 + 1), l1134.set v1133.toNat r1138))) fun c1135 =>
 .say [.br false] (ok1 c1135) <|
 .ret ⟨[], [5], [], 1⟩ (.inr (l1134))
def Q46_L0 (p_l : List GEntry) (v1133 : Int) (l1134 : List GEntry) : Option (((List GEntry))) := loopM (fun v_ => (Q46_L0_T p_l v_).den) FU (v1133, l1134)
def Q46_L0_H (p_l : List GEntry) : (Int × (List GEntry)) → St := fun (v1133, l1134) => ⟨[(1, .raw (.func (.func 121) #[] #[])), (5, .own 0), (14, .lf (.rows 82 (p_l.map GEntry.lf))), (15, .lf (.int .i64 (p_l.length : Int))), (16, .lf (.int .i64 v1133))], [.row 54 82 (l1134.map GEntry.lf)]⟩
def Q46_L0_S  (r_ : ((List GEntry))) : St := ⟨[(5, .own 0)], [.row 54 82 (r_.map GEntry.lf)]⟩
theorem Q46_L0_W {p_l : List GEntry} {v1133 : Int} {l1134 : List GEntry} {r_ : ((List GEntry))} (h : Q46_L0 p_l v1133 l1134 = some r_) : AWa_ Tryz.f120 0 [1, 1, 1, 0, 1, 0] (.exit 0) (Q46_L0_S r_) (Q46_L0_H p_l (v1133, l1134)) :=
 loop_T BaseK (body := (Code.sub (bodyC Tryz.f120) [1, 1, 1, 0, 1, 0, 0])) (by kernel_rfl) (Q46_L0_T p_l) (Q46_L0_H p_l) (fun _ => .exit 0) Q46_L0_S (fun r_ => rfl) (fun v_ => by kernel_rfl) h
def Q46_T (p_l : List GEntry) : Mo (List GEntry) :=
 .say [.num p_l.length] (okc (by simp : p_l.length = (p_l.map GEntry.lf).length) ok0) <|
 .ite ((p_l.length : Int) == 0) (fun c468 =>
 .say [.br true] (okc c468 (okc (by simp [GEntry.lf_eq] : (([] : List GEntry).map GEntry.lf) = []) ok0)) <|
 .ret ⟨[.nrow 0 54 82, .rerow 0 (([] : List GEntry).map GEntry.lf), .mvn 0], [0], [(1, 0)], 1⟩ (([] : List GEntry))) fun c468 =>
 .say [.br false, .num p_l.length, .rows ((List.replicate (p_l.length : Int).toNat (GEntry.mk 0 0 ⟨#[]⟩ 0 GWrite.z)).map GEntry.lf), .num p_l.length] (okc c468 (okc (by simp : p_l.length = (p_l.map GEntry.lf).length) (okc (by simp [GEntry.lf_eq] : (List.replicate (p_l.length : Int).toNat (GEntry.mk 0 0 ⟨#[]⟩ 0 GWrite.z)).map GEntry.lf = List.replicate (p_l.length : Int).toNat (GEntry.lf1 (GEntry.mk 0 0 ⟨#[]⟩ 0 GWrite.z))) ok0))) <|
 .grd ((0 : Int) ≤ (p_l.length : Int) ∧ 1208 * (p_l.length : Int).toNat ≤ 281474976710656 ∧ (p_l.length : Int).toNat ≤ maxLen) fun h470 =>
 .say [] (okc (⟨rfl, h470⟩ : ((p_l.length : Int) : Int) = (p_l.length : Int) ∧ (0 : Int) ≤ (p_l.length : Int) ∧ 1208 * (p_l.length : Int).toNat ≤ 281474976710656 ∧ (p_l.length : Int).toNat ≤ maxLen) (okc (by simp : p_l.length = (p_l.map GEntry.lf).length) ok0)) <|
 .ask (Q46_L0 p_l 0 (List.replicate (p_l.length : Int).toNat (GEntry.mk 0 0 ⟨#[]⟩ 0 GWrite.z))) fun r1143 h1144 =>
 .say [.pt_ 0 [1, 5, 14, 15, 16] 1 (.exit 0) (Q46_L0_S r1143)] (ok1 (Q46_L0_W h1144)) <|
 .ret ⟨[.mvn 0], [0], [(1, 0)], 1⟩ (r1143)
def Q46 (p_l : List GEntry) : Option (List GEntry) := Mo.den (Q46_T p_l)
theorem Q46_ok (p_l : List GEntry) (r : List GEntry) (h : Q46 p_l = some r) : FnH Tryz.prog GI 120 [.lf (.rows 82 (p_l.map GEntry.lf)), .raw (.func (.func 121) #[] #[])] [] (.own 0) [.row 54 82 (r.map GEntry.lf)] :=
 fn_TH BaseK Tryz.func120 (by kernel_rfl) (by kernel_rfl) (by kernel_rfl) (Q46_T p_l) (fun r => [.own 0]) (fun r => [.row 54 82 (r.map GEntry.lf)]) (by kernel_rfl) h
def Q91_T (p_m : GMember) : Mo (GMember) :=
 .ask (Q46 p_m.fLog) fun r1147 h1148 =>
 .say [.resH [] (.own 0) [.row 54 82 (r1147.map GEntry.lf)]] (ok1 (Q46_ok _ _ h1148)) <|
 .ask (Q84 p_m.fNext) fun r1151 h1152 =>
 .say [.resH [] (.own 0) [.row 3 1 (r1151.map lfI)]] (ok1 (Q84_ok _ _ h1152)) <|
 .ask (Q84 p_m.fMatch) fun r1155 h1156 =>
 .say [.resH [] (.own 0) [.row 3 1 (r1155.map lfI)]] (ok1 (Q84_ok _ _ h1156)) <|
 .ret ⟨[.kill 0, .kill 1, .mvn 2, .mvn 3, .mvn 4], [0], [(5, 0), (6, 1), (7, 2)], 3⟩ (GMember.sMatch (GMember.sNext (GMember.sLog p_m r1147) r1151) r1155)
def Q91 (p_m : GMember) : Option (GMember) := Mo.den (Q91_T p_m)
theorem Q91_ok (p_m : GMember) (r : GMember) (h : Q91 p_m = some r) : FnH Tryz.prog GI 88 [.dat (GMember.lf1 p_m)] [] (aggS (.agg ((GMember.lf1 r).map AV.lf)) [(8, .own 0), (10, .own 1), (11, .own 2)]) [.row 54 82 (r.fLog.map GEntry.lf), .row 3 1 (r.fNext.map lfI), .row 3 1 (r.fMatch.map lfI)] :=
 fn_TH BaseK Tryz.func88 (by kernel_rfl) (by kernel_rfl) (by kernel_rfl) (Q91_T p_m) (fun r => [aggS (.agg ((GMember.lf1 r).map AV.lf)) [(8, .own 0), (10, .own 1), (11, .own 2)]]) (fun r => [.row 54 82 (r.fLog.map GEntry.lf), .row 3 1 (r.fNext.map lfI), .row 3 1 (r.fMatch.map lfI)]) (by kernel_rfl) h
def Q122_T (p_id : Int) : Mo (Int) :=
 .ret (fitN 1) (IntKind.wrap .i64 (10 + (IntKind.wrap .i64 (3 * p_id))))
def Q122 (p_id : Int) : Option (Int) := Mo.den (Q122_T p_id)
theorem Q122_ok (p_id : Int) (r : Int) (h : Q122 p_id = some r) : Fn Tryz.prog GI 62 [.lf (.int .i64 p_id)] (.lf (.int .i64 r)) :=
 fn_T BaseK Tryz.func62 (by kernel_rfl) (by kernel_rfl) (by kernel_rfl) (Q122_T p_id) (fun r => [.lf (.int .i64 r)]) (by kernel_rfl) h
def Q76_J0_T (p_m : GMember) (p_term : Int) : Mo (Int) :=
 .ite (p_m.fRole == 2) (fun c1164 =>
 .say [.br true] (ok1 c1164) <|
 .ask (Q122 p_m.fID) fun r1165 h1166 =>
 .say [.res (.lf (.int .i64 r1165))] (ok1 (Q122_ok _ _ h1166)) <|
 .ret ⟨[], [1, 2, 4], [], 5⟩ (r1165)) fun c1164 =>
 .say [.br false] (ok1 c1164) <|
 .ret ⟨[], [1, 2, 4], [], 5⟩ (p_m.fTimer)
def Q76_J0 (p_m : GMember) (p_term : Int) : Option (Int) := Mo.den (Q76_J0_T p_m p_term)
def Q76_J0_S (p_m : GMember) (p_term : Int) (r_ : Int) : St := ⟨[(1, .lf (.int .i64 p_term)), (2, .ptr 3 0), (4, .ptr 4 0)], [.row 54 82 (p_m.fLog.map GEntry.lf), .row 3 1 (p_m.fNext.map lfI), .row 3 1 (p_m.fMatch.map lfI), .box 25 (aggS (.agg ((GMember.lf1 p_m).map AV.lf)) [(6, .lf (.int .i64 r_)), (8, .own 0), (10, .own 1), (11, .own 2)]), .box 25 (Z25)]⟩
theorem Q76_J0_W {p_m : GMember} {p_term : Int} {r_ : Int} (h : Q76_J0 p_m p_term = some r_) : AWa_ Tryz.f100 3 [1, 1, 0, 1] (.normal) (Q76_J0_S p_m p_term r_) ⟨[(1, .lf (.int .i64 p_term)), (2, .ptr 3 0), (4, .ptr 4 0), (12, .lf (.bool (p_m.fRole == 2)))], [.row 54 82 (p_m.fLog.map GEntry.lf), .row 3 1 (p_m.fNext.map lfI), .row 3 1 (p_m.fMatch.map lfI), .box 25 (aggS (.agg ((GMember.lf1 p_m).map AV.lf)) [(8, .own 0), (10, .own 1), (11, .own 2)]), .box 25 (Z25)]⟩ :=
 part_T BaseK (Q76_J0_T p_m p_term) (fun _ => .normal) (Q76_J0_S p_m p_term) (by kernel_rfl) h
def Q76_T (p_m : GMember) (p_term : Int) : Mo (GMember) :=
 .ite (decide ((p_term : Int) ≤ p_m.fTerm)) (fun c1160 =>
 .say [.br true] (ok1 c1160) <|
 .ret ⟨[.kill 3, .kill 4, .mvn 0, .mvn 1, .mvn 2], [0], [(5, 3), (6, 4), (7, 5)], 6⟩ (p_m)) fun c1160 =>
 .say [.br false] (ok1 c1160) <|
 .ask (Q76_J0 p_m p_term) fun r1168 h1169 =>
 .say [.pt_ 1 [1, 2, 4, 12] 5 (.normal) (Q76_J0_S p_m p_term r1168)] (okc (Q76_J0_W h1169) (okc (by simp [lfI, lfK] : (([] : List Int).map lfI) = []) (okc (by simp [lfI, lfK] : (([] : List Int).map lfI) = []) ok0))) <|
 .ret ⟨[.trow 0 10 3, .trow 0 11 3, .kill 1, .kill 2, .kill 3, .kill 4, .rerow 5 (([] : List Int).map lfI), .rerow 6 (([] : List Int).map lfI), .mvn 0, .mvn 5, .mvn 6], [0], [(7, 3), (8, 4), (9, 5)], 6⟩ (GMember.mk p_m.fID p_m.fSize p_term (-1) 0 (-1) r1168 0 p_m.fLog p_m.fCommit ([] : List Int) ([] : List Int))
def Q76 (p_m : GMember) (p_term : Int) : Option (GMember) := Mo.den (Q76_T p_m p_term)
theorem Q76_ok (p_m : GMember) (p_term : Int) (r : GMember) (h : Q76 p_m p_term = some r) : FnH Tryz.prog GI 100 [aggS (.agg ((GMember.lf1 p_m).map AV.lf)) [(8, .own 0), (10, .own 1), (11, .own 2)], .lf (.int .i64 p_term)] [.row 54 82 (p_m.fLog.map GEntry.lf), .row 3 1 (p_m.fNext.map lfI), .row 3 1 (p_m.fMatch.map lfI)] (aggS (.agg ((GMember.lf1 r).map AV.lf)) [(8, .own 3), (10, .own 4), (11, .own 5)]) [.dead, .dead, .dead, .row 54 82 (r.fLog.map GEntry.lf), .row 3 1 (r.fNext.map lfI), .row 3 1 (r.fMatch.map lfI)] :=
 fn_TH BaseK Tryz.func100 (by kernel_rfl) (by kernel_rfl) (by kernel_rfl) (Q76_T p_m p_term) (fun r => [aggS (.agg ((GMember.lf1 r).map AV.lf)) [(8, .own 3), (10, .own 4), (11, .own 5)]]) (fun r => [.dead, .dead, .dead, .row 54 82 (r.fLog.map GEntry.lf), .row 3 1 (r.fNext.map lfI), .row 3 1 (r.fMatch.map lfI)]) (by kernel_rfl) h
def Q113_T (p_m : GMember) (p_term : Int) : Mo (GMember) :=
 .ask (Q91 p_m) fun r1157 h1158 =>
 .say [.resH [] (aggS (.agg ((GMember.lf1 r1157).map AV.lf)) [(8, .own 0), (10, .own 1), (11, .own 2)]) [.row 54 82 (r1157.fLog.map GEntry.lf), .row 3 1 (r1157.fNext.map lfI), .row 3 1 (r1157.fMatch.map lfI)]] (ok1 (Q91_ok _ _ h1158)) <|
 .ask (Q76 r1157 p_term) fun r1170 h1171 =>
 .say [.resH [2, 3, 4] (aggS (.agg ((GMember.lf1 r1170).map AV.lf)) [(8, .own 3), (10, .own 4), (11, .own 5)]) [.dead, .dead, .dead, .row 54 82 (r1170.fLog.map GEntry.lf), .row 3 1 (r1170.fNext.map lfI), .row 3 1 (r1170.fMatch.map lfI)]] (ok1 (Q76_ok _ _ _ h1171)) <|
 .ret ⟨[.kill 0, .kill 1, .mvn 5, .mvn 6, .mvn 7], [0], [(8, 0), (9, 1), (10, 2)], 3⟩ (r1170)
def Q113 (p_m : GMember) (p_term : Int) : Option (GMember) := Mo.den (Q113_T p_m p_term)
theorem Q113_ok (p_m : GMember) (p_term : Int) (r : GMember) (h : Q113 p_m p_term = some r) : FnH Tryz.prog GI 72 [.dat (GMember.lf1 p_m), .lf (.int .i64 p_term)] [] (aggS (.agg ((GMember.lf1 r).map AV.lf)) [(8, .own 0), (10, .own 1), (11, .own 2)]) [.row 54 82 (r.fLog.map GEntry.lf), .row 3 1 (r.fNext.map lfI), .row 3 1 (r.fMatch.map lfI)] :=
 fn_TH BaseK Tryz.func72 (by kernel_rfl) (by kernel_rfl) (by kernel_rfl) (Q113_T p_m p_term) (fun r => [aggS (.agg ((GMember.lf1 r).map AV.lf)) [(8, .own 0), (10, .own 1), (11, .own 2)]]) (fun r => [.row 54 82 (r.fLog.map GEntry.lf), .row 3 1 (r.fNext.map lfI), .row 3 1 (r.fMatch.map lfI)]) (by kernel_rfl) h
def Q79_T (p_m : GMember) : Mo (GMember) :=
 .ask (Q113 p_m p_m.fTerm) fun r1172 h1173 =>
 .say [.resH [] (aggS (.agg ((GMember.lf1 r1172).map AV.lf)) [(8, .own 0), (10, .own 1), (11, .own 2)]) [.row 54 82 (r1172.fLog.map GEntry.lf), .row 3 1 (r1172.fNext.map lfI), .row 3 1 (r1172.fMatch.map lfI)]] (ok1 (Q113_ok _ _ _ h1173)) <|
 .ret ⟨[.kill 0, .kill 1, .mvn 2, .mvn 3, .mvn 4], [0], [(5, 0), (6, 1), (7, 2)], 3⟩ (r1172)
def Q79 (p_m : GMember) : Option (GMember) := Mo.den (Q79_T p_m)
theorem Q79_ok (p_m : GMember) (r : GMember) (h : Q79 p_m = some r) : FnH Tryz.prog GI 36 [.dat (GMember.lf1 p_m)] [] (aggS (.agg ((GMember.lf1 r).map AV.lf)) [(8, .own 0), (10, .own 1), (11, .own 2)]) [.row 54 82 (r.fLog.map GEntry.lf), .row 3 1 (r.fNext.map lfI), .row 3 1 (r.fMatch.map lfI)] :=
 fn_TH BaseK Tryz.func36 (by kernel_rfl) (by kernel_rfl) (by kernel_rfl) (Q79_T p_m) (fun r => [aggS (.agg ((GMember.lf1 r).map AV.lf)) [(8, .own 0), (10, .own 1), (11, .own 2)]]) (fun r => [.row 54 82 (r.fLog.map GEntry.lf), .row 3 1 (r.fNext.map lfI), .row 3 1 (r.fMatch.map lfI)]) (by kernel_rfl) h
def Q110_T  : Mo (GReport) :=
 .ret (fitN 1) (GReport.mk (-1) 0 0 [])
def Q110  : Option (GReport) := Mo.den (Q110_T )
theorem Q110_ok  (r : GReport) (h : Q110  = some r) : Fn Tryz.prog GI 42 [] (.dat (GReport.lf1 r)) :=
 fn_T BaseK Tryz.func42 (by kernel_rfl) (by kernel_rfl) (by kernel_rfl) (Q110_T ) (fun r => [.dat (GReport.lf1 r)]) (by kernel_rfl) h
def Q102_T (p_x : GMessage) (p_ok : Bool) (p_index : Int) (p_b0 : GReplicaNode) : Mo (GReplicaNode) :=
 .say [.order [(true, 0), (true, 1), (true, 2), (true, 3), (true, 4), (true, 5), (true, 6), (true, 7), (true, 8), (true, 9), (true, 10), (true, 11), (true, 12), (true, 13), (true, 14), (true, 15), (true, 16), (true, 17), (true, 18), (true, 19), (false, 20), (false, 21), (true, 22), (true, 23), (false, 24)] (some 24) [4, 6, 7], .rows ((p_b0.fsent ++ [GMessage.sOK (GMessage.sIndex (GMessage.sTerm (GMessage.sKind (GMessage.sTo (GMessage.sFrom GMessage.z p_b0.fmember.fID) p_x.fFrom) 4) p_b0.fmember.fTerm) p_index) p_ok]).map GMessage.lf)] (okc (by simp [GMessage.lf_eq] : (p_b0.fsent ++ [GMessage.sOK (GMessage.sIndex (GMessage.sTerm (GMessage.sKind (GMessage.sTo (GMessage.sFrom GMessage.z p_b0.fmember.fID) p_x.fFrom) 4) p_b0.fmember.fTerm) p_index) p_ok]).map GMessage.lf = (p_b0.fsent.map GMessage.lf) ++ [(GMessage.lf1 (GMessage.sOK (GMessage.sIndex (GMessage.sTerm (GMessage.sKind (GMessage.sTo (GMessage.sFrom GMessage.z p_b0.fmember.fID) p_x.fFrom) 4) p_b0.fmember.fTerm) p_index) p_ok))]) ok0) <|
 .grd ((p_b0.fsent.length + [GMessage.sOK (GMessage.sIndex (GMessage.sTerm (GMessage.sKind (GMessage.sTo (GMessage.sFrom GMessage.z p_b0.fmember.fID) p_x.fFrom) 4) p_b0.fmember.fTerm) p_index) p_ok].length) * 88 ≤ 140737488355328) fun h1265 =>
 .say [] (okc (by simpa using h1265 : ((p_b0.fsent.map GMessage.lf).length + [(GMessage.lf1 (GMessage.sOK (GMessage.sIndex (GMessage.sTerm (GMessage.sKind (GMessage.sTo (GMessage.sFrom GMessage.z p_b0.fmember.fID) p_x.fFrom) 4) p_b0.fmember.fTerm) p_index) p_ok))].length) * 88 ≤ 140737488355328) ok0) <|
 .ret ⟨[.kill 5, .kill 6, .mvn 1, .mvn 2, .mvn 3, .mvn 7], [], [(8, 5), (9, 6), (10, 7), (11, 8)], 9⟩ (GReplicaNode.mk p_b0.fmember (p_b0.fsent ++ [GMessage.sOK (GMessage.sIndex (GMessage.sTerm (GMessage.sKind (GMessage.sTo (GMessage.sFrom GMessage.z p_b0.fmember.fID) p_x.fFrom) 4) p_b0.fmember.fTerm) p_index) p_ok]) p_b0.freport)
def Q102 (p_x : GMessage) (p_ok : Bool) (p_index : Int) (p_b0 : GReplicaNode) : Option (GReplicaNode) := Mo.den (Q102_T p_x p_ok p_index p_b0)
theorem Q102_ok (p_x : GMessage) (p_ok : Bool) (p_index : Int) (p_b0 : GReplicaNode) (r : GReplicaNode) (h : Q102 p_x p_ok p_index p_b0 = some r) : FnH Tryz.prog GI 81 [.ptr 0 0, .dat (GMessage.lf1 p_x), .lf (.bool p_ok), .lf (.int .i64 p_index)] [.box 97 (aggS (.agg ((GReplicaNode.lf1 p_b0).map AV.lf)) [(8, .own 1), (10, .own 2), (11, .own 3), (12, .own 4)]), .row 54 82 (p_b0.fmember.fLog.map GEntry.lf), .row 3 1 (p_b0.fmember.fNext.map lfI), .row 3 1 (p_b0.fmember.fMatch.map lfI), .row 63 9 (p_b0.fsent.map GMessage.lf)] (.tup []) [.box 97 (aggS (.agg ((GReplicaNode.lf1 r).map AV.lf)) [(8, .own 5), (10, .own 6), (11, .own 7), (12, .own 8)]), .dead, .dead, .dead, .dead, .row 54 82 (r.fmember.fLog.map GEntry.lf), .row 3 1 (r.fmember.fNext.map lfI), .row 3 1 (r.fmember.fMatch.map lfI), .row 63 9 (r.fsent.map GMessage.lf)] :=
 fn_TH BaseK Tryz.func81 (by kernel_rfl) (by kernel_rfl) (by kernel_rfl) (Q102_T p_x p_ok p_index p_b0) (fun r => []) (fun r => [.box 97 (aggS (.agg ((GReplicaNode.lf1 r).map AV.lf)) [(8, .own 5), (10, .own 6), (11, .own 7), (12, .own 8)]), .dead, .dead, .dead, .dead, .row 54 82 (r.fmember.fLog.map GEntry.lf), .row 3 1 (r.fmember.fNext.map lfI), .row 3 1 (r.fmember.fMatch.map lfI), .row 63 9 (r.fsent.map GMessage.lf)]) (by kernel_rfl) h
def Q77_J0_T (p_n : Int) (p_s0 : List GEntry) : Mo (Bool) :=
 .ite (decide ((p_n : Int) < 1)) (fun c1351 =>
 .say [.gd 4002 true] (ok1 c1351) <|
 .ret ⟨[], [0, 1, 12], [], 1⟩ (true)) fun c1351 =>
 .say [.gd 4002 false, .num p_s0.length] (okc c1351 (okc (by simp : p_s0.length = (p_s0.map GEntry.lf).length) ok0)) <|
 .ret ⟨[], [0, 1, 12], [], 1⟩ (decide (((p_s0.length : Int) : Int) < p_n))
def Q77_J0 (p_n : Int) (p_s0 : List GEntry) : Option (Bool) := Mo.den (Q77_J0_T p_n p_s0)
def Q77_J0_S (p_n : Int) (p_s0 : List GEntry) (r_ : Bool) : St := ⟨[(0, .own 0), (1, .lf (.int .i64 p_n)), (12, .lf (.bool r_))], [.row 54 82 (p_s0.map GEntry.lf)]⟩
theorem Q77_J0_W {p_n : Int} {p_s0 : List GEntry} {r_ : Bool} (h : Q77_J0 p_n p_s0 = some r_) : AWa_ Tryz.f53 1 [1, 0, 0] (.normal) (Q77_J0_S p_n p_s0 r_) ⟨[(0, .own 0), (1, .lf (.int .i64 p_n))], [.row 54 82 (p_s0.map GEntry.lf)]⟩ :=
 part_T BaseK (Q77_J0_T p_n p_s0) (fun _ => .normal) (Q77_J0_S p_n p_s0) (by kernel_rfl) h
def Q77_T (p_n : Int) (p_s0 : List GEntry) : Mo (Int) :=
 .ask (Q77_J0 p_n p_s0) fun r1353 h1354 =>
 .say [.pt_ 9 [0, 1] 1 (.normal) (Q77_J0_S p_n p_s0 r1353)] (ok1 (Q77_J0_W h1354)) <|
 .ite (r1353) (fun c1356 =>
 .say [.br true] (ok1 c1356) <|
 .ret ⟨[], [0], [], 1⟩ (0)) fun c1356 =>
 .say [.br false] (ok1 c1356) <|
 .ask (gidx p_s0 (IntKind.wrap .i64 (p_n - 1))) fun x1357 h1358 =>
 .say [.row (GEntry.lf1 x1357)] (okc (gidx_lt GEntry.lf_eq h1358 : (0 : Int) ≤ (IntKind.wrap .i64 (p_n - 1)) ∧ (IntKind.wrap .i64 (p_n - 1)).toNat < (p_s0.map GEntry.lf).length) (okc ((gidx_ok GEntry.lf_eq h1358).2 : (p_s0.map GEntry.lf)[(IntKind.wrap .i64 (p_n - 1)).toNat]? = some (GEntry.lf1 x1357)) ok0)) <|
 .ret ⟨[], [0], [], 1⟩ (x1357.fTerm)
def Q77 (p_n : Int) (p_s0 : List GEntry) : Option (Int) := Mo.den (Q77_T p_n p_s0)
theorem Q77_ok (p_n : Int) (p_s0 : List GEntry) (r : Int) (h : Q77 p_n p_s0 = some r) : FnH Tryz.prog GI 53 [.own 0, .lf (.int .i64 p_n)] [.row 54 82 (p_s0.map GEntry.lf)] (.lf (.int .i64 r)) [.row 54 82 (p_s0.map GEntry.lf)] :=
 fn_TH BaseK Tryz.func53 (by kernel_rfl) (by kernel_rfl) (by kernel_rfl) (Q77_T p_n p_s0) (fun r => [.lf (.int .i64 r)]) (fun r => [.row 54 82 (p_s0.map GEntry.lf)]) (by kernel_rfl) h
def Q130_T (p_a : GEntry) (p_b : GEntry) : Mo (Bool) :=
 .ite (p_a.fTerm == p_b.fTerm) (fun c1380 =>
 .say [.gd 4005 true] (ok1 c1380) <|
 .ret (fitN 1) (p_a.fStamp == p_b.fStamp)) fun c1380 =>
 .say [.gd 4005 false] (ok1 c1380) <|
 .ret (fitN 1) (false)
def Q130 (p_a : GEntry) (p_b : GEntry) : Option (Bool) := Mo.den (Q130_T p_a p_b)
theorem Q130_ok (p_a : GEntry) (p_b : GEntry) (r : Bool) (h : Q130 p_a p_b = some r) : Fn Tryz.prog GI 164 [.dat (GEntry.lf1 p_a), .dat (GEntry.lf1 p_b)] (.lf (.bool r)) :=
 fn_T BaseK Tryz.func164 (by kernel_rfl) (by kernel_rfl) (by kernel_rfl) (Q130_T p_a p_b) (fun r => [.lf (.bool r)]) (by kernel_rfl) h
def Q49_L0_T (p_b0 : GReplicaNode) (p_x : GMessage) : (Int) → Mo ((Int) ⊕ (Unit ⊕ (Int))) := fun (v1422) =>
 .ite (decide ((v1422 : Int) < (p_x.fEntries.length : Int))) (fun c1423 =>
 .say [.br true] (ok1 c1423) <|
 .ask (gidx p_x.fEntries v1422) fun x1424 h1425 =>
 .say [.row (GEntry.lf1 x1424), .num p_b0.fmember.fLog.length] (okc (gidx_ok GEntry.lf_eq h1425 : (0 : Int) ≤ v1422 ∧ (p_x.fEntries.map GEntry.lf)[v1422.toNat]? = some (GEntry.lf1 x1424)) (okc (by simp : p_b0.fmember.fLog.length = (p_b0.fmember.fLog.map GEntry.lf).length) ok0)) <|
 .ite (decide (((p_b0.fmember.fLog.length : Int) : Int) ≤ (IntKind.wrap .i64 (p_x.fIndex + v1422)))) (fun c1426 =>
 .say [.br true] (ok1 c1426) <|
 .ret ⟨[.kill 5], [0], [], 6⟩ (.inr (.inl ()))) fun c1426 =>
 .say [.br false] (ok1 c1426) <|
 .ask (gidx p_b0.fmember.fLog (IntKind.wrap .i64 (p_x.fIndex + v1422))) fun x1427 h1428 =>
 .say [] (okc (gidx_lt GEntry.lf_eq h1428 : (0 : Int) ≤ (IntKind.wrap .i64 (p_x.fIndex + v1422)) ∧ (IntKind.wrap .i64 (p_x.fIndex + v1422)).toNat < (p_b0.fmember.fLog.map GEntry.lf).length) (okc ((gidx_ok GEntry.lf_eq h1428).2 : (p_b0.fmember.fLog.map GEntry.lf)[(IntKind.wrap .i64 (p_x.fIndex + v1422)).toNat]? = some (GEntry.lf1 x1427)) ok0)) <|
 .ask (Q130 x1424 x1427) fun r1429 h1430 =>
 .say [.orderT (.q 0 (.q 1 (.q 2 (.q 3 (.q 4 (.q 6 (.l 5 (.q 7 (.q 8 (.l 9 (.q 10 .fin))))))))))) (some 9) [] [.row (GEntry.lf1 x1427), .res (.lf (.bool r1429))] [0, 3, 7, 9, 10, 11, 38] 7 [(0, .ptr 0 0), (3, .ptr 5 0), (7, .lf (.int .i64 (IntKind.wrap .i64 (p_x.fIndex + v1422)))), (9, .lf (.rows 82 (p_x.fEntries.map GEntry.lf))), (10, .lf (.int .i64 (p_x.fEntries.length : Int))), (11, .lf (.int .i64 v1422)), (38, .lf (.bool (!r1429)))] [.box 97 (aggS (.agg ((GReplicaNode.lf1 p_b0).map AV.lf)) [(8, .own 1), (10, .own 2), (11, .own 3), (12, .own 4)]), .row 54 82 (p_b0.fmember.fLog.map GEntry.lf), .row 3 1 (p_b0.fmember.fNext.map lfI), .row 3 1 (p_b0.fmember.fMatch.map lfI), .row 63 9 (p_b0.fsent.map GMessage.lf), .box 63 (.dat (GMessage.lf1 p_x)), .box 54 (.agg ((GEntry.lf1 x1424).map AV.lf))]] (okc (Q130_ok _ _ _ h1430) (okc (rfl : (some ⟨[(0, .ptr 0 0), (3, .ptr 5 0), (7, .lf (.int .i64 (IntKind.wrap .i64 (p_x.fIndex + v1422)))), (9, .lf (.rows 82 (p_x.fEntries.map GEntry.lf))), (10, .lf (.int .i64 (p_x.fEntries.length : Int))), (11, .lf (.int .i64 v1422)), (38, .lf (.bool (!r1429)))], [.box 97 (aggS (.agg ((GReplicaNode.lf1 p_b0).map AV.lf)) [(8, .own 1), (10, .own 2), (11, .own 3), (12, .own 4)]), .row 54 82 (p_b0.fmember.fLog.map GEntry.lf), .row 3 1 (p_b0.fmember.fNext.map lfI), .row 3 1 (p_b0.fmember.fMatch.map lfI), .row 63 9 (p_b0.fsent.map GMessage.lf), .box 63 (.dat (GMessage.lf1 p_x)), .box 54 (.agg ((GEntry.lf1 x1424).map AV.lf))]⟩ : Option St) = some ⟨[(0, .ptr 0 0), (3, .ptr 5 0), (7, .lf (.int .i64 (IntKind.wrap .i64 (p_x.fIndex + v1422)))), (9, .lf (.rows 82 (p_x.fEntries.map GEntry.lf))), (10, .lf (.int .i64 (p_x.fEntries.length : Int))), (11, .lf (.int .i64 v1422)), (38, .lf (.bool (!r1429)))], [.box 97 (aggS (.agg ((GReplicaNode.lf1 p_b0).map AV.lf)) [(8, .own 1), (10, .own 2), (11, .own 3), (12, .own 4)]), .row 54 82 (p_b0.fmember.fLog.map GEntry.lf), .row 3 1 (p_b0.fmember.fNext.map lfI), .row 3 1 (p_b0.fmember.fMatch.map lfI), .row 63 9 (p_b0.fsent.map GMessage.lf), .box 63 (.dat (GMessage.lf1 p_x)), .box 54 (.agg ((GEntry.lf1 x1424).map AV.lf))]⟩) ok0)) <|
 .ite (!r1429) (fun c1431 =>
 .say [.br true] (ok1 c1431) <|
 .ret ⟨[.kill 5], [4], [], 6⟩ (.inr (.inr ((IntKind.wrap .i64 (p_x.fIndex + v1422)))))) fun c1431 =>
 .say [.br false] (ok1 c1431) <|
 .ret ⟨[], [0, 3, 9, 10, 11], [], 6⟩ (.inl (IntKind.wrap .i64 (v1422 + 1)))) fun c1423 =>
 .say [.br false] (ok1 c1423) <|
 .ret ⟨[.kill 5], [0], [], 6⟩ (.inr (.inl ()))
def Q49_L0 (p_b0 : GReplicaNode) (p_x : GMessage) (v1422 : Int) : Option (Unit ⊕ (Int)) := loopM (fun v_ => (Q49_L0_T p_b0 p_x v_).den) FU (v1422)
def Q49_L0_H (p_b0 : GReplicaNode) (p_x : GMessage) : (Int) → St := fun (v1422) => ⟨[(0, .ptr 0 0), (3, .ptr 5 0), (9, .lf (.rows 82 (p_x.fEntries.map GEntry.lf))), (10, .lf (.int .i64 (p_x.fEntries.length : Int))), (11, .lf (.int .i64 v1422))], [.box 97 (aggS (.agg ((GReplicaNode.lf1 p_b0).map AV.lf)) [(8, .own 1), (10, .own 2), (11, .own 3), (12, .own 4)]), .row 54 82 (p_b0.fmember.fLog.map GEntry.lf), .row 3 1 (p_b0.fmember.fNext.map lfI), .row 3 1 (p_b0.fmember.fMatch.map lfI), .row 63 9 (p_b0.fsent.map GMessage.lf), .box 63 (.dat (GMessage.lf1 p_x))]⟩
def Q49_L0_X (r_ : Unit ⊕ (Int)) : Exit := match r_ with
 | .inl o_ => .exit 0
 | .inr (o_) => .ret
def Q49_L0_S (p_b0 : GReplicaNode) (r_ : Unit ⊕ (Int)) : St := match r_ with
 | .inl o_ => ⟨[(0, .ptr 0 0)], [.box 97 (aggS (.agg ((GReplicaNode.lf1 p_b0).map AV.lf)) [(8, .own 1), (10, .own 2), (11, .own 3), (12, .own 4)]), .row 54 82 (p_b0.fmember.fLog.map GEntry.lf), .row 3 1 (p_b0.fmember.fNext.map lfI), .row 3 1 (p_b0.fmember.fMatch.map lfI), .row 63 9 (p_b0.fsent.map GMessage.lf), .dead]⟩
 | .inr (o_) => ⟨[(4, .lf (.int .i64 o_))], [.box 97 (aggS (.agg ((GReplicaNode.lf1 p_b0).map AV.lf)) [(8, .own 1), (10, .own 2), (11, .own 3), (12, .own 4)]), .row 54 82 (p_b0.fmember.fLog.map GEntry.lf), .row 3 1 (p_b0.fmember.fNext.map lfI), .row 3 1 (p_b0.fmember.fMatch.map lfI), .row 63 9 (p_b0.fsent.map GMessage.lf), .dead]⟩
theorem Q49_L0_W {p_b0 : GReplicaNode} {p_x : GMessage} {v1422 : Int} {r_ : Unit ⊕ (Int)} (h : Q49_L0 p_b0 p_x v1422 = some r_) : AWa_ Tryz.f119 5 [1, 0, 1, 0] (Q49_L0_X r_) (Q49_L0_S p_b0 r_) (Q49_L0_H p_b0 p_x (v1422)) :=
 loop_T BaseK (body := (Code.sub (bodyC Tryz.f119) [1, 0, 1, 0, 0])) (by kernel_rfl) (Q49_L0_T p_b0 p_x) (Q49_L0_H p_b0 p_x) Q49_L0_X (Q49_L0_S p_b0) (fun r_ => by rcases r_ with _ | _ <;> rfl) (fun v_ => by kernel_rfl) h
def Q49_T (p_x : GMessage) (p_b0 : GReplicaNode) : Mo (Int) :=
 .say [.num p_x.fEntries.length] (okc (by simp : p_x.fEntries.length = (p_x.fEntries.map GEntry.lf).length) ok0) <|
 .ask2 (Q49_L0 p_b0 p_x 0) (fun o1436 h1435 =>
 .say [.pt_ 0 [0, 3, 9, 10, 11] 6 (Q49_L0_X (.inl o1436)) (Q49_L0_S p_b0 (.inl o1436)), .num p_b0.fmember.fLog.length] (okc (Q49_L0_W h1435) (okc (by simp : p_b0.fmember.fLog.length = (p_b0.fmember.fLog.map GEntry.lf).length) ok0)) <|
 .ret ⟨[.mvn 1, .mvn 2, .mvn 3, .mvn 4], [0], [(6, 5), (7, 6), (8, 7), (9, 8)], 9⟩ ((p_b0.fmember.fLog.length : Int))) fun o1437 h1435 =>
 .say [.pt_ 0 [0, 3, 9, 10, 11] 6 (Q49_L0_X (.inr (o1437))) (Q49_L0_S p_b0 (.inr (o1437)))] (ok1 (Q49_L0_W h1435)) <|
 .ret ⟨[.mvn 1, .mvn 2, .mvn 3, .mvn 4], [0], [(6, 5), (7, 6), (8, 7), (9, 8)], 9⟩ (o1437)
def Q49 (p_x : GMessage) (p_b0 : GReplicaNode) : Option (Int) := Mo.den (Q49_T p_x p_b0)
theorem Q49_ok (p_x : GMessage) (p_b0 : GReplicaNode) (r : Int) (h : Q49 p_x p_b0 = some r) : FnH Tryz.prog GI 119 [.ptr 0 0, .dat (GMessage.lf1 p_x)] [.box 97 (aggS (.agg ((GReplicaNode.lf1 p_b0).map AV.lf)) [(8, .own 1), (10, .own 2), (11, .own 3), (12, .own 4)]), .row 54 82 (p_b0.fmember.fLog.map GEntry.lf), .row 3 1 (p_b0.fmember.fNext.map lfI), .row 3 1 (p_b0.fmember.fMatch.map lfI), .row 63 9 (p_b0.fsent.map GMessage.lf)] (.lf (.int .i64 r)) [.box 97 (aggS (.agg ((GReplicaNode.lf1 p_b0).map AV.lf)) [(8, .own 5), (10, .own 6), (11, .own 7), (12, .own 8)]), .dead, .dead, .dead, .dead, .row 54 82 (p_b0.fmember.fLog.map GEntry.lf), .row 3 1 (p_b0.fmember.fNext.map lfI), .row 3 1 (p_b0.fmember.fMatch.map lfI), .row 63 9 (p_b0.fsent.map GMessage.lf)] :=
 fn_TH BaseK Tryz.func119 (by kernel_rfl) (by kernel_rfl) (by kernel_rfl) (Q49_T p_x p_b0) (fun r => [.lf (.int .i64 r)]) (fun r => [.box 97 (aggS (.agg ((GReplicaNode.lf1 p_b0).map AV.lf)) [(8, .own 5), (10, .own 6), (11, .own 7), (12, .own 8)]), .dead, .dead, .dead, .dead, .row 54 82 (p_b0.fmember.fLog.map GEntry.lf), .row 3 1 (p_b0.fmember.fNext.map lfI), .row 3 1 (p_b0.fmember.fMatch.map lfI), .row 63 9 (p_b0.fsent.map GMessage.lf)]) (by kernel_rfl) h
def Q75_J0_T (p_b0 : GReplicaNode) (p_x : GMessage) : Mo (Bool) :=
 .ite (decide ((p_x.fIndex : Int) < 0)) (fun c1361 =>
 .say [.order [(true, 0), (true, 1), (true, 2), (true, 3), (true, 4), (true, 5), (true, 6), (true, 7), (true, 8), (true, 9), (false, 10), (true, 11), (true, 12), (true, 13), (true, 14), (true, 15), (true, 16), (true, 17), (true, 18), (true, 19), (true, 21), (true, 22), (false, 20), (true, 23), (true, 24)] none [], .gd 6003 true] (ok1 c1361) <|
 .ret ⟨[], [0, 3, 5, 33], [], 6⟩ (true)) fun c1361 =>
 .say [] (okc c1361 (okc (by simp : p_b0.fmember.fLog.length = (p_b0.fmember.fLog.map GEntry.lf).length) ok0)) <|
 .ite (decide (((p_b0.fmember.fLog.length : Int) : Int) < p_x.fIndex)) (fun c1362 =>
 .say [.order [(true, 0), (true, 1), (true, 2), (true, 3), (true, 4), (true, 5), (true, 6), (true, 7), (true, 8), (true, 9), (false, 10), (true, 11), (true, 12), (true, 13), (true, 14), (true, 15), (true, 16), (true, 17), (true, 18), (true, 19), (true, 21), (true, 22), (false, 20), (true, 23), (true, 24)] none [], .gd 6003 false, .num p_b0.fmember.fLog.length, .gd 6013 true] (ok1 c1362) <|
 .ret ⟨[], [0, 3, 5, 33], [], 6⟩ (true)) fun c1362 =>
 .say [.order [(true, 0), (true, 1), (true, 2), (true, 3), (true, 4), (true, 5), (true, 6), (true, 7), (true, 8), (true, 9), (false, 10), (true, 11), (true, 12), (true, 13), (true, 14), (true, 15), (true, 16), (true, 17), (true, 18), (true, 19), (true, 21), (true, 22), (false, 20), (true, 23), (true, 24)] none [1], .gd 6003 false, .num p_b0.fmember.fLog.length, .gd 6013 false] (ok1 c1362) <|
 .ask (Q77 p_x.fIndex p_b0.fmember.fLog) fun r1363 h1364 =>
 .say [.resH [1] (.lf (.int .i64 r1363)) [.row 54 82 (p_b0.fmember.fLog.map GEntry.lf)]] (ok1 (Q77_ok _ _ _ h1364)) <|
 .ret ⟨[], [0, 3, 5, 33], [], 6⟩ (r1363 != p_x.fLast)
def Q75_J0 (p_b0 : GReplicaNode) (p_x : GMessage) : Option (Bool) := Mo.den (Q75_J0_T p_b0 p_x)
def Q75_J0_S (p_b0 : GReplicaNode) (p_x : GMessage) (r_ : Bool) : St := ⟨[(0, .ptr 0 0), (3, .ptr 5 0), (5, .ptr 0 0), (33, .lf (.bool r_))], [.box 97 (aggS (.agg ((GReplicaNode.lf1 p_b0).map AV.lf)) [(8, .own 1), (10, .own 2), (11, .own 3), (12, .own 4)]), .row 54 82 (p_b0.fmember.fLog.map GEntry.lf), .row 3 1 (p_b0.fmember.fNext.map lfI), .row 3 1 (p_b0.fmember.fMatch.map lfI), .row 63 9 (p_b0.fsent.map GMessage.lf), .box 63 (.dat (GMessage.lf1 p_x))]⟩
theorem Q75_J0_W {p_b0 : GReplicaNode} {p_x : GMessage} {r_ : Bool} (h : Q75_J0 p_b0 p_x = some r_) : AWa_ Tryz.f82 5 [1, 1, 0, 0] (.normal) (Q75_J0_S p_b0 p_x r_) ⟨[(0, .ptr 0 0), (3, .ptr 5 0), (5, .ptr 0 0)], [.box 97 (aggS (.agg ((GReplicaNode.lf1 p_b0).map AV.lf)) [(8, .own 1), (10, .own 2), (11, .own 3), (12, .own 4)]), .row 54 82 (p_b0.fmember.fLog.map GEntry.lf), .row 3 1 (p_b0.fmember.fNext.map lfI), .row 3 1 (p_b0.fmember.fMatch.map lfI), .row 63 9 (p_b0.fsent.map GMessage.lf), .box 63 (.dat (GMessage.lf1 p_x))]⟩ :=
 part_T BaseK (Q75_J0_T p_b0 p_x) (fun _ => .normal) (Q75_J0_S p_b0 p_x) (by kernel_rfl) h
def Q75_T (p_x : GMessage) (p_b0 : GReplicaNode) : Mo (Bool) :=
 .ask (Q75_J0 p_b0 p_x) fun r1366 h1367 =>
 .say [.pt_ 11 [0, 3, 5] 6 (.normal) (Q75_J0_S p_b0 p_x r1366)] (ok1 (Q75_J0_W h1367)) <|
 .ite (r1366) (fun c1369 =>
 .say [.br true] (ok1 c1369) <|
 .ret ⟨[.kill 5, .mvn 1, .mvn 2, .mvn 3, .mvn 4], [0], [(6, 5), (7, 6), (8, 7), (9, 8)], 9⟩ (true)) fun c1369 =>
 .say [.br false] (ok1 c1369) <|
 .ask (Q49 p_x p_b0) fun r1438 h1439 =>
 .say [] (ok1 (Q49_ok _ _ _ h1439)) <|
 .ite (decide ((r1438 : Int) < p_b0.fmember.fCommit)) (fun c1440 =>
 .say [.orderT (.q 0 (.q 1 (.q 3 (.q 4 (.q 5 (.alt 2 (.l 6 (.q 7 (.q 8 (.q 9 (.q 11 (.alt 10 (.l 12 (.q 13 (.q 14 (.q 15 (.q 16 (.q 17 .fin)))))) (.l 12 (.q 13 (.l 10 (.q 14 (.q 15 (.q 16 (.q 17 .fin))))))))))))) (.l 6 (.l 2 (.q 7 (.q 8 (.q 9 (.q 11 (.alt 10 (.l 12 (.q 13 (.q 14 (.q 15 (.q 16 (.q 17 .fin)))))) (.l 12 (.q 13 (.l 10 (.q 14 (.q 15 (.q 16 (.q 17 .fin)))))))))))))))))))) none [0, 1, 2, 3, 4] [.both [.resH [0, 1, 2, 3, 4] (.lf (.int .i64 r1438)) [.box 97 (aggS (.agg ((GReplicaNode.lf1 p_b0).map AV.lf)) [(8, .own 5), (10, .own 6), (11, .own 7), (12, .own 8)]), .dead, .dead, .dead, .dead, .row 54 82 (p_b0.fmember.fLog.map GEntry.lf), .row 3 1 (p_b0.fmember.fNext.map lfI), .row 3 1 (p_b0.fmember.fMatch.map lfI), .row 63 9 (p_b0.fsent.map GMessage.lf)], .gd 10008 true, .both [] []] [.resH [0, 1, 2, 3, 4] (.lf (.int .i64 r1438)) [.box 97 (aggS (.agg ((GReplicaNode.lf1 p_b0).map AV.lf)) [(8, .own 5), (10, .own 6), (11, .own 7), (12, .own 8)]), .dead, .dead, .dead, .dead, .row 54 82 (p_b0.fmember.fLog.map GEntry.lf), .row 3 1 (p_b0.fmember.fNext.map lfI), .row 3 1 (p_b0.fmember.fMatch.map lfI), .row 63 9 (p_b0.fsent.map GMessage.lf)], .gd 10008 true, .both [] []]] [4] 10 [(4, .lf (.bool true))] [.box 97 (aggS (.agg ((GReplicaNode.lf1 p_b0).map AV.lf)) [(8, .own 6), (10, .own 7), (11, .own 8), (12, .own 9)]), .dead, .dead, .dead, .dead, .box 63 (.dat (GMessage.lf1 p_x)), .row 54 82 (p_b0.fmember.fLog.map GEntry.lf), .row 3 1 (p_b0.fmember.fNext.map lfI), .row 3 1 (p_b0.fmember.fMatch.map lfI), .row 63 9 (p_b0.fsent.map GMessage.lf)]] (okc c1440 (okc (rfl : (some ⟨[(4, .lf (.bool true))], [.box 97 (aggS (.agg ((GReplicaNode.lf1 p_b0).map AV.lf)) [(8, .own 6), (10, .own 7), (11, .own 8), (12, .own 9)]), .dead, .dead, .dead, .dead, .box 63 (.dat (GMessage.lf1 p_x)), .row 54 82 (p_b0.fmember.fLog.map GEntry.lf), .row 3 1 (p_b0.fmember.fNext.map lfI), .row 3 1 (p_b0.fmember.fMatch.map lfI), .row 63 9 (p_b0.fsent.map GMessage.lf)]⟩ : Option St) = some ⟨[(4, .lf (.bool true))], [.box 97 (aggS (.agg ((GReplicaNode.lf1 p_b0).map AV.lf)) [(8, .own 6), (10, .own 7), (11, .own 8), (12, .own 9)]), .dead, .dead, .dead, .dead, .box 63 (.dat (GMessage.lf1 p_x)), .row 54 82 (p_b0.fmember.fLog.map GEntry.lf), .row 3 1 (p_b0.fmember.fNext.map lfI), .row 3 1 (p_b0.fmember.fMatch.map lfI), .row 63 9 (p_b0.fsent.map GMessage.lf)]⟩) (okc (rfl : (some ⟨[(4, .lf (.bool true))], [.box 97 (aggS (.agg ((GReplicaNode.lf1 p_b0).map AV.lf)) [(8, .own 6), (10, .own 7), (11, .own 8), (12, .own 9)]), .dead, .dead, .dead, .dead, .box 63 (.dat (GMessage.lf1 p_x)), .row 54 82 (p_b0.fmember.fLog.map GEntry.lf), .row 3 1 (p_b0.fmember.fNext.map lfI), .row 3 1 (p_b0.fmember.fMatch.map lfI), .row 63 9 (p_b0.fsent.map GMessage.lf)]⟩ : Option St) = some ⟨[(4, .lf (.bool true))], [.box 97 (aggS (.agg ((GReplicaNode.lf1 p_b0).map AV.lf)) [(8, .own 6), (10, .own 7), (11, .own 8), (12, .own 9)]), .dead, .dead, .dead, .dead, .box 63 (.dat (GMessage.lf1 p_x)), .row 54 82 (p_b0.fmember.fLog.map GEntry.lf), .row 3 1 (p_b0.fmember.fNext.map lfI), .row 3 1 (p_b0.fmember.fMatch.map lfI), .row 63 9 (p_b0.fsent.map GMessage.lf)]⟩) (okc (Q49_ok _ _ _ h1439) (okc c1440 (okc (rfl : (some ⟨[(4, .lf (.bool true))], [.box 97 (aggS (.agg ((GReplicaNode.lf1 p_b0).map AV.lf)) [(8, .own 6), (10, .own 7), (11, .own 8), (12, .own 9)]), .dead, .dead, .dead, .dead, .box 63 (.dat (GMessage.lf1 p_x)), .row 54 82 (p_b0.fmember.fLog.map GEntry.lf), .row 3 1 (p_b0.fmember.fNext.map lfI), .row 3 1 (p_b0.fmember.fMatch.map lfI), .row 63 9 (p_b0.fsent.map GMessage.lf)]⟩ : Option St) = some ⟨[(4, .lf (.bool true))], [.box 97 (aggS (.agg ((GReplicaNode.lf1 p_b0).map AV.lf)) [(8, .own 6), (10, .own 7), (11, .own 8), (12, .own 9)]), .dead, .dead, .dead, .dead, .box 63 (.dat (GMessage.lf1 p_x)), .row 54 82 (p_b0.fmember.fLog.map GEntry.lf), .row 3 1 (p_b0.fmember.fNext.map lfI), .row 3 1 (p_b0.fmember.fMatch.map lfI), .row 63 9 (p_b0.fsent.map GMessage.lf)]⟩) (okc (rfl : (some ⟨[(4, .lf (.bool true))], [.box 97 (aggS (.agg ((GReplicaNode.lf1 p_b0).map AV.lf)) [(8, .own 6), (10, .own 7), (11, .own 8), (12, .own 9)]), .dead, .dead, .dead, .dead, .box 63 (.dat (GMessage.lf1 p_x)), .row 54 82 (p_b0.fmember.fLog.map GEntry.lf), .row 3 1 (p_b0.fmember.fNext.map lfI), .row 3 1 (p_b0.fmember.fMatch.map lfI), .row 63 9 (p_b0.fsent.map GMessage.lf)]⟩ : Option St) = some ⟨[(4, .lf (.bool true))], [.box 97 (aggS (.agg ((GReplicaNode.lf1 p_b0).map AV.lf)) [(8, .own 6), (10, .own 7), (11, .own 8), (12, .own 9)]), .dead, .dead, .dead, .dead, .box 63 (.dat (GMessage.lf1 p_x)), .row 54 82 (p_b0.fmember.fLog.map GEntry.lf), .row 3 1 (p_b0.fmember.fNext.map lfI), .row 3 1 (p_b0.fmember.fMatch.map lfI), .row 63 9 (p_b0.fsent.map GMessage.lf)]⟩) ok0))))))) <|
 .ret ⟨[.kill 5, .mvn 6, .mvn 7, .mvn 8, .mvn 9], [0], [(10, 5), (11, 6), (12, 7), (13, 8)], 9⟩ (true)) fun c1440 =>
 .say [.orderT (.q 0 (.q 1 (.q 3 (.q 4 (.q 5 (.alt 2 (.l 6 (.q 7 (.q 8 (.q 9 (.q 11 (.alt 10 (.l 12 (.q 13 (.q 14 (.q 15 (.q 16 (.q 17 .fin)))))) (.l 12 (.q 13 (.l 10 (.q 14 (.q 15 (.q 16 (.q 17 .fin))))))))))))) (.l 6 (.l 2 (.q 7 (.q 8 (.q 9 (.q 11 (.alt 10 (.l 12 (.q 13 (.q 14 (.q 15 (.q 16 (.q 17 .fin)))))) (.l 12 (.q 13 (.l 10 (.q 14 (.q 15 (.q 16 (.q 17 .fin)))))))))))))))))))) none [0, 1, 2, 3, 4] [.both [.resH [0, 1, 2, 3, 4] (.lf (.int .i64 r1438)) [.box 97 (aggS (.agg ((GReplicaNode.lf1 p_b0).map AV.lf)) [(8, .own 5), (10, .own 6), (11, .own 7), (12, .own 8)]), .dead, .dead, .dead, .dead, .row 54 82 (p_b0.fmember.fLog.map GEntry.lf), .row 3 1 (p_b0.fmember.fNext.map lfI), .row 3 1 (p_b0.fmember.fMatch.map lfI), .row 63 9 (p_b0.fsent.map GMessage.lf)], .gd 10008 false, .both [.num p_x.fEntries.length] [.num p_x.fEntries.length]] [.resH [0, 1, 2, 3, 4] (.lf (.int .i64 r1438)) [.box 97 (aggS (.agg ((GReplicaNode.lf1 p_b0).map AV.lf)) [(8, .own 5), (10, .own 6), (11, .own 7), (12, .own 8)]), .dead, .dead, .dead, .dead, .row 54 82 (p_b0.fmember.fLog.map GEntry.lf), .row 3 1 (p_b0.fmember.fNext.map lfI), .row 3 1 (p_b0.fmember.fMatch.map lfI), .row 63 9 (p_b0.fsent.map GMessage.lf)], .gd 10008 false, .both [.num p_x.fEntries.length] [.num p_x.fEntries.length]]] [4] 10 [(4, .lf (.bool (decide ((16384 : Int) < (IntKind.wrap .i64 (p_x.fIndex + (p_x.fEntries.length : Int)))))))] [.box 97 (aggS (.agg ((GReplicaNode.lf1 p_b0).map AV.lf)) [(8, .own 6), (10, .own 7), (11, .own 8), (12, .own 9)]), .dead, .dead, .dead, .dead, .box 63 (.dat (GMessage.lf1 p_x)), .row 54 82 (p_b0.fmember.fLog.map GEntry.lf), .row 3 1 (p_b0.fmember.fNext.map lfI), .row 3 1 (p_b0.fmember.fMatch.map lfI), .row 63 9 (p_b0.fsent.map GMessage.lf)]] (okc c1440 (okc (by simp : p_x.fEntries.length = (p_x.fEntries.map GEntry.lf).length) (okc (rfl : (some ⟨[(4, .lf (.bool (decide ((16384 : Int) < (IntKind.wrap .i64 (p_x.fIndex + (p_x.fEntries.length : Int)))))))], [.box 97 (aggS (.agg ((GReplicaNode.lf1 p_b0).map AV.lf)) [(8, .own 6), (10, .own 7), (11, .own 8), (12, .own 9)]), .dead, .dead, .dead, .dead, .box 63 (.dat (GMessage.lf1 p_x)), .row 54 82 (p_b0.fmember.fLog.map GEntry.lf), .row 3 1 (p_b0.fmember.fNext.map lfI), .row 3 1 (p_b0.fmember.fMatch.map lfI), .row 63 9 (p_b0.fsent.map GMessage.lf)]⟩ : Option St) = some ⟨[(4, .lf (.bool (decide ((16384 : Int) < (IntKind.wrap .i64 (p_x.fIndex + (p_x.fEntries.length : Int)))))))], [.box 97 (aggS (.agg ((GReplicaNode.lf1 p_b0).map AV.lf)) [(8, .own 6), (10, .own 7), (11, .own 8), (12, .own 9)]), .dead, .dead, .dead, .dead, .box 63 (.dat (GMessage.lf1 p_x)), .row 54 82 (p_b0.fmember.fLog.map GEntry.lf), .row 3 1 (p_b0.fmember.fNext.map lfI), .row 3 1 (p_b0.fmember.fMatch.map lfI), .row 63 9 (p_b0.fsent.map GMessage.lf)]⟩) (okc (by simp : p_x.fEntries.length = (p_x.fEntries.map GEntry.lf).length) (okc (rfl : (some ⟨[(4, .lf (.bool (decide ((16384 : Int) < (IntKind.wrap .i64 (p_x.fIndex + (p_x.fEntries.length : Int)))))))], [.box 97 (aggS (.agg ((GReplicaNode.lf1 p_b0).map AV.lf)) [(8, .own 6), (10, .own 7), (11, .own 8), (12, .own 9)]), .dead, .dead, .dead, .dead, .box 63 (.dat (GMessage.lf1 p_x)), .row 54 82 (p_b0.fmember.fLog.map GEntry.lf), .row 3 1 (p_b0.fmember.fNext.map lfI), .row 3 1 (p_b0.fmember.fMatch.map lfI), .row 63 9 (p_b0.fsent.map GMessage.lf)]⟩ : Option St) = some ⟨[(4, .lf (.bool (decide ((16384 : Int) < (IntKind.wrap .i64 (p_x.fIndex + (p_x.fEntries.length : Int)))))))], [.box 97 (aggS (.agg ((GReplicaNode.lf1 p_b0).map AV.lf)) [(8, .own 6), (10, .own 7), (11, .own 8), (12, .own 9)]), .dead, .dead, .dead, .dead, .box 63 (.dat (GMessage.lf1 p_x)), .row 54 82 (p_b0.fmember.fLog.map GEntry.lf), .row 3 1 (p_b0.fmember.fNext.map lfI), .row 3 1 (p_b0.fmember.fMatch.map lfI), .row 63 9 (p_b0.fsent.map GMessage.lf)]⟩) (okc (Q49_ok _ _ _ h1439) (okc c1440 (okc (by simp : p_x.fEntries.length = (p_x.fEntries.map GEntry.lf).length) (okc (rfl : (some ⟨[(4, .lf (.bool (decide ((16384 : Int) < (IntKind.wrap .i64 (p_x.fIndex + (p_x.fEntries.length : Int)))))))], [.box 97 (aggS (.agg ((GReplicaNode.lf1 p_b0).map AV.lf)) [(8, .own 6), (10, .own 7), (11, .own 8), (12, .own 9)]), .dead, .dead, .dead, .dead, .box 63 (.dat (GMessage.lf1 p_x)), .row 54 82 (p_b0.fmember.fLog.map GEntry.lf), .row 3 1 (p_b0.fmember.fNext.map lfI), .row 3 1 (p_b0.fmember.fMatch.map lfI), .row 63 9 (p_b0.fsent.map GMessage.lf)]⟩ : Option St) = some ⟨[(4, .lf (.bool (decide ((16384 : Int) < (IntKind.wrap .i64 (p_x.fIndex + (p_x.fEntries.length : Int)))))))], [.box 97 (aggS (.agg ((GReplicaNode.lf1 p_b0).map AV.lf)) [(8, .own 6), (10, .own 7), (11, .own 8), (12, .own 9)]), .dead, .dead, .dead, .dead, .box 63 (.dat (GMessage.lf1 p_x)), .row 54 82 (p_b0.fmember.fLog.map GEntry.lf), .row 3 1 (p_b0.fmember.fNext.map lfI), .row 3 1 (p_b0.fmember.fMatch.map lfI), .row 63 9 (p_b0.fsent.map GMessage.lf)]⟩) (okc (by simp : p_x.fEntries.length = (p_x.fEntries.map GEntry.lf).length) (okc (rfl : (some ⟨[(4, .lf (.bool (decide ((16384 : Int) < (IntKind.wrap .i64 (p_x.fIndex + (p_x.fEntries.length : Int)))))))], [.box 97 (aggS (.agg ((GReplicaNode.lf1 p_b0).map AV.lf)) [(8, .own 6), (10, .own 7), (11, .own 8), (12, .own 9)]), .dead, .dead, .dead, .dead, .box 63 (.dat (GMessage.lf1 p_x)), .row 54 82 (p_b0.fmember.fLog.map GEntry.lf), .row 3 1 (p_b0.fmember.fNext.map lfI), .row 3 1 (p_b0.fmember.fMatch.map lfI), .row 63 9 (p_b0.fsent.map GMessage.lf)]⟩ : Option St) = some ⟨[(4, .lf (.bool (decide ((16384 : Int) < (IntKind.wrap .i64 (p_x.fIndex + (p_x.fEntries.length : Int)))))))], [.box 97 (aggS (.agg ((GReplicaNode.lf1 p_b0).map AV.lf)) [(8, .own 6), (10, .own 7), (11, .own 8), (12, .own 9)]), .dead, .dead, .dead, .dead, .box 63 (.dat (GMessage.lf1 p_x)), .row 54 82 (p_b0.fmember.fLog.map GEntry.lf), .row 3 1 (p_b0.fmember.fNext.map lfI), .row 3 1 (p_b0.fmember.fMatch.map lfI), .row 63 9 (p_b0.fsent.map GMessage.lf)]⟩) ok0))))))))))) <|
 .ret ⟨[.kill 5, .mvn 6, .mvn 7, .mvn 8, .mvn 9], [0], [(10, 5), (11, 6), (12, 7), (13, 8)], 9⟩ (decide ((16384 : Int) < (IntKind.wrap .i64 (p_x.fIndex + (p_x.fEntries.length : Int)))))
def Q75 (p_x : GMessage) (p_b0 : GReplicaNode) : Option (Bool) := Mo.den (Q75_T p_x p_b0)
theorem Q75_ok (p_x : GMessage) (p_b0 : GReplicaNode) (r : Bool) (h : Q75 p_x p_b0 = some r) : FnH Tryz.prog GI 82 [.ptr 0 0, .dat (GMessage.lf1 p_x)] [.box 97 (aggS (.agg ((GReplicaNode.lf1 p_b0).map AV.lf)) [(8, .own 1), (10, .own 2), (11, .own 3), (12, .own 4)]), .row 54 82 (p_b0.fmember.fLog.map GEntry.lf), .row 3 1 (p_b0.fmember.fNext.map lfI), .row 3 1 (p_b0.fmember.fMatch.map lfI), .row 63 9 (p_b0.fsent.map GMessage.lf)] (.lf (.bool r)) [.box 97 (aggS (.agg ((GReplicaNode.lf1 p_b0).map AV.lf)) [(8, .own 5), (10, .own 6), (11, .own 7), (12, .own 8)]), .dead, .dead, .dead, .dead, .row 54 82 (p_b0.fmember.fLog.map GEntry.lf), .row 3 1 (p_b0.fmember.fNext.map lfI), .row 3 1 (p_b0.fmember.fMatch.map lfI), .row 63 9 (p_b0.fsent.map GMessage.lf)] :=
 fn_TH BaseK Tryz.func82 (by kernel_rfl) (by kernel_rfl) (by kernel_rfl) (Q75_T p_x p_b0) (fun r => [.lf (.bool r)]) (fun r => [.box 97 (aggS (.agg ((GReplicaNode.lf1 p_b0).map AV.lf)) [(8, .own 5), (10, .own 6), (11, .own 7), (12, .own 8)]), .dead, .dead, .dead, .dead, .row 54 82 (p_b0.fmember.fLog.map GEntry.lf), .row 3 1 (p_b0.fmember.fNext.map lfI), .row 3 1 (p_b0.fmember.fMatch.map lfI), .row 63 9 (p_b0.fsent.map GMessage.lf)]) (by kernel_rfl) h
structure RB7 where
 m1 : (p_v : GValue) → Option (GValue)
 ok1 : ∀ (p_v : GValue) (r : GValue), m1 p_v = some r → Fn Tryz.prog GI 186 [.dat (GValue.lf1 p_v)] (.dat (GValue.lf1 r))
 m2 : (p_l : List GValue) → Option (List GValue)
 ok2 : ∀ (p_l : List GValue) (r : List GValue), m2 p_l = some r → FnH Tryz.prog GI 228 [.lf (.rows 5 (p_l.map GValue.lf)), .raw (.func (.func 186) #[] #[])] [] (.lf (.rows 5 (r.map GValue.lf))) []
 m3 : (p_l : List GField) → Option (List GField)
 ok3 : ∀ (p_l : List GField) (r : List GField), m3 p_l = some r → FnH Tryz.prog GI 229 [.lf (.rows 6 (p_l.map GField.lf)), .raw (.func (.func 230) #[] #[])] [] (.lf (.rows 6 (r.map GField.lf))) []
 m4 : (p_f : GField) → Option (GField)
 ok4 : ∀ (p_f : GField) (r : GField), m4 p_f = some r → Fn Tryz.prog GI 230 [.dat (GField.lf1 p_f)] (.dat (GField.lf1 r))
def Q73_T (R_ : RB7) (p_v : GValue) : Mo (GValue) :=
 .ask (R_.m2 p_v.fList) fun r1471 h1472 =>
 .say [.resH [] (.lf (.rows 5 (r1471.map GValue.lf))) []] (ok1 (R_.ok2 _ _ h1472)) <|
 .ask (R_.m3 p_v.fDoc) fun r1475 h1476 =>
 .say [.resH [] (.lf (.rows 6 (r1475.map GField.lf))) []] (ok1 (R_.ok3 _ _ h1476)) <|
 .ret (fitN 1) (GValue.mk p_v.fKind p_v.fInt p_v.fText r1471 r1475)
theorem Q73_okT (R_ : RB7) (p_v : GValue) (r : GValue) (h : Mo.den (Q73_T R_ p_v) = some r) : Fn Tryz.prog GI 186 [.dat (GValue.lf1 p_v)] (.dat (GValue.lf1 r)) :=
 fn_T BaseK Tryz.func186 (by kernel_rfl) (by kernel_rfl) (by kernel_rfl) (Q73_T R_ p_v) (fun r => [.dat (GValue.lf1 r)]) (by kernel_rfl) h
def Q33_L0_T (R_ : RB7) (p_l : List GValue) : (Int × (List GValue)) → Mo ((Int × (List GValue)) ⊕ ((List GValue))) := fun (v1520, l1521) =>
 .ite (decide ((v1520 : Int) < (p_l.length : Int))) (fun c1522 =>
 .say [.br true] (ok1 c1522) <|
 .ask (gidx p_l v1520) fun x1523 h1524 =>
 .say [.row (GValue.lf1 x1523)] (okc (gidx_ok GValue.lf_eq h1524 : (0 : Int) ≤ v1520 ∧ (p_l.map GValue.lf)[v1520.toNat]? = some (GValue.lf1 x1523)) ok0) <|
 .ask (R_.m1 x1523) fun r1525 h1526 =>
 .say [.res (.dat (GValue.lf1 r1525))] (ok1 (R_.ok1 _ _ h1526)) <|
 .ask (gidx l1521 v1520) fun x1527 h1528 =>
 .say [.row (GValue.lf1 x1527), .rows ((l1521.set v1520.toNat r1525).map GValue.lf)] (okc (gidx_lt GValue.lf_eq h1528 : (0 : Int) ≤ v1520 ∧ v1520.toNat < (l1521.map GValue.lf).length) (okc (by simp [GValue.lf_eq] : (l1521.set v1520.toNat r1525).map GValue.lf = (l1521.map GValue.lf).set v1520.toNat (GValue.lf1 r1525)) (okc ((gidx_ok GValue.lf_eq h1528).2 : (l1521.map GValue.lf)[v1520.toNat]? = some (GValue.lf1 x1527)) ok0))) <|
 .ret ⟨[], [1, 5, 14, 15, 16], [], 1⟩ (.inl (IntKind.wrap .i64 (v1520 + 1), l1521.set v1520.toNat r1525))) fun c1522 =>
 .say [.br false] (ok1 c1522) <|
 .ret ⟨[], [5], [], 1⟩ (.inr (l1521))
def Q33_L0 (R_ : RB7) (p_l : List GValue) (v1520 : Int) (l1521 : List GValue) : Option (((List GValue))) := loopM (fun v_ => (Q33_L0_T R_ p_l v_).den) FU (v1520, l1521)
def Q33_L0_H (R_ : RB7) (p_l : List GValue) : (Int × (List GValue)) → St := fun (v1520, l1521) => ⟨[(1, .raw (.func (.func 186) #[] #[])), (5, .own 0), (14, .lf (.rows 5 (p_l.map GValue.lf))), (15, .lf (.int .i64 (p_l.length : Int))), (16, .lf (.int .i64 v1520))], [.row 29 5 (l1521.map GValue.lf)]⟩
def Q33_L0_S  (r_ : ((List GValue))) : St := ⟨[(5, .own 0)], [.row 29 5 (r_.map GValue.lf)]⟩
theorem Q33_L0_W {R_ : RB7} {p_l : List GValue} {v1520 : Int} {l1521 : List GValue} {r_ : ((List GValue))} (h : Q33_L0 R_ p_l v1520 l1521 = some r_) : AWa_ Tryz.f228 0 [1, 1, 1, 0, 1, 0] (.exit 0) (Q33_L0_S r_) (Q33_L0_H R_ p_l (v1520, l1521)) :=
 loop_T BaseK (body := (Code.sub (bodyC Tryz.f228) [1, 1, 1, 0, 1, 0, 0])) (by kernel_rfl) (Q33_L0_T R_ p_l) (Q33_L0_H R_ p_l) (fun _ => .exit 0) Q33_L0_S (fun r_ => rfl) (fun v_ => by kernel_rfl) h
def Q33_T (R_ : RB7) (p_l : List GValue) : Mo (List GValue) :=
 .say [.num p_l.length] (okc (by simp : p_l.length = (p_l.map GValue.lf).length) ok0) <|
 .ite ((p_l.length : Int) == 0) (fun c1478 =>
 .say [.br true] (ok1 c1478) <|
 .ret ⟨[.nil 0 5, .tod 0], [0], [], 0⟩ ([])) fun c1478 =>
 .say [.br false, .num p_l.length, .rows ((List.replicate (p_l.length : Int).toNat (GValue.mk 0 0 ⟨#[]⟩ [] [])).map GValue.lf), .num p_l.length] (okc c1478 (okc (by simp : p_l.length = (p_l.map GValue.lf).length) (okc (by simp [GValue.lf_eq] : (List.replicate (p_l.length : Int).toNat (GValue.mk 0 0 ⟨#[]⟩ [] [])).map GValue.lf = List.replicate (p_l.length : Int).toNat (GValue.lf1 (GValue.mk 0 0 ⟨#[]⟩ [] []))) ok0))) <|
 .grd ((0 : Int) ≤ (p_l.length : Int) ∧ 80 * (p_l.length : Int).toNat ≤ 281474976710656 ∧ (p_l.length : Int).toNat ≤ maxLen) fun h1480 =>
 .say [] (okc (⟨rfl, h1480⟩ : ((p_l.length : Int) : Int) = (p_l.length : Int) ∧ (0 : Int) ≤ (p_l.length : Int) ∧ 80 * (p_l.length : Int).toNat ≤ 281474976710656 ∧ (p_l.length : Int).toNat ≤ maxLen) (okc (by simp : p_l.length = (p_l.map GValue.lf).length) ok0)) <|
 .ask (Q33_L0 R_ p_l 0 (List.replicate (p_l.length : Int).toNat (GValue.mk 0 0 ⟨#[]⟩ [] []))) fun r1530 h1531 =>
 .say [.pt_ 0 [1, 5, 14, 15, 16] 1 (.exit 0) (Q33_L0_S r1530)] (ok1 (Q33_L0_W h1531)) <|
 .ret ⟨[.frz 0], [0], [], 0⟩ (r1530)
theorem Q33_okT (R_ : RB7) (p_l : List GValue) (r : List GValue) (h : Mo.den (Q33_T R_ p_l) = some r) : FnH Tryz.prog GI 228 [.lf (.rows 5 (p_l.map GValue.lf)), .raw (.func (.func 186) #[] #[])] [] (.lf (.rows 5 (r.map GValue.lf))) [] :=
 fn_TH BaseK Tryz.func228 (by kernel_rfl) (by kernel_rfl) (by kernel_rfl) (Q33_T R_ p_l) (fun r => [.lf (.rows 5 (r.map GValue.lf))]) (fun r => []) (by kernel_rfl) h
def Q58_L0_T (R_ : RB7) (p_l : List GField) : (Int × (List GField)) → Mo ((Int × (List GField)) ⊕ ((List GField))) := fun (v1575, l1576) =>
 .ite (decide ((v1575 : Int) < (p_l.length : Int))) (fun c1577 =>
 .say [.br true] (ok1 c1577) <|
 .ask (gidx p_l v1575) fun x1578 h1579 =>
 .say [.row (GField.lf1 x1578)] (okc (gidx_ok GField.lf_eq h1579 : (0 : Int) ≤ v1575 ∧ (p_l.map GField.lf)[v1575.toNat]? = some (GField.lf1 x1578)) ok0) <|
 .ask (R_.m4 x1578) fun r1580 h1581 =>
 .say [.res (.dat (GField.lf1 r1580))] (ok1 (R_.ok4 _ _ h1581)) <|
 .ask (gidx l1576 v1575) fun x1582 h1583 =>
 .say [.row (GField.lf1 x1582), .rows ((l1576.set v1575.toNat r1580).map GField.lf)] (okc (gidx_lt GField.lf_eq h1583 : (0 : Int) ≤ v1575 ∧ v1575.toNat < (l1576.map GField.lf).length) (okc (by simp [GField.lf_eq] : (l1576.set v1575.toNat r1580).map GField.lf = (l1576.map GField.lf).set v1575.toNat (GField.lf1 r1580)) (okc ((gidx_ok GField.lf_eq h1583).2 : (l1576.map GField.lf)[v1575.toNat]? = some (GField.lf1 x1582)) ok0))) <|
 .ret ⟨[], [1, 5, 14, 15, 16], [], 1⟩ (.inl (IntKind.wrap .i64 (v1575 + 1), l1576.set v1575.toNat r1580))) fun c1577 =>
 .say [.br false] (ok1 c1577) <|
 .ret ⟨[], [5], [], 1⟩ (.inr (l1576))
def Q58_L0 (R_ : RB7) (p_l : List GField) (v1575 : Int) (l1576 : List GField) : Option (((List GField))) := loopM (fun v_ => (Q58_L0_T R_ p_l v_).den) FU (v1575, l1576)
def Q58_L0_H (R_ : RB7) (p_l : List GField) : (Int × (List GField)) → St := fun (v1575, l1576) => ⟨[(1, .raw (.func (.func 230) #[] #[])), (5, .own 0), (14, .lf (.rows 6 (p_l.map GField.lf))), (15, .lf (.int .i64 (p_l.length : Int))), (16, .lf (.int .i64 v1575))], [.row 174 6 (l1576.map GField.lf)]⟩
def Q58_L0_S  (r_ : ((List GField))) : St := ⟨[(5, .own 0)], [.row 174 6 (r_.map GField.lf)]⟩
theorem Q58_L0_W {R_ : RB7} {p_l : List GField} {v1575 : Int} {l1576 : List GField} {r_ : ((List GField))} (h : Q58_L0 R_ p_l v1575 l1576 = some r_) : AWa_ Tryz.f229 0 [1, 1, 1, 0, 1, 0] (.exit 0) (Q58_L0_S r_) (Q58_L0_H R_ p_l (v1575, l1576)) :=
 loop_T BaseK (body := (Code.sub (bodyC Tryz.f229) [1, 1, 1, 0, 1, 0, 0])) (by kernel_rfl) (Q58_L0_T R_ p_l) (Q58_L0_H R_ p_l) (fun _ => .exit 0) Q58_L0_S (fun r_ => rfl) (fun v_ => by kernel_rfl) h
def Q58_T (R_ : RB7) (p_l : List GField) : Mo (List GField) :=
 .say [.num p_l.length] (okc (by simp : p_l.length = (p_l.map GField.lf).length) ok0) <|
 .ite ((p_l.length : Int) == 0) (fun c1533 =>
 .say [.br true] (ok1 c1533) <|
 .ret ⟨[.nil 0 6, .tod 0], [0], [], 0⟩ ([])) fun c1533 =>
 .say [.br false, .num p_l.length, .rows ((List.replicate (p_l.length : Int).toNat (GField.mk ⟨#[]⟩ (GValue.mk 0 0 ⟨#[]⟩ [] []))).map GField.lf), .num p_l.length] (okc c1533 (okc (by simp : p_l.length = (p_l.map GField.lf).length) (okc (by simp [GField.lf_eq] : (List.replicate (p_l.length : Int).toNat (GField.mk ⟨#[]⟩ (GValue.mk 0 0 ⟨#[]⟩ [] []))).map GField.lf = List.replicate (p_l.length : Int).toNat (GField.lf1 (GField.mk ⟨#[]⟩ (GValue.mk 0 0 ⟨#[]⟩ [] [])))) ok0))) <|
 .grd ((0 : Int) ≤ (p_l.length : Int) ∧ 96 * (p_l.length : Int).toNat ≤ 281474976710656 ∧ (p_l.length : Int).toNat ≤ maxLen) fun h1535 =>
 .say [] (okc (⟨rfl, h1535⟩ : ((p_l.length : Int) : Int) = (p_l.length : Int) ∧ (0 : Int) ≤ (p_l.length : Int) ∧ 96 * (p_l.length : Int).toNat ≤ 281474976710656 ∧ (p_l.length : Int).toNat ≤ maxLen) (okc (by simp : p_l.length = (p_l.map GField.lf).length) ok0)) <|
 .ask (Q58_L0 R_ p_l 0 (List.replicate (p_l.length : Int).toNat (GField.mk ⟨#[]⟩ (GValue.mk 0 0 ⟨#[]⟩ [] [])))) fun r1585 h1586 =>
 .say [.pt_ 0 [1, 5, 14, 15, 16] 1 (.exit 0) (Q58_L0_S r1585)] (ok1 (Q58_L0_W h1586)) <|
 .ret ⟨[.frz 0], [0], [], 0⟩ (r1585)
theorem Q58_okT (R_ : RB7) (p_l : List GField) (r : List GField) (h : Mo.den (Q58_T R_ p_l) = some r) : FnH Tryz.prog GI 229 [.lf (.rows 6 (p_l.map GField.lf)), .raw (.func (.func 230) #[] #[])] [] (.lf (.rows 6 (r.map GField.lf))) [] :=
 fn_TH BaseK Tryz.func229 (by kernel_rfl) (by kernel_rfl) (by kernel_rfl) (Q58_T R_ p_l) (fun r => [.lf (.rows 6 (r.map GField.lf))]) (fun r => []) (by kernel_rfl) h
def Q125_T (R_ : RB7) (p_f : GField) : Mo (GField) :=
 .say [.order [(true, 0), (true, 1), (true, 2), (true, 3), (false, 4), (true, 5), (false, 6)] (some 6) []] ok0 <|
 .ask (R_.m1 p_f.fValue) fun r1587 h1588 =>
 .say [.res (.dat (GValue.lf1 r1587))] (ok1 (R_.ok1 _ _ h1588)) <|
 .ret (fitN 1) (GField.mk p_f.fName r1587)
theorem Q125_okT (R_ : RB7) (p_f : GField) (r : GField) (h : Mo.den (Q125_T R_ p_f) = some r) : Fn Tryz.prog GI 230 [.dat (GField.lf1 p_f)] (.dat (GField.lf1 r)) :=
 fn_T BaseK Tryz.func230 (by kernel_rfl) (by kernel_rfl) (by kernel_rfl) (Q125_T R_ p_f) (fun r => [.dat (GField.lf1 r)]) (by kernel_rfl) h
def RB7_F : Nat → RB7
 | 0 => { m1 := fun p_v => none, ok1 := fun _ _ h => (by cases h), m2 := fun p_l => none, ok2 := fun _ _ h => (by cases h), m3 := fun p_l => none, ok3 := fun _ _ h => (by cases h), m4 := fun p_f => none, ok4 := fun _ _ h => (by cases h) }
 | n_ + 1 => { m1 := fun p_v => Mo.den (Q73_T (RB7_F n_) p_v), ok1 := fun p_v r h => Q73_okT (RB7_F n_) p_v r h, m2 := fun p_l => Mo.den (Q33_T (RB7_F n_) p_l), ok2 := fun p_l r h => Q33_okT (RB7_F n_) p_l r h, m3 := fun p_l => Mo.den (Q58_T (RB7_F n_) p_l), ok3 := fun p_l r h => Q58_okT (RB7_F n_) p_l r h, m4 := fun p_f => Mo.den (Q125_T (RB7_F n_) p_f), ok4 := fun p_f r h => Q125_okT (RB7_F n_) p_f r h }
def Q73 (p_v : GValue) : Option (GValue) := (RB7_F FU).m1 p_v
theorem Q73_ok (p_v : GValue) (r : GValue) (h : Q73 p_v = some r) : Fn Tryz.prog GI 186 [.dat (GValue.lf1 p_v)] (.dat (GValue.lf1 r)) := (RB7_F FU).ok1 p_v r h
def Q33 (p_l : List GValue) : Option (List GValue) := (RB7_F FU).m2 p_l
theorem Q33_ok (p_l : List GValue) (r : List GValue) (h : Q33 p_l = some r) : FnH Tryz.prog GI 228 [.lf (.rows 5 (p_l.map GValue.lf)), .raw (.func (.func 186) #[] #[])] [] (.lf (.rows 5 (r.map GValue.lf))) [] := (RB7_F FU).ok2 p_l r h
def Q81_T (p_l : List ByteArray) : Mo (List ByteArray) :=
 .say [.rows (p_l.map lfS), .at_ 0 0, .frz 0] (okc (by simp [lfS] : p_l.map lfS = [] ++ (p_l.map lfS)) ok0) <|
 .grd ((([] : List ByteArray).length + p_l.length) * 16 ≤ 140737488355328) fun h1621 =>
 .say [] (okc (by simpa using h1621 : (([] : List (List Lf)).length + (p_l.map lfS).length) * 16 ≤ 140737488355328) ok0) <|
 .ret (fitN 1) (p_l)
def Q81 (p_l : List ByteArray) : Option (List ByteArray) := Mo.den (Q81_T p_l)
theorem Q81_ok (p_l : List ByteArray) (r : List ByteArray) (h : Q81 p_l = some r) : Fn Tryz.prog GI 282 [.lf (.rows 1 (p_l.map lfS))] (.lf (.rows 1 (r.map lfS))) :=
 fn_T BaseK Tryz.func282 (by kernel_rfl) (by kernel_rfl) (by kernel_rfl) (Q81_T p_l) (fun r => [.lf (.rows 1 (r.map lfS))]) (by kernel_rfl) h
def Q105_T (p_o : GOrder) : Mo (GOrder) :=
 .ask (Q81 p_o.fPath) fun r1624 h1625 =>
 .say [.res (.lf (.rows 1 (r1624.map lfS)))] (ok1 (Q81_ok _ _ h1625)) <|
 .ret (fitN 1) (GOrder.mk r1624 p_o.fDesc)
def Q105 (p_o : GOrder) : Option (GOrder) := Mo.den (Q105_T p_o)
theorem Q105_ok (p_o : GOrder) (r : GOrder) (h : Q105 p_o = some r) : Fn Tryz.prog GI 234 [.dat (GOrder.lf1 p_o)] (.dat (GOrder.lf1 r)) :=
 fn_T BaseK Tryz.func234 (by kernel_rfl) (by kernel_rfl) (by kernel_rfl) (Q105_T p_o) (fun r => [.dat (GOrder.lf1 r)]) (by kernel_rfl) h
def Q47_L0_T (p_l : List GOrder) : (Int × (List GOrder)) → Mo ((Int × (List GOrder)) ⊕ ((List GOrder))) := fun (v1659, l1660) =>
 .ite (decide ((v1659 : Int) < (p_l.length : Int))) (fun c1661 =>
 .say [.br true] (ok1 c1661) <|
 .ask (gidx p_l v1659) fun x1662 h1663 =>
 .say [.row (GOrder.lf1 x1662)] (okc (gidx_ok GOrder.lf_eq h1663 : (0 : Int) ≤ v1659 ∧ (p_l.map GOrder.lf)[v1659.toNat]? = some (GOrder.lf1 x1662)) ok0) <|
 .ask (Q105 x1662) fun r1664 h1665 =>
 .say [.res (.dat (GOrder.lf1 r1664))] (ok1 (Q105_ok _ _ h1665)) <|
 .ask (gidx l1660 v1659) fun x1666 h1667 =>
 .say [.row (GOrder.lf1 x1666), .rows ((l1660.set v1659.toNat r1664).map GOrder.lf)] (okc (gidx_lt GOrder.lf_eq h1667 : (0 : Int) ≤ v1659 ∧ v1659.toNat < (l1660.map GOrder.lf).length) (okc (by simp [GOrder.lf_eq] : (l1660.set v1659.toNat r1664).map GOrder.lf = (l1660.map GOrder.lf).set v1659.toNat (GOrder.lf1 r1664)) (okc ((gidx_ok GOrder.lf_eq h1667).2 : (l1660.map GOrder.lf)[v1659.toNat]? = some (GOrder.lf1 x1666)) ok0))) <|
 .ret ⟨[], [1, 5, 14, 15, 16], [], 1⟩ (.inl (IntKind.wrap .i64 (v1659 + 1), l1660.set v1659.toNat r1664))) fun c1661 =>
 .say [.br false] (ok1 c1661) <|
 .ret ⟨[], [5], [], 1⟩ (.inr (l1660))
def Q47_L0 (p_l : List GOrder) (v1659 : Int) (l1660 : List GOrder) : Option (((List GOrder))) := loopM (fun v_ => (Q47_L0_T p_l v_).den) FU (v1659, l1660)
def Q47_L0_H (p_l : List GOrder) : (Int × (List GOrder)) → St := fun (v1659, l1660) => ⟨[(1, .raw (.func (.func 234) #[] #[])), (5, .own 0), (14, .lf (.rows 2 (p_l.map GOrder.lf))), (15, .lf (.int .i64 (p_l.length : Int))), (16, .lf (.int .i64 v1659))], [.row 152 2 (l1660.map GOrder.lf)]⟩
def Q47_L0_S  (r_ : ((List GOrder))) : St := ⟨[(5, .own 0)], [.row 152 2 (r_.map GOrder.lf)]⟩
theorem Q47_L0_W {p_l : List GOrder} {v1659 : Int} {l1660 : List GOrder} {r_ : ((List GOrder))} (h : Q47_L0 p_l v1659 l1660 = some r_) : AWa_ Tryz.f233 0 [1, 1, 1, 0, 1, 0] (.exit 0) (Q47_L0_S r_) (Q47_L0_H p_l (v1659, l1660)) :=
 loop_T BaseK (body := (Code.sub (bodyC Tryz.f233) [1, 1, 1, 0, 1, 0, 0])) (by kernel_rfl) (Q47_L0_T p_l) (Q47_L0_H p_l) (fun _ => .exit 0) Q47_L0_S (fun r_ => rfl) (fun v_ => by kernel_rfl) h
def Q47_T (p_l : List GOrder) : Mo (List GOrder) :=
 .say [.num p_l.length] (okc (by simp : p_l.length = (p_l.map GOrder.lf).length) ok0) <|
 .ite ((p_l.length : Int) == 0) (fun c1612 =>
 .say [.br true] (okc c1612 (okc (by simp [GOrder.lf_eq] : (([] : List GOrder).map GOrder.lf) = []) ok0)) <|
 .ret ⟨[.nrow 0 152 2, .rerow 0 (([] : List GOrder).map GOrder.lf), .mvn 0], [0], [(1, 0)], 1⟩ (([] : List GOrder))) fun c1612 =>
 .say [.br false, .num p_l.length, .rows ((List.replicate (p_l.length : Int).toNat (GOrder.mk [] false)).map GOrder.lf), .num p_l.length] (okc c1612 (okc (by simp : p_l.length = (p_l.map GOrder.lf).length) (okc (by simp [GOrder.lf_eq] : (List.replicate (p_l.length : Int).toNat (GOrder.mk [] false)).map GOrder.lf = List.replicate (p_l.length : Int).toNat (GOrder.lf1 (GOrder.mk [] false))) ok0))) <|
 .grd ((0 : Int) ≤ (p_l.length : Int) ∧ 32 * (p_l.length : Int).toNat ≤ 281474976710656 ∧ (p_l.length : Int).toNat ≤ maxLen) fun h1614 =>
 .say [] (okc (⟨rfl, h1614⟩ : ((p_l.length : Int) : Int) = (p_l.length : Int) ∧ (0 : Int) ≤ (p_l.length : Int) ∧ 32 * (p_l.length : Int).toNat ≤ 281474976710656 ∧ (p_l.length : Int).toNat ≤ maxLen) (okc (by simp : p_l.length = (p_l.map GOrder.lf).length) ok0)) <|
 .ask (Q47_L0 p_l 0 (List.replicate (p_l.length : Int).toNat (GOrder.mk [] false))) fun r1669 h1670 =>
 .say [.pt_ 0 [1, 5, 14, 15, 16] 1 (.exit 0) (Q47_L0_S r1669)] (ok1 (Q47_L0_W h1670)) <|
 .ret ⟨[.mvn 0], [0], [(1, 0)], 1⟩ (r1669)
def Q47 (p_l : List GOrder) : Option (List GOrder) := Mo.den (Q47_T p_l)
theorem Q47_ok (p_l : List GOrder) (r : List GOrder) (h : Q47 p_l = some r) : FnH Tryz.prog GI 233 [.lf (.rows 2 (p_l.map GOrder.lf)), .raw (.func (.func 234) #[] #[])] [] (.own 0) [.row 152 2 (r.map GOrder.lf)] :=
 fn_TH BaseK Tryz.func233 (by kernel_rfl) (by kernel_rfl) (by kernel_rfl) (Q47_T p_l) (fun r => [.own 0]) (fun r => [.row 152 2 (r.map GOrder.lf)]) (by kernel_rfl) h
structure RB9 where
 m1 : (p_e : GExpr) → Option (GExpr)
 ok1 : ∀ (p_e : GExpr) (r : GExpr), m1 p_e = some r → Fn Tryz.prog GI 286 [.dat (GExpr.lf1 p_e)] (.dat (GExpr.lf1 r))
 m2 : (p_l : List GExpr) → Option (List GExpr)
 ok2 : ∀ (p_l : List GExpr) (r : List GExpr), m2 p_l = some r → FnH Tryz.prog GI 318 [.lf (.rows 11 (p_l.map GExpr.lf)), .raw (.func (.func 286) #[] #[])] [] (.lf (.rows 11 (r.map GExpr.lf))) []
def Q99_T (R_ : RB9) (p_e : GExpr) : Mo (GExpr) :=
 .ask (Q81 p_e.fPath) fun r1691 h1692 =>
 .say [.res (.lf (.rows 1 (r1691.map lfS)))] (ok1 (Q81_ok _ _ h1692)) <|
 .ask (Q81 p_e.fNames) fun r1695 h1696 =>
 .say [.res (.lf (.rows 1 (r1695.map lfS)))] (ok1 (Q81_ok _ _ h1696)) <|
 .ask (Q73 p_e.fArg) fun r1699 h1700 =>
 .say [.res (.dat (GValue.lf1 r1699))] (ok1 (Q73_ok _ _ h1700)) <|
 .ask (R_.m2 p_e.fKids) fun r1703 h1704 =>
 .say [.resH [] (.lf (.rows 11 (r1703.map GExpr.lf))) []] (ok1 (R_.ok2 _ _ h1704)) <|
 .ret (fitN 1) (GExpr.mk p_e.fOp r1691 p_e.fName r1695 r1699 p_e.fN r1703)
theorem Q99_okT (R_ : RB9) (p_e : GExpr) (r : GExpr) (h : Mo.den (Q99_T R_ p_e) = some r) : Fn Tryz.prog GI 286 [.dat (GExpr.lf1 p_e)] (.dat (GExpr.lf1 r)) :=
 fn_T BaseK Tryz.func286 (by kernel_rfl) (by kernel_rfl) (by kernel_rfl) (Q99_T R_ p_e) (fun r => [.dat (GExpr.lf1 r)]) (by kernel_rfl) h
def Q63_L0_T (R_ : RB9) (p_l : List GExpr) : (Int × (List GExpr)) → Mo ((Int × (List GExpr)) ⊕ ((List GExpr))) := fun (v1748, l1749) =>
 .ite (decide ((v1748 : Int) < (p_l.length : Int))) (fun c1750 =>
 .say [.br true] (ok1 c1750) <|
 .ask (gidx p_l v1748) fun x1751 h1752 =>
 .say [.row (GExpr.lf1 x1751)] (okc (gidx_ok GExpr.lf_eq h1752 : (0 : Int) ≤ v1748 ∧ (p_l.map GExpr.lf)[v1748.toNat]? = some (GExpr.lf1 x1751)) ok0) <|
 .ask (R_.m1 x1751) fun r1753 h1754 =>
 .say [.res (.dat (GExpr.lf1 r1753))] (ok1 (R_.ok1 _ _ h1754)) <|
 .ask (gidx l1749 v1748) fun x1755 h1756 =>
 .say [.row (GExpr.lf1 x1755), .rows ((l1749.set v1748.toNat r1753).map GExpr.lf)] (okc (gidx_lt GExpr.lf_eq h1756 : (0 : Int) ≤ v1748 ∧ v1748.toNat < (l1749.map GExpr.lf).length) (okc (by simp [GExpr.lf_eq] : (l1749.set v1748.toNat r1753).map GExpr.lf = (l1749.map GExpr.lf).set v1748.toNat (GExpr.lf1 r1753)) (okc ((gidx_ok GExpr.lf_eq h1756).2 : (l1749.map GExpr.lf)[v1748.toNat]? = some (GExpr.lf1 x1755)) ok0))) <|
 .ret ⟨[], [1, 5, 14, 15, 16], [], 1⟩ (.inl (IntKind.wrap .i64 (v1748 + 1), l1749.set v1748.toNat r1753))) fun c1750 =>
 .say [.br false] (ok1 c1750) <|
 .ret ⟨[], [5], [], 1⟩ (.inr (l1749))
def Q63_L0 (R_ : RB9) (p_l : List GExpr) (v1748 : Int) (l1749 : List GExpr) : Option (((List GExpr))) := loopM (fun v_ => (Q63_L0_T R_ p_l v_).den) FU (v1748, l1749)
def Q63_L0_H (R_ : RB9) (p_l : List GExpr) : (Int × (List GExpr)) → St := fun (v1748, l1749) => ⟨[(1, .raw (.func (.func 286) #[] #[])), (5, .own 0), (14, .lf (.rows 11 (p_l.map GExpr.lf))), (15, .lf (.int .i64 (p_l.length : Int))), (16, .lf (.int .i64 v1748))], [.row 44 11 (l1749.map GExpr.lf)]⟩
def Q63_L0_S  (r_ : ((List GExpr))) : St := ⟨[(5, .own 0)], [.row 44 11 (r_.map GExpr.lf)]⟩
theorem Q63_L0_W {R_ : RB9} {p_l : List GExpr} {v1748 : Int} {l1749 : List GExpr} {r_ : ((List GExpr))} (h : Q63_L0 R_ p_l v1748 l1749 = some r_) : AWa_ Tryz.f318 0 [1, 1, 1, 0, 1, 0] (.exit 0) (Q63_L0_S r_) (Q63_L0_H R_ p_l (v1748, l1749)) :=
 loop_T BaseK (body := (Code.sub (bodyC Tryz.f318) [1, 1, 1, 0, 1, 0, 0])) (by kernel_rfl) (Q63_L0_T R_ p_l) (Q63_L0_H R_ p_l) (fun _ => .exit 0) Q63_L0_S (fun r_ => rfl) (fun v_ => by kernel_rfl) h
def Q63_T (R_ : RB9) (p_l : List GExpr) : Mo (List GExpr) :=
 .say [.num p_l.length] (okc (by simp : p_l.length = (p_l.map GExpr.lf).length) ok0) <|
 .ite ((p_l.length : Int) == 0) (fun c1706 =>
 .say [.br true] (ok1 c1706) <|
 .ret ⟨[.nil 0 11, .tod 0], [0], [], 0⟩ ([])) fun c1706 =>
 .say [.br false, .num p_l.length, .rows ((List.replicate (p_l.length : Int).toNat GExpr.z).map GExpr.lf), .num p_l.length] (okc c1706 (okc (by simp : p_l.length = (p_l.map GExpr.lf).length) (okc (by simp [GExpr.lf_eq] : (List.replicate (p_l.length : Int).toNat GExpr.z).map GExpr.lf = List.replicate (p_l.length : Int).toNat (GExpr.lf1 GExpr.z)) ok0))) <|
 .grd ((0 : Int) ≤ (p_l.length : Int) ∧ 184 * (p_l.length : Int).toNat ≤ 281474976710656 ∧ (p_l.length : Int).toNat ≤ maxLen) fun h1708 =>
 .say [] (okc (⟨rfl, h1708⟩ : ((p_l.length : Int) : Int) = (p_l.length : Int) ∧ (0 : Int) ≤ (p_l.length : Int) ∧ 184 * (p_l.length : Int).toNat ≤ 281474976710656 ∧ (p_l.length : Int).toNat ≤ maxLen) (okc (by simp : p_l.length = (p_l.map GExpr.lf).length) ok0)) <|
 .ask (Q63_L0 R_ p_l 0 (List.replicate (p_l.length : Int).toNat GExpr.z)) fun r1758 h1759 =>
 .say [.pt_ 0 [1, 5, 14, 15, 16] 1 (.exit 0) (Q63_L0_S r1758)] (ok1 (Q63_L0_W h1759)) <|
 .ret ⟨[.frz 0], [0], [], 0⟩ (r1758)
theorem Q63_okT (R_ : RB9) (p_l : List GExpr) (r : List GExpr) (h : Mo.den (Q63_T R_ p_l) = some r) : FnH Tryz.prog GI 318 [.lf (.rows 11 (p_l.map GExpr.lf)), .raw (.func (.func 286) #[] #[])] [] (.lf (.rows 11 (r.map GExpr.lf))) [] :=
 fn_TH BaseK Tryz.func318 (by kernel_rfl) (by kernel_rfl) (by kernel_rfl) (Q63_T R_ p_l) (fun r => [.lf (.rows 11 (r.map GExpr.lf))]) (fun r => []) (by kernel_rfl) h
def RB9_F : Nat → RB9
 | 0 => { m1 := fun p_e => none, ok1 := fun _ _ h => (by cases h), m2 := fun p_l => none, ok2 := fun _ _ h => (by cases h) }
 | n_ + 1 => { m1 := fun p_e => Mo.den (Q99_T (RB9_F n_) p_e), ok1 := fun p_e r h => Q99_okT (RB9_F n_) p_e r h, m2 := fun p_l => Mo.den (Q63_T (RB9_F n_) p_l), ok2 := fun p_l r h => Q63_okT (RB9_F n_) p_l r h }
def Q99 (p_e : GExpr) : Option (GExpr) := (RB9_F FU).m1 p_e
theorem Q99_ok (p_e : GExpr) (r : GExpr) (h : Q99 p_e = some r) : Fn Tryz.prog GI 286 [.dat (GExpr.lf1 p_e)] (.dat (GExpr.lf1 r)) := (RB9_F FU).ok1 p_e r h
structure RB8 where
 m1 : (p_p : GPred) → Option (GPred)
 ok1 : ∀ (p_p : GPred) (r : GPred), m1 p_p = some r → Fn Tryz.prog GI 235 [.dat (GPred.lf1 p_p)] (.dat (GPred.lf1 r))
 m2 : (p_l : List GPred) → Option (List GPred)
 ok2 : ∀ (p_l : List GPred) (r : List GPred), m2 p_l = some r → FnH Tryz.prog GI 287 [.lf (.rows 25 (p_l.map GPred.lf)), .raw (.func (.func 235) #[] #[])] [] (.lf (.rows 25 (r.map GPred.lf))) []
def Q100_T (R_ : RB8) (p_p : GPred) : Mo (GPred) :=
 .ask (Q81 p_p.fPath) fun r1677 h1678 =>
 .say [.res (.lf (.rows 1 (r1677.map lfS)))] (ok1 (Q81_ok _ _ h1678)) <|
 .ask (Q73 p_p.fArg) fun r1681 h1682 =>
 .say [.res (.dat (GValue.lf1 r1681))] (ok1 (Q73_ok _ _ h1682)) <|
 .ask (Q33 p_p.fArgs) fun r1685 h1686 =>
 .say [.resH [] (.lf (.rows 5 (r1685.map GValue.lf))) [], .rows (p_p.fShape.fPoints.map GPoint.lf)] (okc (Q33_ok _ _ h1686) (okc (by simp [GPoint.lf_eq] : p_p.fShape.fPoints.map GPoint.lf = [] ++ (p_p.fShape.fPoints.map GPoint.lf)) ok0)) <|
 .grd ((([] : List GPoint).length + p_p.fShape.fPoints.length) * 16 ≤ 140737488355328) fun h1688 =>
 .say [] (okc (by simpa using h1688 : (([] : List (List Lf)).length + (p_p.fShape.fPoints.map GPoint.lf).length) * 16 ≤ 140737488355328) ok0) <|
 .ask (Q99 p_p.fExpr) fun r1762 h1763 =>
 .say [.res (.dat (GExpr.lf1 r1762))] (ok1 (Q99_ok _ _ h1763)) <|
 .ask (R_.m2 p_p.fKids) fun r1766 h1767 =>
 .say [.resH [] (.lf (.rows 25 (r1766.map GPred.lf))) [], .at_ 0 0, .frz 2] (ok1 (R_.ok2 _ _ h1767)) <|
 .ret (fitN 1) (GPred.mk p_p.fOp r1677 r1681 r1685 p_p.fN p_p.fM p_p.fShape r1762 r1766)
theorem Q100_okT (R_ : RB8) (p_p : GPred) (r : GPred) (h : Mo.den (Q100_T R_ p_p) = some r) : Fn Tryz.prog GI 235 [.dat (GPred.lf1 p_p)] (.dat (GPred.lf1 r)) :=
 fn_T BaseK Tryz.func235 (by kernel_rfl) (by kernel_rfl) (by kernel_rfl) (Q100_T R_ p_p) (fun r => [.dat (GPred.lf1 r)]) (by kernel_rfl) h
def Q64_L0_T (R_ : RB8) (p_l : List GPred) : (Int × (List GPred)) → Mo ((Int × (List GPred)) ⊕ ((List GPred))) := fun (v1811, l1812) =>
 .ite (decide ((v1811 : Int) < (p_l.length : Int))) (fun c1813 =>
 .say [.br true] (ok1 c1813) <|
 .ask (gidx p_l v1811) fun x1814 h1815 =>
 .say [.row (GPred.lf1 x1814)] (okc (gidx_ok GPred.lf_eq h1815 : (0 : Int) ≤ v1811 ∧ (p_l.map GPred.lf)[v1811.toNat]? = some (GPred.lf1 x1814)) ok0) <|
 .ask (R_.m1 x1814) fun r1816 h1817 =>
 .say [.res (.dat (GPred.lf1 r1816))] (ok1 (R_.ok1 _ _ h1817)) <|
 .ask (gidx l1812 v1811) fun x1818 h1819 =>
 .say [.row (GPred.lf1 x1818), .rows ((l1812.set v1811.toNat r1816).map GPred.lf)] (okc (gidx_lt GPred.lf_eq h1819 : (0 : Int) ≤ v1811 ∧ v1811.toNat < (l1812.map GPred.lf).length) (okc (by simp [GPred.lf_eq] : (l1812.set v1811.toNat r1816).map GPred.lf = (l1812.map GPred.lf).set v1811.toNat (GPred.lf1 r1816)) (okc ((gidx_ok GPred.lf_eq h1819).2 : (l1812.map GPred.lf)[v1811.toNat]? = some (GPred.lf1 x1818)) ok0))) <|
 .ret ⟨[], [1, 5, 14, 15, 16], [], 1⟩ (.inl (IntKind.wrap .i64 (v1811 + 1), l1812.set v1811.toNat r1816))) fun c1813 =>
 .say [.br false] (ok1 c1813) <|
 .ret ⟨[], [5], [], 1⟩ (.inr (l1812))
def Q64_L0 (R_ : RB8) (p_l : List GPred) (v1811 : Int) (l1812 : List GPred) : Option (((List GPred))) := loopM (fun v_ => (Q64_L0_T R_ p_l v_).den) FU (v1811, l1812)
def Q64_L0_H (R_ : RB8) (p_l : List GPred) : (Int × (List GPred)) → St := fun (v1811, l1812) => ⟨[(1, .raw (.func (.func 235) #[] #[])), (5, .own 0), (14, .lf (.rows 25 (p_l.map GPred.lf))), (15, .lf (.int .i64 (p_l.length : Int))), (16, .lf (.int .i64 v1811))], [.row 47 25 (l1812.map GPred.lf)]⟩
def Q64_L0_S  (r_ : ((List GPred))) : St := ⟨[(5, .own 0)], [.row 47 25 (r_.map GPred.lf)]⟩
theorem Q64_L0_W {R_ : RB8} {p_l : List GPred} {v1811 : Int} {l1812 : List GPred} {r_ : ((List GPred))} (h : Q64_L0 R_ p_l v1811 l1812 = some r_) : AWa_ Tryz.f287 0 [1, 1, 1, 0, 1, 0] (.exit 0) (Q64_L0_S r_) (Q64_L0_H R_ p_l (v1811, l1812)) :=
 loop_T BaseK (body := (Code.sub (bodyC Tryz.f287) [1, 1, 1, 0, 1, 0, 0])) (by kernel_rfl) (Q64_L0_T R_ p_l) (Q64_L0_H R_ p_l) (fun _ => .exit 0) Q64_L0_S (fun r_ => rfl) (fun v_ => by kernel_rfl) h
def Q64_T (R_ : RB8) (p_l : List GPred) : Mo (List GPred) :=
 .say [.num p_l.length] (okc (by simp : p_l.length = (p_l.map GPred.lf).length) ok0) <|
 .ite ((p_l.length : Int) == 0) (fun c1769 =>
 .say [.br true] (ok1 c1769) <|
 .ret ⟨[.nil 0 25, .tod 0], [0], [], 0⟩ ([])) fun c1769 =>
 .say [.br false, .num p_l.length, .rows ((List.replicate (p_l.length : Int).toNat GPred.z).map GPred.lf), .num p_l.length] (okc c1769 (okc (by simp : p_l.length = (p_l.map GPred.lf).length) (okc (by simp [GPred.lf_eq] : (List.replicate (p_l.length : Int).toNat GPred.z).map GPred.lf = List.replicate (p_l.length : Int).toNat (GPred.lf1 GPred.z)) ok0))) <|
 .grd ((0 : Int) ≤ (p_l.length : Int) ∧ 400 * (p_l.length : Int).toNat ≤ 281474976710656 ∧ (p_l.length : Int).toNat ≤ maxLen) fun h1771 =>
 .say [] (okc (⟨rfl, h1771⟩ : ((p_l.length : Int) : Int) = (p_l.length : Int) ∧ (0 : Int) ≤ (p_l.length : Int) ∧ 400 * (p_l.length : Int).toNat ≤ 281474976710656 ∧ (p_l.length : Int).toNat ≤ maxLen) (okc (by simp : p_l.length = (p_l.map GPred.lf).length) ok0)) <|
 .ask (Q64_L0 R_ p_l 0 (List.replicate (p_l.length : Int).toNat GPred.z)) fun r1821 h1822 =>
 .say [.pt_ 0 [1, 5, 14, 15, 16] 1 (.exit 0) (Q64_L0_S r1821)] (ok1 (Q64_L0_W h1822)) <|
 .ret ⟨[.frz 0], [0], [], 0⟩ (r1821)
theorem Q64_okT (R_ : RB8) (p_l : List GPred) (r : List GPred) (h : Mo.den (Q64_T R_ p_l) = some r) : FnH Tryz.prog GI 287 [.lf (.rows 25 (p_l.map GPred.lf)), .raw (.func (.func 235) #[] #[])] [] (.lf (.rows 25 (r.map GPred.lf))) [] :=
 fn_TH BaseK Tryz.func287 (by kernel_rfl) (by kernel_rfl) (by kernel_rfl) (Q64_T R_ p_l) (fun r => [.lf (.rows 25 (r.map GPred.lf))]) (fun r => []) (by kernel_rfl) h
def RB8_F : Nat → RB8
 | 0 => { m1 := fun p_p => none, ok1 := fun _ _ h => (by cases h), m2 := fun p_l => none, ok2 := fun _ _ h => (by cases h) }
 | n_ + 1 => { m1 := fun p_p => Mo.den (Q100_T (RB8_F n_) p_p), ok1 := fun p_p r h => Q100_okT (RB8_F n_) p_p r h, m2 := fun p_l => Mo.den (Q64_T (RB8_F n_) p_l), ok2 := fun p_l r h => Q64_okT (RB8_F n_) p_l r h }
def Q100 (p_p : GPred) : Option (GPred) := (RB8_F FU).m1 p_p
theorem Q100_ok (p_p : GPred) (r : GPred) (h : Q100 p_p = some r) : Fn Tryz.prog GI 235 [.dat (GPred.lf1 p_p)] (.dat (GPred.lf1 r)) := (RB8_F FU).ok1 p_p r h
def Q88_T (p_x : GIndex) : Mo (GIndex) :=
 .ask (Q47 p_x.fKeys) fun r1673 h1674 =>
 .say [.resH [] (.own 0) [.row 152 2 (r1673.map GOrder.lf)]] (ok1 (Q47_ok _ _ h1674)) <|
 .ask (Q100 p_x.fWhere) fun r1825 h1826 =>
 .say [.res (.dat (GPred.lf1 r1825)), .at_ 0 0, .frz 2] (ok1 (Q100_ok _ _ h1826)) <|
 .ret (fitN 1) (GIndex.sWhere (GIndex.sKeys p_x r1673) r1825)
def Q88 (p_x : GIndex) : Option (GIndex) := Mo.den (Q88_T p_x)
theorem Q88_ok (p_x : GIndex) (r : GIndex) (h : Q88 p_x = some r) : Fn Tryz.prog GI 188 [.dat (GIndex.lf1 p_x)] (.dat (GIndex.lf1 r)) :=
 fn_T BaseK Tryz.func188 (by kernel_rfl) (by kernel_rfl) (by kernel_rfl) (Q88_T p_x) (fun r => [.dat (GIndex.lf1 r)]) (by kernel_rfl) h
def Q48_L0_T (p_l : List GIndex) : (Int × (List GIndex)) → Mo ((Int × (List GIndex)) ⊕ ((List GIndex))) := fun (v1860, l1861) =>
 .ite (decide ((v1860 : Int) < (p_l.length : Int))) (fun c1862 =>
 .say [.br true] (ok1 c1862) <|
 .ask (gidx p_l v1860) fun x1863 h1864 =>
 .say [.row (GIndex.lf1 x1863)] (okc (gidx_ok GIndex.lf_eq h1864 : (0 : Int) ≤ v1860 ∧ (p_l.map GIndex.lf)[v1860.toNat]? = some (GIndex.lf1 x1863)) ok0) <|
 .ask (Q88 x1863) fun r1865 h1866 =>
 .say [.res (.dat (GIndex.lf1 r1865))] (ok1 (Q88_ok _ _ h1866)) <|
 .ask (gidx l1861 v1860) fun x1867 h1868 =>
 .say [.row (GIndex.lf1 x1867), .rows ((l1861.set v1860.toNat r1865).map GIndex.lf)] (okc (gidx_lt GIndex.lf_eq h1868 : (0 : Int) ≤ v1860 ∧ v1860.toNat < (l1861.map GIndex.lf).length) (okc (by simp [GIndex.lf_eq] : (l1861.set v1860.toNat r1865).map GIndex.lf = (l1861.map GIndex.lf).set v1860.toNat (GIndex.lf1 r1865)) (okc ((gidx_ok GIndex.lf_eq h1868).2 : (l1861.map GIndex.lf)[v1860.toNat]? = some (GIndex.lf1 x1867)) ok0))) <|
 .ret ⟨[], [1, 5, 14, 15, 16], [], 1⟩ (.inl (IntKind.wrap .i64 (v1860 + 1), l1861.set v1860.toNat r1865))) fun c1862 =>
 .say [.br false] (ok1 c1862) <|
 .ret ⟨[], [5], [], 1⟩ (.inr (l1861))
def Q48_L0 (p_l : List GIndex) (v1860 : Int) (l1861 : List GIndex) : Option (((List GIndex))) := loopM (fun v_ => (Q48_L0_T p_l v_).den) FU (v1860, l1861)
def Q48_L0_H (p_l : List GIndex) : (Int × (List GIndex)) → St := fun (v1860, l1861) => ⟨[(1, .raw (.func (.func 188) #[] #[])), (5, .own 0), (14, .lf (.rows 31 (p_l.map GIndex.lf))), (15, .lf (.int .i64 (p_l.length : Int))), (16, .lf (.int .i64 v1860))], [.row 49 31 (l1861.map GIndex.lf)]⟩
def Q48_L0_S  (r_ : ((List GIndex))) : St := ⟨[(5, .own 0)], [.row 49 31 (r_.map GIndex.lf)]⟩
theorem Q48_L0_W {p_l : List GIndex} {v1860 : Int} {l1861 : List GIndex} {r_ : ((List GIndex))} (h : Q48_L0 p_l v1860 l1861 = some r_) : AWa_ Tryz.f231 0 [1, 1, 1, 0, 1, 0] (.exit 0) (Q48_L0_S r_) (Q48_L0_H p_l (v1860, l1861)) :=
 loop_T BaseK (body := (Code.sub (bodyC Tryz.f231) [1, 1, 1, 0, 1, 0, 0])) (by kernel_rfl) (Q48_L0_T p_l) (Q48_L0_H p_l) (fun _ => .exit 0) Q48_L0_S (fun r_ => rfl) (fun v_ => by kernel_rfl) h
def Q48_T (p_l : List GIndex) : Mo (List GIndex) :=
 .say [.num p_l.length] (okc (by simp : p_l.length = (p_l.map GIndex.lf).length) ok0) <|
 .ite ((p_l.length : Int) == 0) (fun c1602 =>
 .say [.br true] (okc c1602 (okc (by simp [GIndex.lf_eq] : (([] : List GIndex).map GIndex.lf) = []) ok0)) <|
 .ret ⟨[.nrow 0 49 31, .rerow 0 (([] : List GIndex).map GIndex.lf), .mvn 0], [0], [(1, 0)], 1⟩ (([] : List GIndex))) fun c1602 =>
 .say [.br false, .num p_l.length, .rows ((List.replicate (p_l.length : Int).toNat GIndex.z).map GIndex.lf), .num p_l.length] (okc c1602 (okc (by simp : p_l.length = (p_l.map GIndex.lf).length) (okc (by simp [GIndex.lf_eq] : (List.replicate (p_l.length : Int).toNat GIndex.z).map GIndex.lf = List.replicate (p_l.length : Int).toNat (GIndex.lf1 GIndex.z)) ok0))) <|
 .grd ((0 : Int) ≤ (p_l.length : Int) ∧ 456 * (p_l.length : Int).toNat ≤ 281474976710656 ∧ (p_l.length : Int).toNat ≤ maxLen) fun h1604 =>
 .say [] (okc (⟨rfl, h1604⟩ : ((p_l.length : Int) : Int) = (p_l.length : Int) ∧ (0 : Int) ≤ (p_l.length : Int) ∧ 456 * (p_l.length : Int).toNat ≤ 281474976710656 ∧ (p_l.length : Int).toNat ≤ maxLen) (okc (by simp : p_l.length = (p_l.map GIndex.lf).length) ok0)) <|
 .ask (Q48_L0 p_l 0 (List.replicate (p_l.length : Int).toNat GIndex.z)) fun r1870 h1871 =>
 .say [.pt_ 0 [1, 5, 14, 15, 16] 1 (.exit 0) (Q48_L0_S r1870)] (ok1 (Q48_L0_W h1871)) <|
 .ret ⟨[.mvn 0], [0], [(1, 0)], 1⟩ (r1870)
def Q48 (p_l : List GIndex) : Option (List GIndex) := Mo.den (Q48_T p_l)
theorem Q48_ok (p_l : List GIndex) (r : List GIndex) (h : Q48 p_l = some r) : FnH Tryz.prog GI 231 [.lf (.rows 31 (p_l.map GIndex.lf)), .raw (.func (.func 188) #[] #[])] [] (.own 0) [.row 49 31 (r.map GIndex.lf)] :=
 fn_TH BaseK Tryz.func231 (by kernel_rfl) (by kernel_rfl) (by kernel_rfl) (Q48_T p_l) (fun r => [.own 0]) (fun r => [.row 49 31 (r.map GIndex.lf)]) (by kernel_rfl) h
structure RB10 where
 m1 : (p_s : GSchema) → Option (GSchema)
 ok1 : ∀ (p_s : GSchema) (r : GSchema), m1 p_s = some r → Fn Tryz.prog GI 232 [.dat (GSchema.lf1 p_s)] (.dat (GSchema.lf1 r))
 m2 : (p_l : List GProp) → Option (List GProp)
 ok2 : ∀ (p_l : List GProp) (r : List GProp), m2 p_l = some r → FnH Tryz.prog GI 283 [.lf (.rows 22 (p_l.map GProp.lf)), .raw (.func (.func 284) #[] #[])] [] (.lf (.rows 22 (r.map GProp.lf))) []
 m3 : (p_l : List GSchema) → Option (List GSchema)
 ok3 : ∀ (p_l : List GSchema) (r : List GSchema), m3 p_l = some r → FnH Tryz.prog GI 285 [.lf (.rows 21 (p_l.map GSchema.lf)), .raw (.func (.func 232) #[] #[])] [] (.lf (.rows 21 (r.map GSchema.lf))) []
 m4 : (p_p : GProp) → Option (GProp)
 ok4 : ∀ (p_p : GProp) (r : GProp), m4 p_p = some r → Fn Tryz.prog GI 284 [.dat (GProp.lf1 p_p)] (.dat (GProp.lf1 r))
def Q89_T (R_ : RB10) (p_s : GSchema) : Mo (GSchema) :=
 .ask (Q73 p_s.fMin) fun r1878 h1879 =>
 .say [.res (.dat (GValue.lf1 r1878))] (ok1 (Q73_ok _ _ h1879)) <|
 .ask (Q73 p_s.fMax) fun r1882 h1883 =>
 .say [.res (.dat (GValue.lf1 r1882))] (ok1 (Q73_ok _ _ h1883)) <|
 .ask (Q33 p_s.fEnum) fun r1886 h1887 =>
 .say [.resH [] (.lf (.rows 5 (r1886.map GValue.lf))) []] (ok1 (Q33_ok _ _ h1887)) <|
 .ask (Q81 p_s.fRequired) fun r1890 h1891 =>
 .say [.res (.lf (.rows 1 (r1890.map lfS)))] (ok1 (Q81_ok _ _ h1891)) <|
 .ask (R_.m2 p_s.fProps) fun r1894 h1895 =>
 .say [.resH [] (.lf (.rows 22 (r1894.map GProp.lf))) []] (ok1 (R_.ok2 _ _ h1895)) <|
 .ask (R_.m3 p_s.fItems) fun r1898 h1899 =>
 .say [.resH [] (.lf (.rows 21 (r1898.map GSchema.lf))) []] (ok1 (R_.ok3 _ _ h1899)) <|
 .ret (fitN 1) (GSchema.mk p_s.fKinds p_s.fHasMin r1878 p_s.fHasMax r1882 r1886 p_s.fMinLen p_s.fMaxLen r1890 r1894 p_s.fClosed r1898 p_s.fUnique)
theorem Q89_okT (R_ : RB10) (p_s : GSchema) (r : GSchema) (h : Mo.den (Q89_T R_ p_s) = some r) : Fn Tryz.prog GI 232 [.dat (GSchema.lf1 p_s)] (.dat (GSchema.lf1 r)) :=
 fn_T BaseK Tryz.func232 (by kernel_rfl) (by kernel_rfl) (by kernel_rfl) (Q89_T R_ p_s) (fun r => [.dat (GSchema.lf1 r)]) (by kernel_rfl) h
def Q65_L0_T (R_ : RB10) (p_l : List GProp) : (Int × (List GProp)) → Mo ((Int × (List GProp)) ⊕ ((List GProp))) := fun (v1943, l1944) =>
 .ite (decide ((v1943 : Int) < (p_l.length : Int))) (fun c1945 =>
 .say [.br true] (ok1 c1945) <|
 .ask (gidx p_l v1943) fun x1946 h1947 =>
 .say [.row (GProp.lf1 x1946)] (okc (gidx_ok GProp.lf_eq h1947 : (0 : Int) ≤ v1943 ∧ (p_l.map GProp.lf)[v1943.toNat]? = some (GProp.lf1 x1946)) ok0) <|
 .ask (R_.m4 x1946) fun r1948 h1949 =>
 .say [.res (.dat (GProp.lf1 r1948))] (ok1 (R_.ok4 _ _ h1949)) <|
 .ask (gidx l1944 v1943) fun x1950 h1951 =>
 .say [.row (GProp.lf1 x1950), .rows ((l1944.set v1943.toNat r1948).map GProp.lf)] (okc (gidx_lt GProp.lf_eq h1951 : (0 : Int) ≤ v1943 ∧ v1943.toNat < (l1944.map GProp.lf).length) (okc (by simp [GProp.lf_eq] : (l1944.set v1943.toNat r1948).map GProp.lf = (l1944.map GProp.lf).set v1943.toNat (GProp.lf1 r1948)) (okc ((gidx_ok GProp.lf_eq h1951).2 : (l1944.map GProp.lf)[v1943.toNat]? = some (GProp.lf1 x1950)) ok0))) <|
 .ret ⟨[], [1, 5, 14, 15, 16], [], 1⟩ (.inl (IntKind.wrap .i64 (v1943 + 1), l1944.set v1943.toNat r1948))) fun c1945 =>
 .say [.br false] (ok1 c1945) <|
 .ret ⟨[], [5], [], 1⟩ (.inr (l1944))
def Q65_L0 (R_ : RB10) (p_l : List GProp) (v1943 : Int) (l1944 : List GProp) : Option (((List GProp))) := loopM (fun v_ => (Q65_L0_T R_ p_l v_).den) FU (v1943, l1944)
def Q65_L0_H (R_ : RB10) (p_l : List GProp) : (Int × (List GProp)) → St := fun (v1943, l1944) => ⟨[(1, .raw (.func (.func 284) #[] #[])), (5, .own 0), (14, .lf (.rows 22 (p_l.map GProp.lf))), (15, .lf (.int .i64 (p_l.length : Int))), (16, .lf (.int .i64 v1943))], [.row 217 22 (l1944.map GProp.lf)]⟩
def Q65_L0_S  (r_ : ((List GProp))) : St := ⟨[(5, .own 0)], [.row 217 22 (r_.map GProp.lf)]⟩
theorem Q65_L0_W {R_ : RB10} {p_l : List GProp} {v1943 : Int} {l1944 : List GProp} {r_ : ((List GProp))} (h : Q65_L0 R_ p_l v1943 l1944 = some r_) : AWa_ Tryz.f283 0 [1, 1, 1, 0, 1, 0] (.exit 0) (Q65_L0_S r_) (Q65_L0_H R_ p_l (v1943, l1944)) :=
 loop_T BaseK (body := (Code.sub (bodyC Tryz.f283) [1, 1, 1, 0, 1, 0, 0])) (by kernel_rfl) (Q65_L0_T R_ p_l) (Q65_L0_H R_ p_l) (fun _ => .exit 0) Q65_L0_S (fun r_ => rfl) (fun v_ => by kernel_rfl) h
def Q65_T (R_ : RB10) (p_l : List GProp) : Mo (List GProp) :=
 .say [.num p_l.length] (okc (by simp : p_l.length = (p_l.map GProp.lf).length) ok0) <|
 .ite ((p_l.length : Int) == 0) (fun c1901 =>
 .say [.br true] (ok1 c1901) <|
 .ret ⟨[.nil 0 22, .tod 0], [0], [], 0⟩ ([])) fun c1901 =>
 .say [.br false, .num p_l.length, .rows ((List.replicate (p_l.length : Int).toNat (GProp.mk ⟨#[]⟩ GSchema.z)).map GProp.lf), .num p_l.length] (okc c1901 (okc (by simp : p_l.length = (p_l.map GProp.lf).length) (okc (by simp [GProp.lf_eq] : (List.replicate (p_l.length : Int).toNat (GProp.mk ⟨#[]⟩ GSchema.z)).map GProp.lf = List.replicate (p_l.length : Int).toNat (GProp.lf1 (GProp.mk ⟨#[]⟩ GSchema.z))) ok0))) <|
 .grd ((0 : Int) ≤ (p_l.length : Int) ∧ 328 * (p_l.length : Int).toNat ≤ 281474976710656 ∧ (p_l.length : Int).toNat ≤ maxLen) fun h1903 =>
 .say [] (okc (⟨rfl, h1903⟩ : ((p_l.length : Int) : Int) = (p_l.length : Int) ∧ (0 : Int) ≤ (p_l.length : Int) ∧ 328 * (p_l.length : Int).toNat ≤ 281474976710656 ∧ (p_l.length : Int).toNat ≤ maxLen) (okc (by simp : p_l.length = (p_l.map GProp.lf).length) ok0)) <|
 .ask (Q65_L0 R_ p_l 0 (List.replicate (p_l.length : Int).toNat (GProp.mk ⟨#[]⟩ GSchema.z))) fun r1953 h1954 =>
 .say [.pt_ 0 [1, 5, 14, 15, 16] 1 (.exit 0) (Q65_L0_S r1953)] (ok1 (Q65_L0_W h1954)) <|
 .ret ⟨[.frz 0], [0], [], 0⟩ (r1953)
theorem Q65_okT (R_ : RB10) (p_l : List GProp) (r : List GProp) (h : Mo.den (Q65_T R_ p_l) = some r) : FnH Tryz.prog GI 283 [.lf (.rows 22 (p_l.map GProp.lf)), .raw (.func (.func 284) #[] #[])] [] (.lf (.rows 22 (r.map GProp.lf))) [] :=
 fn_TH BaseK Tryz.func283 (by kernel_rfl) (by kernel_rfl) (by kernel_rfl) (Q65_T R_ p_l) (fun r => [.lf (.rows 22 (r.map GProp.lf))]) (fun r => []) (by kernel_rfl) h
def Q54_L0_T (R_ : RB10) (p_l : List GSchema) : (Int × (List GSchema)) → Mo ((Int × (List GSchema)) ⊕ ((List GSchema))) := fun (v1998, l1999) =>
 .ite (decide ((v1998 : Int) < (p_l.length : Int))) (fun c2000 =>
 .say [.br true] (ok1 c2000) <|
 .ask (gidx p_l v1998) fun x2001 h2002 =>
 .say [.row (GSchema.lf1 x2001)] (okc (gidx_ok GSchema.lf_eq h2002 : (0 : Int) ≤ v1998 ∧ (p_l.map GSchema.lf)[v1998.toNat]? = some (GSchema.lf1 x2001)) ok0) <|
 .ask (R_.m1 x2001) fun r2003 h2004 =>
 .say [.res (.dat (GSchema.lf1 r2003))] (ok1 (R_.ok1 _ _ h2004)) <|
 .ask (gidx l1999 v1998) fun x2005 h2006 =>
 .say [.row (GSchema.lf1 x2005), .rows ((l1999.set v1998.toNat r2003).map GSchema.lf)] (okc (gidx_lt GSchema.lf_eq h2006 : (0 : Int) ≤ v1998 ∧ v1998.toNat < (l1999.map GSchema.lf).length) (okc (by simp [GSchema.lf_eq] : (l1999.set v1998.toNat r2003).map GSchema.lf = (l1999.map GSchema.lf).set v1998.toNat (GSchema.lf1 r2003)) (okc ((gidx_ok GSchema.lf_eq h2006).2 : (l1999.map GSchema.lf)[v1998.toNat]? = some (GSchema.lf1 x2005)) ok0))) <|
 .ret ⟨[], [1, 5, 14, 15, 16], [], 1⟩ (.inl (IntKind.wrap .i64 (v1998 + 1), l1999.set v1998.toNat r2003))) fun c2000 =>
 .say [.br false] (ok1 c2000) <|
 .ret ⟨[], [5], [], 1⟩ (.inr (l1999))
def Q54_L0 (R_ : RB10) (p_l : List GSchema) (v1998 : Int) (l1999 : List GSchema) : Option (((List GSchema))) := loopM (fun v_ => (Q54_L0_T R_ p_l v_).den) FU (v1998, l1999)
def Q54_L0_H (R_ : RB10) (p_l : List GSchema) : (Int × (List GSchema)) → St := fun (v1998, l1999) => ⟨[(1, .raw (.func (.func 232) #[] #[])), (5, .own 0), (14, .lf (.rows 21 (p_l.map GSchema.lf))), (15, .lf (.int .i64 (p_l.length : Int))), (16, .lf (.int .i64 v1998))], [.row 35 21 (l1999.map GSchema.lf)]⟩
def Q54_L0_S  (r_ : ((List GSchema))) : St := ⟨[(5, .own 0)], [.row 35 21 (r_.map GSchema.lf)]⟩
theorem Q54_L0_W {R_ : RB10} {p_l : List GSchema} {v1998 : Int} {l1999 : List GSchema} {r_ : ((List GSchema))} (h : Q54_L0 R_ p_l v1998 l1999 = some r_) : AWa_ Tryz.f285 0 [1, 1, 1, 0, 1, 0] (.exit 0) (Q54_L0_S r_) (Q54_L0_H R_ p_l (v1998, l1999)) :=
 loop_T BaseK (body := (Code.sub (bodyC Tryz.f285) [1, 1, 1, 0, 1, 0, 0])) (by kernel_rfl) (Q54_L0_T R_ p_l) (Q54_L0_H R_ p_l) (fun _ => .exit 0) Q54_L0_S (fun r_ => rfl) (fun v_ => by kernel_rfl) h
def Q54_T (R_ : RB10) (p_l : List GSchema) : Mo (List GSchema) :=
 .say [.num p_l.length] (okc (by simp : p_l.length = (p_l.map GSchema.lf).length) ok0) <|
 .ite ((p_l.length : Int) == 0) (fun c1956 =>
 .say [.br true] (ok1 c1956) <|
 .ret ⟨[.nil 0 21, .tod 0], [0], [], 0⟩ ([])) fun c1956 =>
 .say [.br false, .num p_l.length, .rows ((List.replicate (p_l.length : Int).toNat GSchema.z).map GSchema.lf), .num p_l.length] (okc c1956 (okc (by simp : p_l.length = (p_l.map GSchema.lf).length) (okc (by simp [GSchema.lf_eq] : (List.replicate (p_l.length : Int).toNat GSchema.z).map GSchema.lf = List.replicate (p_l.length : Int).toNat (GSchema.lf1 GSchema.z)) ok0))) <|
 .grd ((0 : Int) ≤ (p_l.length : Int) ∧ 312 * (p_l.length : Int).toNat ≤ 281474976710656 ∧ (p_l.length : Int).toNat ≤ maxLen) fun h1958 =>
 .say [] (okc (⟨rfl, h1958⟩ : ((p_l.length : Int) : Int) = (p_l.length : Int) ∧ (0 : Int) ≤ (p_l.length : Int) ∧ 312 * (p_l.length : Int).toNat ≤ 281474976710656 ∧ (p_l.length : Int).toNat ≤ maxLen) (okc (by simp : p_l.length = (p_l.map GSchema.lf).length) ok0)) <|
 .ask (Q54_L0 R_ p_l 0 (List.replicate (p_l.length : Int).toNat GSchema.z)) fun r2008 h2009 =>
 .say [.pt_ 0 [1, 5, 14, 15, 16] 1 (.exit 0) (Q54_L0_S r2008)] (ok1 (Q54_L0_W h2009)) <|
 .ret ⟨[.frz 0], [0], [], 0⟩ (r2008)
theorem Q54_okT (R_ : RB10) (p_l : List GSchema) (r : List GSchema) (h : Mo.den (Q54_T R_ p_l) = some r) : FnH Tryz.prog GI 285 [.lf (.rows 21 (p_l.map GSchema.lf)), .raw (.func (.func 232) #[] #[])] [] (.lf (.rows 21 (r.map GSchema.lf))) [] :=
 fn_TH BaseK Tryz.func285 (by kernel_rfl) (by kernel_rfl) (by kernel_rfl) (Q54_T R_ p_l) (fun r => [.lf (.rows 21 (r.map GSchema.lf))]) (fun r => []) (by kernel_rfl) h
def Q127_T (R_ : RB10) (p_p : GProp) : Mo (GProp) :=
 .say [.order [(true, 0), (true, 1), (true, 2), (true, 3), (false, 4), (true, 5), (false, 6)] (some 6) []] ok0 <|
 .ask (R_.m1 p_p.fSchema) fun r2010 h2011 =>
 .say [.res (.dat (GSchema.lf1 r2010))] (ok1 (R_.ok1 _ _ h2011)) <|
 .ret (fitN 1) (GProp.mk p_p.fName r2010)
theorem Q127_okT (R_ : RB10) (p_p : GProp) (r : GProp) (h : Mo.den (Q127_T R_ p_p) = some r) : Fn Tryz.prog GI 284 [.dat (GProp.lf1 p_p)] (.dat (GProp.lf1 r)) :=
 fn_T BaseK Tryz.func284 (by kernel_rfl) (by kernel_rfl) (by kernel_rfl) (Q127_T R_ p_p) (fun r => [.dat (GProp.lf1 r)]) (by kernel_rfl) h
def RB10_F : Nat → RB10
 | 0 => { m1 := fun p_s => none, ok1 := fun _ _ h => (by cases h), m2 := fun p_l => none, ok2 := fun _ _ h => (by cases h), m3 := fun p_l => none, ok3 := fun _ _ h => (by cases h), m4 := fun p_p => none, ok4 := fun _ _ h => (by cases h) }
 | n_ + 1 => { m1 := fun p_s => Mo.den (Q89_T (RB10_F n_) p_s), ok1 := fun p_s r h => Q89_okT (RB10_F n_) p_s r h, m2 := fun p_l => Mo.den (Q65_T (RB10_F n_) p_l), ok2 := fun p_l r h => Q65_okT (RB10_F n_) p_l r h, m3 := fun p_l => Mo.den (Q54_T (RB10_F n_) p_l), ok3 := fun p_l r h => Q54_okT (RB10_F n_) p_l r h, m4 := fun p_p => Mo.den (Q127_T (RB10_F n_) p_p), ok4 := fun p_p r h => Q127_okT (RB10_F n_) p_p r h }
def Q89 (p_s : GSchema) : Option (GSchema) := (RB10_F FU).m1 p_s
theorem Q89_ok (p_s : GSchema) (r : GSchema) (h : Q89 p_s = some r) : Fn Tryz.prog GI 232 [.dat (GSchema.lf1 p_s)] (.dat (GSchema.lf1 r)) := (RB10_F FU).ok1 p_s r h
end
end Go.Proofs.YtdnafbfmaphhhaaGreatDoor
