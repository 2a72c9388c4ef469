/- Printed by dec.py. -/
import Derived.Test.YtplokbmdcfakbaaGreatDoorQV7
set_option linter.unusedSimpArgs false
set_option linter.unusedVariables false
namespace Go.Proofs.YtplokbmdcfakbaaGreatDoor
open Go.RowKit
set_option maxRecDepth 20000
set_option maxHeartbeats 4000000
noncomputable section
structure RB12 where
 m1 : (p_e : GExpr) → (p_number : Int) → (p_level : Int) → Option (Int × Int)
 ok1 : ∀ (p_e : GExpr) (p_number : Int) (p_level : Int) (r : Int × Int), m1 p_e p_number p_level = some r → Fn Tryz.prog GI 114 [.dat (GExpr.lf1 p_e), .lf (.int .i64 p_number), .lf (.int .i64 p_level)] (.tup [.lf (.int .i64 r.1), .lf (.int .i64 r.2)])
def Q44_J0_T (R_ : RB12) (p_e : GExpr) (p_level : Int) (p_number : Int) : Mo (Bool) :=
 .ite (decide ((16 : Int) < p_level)) (fun c4926 =>
 .say [.gd 4002 true] (ok1 c4926) <|
 .ret ⟨[], [1, 2, 3, 17], [], 1⟩ (true)) fun c4926 =>
 .say [.gd 4002 false] (ok1 c4926) <|
 .ret ⟨[], [1, 2, 3, 17], [], 1⟩ (decide ((256 : Int) < p_number))
def Q44_J0 (R_ : RB12) (p_e : GExpr) (p_level : Int) (p_number : Int) : Option (Bool) := Mo.den (Q44_J0_T R_ p_e p_level p_number)
def Q44_J0_S (p_e : GExpr) (p_level : Int) (p_number : Int) (r_ : Bool) : St := ⟨[(1, .lf (.int .i64 p_number)), (2, .lf (.int .i64 p_level)), (3, .ptr 0 0), (17, .lf (.bool r_))], [.box 44 (.dat (GExpr.lf1 p_e))]⟩
theorem Q44_J0_W {R_ : RB12} {p_e : GExpr} {p_level : Int} {p_number : Int} {r_ : Bool} (h : Q44_J0 R_ p_e p_level p_number = some r_) : AWa_ Tryz.f114 0 [1, 0, 0] (.normal) (Q44_J0_S p_e p_level p_number r_) ⟨[(1, .lf (.int .i64 p_number)), (2, .lf (.int .i64 p_level)), (3, .ptr 0 0)], [.box 44 (.dat (GExpr.lf1 p_e))]⟩ :=
 part_T BaseK (Q44_J0_T R_ p_e p_level p_number) (fun _ => .normal) (Q44_J0_S p_e p_level p_number) (by kernel_rfl) h
def Q44_L5_T (R_ : RB12) (p_e : GExpr) (p_level : Int) : (Int × Int) → Mo ((Int × Int) ⊕ (Int × Int) ⊕ (Int)) := fun (v5659, v5660) =>
 .say [.num p_e.fKids.length] (okc (by simp : p_e.fKids.length = (p_e.fKids.map GExpr.lf).length) ok0) <|
 .ite (decide ((v5660 : Int) < (p_e.fKids.length : Int))) (fun c5661 =>
 .say [.br true] (ok1 c5661) <|
 .ask (gidx p_e.fKids v5660) fun x5662 h5663 =>
 .say [.row (GExpr.lf1 x5662)] (okc (gidx_ok GExpr.lf_eq h5663 : (0 : Int) ≤ v5660 ∧ (p_e.fKids.map GExpr.lf)[v5660.toNat]? = some (GExpr.lf1 x5662)) ok0) <|
 .ask (R_.m1 x5662 (IntKind.wrap .i64 (v5659 + 1)) (IntKind.wrap .i64 (p_level + 1))) fun r5664 h5665 =>
 .say [.res (.tup [.lf (.int .i64 r5664.1), .lf (.int .i64 r5664.2)])] (ok1 (R_.ok1 _ _ _ _ h5665)) <|
 .ite (r5664.2 != 0) (fun c5666 =>
 .say [.br true] (ok1 c5666) <|
 .ret ⟨[.kill 0], [6, 7], [], 1⟩ (.inr (.inl (r5664.1, r5664.2)))) fun c5666 =>
 .say [.br false] (ok1 c5666) <|
 .ret ⟨[], [1, 2, 3, 9], [], 1⟩ (.inl (r5664.1, IntKind.wrap .i64 (v5660 + 1)))) fun c5661 =>
 .say [.br false] (ok1 c5661) <|
 .ret ⟨[.kill 0], [1], [], 1⟩ (.inr (.inr (v5659)))
def Q44_L5 (R_ : RB12) (p_e : GExpr) (p_level : Int) (v5659 : Int) (v5660 : Int) : Option ((Int × Int) ⊕ (Int)) := loopM (fun v_ => (Q44_L5_T R_ p_e p_level v_).den) FU (v5659, v5660)
def Q44_L5_H (R_ : RB12) (p_e : GExpr) (p_level : Int) : (Int × Int) → St := fun (v5659, v5660) => ⟨[(1, .lf (.int .i64 v5659)), (2, .lf (.int .i64 p_level)), (3, .ptr 0 0), (9, .lf (.int .i64 v5660))], [.box 44 (.dat (GExpr.lf1 p_e))]⟩
def Q44_L5_X (r_ : (Int × Int) ⊕ (Int)) : Exit := match r_ with
 | .inl o_ => .ret
 | .inr (o_) => .exit 0
def Q44_L5_S  (r_ : (Int × Int) ⊕ (Int)) : St := match r_ with
 | .inl o_ => ⟨[(6, .lf (.int .i64 o_.1)), (7, .lf (.int .i64 o_.2))], [.dead]⟩
 | .inr (o_) => ⟨[(1, .lf (.int .i64 o_))], [.dead]⟩
theorem Q44_L5_W {R_ : RB12} {p_e : GExpr} {p_level : Int} {v5659 : Int} {v5660 : Int} {r_ : (Int × Int) ⊕ (Int)} (h : Q44_L5 R_ p_e p_level v5659 v5660 = some r_) : AWa_ Tryz.f114 0 [1, 1, 1, 0, 1, 0] (Q44_L5_X r_) (Q44_L5_S r_) (Q44_L5_H R_ p_e p_level (v5659, v5660)) :=
 loop_T BaseK (body := (Code.sub (bodyC Tryz.f114) [1, 1, 1, 0, 1, 0, 0])) (by kernel_rfl) (Q44_L5_T R_ p_e p_level) (Q44_L5_H R_ p_e p_level) Q44_L5_X Q44_L5_S (fun r_ => by rcases r_ with _ | _ <;> rfl) (fun v_ => by kernel_rfl) h
def Q44_T (R_ : RB12) (p_e : GExpr) (p_number : Int) (p_level : Int) : Mo (Int × Int) :=
 .ask (Q44_J0 R_ p_e p_level p_number) fun r4928 h4929 =>
 .say [.pt_ 9 [1, 2, 3] 1 (.normal) (Q44_J0_S p_e p_level p_number r4928)] (ok1 (Q44_J0_W h4929)) <|
 .ite (r4928) (fun c4931 =>
 .say [.br true] (ok1 c4931) <|
 .ret (fitN 2) (p_number, 2)) fun c4931 =>
 .say [.br false] (ok1 c4931) <|
 .ask (Q4 p_e) fun r5614 h5615 =>
 .say [.res (.lf (.int .i64 r5614))] (ok1 (Q4_ok _ _ h5615)) <|
 .ite (r5614 != 0) (fun c5617 =>
 .say [.br true] (ok1 c5617) <|
 .ret (fitN 2) (p_number, r5614)) fun c5617 =>
 .say [.br false] (ok1 c5617) <|
 .ask2 (Q44_L5 R_ p_e p_level p_number 0) (fun o5675 h5674 =>
 .say [.pt_ 0 [1, 2, 3, 9] 1 (Q44_L5_X (.inl o5675)) (Q44_L5_S (.inl o5675))] (ok1 (Q44_L5_W h5674)) <|
 .ret (fitN 2) (o5675.1, o5675.2)) fun o5676 h5674 =>
 .say [.pt_ 0 [1, 2, 3, 9] 1 (Q44_L5_X (.inr (o5676))) (Q44_L5_S (.inr (o5676)))] (ok1 (Q44_L5_W h5674)) <|
 .ret (fitN 2) (o5676, 0)
theorem Q44_okT (R_ : RB12) (p_e : GExpr) (p_number : Int) (p_level : Int) (r : Int × Int) (h : Mo.den (Q44_T R_ p_e p_number p_level) = some r) : Fn Tryz.prog GI 114 [.dat (GExpr.lf1 p_e), .lf (.int .i64 p_number), .lf (.int .i64 p_level)] (.tup [.lf (.int .i64 r.1), .lf (.int .i64 r.2)]) :=
 fn_T BaseK Tryz.func114 (by kernel_rfl) (by kernel_rfl) (by kernel_rfl) (Q44_T R_ p_e p_number p_level) (fun r => [.lf (.int .i64 r.1), .lf (.int .i64 r.2)]) (by kernel_rfl) h
def RB12_F : Nat → RB12
 | 0 => { m1 := fun p_e p_number p_level => none, ok1 := fun _ _ _ _ h => (by cases h) }
 | n_ + 1 => { m1 := fun p_e p_number p_level => Mo.den (Q44_T (RB12_F n_) p_e p_number p_level), ok1 := fun p_e p_number p_level r h => Q44_okT (RB12_F n_) p_e p_number p_level r h }
def Q44 (p_e : GExpr) (p_number : Int) (p_level : Int) : Option (Int × Int) := (RB12_F FU).m1 p_e p_number p_level
theorem Q44_ok (p_e : GExpr) (p_number : Int) (p_level : Int) (r : Int × Int) (h : Q44 p_e p_number p_level = some r) : Fn Tryz.prog GI 114 [.dat (GExpr.lf1 p_e), .lf (.int .i64 p_number), .lf (.int .i64 p_level)] (.tup [.lf (.int .i64 r.1), .lf (.int .i64 r.2)]) := (RB12_F FU).ok1 p_e p_number p_level r h
def Q93_T (p_e : GExpr) : Mo (Int) :=
 .ask (Q44 p_e 1 1) fun r5679 h5680 =>
 .say [.res (.tup [.lf (.int .i64 r5679.1), .lf (.int .i64 r5679.2)])] (ok1 (Q44_ok _ _ _ _ h5680)) <|
 .ret (fitN 1) (r5679.2)
def Q93 (p_e : GExpr) : Option (Int) := Mo.den (Q93_T p_e)
theorem Q93_ok (p_e : GExpr) (r : Int) (h : Q93 p_e = some r) : Fn Tryz.prog GI 92 [.dat (GExpr.lf1 p_e)] (.lf (.int .i64 r)) :=
 fn_T BaseK Tryz.func92 (by kernel_rfl) (by kernel_rfl) (by kernel_rfl) (Q93_T p_e) (fun r => [.lf (.int .i64 r)]) (by kernel_rfl) h
structure RB11 where
 m1 : (p_p : GPred) → (p_elem : Bool) → Option (Int)
 ok1 : ∀ (p_p : GPred) (p_elem : Bool) (r : Int), m1 p_p p_elem = some r → Fn Tryz.prog GI 65 [.dat (GPred.lf1 p_p), .lf (.bool p_elem)] (.lf (.int .i64 r))
def Q3_J0_T (R_ : RB11) (p_elem : Bool) (p_p : GPred) : Mo (Bool) :=
 .ite (decide ((p_p.fOp : Int) < 1)) (fun c4488 =>
 .say [.gd 4003 true] (ok1 c4488) <|
 .ret ⟨[], [1, 2, 16], [], 1⟩ (true)) fun c4488 =>
 .say [.gd 4003 false] (ok1 c4488) <|
 .ret ⟨[], [1, 2, 16], [], 1⟩ (decide ((24 : Int) < p_p.fOp))
def Q3_J0 (R_ : RB11) (p_elem : Bool) (p_p : GPred) : Option (Bool) := Mo.den (Q3_J0_T R_ p_elem p_p)
def Q3_J0_S (p_elem : Bool) (p_p : GPred) (r_ : Bool) : St := ⟨[(1, .lf (.bool p_elem)), (2, .ptr 0 0), (16, .lf (.bool r_))], [.box 47 (.dat (GPred.lf1 p_p))]⟩
theorem Q3_J0_W {R_ : RB11} {p_elem : Bool} {p_p : GPred} {r_ : Bool} (h : Q3_J0 R_ p_elem p_p = some r_) : AWoa_ Tryz.f65 0 [1, 0, 0] [0, 1, 2, 3, 4, 5, 6, 7] (Q3_J0_S p_elem p_p r_) ⟨[(1, .lf (.bool p_elem)), (2, .ptr 0 0)], [.box 47 (.dat (GPred.lf1 p_p))]⟩ :=
 seg_T BaseK (Q3_J0_T R_ p_elem p_p) (Q3_J0_S p_elem p_p) (by kernel_rfl) h
def Q3_J5_T (R_ : RB11) (p_elem : Bool) (p_p : GPred) (r4490 : Bool) : Mo (Bool) :=
 .ite (r4490) (fun c4492 =>
 .say [.gd 4008 true] (ok1 c4492) <|
 .ret ⟨[], [1, 2, 21], [], 1⟩ (true)) fun c4492 =>
 .say [.gd 4008 false] (ok1 c4492) <|
 .ask (Q61 p_p) fun r4493 h4494 =>
 .say [.res (.lf (.bool r4493))] (ok1 (Q61_ok _ _ h4494)) <|
 .ret ⟨[], [1, 2, 21], [], 1⟩ (!r4493)
def Q3_J5 (R_ : RB11) (p_elem : Bool) (p_p : GPred) (r4490 : Bool) : Option (Bool) := Mo.den (Q3_J5_T R_ p_elem p_p r4490)
def Q3_J5_S (p_elem : Bool) (p_p : GPred) (r_ : Bool) : St := ⟨[(1, .lf (.bool p_elem)), (2, .ptr 0 0), (21, .lf (.bool r_))], [.box 47 (.dat (GPred.lf1 p_p))]⟩
theorem Q3_J5_W {R_ : RB11} {p_elem : Bool} {p_p : GPred} {r4490 : Bool} {r_ : Bool} (h : Q3_J5 R_ p_elem p_p r4490 = some r_) : AWoa_ Tryz.f65 0 [1, 0, 0] [8, 9, 10, 11, 12] (Q3_J5_S p_elem p_p r_) ⟨[(1, .lf (.bool p_elem)), (2, .ptr 0 0), (16, .lf (.bool r4490))], [.box 47 (.dat (GPred.lf1 p_p))]⟩ :=
 seg_T BaseK (Q3_J5_T R_ p_elem p_p r4490) (Q3_J5_S p_elem p_p) (by kernel_rfl) h
def Q3_J10_T (R_ : RB11) (p_elem : Bool) (p_p : GPred) (r4496 : Bool) : Mo (Bool) :=
 .ite (r4496) (fun c4498 =>
 .say [.gd 4013 true] (ok1 c4498) <|
 .ret ⟨[], [1, 2, 32], [], 1⟩ (true)) fun c4498 =>
 .say [.gd 4013 false] (ok1 c4498) <|
 .ask (Q75 p_p.fOp) fun r4499 h4500 =>
 .say [.res (.lf (.bool r4499))] (ok1 (Q75_ok _ _ h4500)) <|
 .ite (r4499) (fun c4501 =>
 .say [.gd 4017 true, .num p_p.fArgs.length] (okc c4501 (okc (by simp : p_p.fArgs.length = (p_p.fArgs.map GValue.lf).length) ok0)) <|
 .ret ⟨[], [1, 2, 32], [], 1⟩ ((p_p.fArgs.length : Int) == 0)) fun c4501 =>
 .say [.gd 4017 false] (ok1 c4501) <|
 .ret ⟨[], [1, 2, 32], [], 1⟩ (false)
def Q3_J10 (R_ : RB11) (p_elem : Bool) (p_p : GPred) (r4496 : Bool) : Option (Bool) := Mo.den (Q3_J10_T R_ p_elem p_p r4496)
def Q3_J10_S (p_elem : Bool) (p_p : GPred) (r_ : Bool) : St := ⟨[(1, .lf (.bool p_elem)), (2, .ptr 0 0), (32, .lf (.bool r_))], [.box 47 (.dat (GPred.lf1 p_p))]⟩
theorem Q3_J10_W {R_ : RB11} {p_elem : Bool} {p_p : GPred} {r4496 : Bool} {r_ : Bool} (h : Q3_J10 R_ p_elem p_p r4496 = some r_) : AWoa_ Tryz.f65 0 [1, 0, 0] [13, 14, 15, 16, 17, 18, 19, 20, 21, 22, 23] (Q3_J10_S p_elem p_p r_) ⟨[(1, .lf (.bool p_elem)), (2, .ptr 0 0), (21, .lf (.bool r4496))], [.box 47 (.dat (GPred.lf1 p_p))]⟩ :=
 seg_T BaseK (Q3_J10_T R_ p_elem p_p r4496) (Q3_J10_S p_elem p_p) (by kernel_rfl) h
def Q3_J15_T (R_ : RB11) (p_elem : Bool) (p_p : GPred) (r4503 : Bool) : Mo (Bool) :=
 .ite (r4503) (fun c4505 =>
 .say [.gd 4024 true] (ok1 c4505) <|
 .ret ⟨[], [1, 2, 37], [], 1⟩ (true)) fun c4505 =>
 .say [.gd 4024 false] (ok1 c4505) <|
 .ask (Q25 p_p) fun r4506 h4507 =>
 .say [.res (.lf (.bool r4506))] (ok1 (Q25_ok _ _ h4507)) <|
 .ret ⟨[], [1, 2, 37], [], 1⟩ (!r4506)
def Q3_J15 (R_ : RB11) (p_elem : Bool) (p_p : GPred) (r4503 : Bool) : Option (Bool) := Mo.den (Q3_J15_T R_ p_elem p_p r4503)
def Q3_J15_S (p_elem : Bool) (p_p : GPred) (r_ : Bool) : St := ⟨[(1, .lf (.bool p_elem)), (2, .ptr 0 0), (37, .lf (.bool r_))], [.box 47 (.dat (GPred.lf1 p_p))]⟩
theorem Q3_J15_W {R_ : RB11} {p_elem : Bool} {p_p : GPred} {r4503 : Bool} {r_ : Bool} (h : Q3_J15 R_ p_elem p_p r4503 = some r_) : AWoa_ Tryz.f65 0 [1, 0, 0] [24, 25, 26, 27, 28] (Q3_J15_S p_elem p_p r_) ⟨[(1, .lf (.bool p_elem)), (2, .ptr 0 0), (32, .lf (.bool r4503))], [.box 47 (.dat (GPred.lf1 p_p))]⟩ :=
 seg_T BaseK (Q3_J15_T R_ p_elem p_p r4503) (Q3_J15_S p_elem p_p) (by kernel_rfl) h
def Q3_J20_T (R_ : RB11) (p_elem : Bool) (p_p : GPred) : Mo (Bool) :=
 .ask (Q82 p_p.fOp) fun r4527 h4528 =>
 .say [.res (.lf (.bool r4527))] (ok1 (Q82_ok _ _ h4528)) <|
 .ite (r4527) (fun c4529 =>
 .say [.gd 8003 true] (ok1 c4529) <|
 .ask (Q38 p_p.fPath) fun r4530 h4531 =>
 .say [.res (.lf (.bool r4530))] (ok1 (Q38_ok _ _ h4531)) <|
 .ret ⟨[], [1, 2, 46], [], 1⟩ (!r4530)) fun c4529 =>
 .say [.gd 8003 false] (ok1 c4529) <|
 .ret ⟨[], [1, 2, 46], [], 1⟩ (false)
def Q3_J20 (R_ : RB11) (p_elem : Bool) (p_p : GPred) : Option (Bool) := Mo.den (Q3_J20_T R_ p_elem p_p)
def Q3_J20_S (p_elem : Bool) (p_p : GPred) (r_ : Bool) : St := ⟨[(1, .lf (.bool p_elem)), (2, .ptr 0 0), (46, .lf (.bool r_))], [.box 47 (.dat (GPred.lf1 p_p))]⟩
theorem Q3_J20_W {R_ : RB11} {p_elem : Bool} {p_p : GPred} {r_ : Bool} (h : Q3_J20 R_ p_elem p_p = some r_) : AWoa_ Tryz.f65 0 [1, 1, 0, 0] [0, 1, 2, 3, 4, 5, 6, 7, 8] (Q3_J20_S p_elem p_p r_) ⟨[(1, .lf (.bool p_elem)), (2, .ptr 0 0)], [.box 47 (.dat (GPred.lf1 p_p))]⟩ :=
 seg_T BaseK (Q3_J20_T R_ p_elem p_p) (Q3_J20_S p_elem p_p) (by kernel_rfl) h
def Q3_J25_T (R_ : RB11) (p_elem : Bool) (p_p : GPred) (r4533 : Bool) : Mo (Bool) :=
 .ite (r4533) (fun c4535 =>
 .say [.gd 8009 true] (ok1 c4535) <|
 .ite (p_elem) (fun c4536 =>
 .say [.gd 8011 true, .num p_p.fPath.length] (okc c4536 (okc (by simp : p_p.fPath.length = (p_p.fPath.map lfS).length) ok0)) <|
 .ret ⟨[], [1, 2, 56], [], 1⟩ (!((p_p.fPath.length : Int) == 0))) fun c4536 =>
 .say [.gd 8011 false] (ok1 c4536) <|
 .ret ⟨[], [1, 2, 56], [], 1⟩ (true)) fun c4535 =>
 .say [.gd 8009 false] (ok1 c4535) <|
 .ret ⟨[], [1, 2, 56], [], 1⟩ (false)
def Q3_J25 (R_ : RB11) (p_elem : Bool) (p_p : GPred) (r4533 : Bool) : Option (Bool) := Mo.den (Q3_J25_T R_ p_elem p_p r4533)
def Q3_J25_S (p_elem : Bool) (p_p : GPred) (r_ : Bool) : St := ⟨[(1, .lf (.bool p_elem)), (2, .ptr 0 0), (56, .lf (.bool r_))], [.box 47 (.dat (GPred.lf1 p_p))]⟩
theorem Q3_J25_W {R_ : RB11} {p_elem : Bool} {p_p : GPred} {r4533 : Bool} {r_ : Bool} (h : Q3_J25 R_ p_elem p_p r4533 = some r_) : AWoa_ Tryz.f65 0 [1, 1, 0, 0] [9, 10, 11, 12, 13, 14, 15, 16, 17, 18] (Q3_J25_S p_elem p_p r_) ⟨[(1, .lf (.bool p_elem)), (2, .ptr 0 0), (46, .lf (.bool r4533))], [.box 47 (.dat (GPred.lf1 p_p))]⟩ :=
 seg_T BaseK (Q3_J25_T R_ p_elem p_p r4533) (Q3_J25_S p_elem p_p) (by kernel_rfl) h
def Q3_J30_T (R_ : RB11) (p_elem : Bool) (p_p : GPred) : Mo (Bool) :=
 .ask (Q83 p_p.fOp) fun r4559 h4560 =>
 .say [.res (.lf (.bool r4559))] (ok1 (Q83_ok _ _ h4560)) <|
 .ite (r4559) (fun c4561 =>
 .say [.gd 12003 true] (ok1 c4561) <|
 .ask (Q71 p_p.fArg) fun r4562 h4563 =>
 .say [.res (.lf (.bool r4562))] (ok1 (Q71_ok _ _ h4563)) <|
 .ite (!r4562) (fun c4564 =>
 .say [.gd 12008 true] (ok1 c4564) <|
 .ret ⟨[], [1, 2, 76], [], 1⟩ (true)) fun c4564 =>
 .say [.gd 12008 false] (ok1 c4564) <|
 .ask (Q76 p_p.fOp) fun r4565 h4566 =>
 .say [.res (.lf (.bool r4565))] (ok1 (Q76_ok _ _ h4566)) <|
 .ite (r4565) (fun c4567 =>
 .say [.gd 12012 true] (ok1 c4567) <|
 .ret ⟨[], [1, 2, 76], [], 1⟩ (p_p.fArg.fKind != 4)) fun c4567 =>
 .say [.gd 12012 false] (ok1 c4567) <|
 .ret ⟨[], [1, 2, 76], [], 1⟩ (false)) fun c4561 =>
 .say [.gd 12003 false] (ok1 c4561) <|
 .ret ⟨[], [1, 2, 76], [], 1⟩ (false)
def Q3_J30 (R_ : RB11) (p_elem : Bool) (p_p : GPred) : Option (Bool) := Mo.den (Q3_J30_T R_ p_elem p_p)
def Q3_J30_S (p_elem : Bool) (p_p : GPred) (r_ : Bool) : St := ⟨[(1, .lf (.bool p_elem)), (2, .ptr 0 0), (76, .lf (.bool r_))], [.box 47 (.dat (GPred.lf1 p_p))]⟩
theorem Q3_J30_W {R_ : RB11} {p_elem : Bool} {p_p : GPred} {r_ : Bool} (h : Q3_J30 R_ p_elem p_p = some r_) : AWa_ Tryz.f65 0 [1, 1, 1, 0, 0] (.normal) (Q3_J30_S p_elem p_p r_) ⟨[(1, .lf (.bool p_elem)), (2, .ptr 0 0)], [.box 47 (.dat (GPred.lf1 p_p))]⟩ :=
 part_T BaseK (Q3_J30_T R_ p_elem p_p) (fun _ => .normal) (Q3_J30_S p_elem p_p) (by kernel_rfl) h
def Q3_J35_T (R_ : RB11) (p_elem : Bool) (p_p : GPred) (v4628 : Int) : Mo (Bool) :=
 .say [.num p_p.fArgs.length] (okc (by simp : p_p.fArgs.length = (p_p.fArgs.map GValue.lf).length) ok0) <|
 .ite (decide ((v4628 : Int) < (p_p.fArgs.length : Int))) (fun c4629 =>
 .say [.gd 18005 true] (ok1 c4629) <|
 .ask (Q75 p_p.fOp) fun r4630 h4631 =>
 .say [.res (.lf (.bool r4630))] (ok1 (Q75_ok _ _ h4631)) <|
 .ret ⟨[], [1, 2, 5, 86], [], 1⟩ (r4630)) fun c4629 =>
 .say [.gd 18005 false] (ok1 c4629) <|
 .ret ⟨[], [1, 2, 5, 86], [], 1⟩ (false)
def Q3_J35 (R_ : RB11) (p_elem : Bool) (p_p : GPred) (v4628 : Int) : Option (Bool) := Mo.den (Q3_J35_T R_ p_elem p_p v4628)
def Q3_J35_S (p_elem : Bool) (p_p : GPred) (v4628 : Int) (r_ : Bool) : St := ⟨[(1, .lf (.bool p_elem)), (2, .ptr 0 0), (5, .lf (.int .i64 v4628)), (86, .lf (.bool r_))], [.box 47 (.dat (GPred.lf1 p_p))]⟩
theorem Q3_J35_W {R_ : RB11} {p_elem : Bool} {p_p : GPred} {v4628 : Int} {r_ : Bool} (h : Q3_J35 R_ p_elem p_p v4628 = some r_) : AWa_ Tryz.f65 0 [1, 1, 1, 1, 0, 1, 0, 0, 0, 0] (.normal) (Q3_J35_S p_elem p_p v4628 r_) ⟨[(1, .lf (.bool p_elem)), (2, .ptr 0 0), (5, .lf (.int .i64 v4628))], [.box 47 (.dat (GPred.lf1 p_p))]⟩ :=
 part_T BaseK (Q3_J35_T R_ p_elem p_p v4628) (fun _ => .normal) (Q3_J35_S p_elem p_p v4628) (by kernel_rfl) h
def Q3_L40_T (R_ : RB11) (p_elem : Bool) (p_p : GPred) : (Int) → Mo ((Int) ⊕ (Unit ⊕ Unit)) := fun (v4628) =>
 .ask (Q3_J35 R_ p_elem p_p v4628) fun r4633 h4634 =>
 .say [.pt_ 23 [1, 2, 5] 1 (.normal) (Q3_J35_S p_elem p_p v4628 r4633)] (ok1 (Q3_J35_W h4634)) <|
 .ite (r4633) (fun c4635 =>
 .say [.br true] (ok1 c4635) <|
 .ask (gidx p_p.fArgs v4628) fun x4636 h4637 =>
 .say [.row (GValue.lf1 x4636)] (okc (gidx_ok GValue.lf_eq h4637 : (0 : Int) ≤ v4628 ∧ (p_p.fArgs.map GValue.lf)[v4628.toNat]? = some (GValue.lf1 x4636)) ok0) <|
 .ask (Q71 x4636) fun r4638 h4639 =>
 .say [.res (.lf (.bool r4638))] (ok1 (Q71_ok _ _ h4639)) <|
 .ite (!r4638) (fun c4640 =>
 .say [.br true] (ok1 c4640) <|
 .ret ⟨[.kill 0], [4], [], 1⟩ (.inr (.inl ()))) fun c4640 =>
 .say [.br false] (ok1 c4640) <|
 .ret ⟨[], [1, 2, 5], [], 1⟩ (.inl (IntKind.wrap .i64 (v4628 + 1)))) fun c4635 =>
 .say [.br false] (ok1 c4635) <|
 .ret ⟨[], [1, 2], [], 1⟩ (.inr (.inr (())))
def Q3_L40 (R_ : RB11) (p_elem : Bool) (p_p : GPred) (v4628 : Int) : Option (Unit ⊕ Unit) := loopM (fun v_ => (Q3_L40_T R_ p_elem p_p v_).den) FU (v4628)
def Q3_L40_H (R_ : RB11) (p_elem : Bool) (p_p : GPred) : (Int) → St := fun (v4628) => ⟨[(1, .lf (.bool p_elem)), (2, .ptr 0 0), (5, .lf (.int .i64 v4628))], [.box 47 (.dat (GPred.lf1 p_p))]⟩
def Q3_L40_X (r_ : Unit ⊕ Unit) : Exit := match r_ with
 | .inl o_ => .ret
 | .inr (o_) => .exit 0
def Q3_L40_S (p_elem : Bool) (p_p : GPred) (r_ : Unit ⊕ Unit) : St := match r_ with
 | .inl o_ => ⟨[(4, .lf (.int .i64 8))], [.dead]⟩
 | .inr (o_) => ⟨[(1, .lf (.bool p_elem)), (2, .ptr 0 0)], [.box 47 (.dat (GPred.lf1 p_p))]⟩
theorem Q3_L40_W {R_ : RB11} {p_elem : Bool} {p_p : GPred} {v4628 : Int} {r_ : Unit ⊕ Unit} (h : Q3_L40 R_ p_elem p_p v4628 = some r_) : AWa_ Tryz.f65 0 [1, 1, 1, 1, 0, 1, 0] (Q3_L40_X r_) (Q3_L40_S p_elem p_p r_) (Q3_L40_H R_ p_elem p_p (v4628)) :=
 loop_T BaseK (body := (Code.sub (bodyC Tryz.f65) [1, 1, 1, 1, 0, 1, 0, 0])) (by kernel_rfl) (Q3_L40_T R_ p_elem p_p) (Q3_L40_H R_ p_elem p_p) Q3_L40_X (Q3_L40_S p_elem p_p) (fun r_ => by rcases r_ with _ | _ <;> rfl) (fun v_ => by kernel_rfl) h
def Q3_J46_T (R_ : RB11) (p_elem : Bool) (p_p : GPred) : Mo ((Int) ⊕ Unit) :=
 .ite (p_p.fOp == 18) (fun c4758 =>
 .say [.br true] (ok1 c4758) <|
 .ask (Q22 p_p.fShape) fun r4759 h4760 =>
 .say [.res (.lf (.int .i64 r4759))] (ok1 (Q22_ok _ _ h4760)) <|
 .ite (r4759 != 0) (fun c4761 =>
 .say [.br true] (ok1 c4761) <|
 .ret ⟨[.kill 0], [4], [], 1⟩ (.inl (r4759))) fun c4761 =>
 .say [.br false] (ok1 c4761) <|
 .ret ⟨[], [1, 2], [], 1⟩ (.inr (()))) fun c4758 =>
 .say [.br false] (ok1 c4758) <|
 .ret ⟨[], [1, 2], [], 1⟩ (.inr (()))
def Q3_J46 (R_ : RB11) (p_elem : Bool) (p_p : GPred) : Option ((Int) ⊕ Unit) := Mo.den (Q3_J46_T R_ p_elem p_p)
def Q3_J46_X (r_ : (Int) ⊕ Unit) : Exit := match r_ with
 | .inl o_ => .ret
 | .inr (o_) => .normal
def Q3_J46_S (p_elem : Bool) (p_p : GPred) (r_ : (Int) ⊕ Unit) : St := match r_ with
 | .inl o_ => ⟨[(4, .lf (.int .i64 o_))], [.dead]⟩
 | .inr (o_) => ⟨[(1, .lf (.bool p_elem)), (2, .ptr 0 0)], [.box 47 (.dat (GPred.lf1 p_p))]⟩
theorem Q3_J46_W {R_ : RB11} {p_elem : Bool} {p_p : GPred} {r_ : (Int) ⊕ Unit} (h : Q3_J46 R_ p_elem p_p = some r_) : AWa_ Tryz.f65 0 [1, 1, 1, 1, 1, 0, 1] (Q3_J46_X r_) (Q3_J46_S p_elem p_p r_) ⟨[(1, .lf (.bool p_elem)), (2, .ptr 0 0), (98, .lf (.bool (p_p.fOp == 18)))], [.box 47 (.dat (GPred.lf1 p_p))]⟩ :=
 part_T BaseK (Q3_J46_T R_ p_elem p_p) Q3_J46_X (Q3_J46_S p_elem p_p) (by kernel_rfl) h
def Q3_J51_T (R_ : RB11) (p_elem : Bool) (p_p : GPred) (v5751 : Int) : Mo (Int) :=
 .ask (gidx p_p.fKids v5751) fun x5753 h5754 =>
 .say [] (okc (gidx_ok GPred.lf_eq h5754 : (0 : Int) ≤ v5751 ∧ (p_p.fKids.map GPred.lf)[v5751.toNat]? = some (GPred.lf1 x5753)) ok0) <|
 .ite (p_elem) (fun c5755 =>
 .say [] (ok1 c5755) <|
 .ask (R_.m1 x5753 true) fun r5756 h5757 =>
 .say [.orderT (.q 0 (.q 1 (.q 2 (.q 3 (.q 4 (.q 5 (.q 6 (.q 7 (.q 8 (.q 9 (.q 10 (.l 11 (.q 12 .fin))))))))))))) (some 11) [] [.row (GPred.lf1 x5753), .gd 48006 true, .res (.lf (.int .i64 r5756))] [1, 2, 7, 8] 1 [(1, .lf (.bool p_elem)), (2, .ptr 0 0), (7, .lf (.int .i64 v5751)), (8, .lf (.int .i64 r5756))] [.box 47 (.dat (GPred.lf1 p_p))]] (okc (R_.ok1 _ _ _ h5757) (okc (rfl : (some ⟨[(1, .lf (.bool p_elem)), (2, .ptr 0 0), (7, .lf (.int .i64 v5751)), (8, .lf (.int .i64 r5756))], [.box 47 (.dat (GPred.lf1 p_p))]⟩ : Option St) = some ⟨[(1, .lf (.bool p_elem)), (2, .ptr 0 0), (7, .lf (.int .i64 v5751)), (8, .lf (.int .i64 r5756))], [.box 47 (.dat (GPred.lf1 p_p))]⟩) ok0)) <|
 .ret ⟨[], [1, 2, 7, 8], [], 1⟩ (r5756)) fun c5755 =>
 .say [] (ok1 c5755) <|
 .ask (R_.m1 x5753 (p_p.fOp == 15)) fun r5758 h5759 =>
 .say [.orderT (.q 0 (.q 1 (.q 2 (.q 3 (.q 4 (.q 5 (.q 6 (.q 7 (.q 8 (.q 9 (.q 10 (.l 11 (.q 12 .fin))))))))))))) (some 11) [] [.row (GPred.lf1 x5753), .gd 48006 false, .res (.lf (.int .i64 r5758))] [1, 2, 7, 8] 1 [(1, .lf (.bool p_elem)), (2, .ptr 0 0), (7, .lf (.int .i64 v5751)), (8, .lf (.int .i64 r5758))] [.box 47 (.dat (GPred.lf1 p_p))]] (okc (R_.ok1 _ _ _ h5759) (okc (rfl : (some ⟨[(1, .lf (.bool p_elem)), (2, .ptr 0 0), (7, .lf (.int .i64 v5751)), (8, .lf (.int .i64 r5758))], [.box 47 (.dat (GPred.lf1 p_p))]⟩ : Option St) = some ⟨[(1, .lf (.bool p_elem)), (2, .ptr 0 0), (7, .lf (.int .i64 v5751)), (8, .lf (.int .i64 r5758))], [.box 47 (.dat (GPred.lf1 p_p))]⟩) ok0)) <|
 .ret ⟨[], [1, 2, 7, 8], [], 1⟩ (r5758)
def Q3_J51 (R_ : RB11) (p_elem : Bool) (p_p : GPred) (v5751 : Int) : Option (Int) := Mo.den (Q3_J51_T R_ p_elem p_p v5751)
def Q3_J51_S (p_elem : Bool) (p_p : GPred) (v5751 : Int) (r_ : Int) : St := ⟨[(1, .lf (.bool p_elem)), (2, .ptr 0 0), (7, .lf (.int .i64 v5751)), (8, .lf (.int .i64 r_))], [.box 47 (.dat (GPred.lf1 p_p))]⟩
theorem Q3_J51_W {R_ : RB11} {p_elem : Bool} {p_p : GPred} {v5751 : Int} {r_ : Int} (h : Q3_J51 R_ p_elem p_p v5751 = some r_) : AWa_ Tryz.f65 0 [1, 1, 1, 1, 1, 1, 1, 1, 0, 1, 0, 0, 1, 0, 0, 0] (.normal) (Q3_J51_S p_elem p_p v5751 r_) ⟨[(1, .lf (.bool p_elem)), (2, .ptr 0 0), (7, .lf (.int .i64 v5751))], [.box 47 (.dat (GPred.lf1 p_p))]⟩ :=
 part_T BaseK (Q3_J51_T R_ p_elem p_p v5751) (fun _ => .normal) (Q3_J51_S p_elem p_p v5751) (by kernel_rfl) h
def Q3_L56_T (R_ : RB11) (p_elem : Bool) (p_p : GPred) : (Int) → Mo ((Int) ⊕ (Int) ⊕ Unit) := fun (v5751) =>
 .say [.num p_p.fKids.length] (okc (by simp : p_p.fKids.length = (p_p.fKids.map GPred.lf).length) ok0) <|
 .ite (decide ((v5751 : Int) < (p_p.fKids.length : Int))) (fun c5752 =>
 .say [.br true] (ok1 c5752) <|
 .ask (Q3_J51 R_ p_elem p_p v5751) fun r5761 h5762 =>
 .say [.pt_ 53 [1, 2, 7] 1 (.normal) (Q3_J51_S p_elem p_p v5751 r5761)] (ok1 (Q3_J51_W h5762)) <|
 .ite (r5761 != 0) (fun c5763 =>
 .say [.br true] (ok1 c5763) <|
 .ret ⟨[.kill 0], [4], [], 1⟩ (.inr (.inl (r5761)))) fun c5763 =>
 .say [.br false] (ok1 c5763) <|
 .ret ⟨[], [1, 2, 7], [], 1⟩ (.inl (IntKind.wrap .i64 (v5751 + 1)))) fun c5752 =>
 .say [.br false] (ok1 c5752) <|
 .ret ⟨[.kill 0], [], [], 1⟩ (.inr (.inr (())))
def Q3_L56 (R_ : RB11) (p_elem : Bool) (p_p : GPred) (v5751 : Int) : Option ((Int) ⊕ Unit) := loopM (fun v_ => (Q3_L56_T R_ p_elem p_p v_).den) FU (v5751)
def Q3_L56_H (R_ : RB11) (p_elem : Bool) (p_p : GPred) : (Int) → St := fun (v5751) => ⟨[(1, .lf (.bool p_elem)), (2, .ptr 0 0), (7, .lf (.int .i64 v5751))], [.box 47 (.dat (GPred.lf1 p_p))]⟩
def Q3_L56_X (r_ : (Int) ⊕ Unit) : Exit := match r_ with
 | .inl o_ => .ret
 | .inr (o_) => .exit 2
def Q3_L56_S  (r_ : (Int) ⊕ Unit) : St := match r_ with
 | .inl o_ => ⟨[(4, .lf (.int .i64 o_))], [.dead]⟩
 | .inr (o_) => ⟨[], [.dead]⟩
theorem Q3_L56_W {R_ : RB11} {p_elem : Bool} {p_p : GPred} {v5751 : Int} {r_ : (Int) ⊕ Unit} (h : Q3_L56 R_ p_elem p_p v5751 = some r_) : AWa_ Tryz.f65 0 [1, 1, 1, 1, 1, 1, 1, 1, 0, 1, 0] (Q3_L56_X r_) (Q3_L56_S r_) (Q3_L56_H R_ p_elem p_p (v5751)) :=
 loop_T BaseK (body := (Code.sub (bodyC Tryz.f65) [1, 1, 1, 1, 1, 1, 1, 1, 0, 1, 0, 0])) (by kernel_rfl) (Q3_L56_T R_ p_elem p_p) (Q3_L56_H R_ p_elem p_p) Q3_L56_X Q3_L56_S (fun r_ => by rcases r_ with _ | _ <;> rfl) (fun v_ => by kernel_rfl) h
def Q3_T (R_ : RB11) (p_p : GPred) (p_elem : Bool) : Mo (Int) :=
 .ask (Q3_J0 R_ p_elem p_p) fun r4490 h4491 =>
 .say [.sg_ 1 8 [1, 2] 1 (Q3_J0_S p_elem p_p r4490)] (ok1 (Q3_J0_W h4491)) <|
 .ask (Q3_J5 R_ p_elem p_p r4490) fun r4496 h4497 =>
 .say [.sg_ 1 5 [1, 2, 16] 1 (Q3_J5_S p_elem p_p r4496)] (ok1 (Q3_J5_W h4497)) <|
 .ask (Q3_J10 R_ p_elem p_p r4496) fun r4503 h4504 =>
 .say [.sg_ 1 11 [1, 2, 21] 1 (Q3_J10_S p_elem p_p r4503)] (ok1 (Q3_J10_W h4504)) <|
 .ask (Q3_J15 R_ p_elem p_p r4503) fun r4509 h4510 =>
 .say [.sg_ 1 5 [1, 2, 32] 1 (Q3_J15_S p_elem p_p r4509)] (ok1 (Q3_J15_W h4510)) <|
 .ite (r4509) (fun c4512 =>
 .say [.br true] (ok1 c4512) <|
 .ret (fitN 1) (11)) fun c4512 =>
 .say [.br false] (ok1 c4512) <|
 .ask (Q3_J20 R_ p_elem p_p) fun r4533 h4534 =>
 .say [.sg_ 3 9 [1, 2] 1 (Q3_J20_S p_elem p_p r4533)] (ok1 (Q3_J20_W h4534)) <|
 .ask (Q3_J25 R_ p_elem p_p r4533) fun r4538 h4539 =>
 .say [.sg_ 3 10 [1, 2, 46] 1 (Q3_J25_S p_elem p_p r4538)] (ok1 (Q3_J25_W h4539)) <|
 .ite (r4538) (fun c4541 =>
 .say [.br true] (ok1 c4541) <|
 .ret (fitN 1) (10)) fun c4541 =>
 .say [.br false] (ok1 c4541) <|
 .ask (Q3_J30 R_ p_elem p_p) fun r4569 h4570 =>
 .say [.pt_ 17 [1, 2] 1 (.normal) (Q3_J30_S p_elem p_p r4569)] (ok1 (Q3_J30_W h4570)) <|
 .ite (r4569) (fun c4572 =>
 .say [.br true] (ok1 c4572) <|
 .ret (fitN 1) (8)) fun c4572 =>
 .say [.br false] (ok1 c4572) <|
 .ask2 (Q3_L40 R_ p_elem p_p 0) (fun o4643 h4642 =>
 .say [.pt_ 0 [1, 2, 5] 1 (Q3_L40_X (.inl o4643)) (Q3_L40_S p_elem p_p (.inl o4643))] (ok1 (Q3_L40_W h4642)) <|
 .ret (fitN 1) (8)) fun o4644 h4642 =>
 .say [.pt_ 0 [1, 2, 5] 1 (Q3_L40_X (.inr (o4644))) (Q3_L40_S p_elem p_p (.inr (o4644)))] (ok1 (Q3_L40_W h4642)) <|
 .ask2 (Q3_J46 R_ p_elem p_p) (fun o4766 h4765 =>
 .say [.pt_ 1 [1, 2, 98] 1 (Q3_J46_X (.inl o4766)) (Q3_J46_S p_elem p_p (.inl o4766))] (ok1 (Q3_J46_W h4765)) <|
 .ret (fitN 1) (o4766)) fun o4767 h4765 =>
 .say [.pt_ 1 [1, 2, 98] 1 (Q3_J46_X (.inr (o4767))) (Q3_J46_S p_elem p_p (.inr (o4767)))] (ok1 (Q3_J46_W h4765)) <|
 .ask (Q9 p_p) fun r4920 h4921 =>
 .say [.res (.lf (.bool r4920))] (ok1 (Q9_ok _ _ h4921)) <|
 .ite (!r4920) (fun c4923 =>
 .say [.br true] (ok1 c4923) <|
 .ret (fitN 1) (4)) fun c4923 =>
 .say [.br false] (ok1 c4923) <|
 .ite (p_p.fOp == 24) (fun c5683 =>
 .say [.br true] (ok1 c5683) <|
 .ask (Q93 p_p.fExpr) fun r5686 h5687 =>
 .say [.res (.lf (.int .i64 r5686))] (ok1 (Q93_ok _ _ h5687)) <|
 .ret (fitN 1) (r5686)) fun c5683 =>
 .say [.br false] (ok1 c5683) <|
 .ask2 (Q3_L56 R_ p_elem p_p 0) (fun o5768 h5767 =>
 .say [.pt_ 0 [1, 2, 7] 1 (Q3_L56_X (.inl o5768)) (Q3_L56_S (.inl o5768))] (ok1 (Q3_L56_W h5767)) <|
 .ret (fitN 1) (o5768)) fun o5769 h5767 =>
 .say [.pt_ 0 [1, 2, 7] 1 (Q3_L56_X (.inr (o5769))) (Q3_L56_S (.inr (o5769)))] (ok1 (Q3_L56_W h5767)) <|
 .ret (fitN 1) (0)
theorem Q3_okT (R_ : RB11) (p_p : GPred) (p_elem : Bool) (r : Int) (h : Mo.den (Q3_T R_ p_p p_elem) = some r) : Fn Tryz.prog GI 65 [.dat (GPred.lf1 p_p), .lf (.bool p_elem)] (.lf (.int .i64 r)) :=
 fn_T BaseK Tryz.func65 (by kernel_rfl) (by kernel_rfl) (by kernel_rfl) (Q3_T R_ p_p p_elem) (fun r => [.lf (.int .i64 r)]) (by kernel_rfl) h
def RB11_F : Nat → RB11
 | 0 => { m1 := fun p_p p_elem => none, ok1 := fun _ _ _ h => (by cases h) }
 | n_ + 1 => { m1 := fun p_p p_elem => Mo.den (Q3_T (RB11_F n_) p_p p_elem), ok1 := fun p_p p_elem r h => Q3_okT (RB11_F n_) p_p p_elem r h }
def Q3 (p_p : GPred) (p_elem : Bool) : Option (Int) := (RB11_F FU).m1 p_p p_elem
theorem Q3_ok (p_p : GPred) (p_elem : Bool) (r : Int) (h : Q3 p_p p_elem = some r) : Fn Tryz.prog GI 65 [.dat (GPred.lf1 p_p), .lf (.bool p_elem)] (.lf (.int .i64 r)) := (RB11_F FU).ok1 p_p p_elem r h
def Q94_T (p_p : GPred) : Mo (Int) :=
 .ask (Q39 p_p 16 256) fun r4317 h4318 =>
 .say [.res (.lf (.int .i64 r4317))] (ok1 (Q39_ok _ _ _ _ h4318)) <|
 .ite (decide ((r4317 : Int) < 0)) (fun c4320 =>
 .say [.br true] (ok1 c4320) <|
 .ret (fitN 1) (2)) fun c4320 =>
 .say [.br false] (ok1 c4320) <|
 .ask (Q3 p_p false) fun r5770 h5771 =>
 .say [.res (.lf (.int .i64 r5770))] (ok1 (Q3_ok _ _ _ h5771)) <|
 .ret (fitN 1) (r5770)
def Q94 (p_p : GPred) : Option (Int) := Mo.den (Q94_T p_p)
theorem Q94_ok (p_p : GPred) (r : Int) (h : Q94 p_p = some r) : Fn Tryz.prog GI 48 [.dat (GPred.lf1 p_p)] (.lf (.int .i64 r)) :=
 fn_T BaseK Tryz.func48 (by kernel_rfl) (by kernel_rfl) (by kernel_rfl) (Q94_T p_p) (fun r => [.lf (.int .i64 r)]) (by kernel_rfl) h
def Q60_L0_T (p_a : List ByteArray) (p_b : List ByteArray) : (Int) → Mo ((Int) ⊕ (Unit ⊕ Unit)) := fun (v5852) =>
 .say [.num p_a.length] (okc (by simp : p_a.length = (p_a.map lfS).length) ok0) <|
 .ite (decide ((v5852 : Int) < (p_a.length : Int))) (fun c5853 =>
 .say [.br true, .order [(true, 0), (true, 1), (true, 2), (true, 3), (true, 4), (true, 5), (true, 6), (true, 7), (true, 8)] none []] (ok1 c5853) <|
 .ask (gidx p_a v5852) fun x5854 h5855 =>
 .say [.row (lfS x5854)] (okc (gidx_ok (fun _ => rfl) h5855 : (0 : Int) ≤ v5852 ∧ (p_a.map lfS)[v5852.toNat]? = some (lfS x5854)) ok0) <|
 .ask (gidx p_b v5852) fun x5856 h5857 =>
 .say [.row (lfS x5856)] (okc (gidx_ok (fun _ => rfl) h5857 : (0 : Int) ≤ v5852 ∧ (p_b.map lfS)[v5852.toNat]? = some (lfS x5856)) ok0) <|
 .ite (!decide ((x5854 : ByteArray) = (x5856 : ByteArray))) (fun c5858 =>
 .say [.br true] (ok1 c5858) <|
 .ret ⟨[], [4], [], 0⟩ (.inr (.inl ()))) fun c5858 =>
 .say [.br false] (ok1 c5858) <|
 .ret ⟨[], [0, 1, 5], [], 0⟩ (.inl (IntKind.wrap .i64 (v5852 + 1)))) fun c5853 =>
 .say [.br false] (ok1 c5853) <|
 .ret ⟨[], [], [], 0⟩ (.inr (.inr (())))
def Q60_L0 (p_a : List ByteArray) (p_b : List ByteArray) (v5852 : Int) : Option (Unit ⊕ Unit) := loopM (fun v_ => (Q60_L0_T p_a p_b v_).den) FU (v5852)
def Q60_L0_H (p_a : List ByteArray) (p_b : List ByteArray) : (Int) → St := fun (v5852) => ⟨[(0, .lf (.rows 1 (p_a.map lfS))), (1, .lf (.rows 1 (p_b.map lfS))), (5, .lf (.int .i64 v5852))], []⟩
def Q60_L0_X (r_ : Unit ⊕ Unit) : Exit := match r_ with
 | .inl o_ => .ret
 | .inr (o_) => .exit 0
def Q60_L0_S  (r_ : Unit ⊕ Unit) : St := match r_ with
 | .inl o_ => ⟨[(4, .lf (.bool false))], []⟩
 | .inr (o_) => ⟨[], []⟩
theorem Q60_L0_W {p_a : List ByteArray} {p_b : List ByteArray} {v5852 : Int} {r_ : Unit ⊕ Unit} (h : Q60_L0 p_a p_b v5852 = some r_) : AWa_ Tryz.f115 0 [1, 1, 0, 1, 0] (Q60_L0_X r_) (Q60_L0_S r_) (Q60_L0_H p_a p_b (v5852)) :=
 loop_T BaseK (body := (Code.sub (bodyC Tryz.f115) [1, 1, 0, 1, 0, 0])) (by kernel_rfl) (Q60_L0_T p_a p_b) (Q60_L0_H p_a p_b) Q60_L0_X Q60_L0_S (fun r_ => by rcases r_ with _ | _ <;> rfl) (fun v_ => by kernel_rfl) h
def Q60_T (p_a : List ByteArray) (p_b : List ByteArray) : Mo (Bool) :=
 .say [.num p_a.length, .num p_b.length] (okc (by simp : p_a.length = (p_a.map lfS).length) (okc (by simp : p_b.length = (p_b.map lfS).length) ok0)) <|
 .ite (decide (((p_b.length : Int) : Int) < (p_a.length : Int))) (fun c5817 =>
 .say [.br true] (ok1 c5817) <|
 .ret (fitN 1) (false)) fun c5817 =>
 .say [.br false] (ok1 c5817) <|
 .ask2 (Q60_L0 p_a p_b 0) (fun o5861 h5860 =>
 .say [.pt_ 0 [0, 1, 5] 0 (Q60_L0_X (.inl o5861)) (Q60_L0_S (.inl o5861))] (ok1 (Q60_L0_W h5860)) <|
 .ret (fitN 1) (false)) fun o5862 h5860 =>
 .say [.pt_ 0 [0, 1, 5] 0 (Q60_L0_X (.inr (o5862))) (Q60_L0_S (.inr (o5862)))] (ok1 (Q60_L0_W h5860)) <|
 .ret (fitN 1) (true)
def Q60 (p_a : List ByteArray) (p_b : List ByteArray) : Option (Bool) := Mo.den (Q60_T p_a p_b)
theorem Q60_ok (p_a : List ByteArray) (p_b : List ByteArray) (r : Bool) (h : Q60 p_a p_b = some r) : Fn Tryz.prog GI 115 [.lf (.rows 1 (p_a.map lfS)), .lf (.rows 1 (p_b.map lfS))] (.lf (.bool r)) :=
 fn_T BaseK Tryz.func115 (by kernel_rfl) (by kernel_rfl) (by kernel_rfl) (Q60_T p_a p_b) (fun r => [.lf (.bool r)]) (by kernel_rfl) h
def Q88_T (p_a : List ByteArray) (p_b : List ByteArray) : Mo (Bool) :=
 .say [.num p_a.length, .num p_b.length] (okc (by simp : p_a.length = (p_a.map lfS).length) (okc (by simp : p_b.length = (p_b.map lfS).length) ok0)) <|
 .ite ((p_a.length : Int) == (p_b.length : Int)) (fun c5815 =>
 .say [.gd 4005 true] (ok1 c5815) <|
 .ask (Q60 p_a p_b) fun r5863 h5864 =>
 .say [.res (.lf (.bool r5863))] (ok1 (Q60_ok _ _ _ h5864)) <|
 .ret (fitN 1) (r5863)) fun c5815 =>
 .say [.gd 4005 false] (ok1 c5815) <|
 .ret (fitN 1) (false)
def Q88 (p_a : List ByteArray) (p_b : List ByteArray) : Option (Bool) := Mo.den (Q88_T p_a p_b)
theorem Q88_ok (p_a : List ByteArray) (p_b : List ByteArray) (r : Bool) (h : Q88 p_a p_b = some r) : Fn Tryz.prog GI 93 [.lf (.rows 1 (p_a.map lfS)), .lf (.rows 1 (p_b.map lfS))] (.lf (.bool r)) :=
 fn_T BaseK Tryz.func93 (by kernel_rfl) (by kernel_rfl) (by kernel_rfl) (Q88_T p_a p_b) (fun r => [.lf (.bool r)]) (by kernel_rfl) h
structure RB14 where
 m1 : (p_a : GExpr) → (p_b : GExpr) → Option (Bool)
 ok1 : ∀ (p_a : GExpr) (p_b : GExpr) (r : Bool), m1 p_a p_b = some r → Fn Tryz.prog GI 67 [.dat (GExpr.lf1 p_a), .dat (GExpr.lf1 p_b)] (.lf (.bool r))
def Q13_J0_T (R_ : RB14) (p_a : GExpr) (p_b : GExpr) : Mo (Bool) :=
 .ite (p_a.fOp != p_b.fOp) (fun c5894 =>
 .say [.gd 4005 true] (ok1 c5894) <|
 .ret ⟨[], [2, 3, 18], [], 2⟩ (true)) fun c5894 =>
 .say [.gd 4005 false] (ok1 c5894) <|
 .ask (Q88 p_a.fPath p_b.fPath) fun r5895 h5896 =>
 .say [.res (.lf (.bool r5895))] (ok1 (Q88_ok _ _ _ h5896)) <|
 .ret ⟨[], [2, 3, 18], [], 2⟩ (!r5895)
def Q13_J0 (R_ : RB14) (p_a : GExpr) (p_b : GExpr) : Option (Bool) := Mo.den (Q13_J0_T R_ p_a p_b)
def Q13_J0_S (p_a : GExpr) (p_b : GExpr) (r_ : Bool) : St := ⟨[(2, .ptr 0 0), (3, .ptr 1 0), (18, .lf (.bool r_))], [.box 44 (.dat (GExpr.lf1 p_a)), .box 44 (.dat (GExpr.lf1 p_b))]⟩
theorem Q13_J0_W {R_ : RB14} {p_a : GExpr} {p_b : GExpr} {r_ : Bool} (h : Q13_J0 R_ p_a p_b = some r_) : AWoa_ Tryz.f67 0 [1, 0, 0] [0, 1, 2, 3, 4, 5, 6, 7, 8, 9, 10, 11, 12] (Q13_J0_S p_a p_b r_) ⟨[(2, .ptr 0 0), (3, .ptr 1 0)], [.box 44 (.dat (GExpr.lf1 p_a)), .box 44 (.dat (GExpr.lf1 p_b))]⟩ :=
 seg_T BaseK (Q13_J0_T R_ p_a p_b) (Q13_J0_S p_a p_b) (by kernel_rfl) h
def Q13_J5_T (R_ : RB14) (p_a : GExpr) (p_b : GExpr) (r5898 : Bool) : Mo (Bool) :=
 .ite (r5898) (fun c5900 =>
 .say [.gd 4013 true] (ok1 c5900) <|
 .ret ⟨[], [2, 3, 25], [], 2⟩ (true)) fun c5900 =>
 .say [.gd 4013 false] (ok1 c5900) <|
 .ret ⟨[], [2, 3, 25], [], 2⟩ (!decide ((p_a.fName : ByteArray) = (p_b.fName : ByteArray)))
def Q13_J5 (R_ : RB14) (p_a : GExpr) (p_b : GExpr) (r5898 : Bool) : Option (Bool) := Mo.den (Q13_J5_T R_ p_a p_b r5898)
def Q13_J5_S (p_a : GExpr) (p_b : GExpr) (r_ : Bool) : St := ⟨[(2, .ptr 0 0), (3, .ptr 1 0), (25, .lf (.bool r_))], [.box 44 (.dat (GExpr.lf1 p_a)), .box 44 (.dat (GExpr.lf1 p_b))]⟩
theorem Q13_J5_W {R_ : RB14} {p_a : GExpr} {p_b : GExpr} {r5898 : Bool} {r_ : Bool} (h : Q13_J5 R_ p_a p_b r5898 = some r_) : AWoa_ Tryz.f67 0 [1, 0, 0] [13, 14, 15, 16, 17, 18, 19] (Q13_J5_S p_a p_b r_) ⟨[(2, .ptr 0 0), (3, .ptr 1 0), (18, .lf (.bool r5898))], [.box 44 (.dat (GExpr.lf1 p_a)), .box 44 (.dat (GExpr.lf1 p_b))]⟩ :=
 seg_T BaseK (Q13_J5_T R_ p_a p_b r5898) (Q13_J5_S p_a p_b) (by kernel_rfl) h
def Q13_J10_T (R_ : RB14) (p_a : GExpr) (p_b : GExpr) (r5902 : Bool) : Mo (Bool) :=
 .ite (r5902) (fun c5904 =>
 .say [.gd 4020 true] (ok1 c5904) <|
 .ret ⟨[], [2, 3, 33], [], 2⟩ (true)) fun c5904 =>
 .say [.gd 4020 false] (ok1 c5904) <|
 .ask (Q88 p_a.fNames p_b.fNames) fun r5905 h5906 =>
 .say [.res (.lf (.bool r5905))] (ok1 (Q88_ok _ _ _ h5906)) <|
 .ret ⟨[], [2, 3, 33], [], 2⟩ (!r5905)
def Q13_J10 (R_ : RB14) (p_a : GExpr) (p_b : GExpr) (r5902 : Bool) : Option (Bool) := Mo.den (Q13_J10_T R_ p_a p_b r5902)
def Q13_J10_S (p_a : GExpr) (p_b : GExpr) (r_ : Bool) : St := ⟨[(2, .ptr 0 0), (3, .ptr 1 0), (33, .lf (.bool r_))], [.box 44 (.dat (GExpr.lf1 p_a)), .box 44 (.dat (GExpr.lf1 p_b))]⟩
theorem Q13_J10_W {R_ : RB14} {p_a : GExpr} {p_b : GExpr} {r5902 : Bool} {r_ : Bool} (h : Q13_J10 R_ p_a p_b r5902 = some r_) : AWoa_ Tryz.f67 0 [1, 0, 0] [20, 21, 22, 23, 24, 25, 26, 27] (Q13_J10_S p_a p_b r_) ⟨[(2, .ptr 0 0), (3, .ptr 1 0), (25, .lf (.bool r5902))], [.box 44 (.dat (GExpr.lf1 p_a)), .box 44 (.dat (GExpr.lf1 p_b))]⟩ :=
 seg_T BaseK (Q13_J10_T R_ p_a p_b r5902) (Q13_J10_S p_a p_b) (by kernel_rfl) h
def Q13_J15_T (R_ : RB14) (p_a : GExpr) (p_b : GExpr) (r5908 : Bool) : Mo (Bool) :=
 .ite (r5908) (fun c5910 =>
 .say [.gd 4028 true] (ok1 c5910) <|
 .ret ⟨[], [2, 3, 41], [], 2⟩ (true)) fun c5910 =>
 .say [.gd 4028 false] (ok1 c5910) <|
 .ask (Q12 p_a.fArg p_b.fArg) fun r5911 h5912 =>
 .say [.res (.lf (.bool r5911))] (ok1 (Q12_ok _ _ _ h5912)) <|
 .ret ⟨[], [2, 3, 41], [], 2⟩ (!r5911)
def Q13_J15 (R_ : RB14) (p_a : GExpr) (p_b : GExpr) (r5908 : Bool) : Option (Bool) := Mo.den (Q13_J15_T R_ p_a p_b r5908)
def Q13_J15_S (p_a : GExpr) (p_b : GExpr) (r_ : Bool) : St := ⟨[(2, .ptr 0 0), (3, .ptr 1 0), (41, .lf (.bool r_))], [.box 44 (.dat (GExpr.lf1 p_a)), .box 44 (.dat (GExpr.lf1 p_b))]⟩
theorem Q13_J15_W {R_ : RB14} {p_a : GExpr} {p_b : GExpr} {r5908 : Bool} {r_ : Bool} (h : Q13_J15 R_ p_a p_b r5908 = some r_) : AWoa_ Tryz.f67 0 [1, 0, 0] [28, 29, 30, 31, 32, 33, 34, 35] (Q13_J15_S p_a p_b r_) ⟨[(2, .ptr 0 0), (3, .ptr 1 0), (33, .lf (.bool r5908))], [.box 44 (.dat (GExpr.lf1 p_a)), .box 44 (.dat (GExpr.lf1 p_b))]⟩ :=
 seg_T BaseK (Q13_J15_T R_ p_a p_b r5908) (Q13_J15_S p_a p_b) (by kernel_rfl) h
def Q13_J20_T (R_ : RB14) (p_a : GExpr) (p_b : GExpr) (r5914 : Bool) : Mo (Bool) :=
 .ite (r5914) (fun c5916 =>
 .say [.gd 4036 true] (ok1 c5916) <|
 .ret ⟨[], [2, 3, 48], [], 2⟩ (true)) fun c5916 =>
 .say [.gd 4036 false] (ok1 c5916) <|
 .ret ⟨[], [2, 3, 48], [], 2⟩ (p_a.fN != p_b.fN)
def Q13_J20 (R_ : RB14) (p_a : GExpr) (p_b : GExpr) (r5914 : Bool) : Option (Bool) := Mo.den (Q13_J20_T R_ p_a p_b r5914)
def Q13_J20_S (p_a : GExpr) (p_b : GExpr) (r_ : Bool) : St := ⟨[(2, .ptr 0 0), (3, .ptr 1 0), (48, .lf (.bool r_))], [.box 44 (.dat (GExpr.lf1 p_a)), .box 44 (.dat (GExpr.lf1 p_b))]⟩
theorem Q13_J20_W {R_ : RB14} {p_a : GExpr} {p_b : GExpr} {r5914 : Bool} {r_ : Bool} (h : Q13_J20 R_ p_a p_b r5914 = some r_) : AWoa_ Tryz.f67 0 [1, 0, 0] [36, 37, 38, 39, 40, 41, 42] (Q13_J20_S p_a p_b r_) ⟨[(2, .ptr 0 0), (3, .ptr 1 0), (41, .lf (.bool r5914))], [.box 44 (.dat (GExpr.lf1 p_a)), .box 44 (.dat (GExpr.lf1 p_b))]⟩ :=
 seg_T BaseK (Q13_J20_T R_ p_a p_b r5914) (Q13_J20_S p_a p_b) (by kernel_rfl) h
def Q13_J25_T (R_ : RB14) (p_a : GExpr) (p_b : GExpr) (r5918 : Bool) : Mo (Bool) :=
 .ite (r5918) (fun c5920 =>
 .say [.gd 4043 true] (ok1 c5920) <|
 .ret ⟨[], [2, 3, 57], [], 2⟩ (true)) fun c5920 =>
 .say [.gd 4043 false, .num p_a.fKids.length, .num p_b.fKids.length] (okc c5920 (okc (by simp : p_a.fKids.length = (p_a.fKids.map GExpr.lf).length) (okc (by simp : p_b.fKids.length = (p_b.fKids.map GExpr.lf).length) ok0))) <|
 .ret ⟨[], [2, 3, 57], [], 2⟩ ((p_a.fKids.length : Int) != (p_b.fKids.length : Int))
def Q13_J25 (R_ : RB14) (p_a : GExpr) (p_b : GExpr) (r5918 : Bool) : Option (Bool) := Mo.den (Q13_J25_T R_ p_a p_b r5918)
def Q13_J25_S (p_a : GExpr) (p_b : GExpr) (r_ : Bool) : St := ⟨[(2, .ptr 0 0), (3, .ptr 1 0), (57, .lf (.bool r_))], [.box 44 (.dat (GExpr.lf1 p_a)), .box 44 (.dat (GExpr.lf1 p_b))]⟩
theorem Q13_J25_W {R_ : RB14} {p_a : GExpr} {p_b : GExpr} {r5918 : Bool} {r_ : Bool} (h : Q13_J25 R_ p_a p_b r5918 = some r_) : AWoa_ Tryz.f67 0 [1, 0, 0] [43, 44, 45, 46, 47, 48, 49, 50, 51] (Q13_J25_S p_a p_b r_) ⟨[(2, .ptr 0 0), (3, .ptr 1 0), (48, .lf (.bool r5918))], [.box 44 (.dat (GExpr.lf1 p_a)), .box 44 (.dat (GExpr.lf1 p_b))]⟩ :=
 seg_T BaseK (Q13_J25_T R_ p_a p_b r5918) (Q13_J25_S p_a p_b) (by kernel_rfl) h
def Q13_L30_T (R_ : RB14) (p_a : GExpr) (p_b : GExpr) : (Int) → Mo ((Int) ⊕ (Unit ⊕ Unit)) := fun (v5970) =>
 .say [.num p_a.fKids.length] (okc (by simp : p_a.fKids.length = (p_a.fKids.map GExpr.lf).length) ok0) <|
 .ite (decide ((v5970 : Int) < (p_a.fKids.length : Int))) (fun c5971 =>
 .say [.br true] (ok1 c5971) <|
 .ask (gidx p_a.fKids v5970) fun x5972 h5973 =>
 .say [] (okc (gidx_ok GExpr.lf_eq h5973 : (0 : Int) ≤ v5970 ∧ (p_a.fKids.map GExpr.lf)[v5970.toNat]? = some (GExpr.lf1 x5972)) ok0) <|
 .ask (gidx p_b.fKids v5970) fun x5974 h5975 =>
 .say [] (okc (gidx_ok GExpr.lf_eq h5975 : (0 : Int) ≤ v5970 ∧ (p_b.fKids.map GExpr.lf)[v5970.toNat]? = some (GExpr.lf1 x5974)) ok0) <|
 .ask (R_.m1 x5972 x5974) fun r5976 h5977 =>
 .say [.orderT (.q 0 (.q 1 (.q 2 (.q 3 (.q 4 (.q 5 (.q 6 (.q 7 (.q 8 (.q 9 (.l 10 (.q 11 .fin)))))))))))) (some 10) [] [.row (GExpr.lf1 x5972), .row (GExpr.lf1 x5974), .res (.lf (.bool r5976))] [2, 3, 5, 76] 2 [(2, .ptr 0 0), (3, .ptr 1 0), (5, .lf (.int .i64 v5970)), (76, .lf (.bool (!r5976)))] [.box 44 (.dat (GExpr.lf1 p_a)), .box 44 (.dat (GExpr.lf1 p_b))]] (okc (R_.ok1 _ _ _ h5977) (okc (rfl : (some ⟨[(2, .ptr 0 0), (3, .ptr 1 0), (5, .lf (.int .i64 v5970)), (76, .lf (.bool (!r5976)))], [.box 44 (.dat (GExpr.lf1 p_a)), .box 44 (.dat (GExpr.lf1 p_b))]⟩ : Option St) = some ⟨[(2, .ptr 0 0), (3, .ptr 1 0), (5, .lf (.int .i64 v5970)), (76, .lf (.bool (!r5976)))], [.box 44 (.dat (GExpr.lf1 p_a)), .box 44 (.dat (GExpr.lf1 p_b))]⟩) ok0)) <|
 .ite (!r5976) (fun c5978 =>
 .say [.br true] (ok1 c5978) <|
 .ret ⟨[.kill 0, .kill 1], [4], [], 2⟩ (.inr (.inl ()))) fun c5978 =>
 .say [.br false] (ok1 c5978) <|
 .ret ⟨[], [2, 3, 5], [], 2⟩ (.inl (IntKind.wrap .i64 (v5970 + 1)))) fun c5971 =>
 .say [.br false] (ok1 c5971) <|
 .ret ⟨[.kill 0, .kill 1], [], [], 2⟩ (.inr (.inr (())))
def Q13_L30 (R_ : RB14) (p_a : GExpr) (p_b : GExpr) (v5970 : Int) : Option (Unit ⊕ Unit) := loopM (fun v_ => (Q13_L30_T R_ p_a p_b v_).den) FU (v5970)
def Q13_L30_H (R_ : RB14) (p_a : GExpr) (p_b : GExpr) : (Int) → St := fun (v5970) => ⟨[(2, .ptr 0 0), (3, .ptr 1 0), (5, .lf (.int .i64 v5970))], [.box 44 (.dat (GExpr.lf1 p_a)), .box 44 (.dat (GExpr.lf1 p_b))]⟩
def Q13_L30_X (r_ : Unit ⊕ Unit) : Exit := match r_ with
 | .inl o_ => .ret
 | .inr (o_) => .exit 0
def Q13_L30_S  (r_ : Unit ⊕ Unit) : St := match r_ with
 | .inl o_ => ⟨[(4, .lf (.bool false))], [.dead, .dead]⟩
 | .inr (o_) => ⟨[], [.dead, .dead]⟩
theorem Q13_L30_W {R_ : RB14} {p_a : GExpr} {p_b : GExpr} {v5970 : Int} {r_ : Unit ⊕ Unit} (h : Q13_L30 R_ p_a p_b v5970 = some r_) : AWa_ Tryz.f67 0 [1, 1, 0, 1, 0] (Q13_L30_X r_) (Q13_L30_S r_) (Q13_L30_H R_ p_a p_b (v5970)) :=
 loop_T BaseK (body := (Code.sub (bodyC Tryz.f67) [1, 1, 0, 1, 0, 0])) (by kernel_rfl) (Q13_L30_T R_ p_a p_b) (Q13_L30_H R_ p_a p_b) Q13_L30_X Q13_L30_S (fun r_ => by rcases r_ with _ | _ <;> rfl) (fun v_ => by kernel_rfl) h
def Q13_T (R_ : RB14) (p_a : GExpr) (p_b : GExpr) : Mo (Bool) :=
 .ask (Q13_J0 R_ p_a p_b) fun r5898 h5899 =>
 .say [.sg_ 1 13 [2, 3] 2 (Q13_J0_S p_a p_b r5898)] (ok1 (Q13_J0_W h5899)) <|
 .ask (Q13_J5 R_ p_a p_b r5898) fun r5902 h5903 =>
 .say [.sg_ 1 7 [2, 3, 18] 2 (Q13_J5_S p_a p_b r5902)] (ok1 (Q13_J5_W h5903)) <|
 .ask (Q13_J10 R_ p_a p_b r5902) fun r5908 h5909 =>
 .say [.sg_ 1 8 [2, 3, 25] 2 (Q13_J10_S p_a p_b r5908)] (ok1 (Q13_J10_W h5909)) <|
 .ask (Q13_J15 R_ p_a p_b r5908) fun r5914 h5915 =>
 .say [.sg_ 1 8 [2, 3, 33] 2 (Q13_J15_S p_a p_b r5914)] (ok1 (Q13_J15_W h5915)) <|
 .ask (Q13_J20 R_ p_a p_b r5914) fun r5918 h5919 =>
 .say [.sg_ 1 7 [2, 3, 41] 2 (Q13_J20_S p_a p_b r5918)] (ok1 (Q13_J20_W h5919)) <|
 .ask (Q13_J25 R_ p_a p_b r5918) fun r5922 h5923 =>
 .say [.sg_ 1 9 [2, 3, 48] 2 (Q13_J25_S p_a p_b r5922)] (ok1 (Q13_J25_W h5923)) <|
 .ite (r5922) (fun c5925 =>
 .say [.br true] (ok1 c5925) <|
 .ret (fitN 1) (false)) fun c5925 =>
 .say [.br false] (ok1 c5925) <|
 .ask2 (Q13_L30 R_ p_a p_b 0) (fun o5981 h5980 =>
 .say [.pt_ 0 [2, 3, 5] 2 (Q13_L30_X (.inl o5981)) (Q13_L30_S (.inl o5981))] (ok1 (Q13_L30_W h5980)) <|
 .ret (fitN 1) (false)) fun o5982 h5980 =>
 .say [.pt_ 0 [2, 3, 5] 2 (Q13_L30_X (.inr (o5982))) (Q13_L30_S (.inr (o5982)))] (ok1 (Q13_L30_W h5980)) <|
 .ret (fitN 1) (true)
theorem Q13_okT (R_ : RB14) (p_a : GExpr) (p_b : GExpr) (r : Bool) (h : Mo.den (Q13_T R_ p_a p_b) = some r) : Fn Tryz.prog GI 67 [.dat (GExpr.lf1 p_a), .dat (GExpr.lf1 p_b)] (.lf (.bool r)) :=
 fn_T BaseK Tryz.func67 (by kernel_rfl) (by kernel_rfl) (by kernel_rfl) (Q13_T R_ p_a p_b) (fun r => [.lf (.bool r)]) (by kernel_rfl) h
def RB14_F : Nat → RB14
 | 0 => { m1 := fun p_a p_b => none, ok1 := fun _ _ _ h => (by cases h) }
 | n_ + 1 => { m1 := fun p_a p_b => Mo.den (Q13_T (RB14_F n_) p_a p_b), ok1 := fun p_a p_b r h => Q13_okT (RB14_F n_) p_a p_b r h }
def Q13 (p_a : GExpr) (p_b : GExpr) : Option (Bool) := (RB14_F FU).m1 p_a p_b
theorem Q13_ok (p_a : GExpr) (p_b : GExpr) (r : Bool) (h : Q13 p_a p_b = some r) : Fn Tryz.prog GI 67 [.dat (GExpr.lf1 p_a), .dat (GExpr.lf1 p_b)] (.lf (.bool r)) := (RB14_F FU).ok1 p_a p_b r h
def Q11_J0_T (p_p : GPred) : Mo (Bool) :=
 .ite (p_p.fOp == 0) (fun c5779 =>
 .say [.gd 4003 true, .num p_p.fPath.length] (okc c5779 (okc (by simp : p_p.fPath.length = (p_p.fPath.map lfS).length) ok0)) <|
 .ret ⟨[], [1, 2, 11], [], 1⟩ ((p_p.fPath.length : Int) == 0)) fun c5779 =>
 .say [.gd 4003 false] (ok1 c5779) <|
 .ret ⟨[], [1, 2, 11], [], 1⟩ (false)
def Q11_J0 (p_p : GPred) : Option (Bool) := Mo.den (Q11_J0_T p_p)
def Q11_J0_S (p_p : GPred) (r_ : Bool) : St := ⟨[(1, .ptr 0 0), (2, .lf (.bool false)), (11, .lf (.bool r_))], [.box 47 (.dat (GPred.lf1 p_p))]⟩
theorem Q11_J0_W {p_p : GPred} {r_ : Bool} (h : Q11_J0 p_p = some r_) : AWoa_ Tryz.f49 0 [1, 0] [0, 1, 2, 3, 4, 5, 6, 7, 8] (Q11_J0_S p_p r_) ⟨[(1, .ptr 0 0), (2, .lf (.bool false))], [.box 47 (.dat (GPred.lf1 p_p))]⟩ :=
 seg_T BaseK (Q11_J0_T p_p) (Q11_J0_S p_p) (by kernel_rfl) h
def Q11_J5_T (p_p : GPred) (r5781 : Bool) : Mo (Bool) :=
 .ite (r5781) (fun c5783 =>
 .say [.gd 4009 true] (ok1 c5783) <|
 .ask (Q12 p_p.fArg (GValue.mk 0 0 ⟨#[]⟩ [] [])) fun r5784 h5785 =>
 .say [.res (.lf (.bool r5784))] (ok1 (Q12_ok _ _ _ h5785)) <|
 .ret ⟨[], [1, 2, 17], [], 1⟩ (r5784)) fun c5783 =>
 .say [.gd 4009 false] (ok1 c5783) <|
 .ret ⟨[], [1, 2, 17], [], 1⟩ (false)
def Q11_J5 (p_p : GPred) (r5781 : Bool) : Option (Bool) := Mo.den (Q11_J5_T p_p r5781)
def Q11_J5_S (p_p : GPred) (r_ : Bool) : St := ⟨[(1, .ptr 0 0), (2, .lf (.bool false)), (17, .lf (.bool r_))], [.box 47 (.dat (GPred.lf1 p_p))]⟩
theorem Q11_J5_W {p_p : GPred} {r5781 : Bool} {r_ : Bool} (h : Q11_J5 p_p r5781 = some r_) : AWoa_ Tryz.f49 0 [1, 0] [9, 10, 11, 12, 13, 14] (Q11_J5_S p_p r_) ⟨[(1, .ptr 0 0), (2, .lf (.bool false)), (11, .lf (.bool r5781))], [.box 47 (.dat (GPred.lf1 p_p))]⟩ :=
 seg_T BaseK (Q11_J5_T p_p r5781) (Q11_J5_S p_p) (by kernel_rfl) h
def Q11_J10_T (p_p : GPred) (r5787 : Bool) : Mo (Bool) :=
 .ite (r5787) (fun c5789 =>
 .say [.gd 4015 true, .num p_p.fArgs.length] (okc c5789 (okc (by simp : p_p.fArgs.length = (p_p.fArgs.map GValue.lf).length) ok0)) <|
 .ret ⟨[], [1, 2, 23], [], 1⟩ ((p_p.fArgs.length : Int) == 0)) fun c5789 =>
 .say [.gd 4015 false] (ok1 c5789) <|
 .ret ⟨[], [1, 2, 23], [], 1⟩ (false)
def Q11_J10 (p_p : GPred) (r5787 : Bool) : Option (Bool) := Mo.den (Q11_J10_T p_p r5787)
def Q11_J10_S (p_p : GPred) (r_ : Bool) : St := ⟨[(1, .ptr 0 0), (2, .lf (.bool false)), (23, .lf (.bool r_))], [.box 47 (.dat (GPred.lf1 p_p))]⟩
theorem Q11_J10_W {p_p : GPred} {r5787 : Bool} {r_ : Bool} (h : Q11_J10 p_p r5787 = some r_) : AWoa_ Tryz.f49 0 [1, 0] [15, 16, 17, 18, 19, 20] (Q11_J10_S p_p r_) ⟨[(1, .ptr 0 0), (2, .lf (.bool false)), (17, .lf (.bool r5787))], [.box 47 (.dat (GPred.lf1 p_p))]⟩ :=
 seg_T BaseK (Q11_J10_T p_p r5787) (Q11_J10_S p_p) (by kernel_rfl) h
def Q11_J15_T (p_p : GPred) (r5791 : Bool) : Mo (Bool) :=
 .ite (r5791) (fun c5793 =>
 .say [.gd 4021 true] (ok1 c5793) <|
 .ret ⟨[], [1, 2, 28], [], 1⟩ (p_p.fN == 0)) fun c5793 =>
 .say [.gd 4021 false] (ok1 c5793) <|
 .ret ⟨[], [1, 2, 28], [], 1⟩ (false)
def Q11_J15 (p_p : GPred) (r5791 : Bool) : Option (Bool) := Mo.den (Q11_J15_T p_p r5791)
def Q11_J15_S (p_p : GPred) (r_ : Bool) : St := ⟨[(1, .ptr 0 0), (2, .lf (.bool false)), (28, .lf (.bool r_))], [.box 47 (.dat (GPred.lf1 p_p))]⟩
theorem Q11_J15_W {p_p : GPred} {r5791 : Bool} {r_ : Bool} (h : Q11_J15 p_p r5791 = some r_) : AWoa_ Tryz.f49 0 [1, 0] [21, 22, 23, 24, 25] (Q11_J15_S p_p r_) ⟨[(1, .ptr 0 0), (2, .lf (.bool false)), (23, .lf (.bool r5791))], [.box 47 (.dat (GPred.lf1 p_p))]⟩ :=
 seg_T BaseK (Q11_J15_T p_p r5791) (Q11_J15_S p_p) (by kernel_rfl) h
def Q11_J20_T (p_p : GPred) (r5795 : Bool) : Mo (Bool) :=
 .ite (r5795) (fun c5797 =>
 .say [.gd 4026 true] (ok1 c5797) <|
 .ret ⟨[], [1, 2, 33], [], 1⟩ (p_p.fM == 0)) fun c5797 =>
 .say [.gd 4026 false] (ok1 c5797) <|
 .ret ⟨[], [1, 2, 33], [], 1⟩ (false)
def Q11_J20 (p_p : GPred) (r5795 : Bool) : Option (Bool) := Mo.den (Q11_J20_T p_p r5795)
def Q11_J20_S (p_p : GPred) (r_ : Bool) : St := ⟨[(1, .ptr 0 0), (2, .lf (.bool false)), (33, .lf (.bool r_))], [.box 47 (.dat (GPred.lf1 p_p))]⟩
theorem Q11_J20_W {p_p : GPred} {r5795 : Bool} {r_ : Bool} (h : Q11_J20 p_p r5795 = some r_) : AWoa_ Tryz.f49 0 [1, 0] [26, 27, 28, 29, 30] (Q11_J20_S p_p r_) ⟨[(1, .ptr 0 0), (2, .lf (.bool false)), (28, .lf (.bool r5795))], [.box 47 (.dat (GPred.lf1 p_p))]⟩ :=
 seg_T BaseK (Q11_J20_T p_p r5795) (Q11_J20_S p_p) (by kernel_rfl) h
def Q11_J25_T (p_p : GPred) (r5799 : Bool) : Mo (Bool) :=
 .ite (r5799) (fun c5801 =>
 .say [.gd 4031 true] (ok1 c5801) <|
 .ret ⟨[], [1, 2, 39], [], 1⟩ (p_p.fShape.fKind == 0)) fun c5801 =>
 .say [.gd 4031 false] (ok1 c5801) <|
 .ret ⟨[], [1, 2, 39], [], 1⟩ (false)
def Q11_J25 (p_p : GPred) (r5799 : Bool) : Option (Bool) := Mo.den (Q11_J25_T p_p r5799)
def Q11_J25_S (p_p : GPred) (r_ : Bool) : St := ⟨[(1, .ptr 0 0), (2, .lf (.bool false)), (39, .lf (.bool r_))], [.box 47 (.dat (GPred.lf1 p_p))]⟩
theorem Q11_J25_W {p_p : GPred} {r5799 : Bool} {r_ : Bool} (h : Q11_J25 p_p r5799 = some r_) : AWoa_ Tryz.f49 0 [1, 0] [31, 32, 33, 34, 35, 36] (Q11_J25_S p_p r_) ⟨[(1, .ptr 0 0), (2, .lf (.bool false)), (33, .lf (.bool r5799))], [.box 47 (.dat (GPred.lf1 p_p))]⟩ :=
 seg_T BaseK (Q11_J25_T p_p r5799) (Q11_J25_S p_p) (by kernel_rfl) h
def Q11_J30_T (p_p : GPred) (r5803 : Bool) : Mo (Bool) :=
 .ite (r5803) (fun c5805 =>
 .say [.gd 4037 true, .num p_p.fShape.fPoints.length] (okc c5805 (okc (by simp : p_p.fShape.fPoints.length = (p_p.fShape.fPoints.map GPoint.lf).length) ok0)) <|
 .ret ⟨[], [1, 2, 46], [], 1⟩ ((p_p.fShape.fPoints.length : Int) == 0)) fun c5805 =>
 .say [.gd 4037 false] (ok1 c5805) <|
 .ret ⟨[], [1, 2, 46], [], 1⟩ (false)
def Q11_J30 (p_p : GPred) (r5803 : Bool) : Option (Bool) := Mo.den (Q11_J30_T p_p r5803)
def Q11_J30_S (p_p : GPred) (r_ : Bool) : St := ⟨[(1, .ptr 0 0), (2, .lf (.bool false)), (46, .lf (.bool r_))], [.box 47 (.dat (GPred.lf1 p_p))]⟩
theorem Q11_J30_W {p_p : GPred} {r5803 : Bool} {r_ : Bool} (h : Q11_J30 p_p r5803 = some r_) : AWoa_ Tryz.f49 0 [1, 0] [37, 38, 39, 40, 41, 42, 43] (Q11_J30_S p_p r_) ⟨[(1, .ptr 0 0), (2, .lf (.bool false)), (39, .lf (.bool r5803))], [.box 47 (.dat (GPred.lf1 p_p))]⟩ :=
 seg_T BaseK (Q11_J30_T p_p r5803) (Q11_J30_S p_p) (by kernel_rfl) h
def Q11_J35_T (p_p : GPred) (r5807 : Bool) : Mo (Bool) :=
 .ite (r5807) (fun c5809 =>
 .say [.gd 4044 true] (ok1 c5809) <|
 .ret ⟨[], [1, 2, 52], [], 1⟩ (p_p.fShape.fR == 0)) fun c5809 =>
 .say [.gd 4044 false] (ok1 c5809) <|
 .ret ⟨[], [1, 2, 52], [], 1⟩ (false)
def Q11_J35 (p_p : GPred) (r5807 : Bool) : Option (Bool) := Mo.den (Q11_J35_T p_p r5807)
def Q11_J35_S (p_p : GPred) (r_ : Bool) : St := ⟨[(1, .ptr 0 0), (2, .lf (.bool false)), (52, .lf (.bool r_))], [.box 47 (.dat (GPred.lf1 p_p))]⟩
theorem Q11_J35_W {p_p : GPred} {r5807 : Bool} {r_ : Bool} (h : Q11_J35 p_p r5807 = some r_) : AWoa_ Tryz.f49 0 [1, 0] [44, 45, 46, 47, 48, 49] (Q11_J35_S p_p r_) ⟨[(1, .ptr 0 0), (2, .lf (.bool false)), (46, .lf (.bool r5807))], [.box 47 (.dat (GPred.lf1 p_p))]⟩ :=
 seg_T BaseK (Q11_J35_T p_p r5807) (Q11_J35_S p_p) (by kernel_rfl) h
def Q11_J40_T (p_p : GPred) (r5811 : Bool) : Mo (Bool) :=
 .ite (r5811) (fun c5813 =>
 .say [.gd 4050 true] (ok1 c5813) <|
 .ask (Q13 p_p.fExpr GExpr.z) fun r5983 h5984 =>
 .say [.res (.lf (.bool r5983))] (ok1 (Q13_ok _ _ _ h5984)) <|
 .ret ⟨[], [1, 2, 58], [], 1⟩ (r5983)) fun c5813 =>
 .say [.gd 4050 false] (ok1 c5813) <|
 .ret ⟨[], [1, 2, 58], [], 1⟩ (false)
def Q11_J40 (p_p : GPred) (r5811 : Bool) : Option (Bool) := Mo.den (Q11_J40_T p_p r5811)
def Q11_J40_S (p_p : GPred) (r_ : Bool) : St := ⟨[(1, .ptr 0 0), (2, .lf (.bool false)), (58, .lf (.bool r_))], [.box 47 (.dat (GPred.lf1 p_p))]⟩
theorem Q11_J40_W {p_p : GPred} {r5811 : Bool} {r_ : Bool} (h : Q11_J40 p_p r5811 = some r_) : AWoa_ Tryz.f49 0 [1, 0] [50, 51, 52, 53, 54, 55] (Q11_J40_S p_p r_) ⟨[(1, .ptr 0 0), (2, .lf (.bool false)), (52, .lf (.bool r5811))], [.box 47 (.dat (GPred.lf1 p_p))]⟩ :=
 seg_T BaseK (Q11_J40_T p_p r5811) (Q11_J40_S p_p) (by kernel_rfl) h
def Q11_J45_T (p_p : GPred) (r5986 : Bool) : Mo (Bool) :=
 .ite (r5986) (fun c5988 =>
 .say [.gd 4056 true, .num p_p.fKids.length] (okc c5988 (okc (by simp : p_p.fKids.length = (p_p.fKids.map GPred.lf).length) ok0)) <|
 .ret ⟨[.kill 0], [2, 64], [], 1⟩ ((p_p.fKids.length : Int) == 0)) fun c5988 =>
 .say [.gd 4056 false] (ok1 c5988) <|
 .ret ⟨[.kill 0], [2, 64], [], 1⟩ (false)
def Q11_J45 (p_p : GPred) (r5986 : Bool) : Option (Bool) := Mo.den (Q11_J45_T p_p r5986)
def Q11_J45_S  (r_ : Bool) : St := ⟨[(2, .lf (.bool false)), (64, .lf (.bool r_))], [.dead]⟩
theorem Q11_J45_W {p_p : GPred} {r5986 : Bool} {r_ : Bool} (h : Q11_J45 p_p r5986 = some r_) : AWoa_ Tryz.f49 0 [1, 0] [56, 57, 58, 59, 60, 61] (Q11_J45_S r_) ⟨[(1, .ptr 0 0), (2, .lf (.bool false)), (58, .lf (.bool r5986))], [.box 47 (.dat (GPred.lf1 p_p))]⟩ :=
 seg_T BaseK (Q11_J45_T p_p r5986) Q11_J45_S (by kernel_rfl) h
def Q11_J50_T (r5992 : Bool) : Mo (Unit) :=
 .ret ⟨[], [2], [], 1⟩ ()
def Q11_J50 (r5992 : Bool) : Option (Unit) := Mo.den (Q11_J50_T r5992)
def Q11_J50_S (r5992 : Bool) (r_ : Unit) : St := ⟨[(2, .lf (.bool r5992))], [.dead]⟩
theorem Q11_J50_W {r5992 : Bool} {r_ : Unit} (h : Q11_J50 r5992 = some r_) : AWoa_ Tryz.f49 0 [1, 0] [62] (Q11_J50_S r5992 r_) ⟨[(2, .lf (.bool false)), (64, .lf (.bool r5992))], [.dead]⟩ :=
 seg_T BaseK (Q11_J50_T r5992) (Q11_J50_S r5992) (by kernel_rfl) h
def Q11_T (p_p : GPred) : Mo (Bool) :=
 .ask (Q11_J0 p_p) fun r5781 h5782 =>
 .say [.sg_ 1 9 [1, 2] 1 (Q11_J0_S p_p r5781)] (ok1 (Q11_J0_W h5782)) <|
 .ask (Q11_J5 p_p r5781) fun r5787 h5788 =>
 .say [.sg_ 1 6 [1, 2, 11] 1 (Q11_J5_S p_p r5787)] (ok1 (Q11_J5_W h5788)) <|
 .ask (Q11_J10 p_p r5787) fun r5791 h5792 =>
 .say [.sg_ 1 6 [1, 2, 17] 1 (Q11_J10_S p_p r5791)] (ok1 (Q11_J10_W h5792)) <|
 .ask (Q11_J15 p_p r5791) fun r5795 h5796 =>
 .say [.sg_ 1 5 [1, 2, 23] 1 (Q11_J15_S p_p r5795)] (ok1 (Q11_J15_W h5796)) <|
 .ask (Q11_J20 p_p r5795) fun r5799 h5800 =>
 .say [.sg_ 1 5 [1, 2, 28] 1 (Q11_J20_S p_p r5799)] (ok1 (Q11_J20_W h5800)) <|
 .ask (Q11_J25 p_p r5799) fun r5803 h5804 =>
 .say [.sg_ 1 6 [1, 2, 33] 1 (Q11_J25_S p_p r5803)] (ok1 (Q11_J25_W h5804)) <|
 .ask (Q11_J30 p_p r5803) fun r5807 h5808 =>
 .say [.sg_ 1 7 [1, 2, 39] 1 (Q11_J30_S p_p r5807)] (ok1 (Q11_J30_W h5808)) <|
 .ask (Q11_J35 p_p r5807) fun r5811 h5812 =>
 .say [.sg_ 1 6 [1, 2, 46] 1 (Q11_J35_S p_p r5811)] (ok1 (Q11_J35_W h5812)) <|
 .ask (Q11_J40 p_p r5811) fun r5986 h5987 =>
 .say [.sg_ 1 6 [1, 2, 52] 1 (Q11_J40_S p_p r5986)] (ok1 (Q11_J40_W h5987)) <|
 .ask (Q11_J45 p_p r5986) fun r5992 h5993 =>
 .say [.sg_ 1 6 [1, 2, 58] 1 (Q11_J45_S r5992)] (ok1 (Q11_J45_W h5993)) <|
 .ask (Q11_J50 r5992) fun r5994 h5995 =>
 .say [.sg_ 1 1 [2, 64] 1 (Q11_J50_S r5992 r5994)] (ok1 (Q11_J50_W h5995)) <|
 .ret (fitN 1) (r5992)
def Q11 (p_p : GPred) : Option (Bool) := Mo.den (Q11_T p_p)
theorem Q11_ok (p_p : GPred) (r : Bool) (h : Q11 p_p = some r) : Fn Tryz.prog GI 49 [.dat (GPred.lf1 p_p)] (.lf (.bool r)) :=
 fn_T BaseK Tryz.func49 (by kernel_rfl) (by kernel_rfl) (by kernel_rfl) (Q11_T p_p) (fun r => [.lf (.bool r)]) (by kernel_rfl) h
def Q54_J0_T (p_x : GIndex) : Mo (Bool) :=
 .ite (decide ((p_x.fKind : Int) < 1)) (fun c3983 =>
 .say [.gd 8003 true] (ok1 c3983) <|
 .ret ⟨[], [1, 15], [], 1⟩ (true)) fun c3983 =>
 .say [.gd 8003 false] (ok1 c3983) <|
 .ret ⟨[], [1, 15], [], 1⟩ (decide ((3 : Int) < p_x.fKind))
def Q54_J0 (p_x : GIndex) : Option (Bool) := Mo.den (Q54_J0_T p_x)
def Q54_J0_S (p_x : GIndex) (r_ : Bool) : St := ⟨[(1, .ptr 0 0), (15, .lf (.bool r_))], [.box 49 (.dat (GIndex.lf1 p_x))]⟩
theorem Q54_J0_W {p_x : GIndex} {r_ : Bool} (h : Q54_J0 p_x = some r_) : AWa_ Tryz.f34 0 [1, 1, 0, 0] (.normal) (Q54_J0_S p_x r_) ⟨[(1, .ptr 0 0)], [.box 49 (.dat (GIndex.lf1 p_x))]⟩ :=
 part_T BaseK (Q54_J0_T p_x) (fun _ => .normal) (Q54_J0_S p_x) (by kernel_rfl) h
def Q54_J5_T (p_x : GIndex) : Mo (Bool) :=
 .say [.num p_x.fKeys.length] (okc (by simp : p_x.fKeys.length = (p_x.fKeys.map GOrder.lf).length) ok0) <|
 .ite ((p_x.fKeys.length : Int) == 0) (fun c4238 =>
 .say [.gd 18004 true] (ok1 c4238) <|
 .ret ⟨[], [1, 47], [], 1⟩ (true)) fun c4238 =>
 .say [.gd 18004 false] (ok1 c4238) <|
 .ite (p_x.fKind != 1) (fun c4239 =>
 .say [.gd 18008 true, .num p_x.fKeys.length] (okc c4239 (okc (by simp : p_x.fKeys.length = (p_x.fKeys.map GOrder.lf).length) ok0)) <|
 .ite (decide ((1 : Int) < (p_x.fKeys.length : Int))) (fun c4240 =>
 .say [.gd 18013 true] (ok1 c4240) <|
 .ret ⟨[], [1, 47], [], 1⟩ (true)) fun c4240 =>
 .say [.gd 18013 false] (ok1 c4240) <|
 .ask (gidx p_x.fKeys 0) fun x4241 h4242 =>
 .say [.row (GOrder.lf1 x4241)] (okc (gidx_ok GOrder.lf_eq h4242 : (0 : Int) ≤ 0 ∧ (p_x.fKeys.map GOrder.lf)[(0 : Int).toNat]? = some (GOrder.lf1 x4241)) ok0) <|
 .ite (x4241.fDesc) (fun c4243 =>
 .say [.gd 18020 true] (ok1 c4243) <|
 .ret ⟨[], [1, 47], [], 1⟩ (true)) fun c4243 =>
 .say [.gd 18020 false] (ok1 c4243) <|
 .ret ⟨[], [1, 47], [], 1⟩ (p_x.fUnique)) fun c4239 =>
 .say [.gd 18008 false] (ok1 c4239) <|
 .ret ⟨[], [1, 47], [], 1⟩ (false)
def Q54_J5 (p_x : GIndex) : Option (Bool) := Mo.den (Q54_J5_T p_x)
def Q54_J5_S (p_x : GIndex) (r_ : Bool) : St := ⟨[(1, .ptr 0 0), (47, .lf (.bool r_))], [.box 49 (.dat (GIndex.lf1 p_x))]⟩
theorem Q54_J5_W {p_x : GIndex} {r_ : Bool} (h : Q54_J5 p_x = some r_) : AWa_ Tryz.f34 0 [1, 1, 1, 1, 0, 0] (.normal) (Q54_J5_S p_x r_) ⟨[(1, .ptr 0 0)], [.box 49 (.dat (GIndex.lf1 p_x))]⟩ :=
 part_T BaseK (Q54_J5_T p_x) (fun _ => .normal) (Q54_J5_S p_x) (by kernel_rfl) h
def Q54_T (p_x : GIndex) : Mo (Int) :=
 .ask (Q20 p_x.fName) fun r3978 h3979 =>
 .say [.res (.lf (.bool r3978))] (ok1 (Q20_ok _ _ h3979)) <|
 .ite (!r3978) (fun c3981 =>
 .say [.br true] (ok1 c3981) <|
 .ret (fitN 1) (9)) fun c3981 =>
 .say [.br false] (ok1 c3981) <|
 .ask (Q54_J0 p_x) fun r3985 h3986 =>
 .say [.pt_ 13 [1] 1 (.normal) (Q54_J0_S p_x r3985)] (ok1 (Q54_J0_W h3986)) <|
 .ite (r3985) (fun c3988 =>
 .say [.br true] (ok1 c3988) <|
 .ret (fitN 1) (8)) fun c3988 =>
 .say [.br false] (ok1 c3988) <|
 .ask (Q36 p_x.fKeys) fun r4228 h4229 =>
 .say [.res (.lf (.int .i64 r4228))] (ok1 (Q36_ok _ _ h4229)) <|
 .ite (r4228 != 0) (fun c4231 =>
 .say [.br true] (ok1 c4231) <|
 .ret (fitN 1) (r4228)) fun c4231 =>
 .say [.br false] (ok1 c4231) <|
 .ask (Q54_J5 p_x) fun r4245 h4246 =>
 .say [.pt_ 23 [1] 1 (.normal) (Q54_J5_S p_x r4245)] (ok1 (Q54_J5_W h4246)) <|
 .ite (r4245) (fun c4248 =>
 .say [.br true] (ok1 c4248) <|
 .ret (fitN 1) (11)) fun c4248 =>
 .say [.br false] (ok1 c4248) <|
 .ite (p_x.fPartial) (fun c5774 =>
 .say [.br true] (ok1 c5774) <|
 .ask (Q94 p_x.fWhere) fun r5777 h5778 =>
 .say [.res (.lf (.int .i64 r5777))] (ok1 (Q94_ok _ _ h5778)) <|
 .ret (fitN 1) (r5777)) fun c5774 =>
 .say [.br false] (ok1 c5774) <|
 .ask (Q11 p_x.fWhere) fun r5998 h5999 =>
 .say [.res (.lf (.bool r5998))] (ok1 (Q11_ok _ _ h5999)) <|
 .ite (!r5998) (fun c6001 =>
 .say [.br true] (ok1 c6001) <|
 .ret (fitN 1) (4)) fun c6001 =>
 .say [.br false] (ok1 c6001) <|
 .ret (fitN 1) (0)
def Q54 (p_x : GIndex) : Option (Int) := Mo.den (Q54_T p_x)
theorem Q54_ok (p_x : GIndex) (r : Int) (h : Q54 p_x = some r) : Fn Tryz.prog GI 34 [.dat (GIndex.lf1 p_x)] (.lf (.int .i64 r)) :=
 fn_T BaseK Tryz.func34 (by kernel_rfl) (by kernel_rfl) (by kernel_rfl) (Q54_T p_x) (fun r => [.lf (.int .i64 r)]) (by kernel_rfl) h
def Q64_L0_T (p_l : List GIndex) (p_name : ByteArray) : (Int) → Mo ((Int) ⊕ (Int) ⊕ Unit) := fun (v6037) =>
 .say [.num p_l.length] (okc (by simp : p_l.length = (p_l.map GIndex.lf).length) ok0) <|
 .ite (decide ((v6037 : Int) < (p_l.length : Int))) (fun c6038 =>
 .say [.br true] (ok1 c6038) <|
 .ask (gidx p_l v6037) fun x6039 h6040 =>
 .say [.row (GIndex.lf1 x6039)] (okc (gidx_ok GIndex.lf_eq h6040 : (0 : Int) ≤ v6037 ∧ (p_l.map GIndex.lf)[v6037.toNat]? = some (GIndex.lf1 x6039)) ok0) <|
 .ite (decide ((x6039.fName : ByteArray) = (p_name : ByteArray))) (fun c6041 =>
 .say [.br true] (ok1 c6041) <|
 .ret ⟨[], [4], [], 0⟩ (.inr (.inl (v6037)))) fun c6041 =>
 .say [.br false] (ok1 c6041) <|
 .ret ⟨[], [0, 1, 5], [], 0⟩ (.inl (IntKind.wrap .i64 (v6037 + 1)))) fun c6038 =>
 .say [.br false] (ok1 c6038) <|
 .ret ⟨[], [], [], 0⟩ (.inr (.inr (())))
def Q64_L0 (p_l : List GIndex) (p_name : ByteArray) (v6037 : Int) : Option ((Int) ⊕ Unit) := loopM (fun v_ => (Q64_L0_T p_l p_name v_).den) FU (v6037)
def Q64_L0_H (p_l : List GIndex) (p_name : ByteArray) : (Int) → St := fun (v6037) => ⟨[(0, .lf (.rows 31 (p_l.map GIndex.lf))), (1, .lf (.str p_name)), (5, .lf (.int .i64 v6037))], []⟩
def Q64_L0_X (r_ : (Int) ⊕ Unit) : Exit := match r_ with
 | .inl o_ => .ret
 | .inr (o_) => .exit 0
def Q64_L0_S  (r_ : (Int) ⊕ Unit) : St := match r_ with
 | .inl o_ => ⟨[(4, .lf (.int .i64 o_))], []⟩
 | .inr (o_) => ⟨[], []⟩
theorem Q64_L0_W {p_l : List GIndex} {p_name : ByteArray} {v6037 : Int} {r_ : (Int) ⊕ Unit} (h : Q64_L0 p_l p_name v6037 = some r_) : AWa_ Tryz.f45 0 [1, 0, 1, 0] (Q64_L0_X r_) (Q64_L0_S r_) (Q64_L0_H p_l p_name (v6037)) :=
 loop_T BaseK (body := (Code.sub (bodyC Tryz.f45) [1, 0, 1, 0, 0])) (by kernel_rfl) (Q64_L0_T p_l p_name) (Q64_L0_H p_l p_name) Q64_L0_X Q64_L0_S (fun r_ => by rcases r_ with _ | _ <;> rfl) (fun v_ => by kernel_rfl) h
def Q64_T (p_l : List GIndex) (p_name : ByteArray) : Mo (Int) :=
 .ask2 (Q64_L0 p_l p_name 0) (fun o6045 h6044 =>
 .say [.pt_ 0 [0, 1, 5] 0 (Q64_L0_X (.inl o6045)) (Q64_L0_S (.inl o6045))] (ok1 (Q64_L0_W h6044)) <|
 .ret (fitN 1) (o6045)) fun o6046 h6044 =>
 .say [.pt_ 0 [0, 1, 5] 0 (Q64_L0_X (.inr (o6046))) (Q64_L0_S (.inr (o6046)))] (ok1 (Q64_L0_W h6044)) <|
 .ret (fitN 1) ((-1))
def Q64 (p_l : List GIndex) (p_name : ByteArray) : Option (Int) := Mo.den (Q64_T p_l p_name)
theorem Q64_ok (p_l : List GIndex) (p_name : ByteArray) (r : Int) (h : Q64 p_l p_name = some r) : Fn Tryz.prog GI 45 [.lf (.rows 31 (p_l.map GIndex.lf)), .lf (.str p_name)] (.lf (.int .i64 r)) :=
 fn_T BaseK Tryz.func45 (by kernel_rfl) (by kernel_rfl) (by kernel_rfl) (Q64_T p_l p_name) (fun r => [.lf (.int .i64 r)]) (by kernel_rfl) h
def Q27_L0_T (p_l : List ByteArray) (v6322 : Int) : (Int) → Mo ((Int) ⊕ (Unit ⊕ Unit)) := fun (v6335) =>
 .ite (decide ((v6335 : Int) < v6322)) (fun c6336 =>
 .say [.br true, .order [(true, 0), (true, 1), (true, 2), (true, 3), (true, 4), (true, 5), (true, 6), (true, 7), (true, 8)] none []] (ok1 c6336) <|
 .ask (gidx p_l v6335) fun x6337 h6338 =>
 .say [.row (lfS x6337)] (okc (gidx_ok (fun _ => rfl) h6338 : (0 : Int) ≤ v6335 ∧ (p_l.map lfS)[v6335.toNat]? = some (lfS x6337)) ok0) <|
 .ask (gidx p_l v6322) fun x6339 h6340 =>
 .say [.row (lfS x6339)] (okc (gidx_ok (fun _ => rfl) h6340 : (0 : Int) ≤ v6322 ∧ (p_l.map lfS)[v6322.toNat]? = some (lfS x6339)) ok0) <|
 .ite (decide ((x6337 : ByteArray) = (x6339 : ByteArray))) (fun c6341 =>
 .say [.br true] (ok1 c6341) <|
 .ret ⟨[], [2], [], 0⟩ (.inr (.inl ()))) fun c6341 =>
 .say [.br false] (ok1 c6341) <|
 .ret ⟨[], [0, 3, 4], [], 0⟩ (.inl (IntKind.wrap .i64 (v6335 + 1)))) fun c6336 =>
 .say [.br false] (ok1 c6336) <|
 .ret ⟨[], [0, 3], [], 0⟩ (.inr (.inr (())))
def Q27_L0 (p_l : List ByteArray) (v6322 : Int) (v6335 : Int) : Option (Unit ⊕ Unit) := loopM (fun v_ => (Q27_L0_T p_l v6322 v_).den) FU (v6335)
def Q27_L0_H (p_l : List ByteArray) (v6322 : Int) : (Int) → St := fun (v6335) => ⟨[(0, .lf (.rows 1 (p_l.map lfS))), (3, .lf (.int .i64 v6322)), (4, .lf (.int .i64 v6335))], []⟩
def Q27_L0_X (r_ : Unit ⊕ Unit) : Exit := match r_ with
 | .inl o_ => .ret
 | .inr (o_) => .exit 2
def Q27_L0_S (p_l : List ByteArray) (v6322 : Int) (r_ : Unit ⊕ Unit) : St := match r_ with
 | .inl o_ => ⟨[(2, .lf (.bool false))], []⟩
 | .inr (o_) => ⟨[(0, .lf (.rows 1 (p_l.map lfS))), (3, .lf (.int .i64 v6322))], []⟩
theorem Q27_L0_W {p_l : List ByteArray} {v6322 : Int} {v6335 : Int} {r_ : Unit ⊕ Unit} (h : Q27_L0 p_l v6322 v6335 = some r_) : AWa_ Tryz.f108 0 [1, 0, 1, 0, 0, 1, 0, 0, 1, 1, 0] (Q27_L0_X r_) (Q27_L0_S p_l v6322 r_) (Q27_L0_H p_l v6322 (v6335)) :=
 loop_T BaseK (body := (Code.sub (bodyC Tryz.f108) [1, 0, 1, 0, 0, 1, 0, 0, 1, 1, 0, 0])) (by kernel_rfl) (Q27_L0_T p_l v6322) (Q27_L0_H p_l v6322) Q27_L0_X (Q27_L0_S p_l v6322) (fun r_ => by rcases r_ with _ | _ <;> rfl) (fun v_ => by kernel_rfl) h
def Q27_L6_T (p_l : List ByteArray) : (Int) → Mo ((Int) ⊕ (Unit ⊕ Unit)) := fun (v6322) =>
 .say [.num p_l.length] (okc (by simp : p_l.length = (p_l.map lfS).length) ok0) <|
 .ite (decide ((v6322 : Int) < (p_l.length : Int))) (fun c6323 =>
 .say [.br true] (ok1 c6323) <|
 .ask (gidx p_l v6322) fun x6324 h6325 =>
 .say [.row (lfS x6324)] (okc (gidx_ok (fun _ => rfl) h6325 : (0 : Int) ≤ v6322 ∧ (p_l.map lfS)[v6322.toNat]? = some (lfS x6324)) ok0) <|
 .ask (Q20 x6324) fun r6326 h6327 =>
 .say [.res (.lf (.bool r6326))] (ok1 (Q20_ok _ _ h6327)) <|
 .ite (!r6326) (fun c6328 =>
 .say [.br true] (ok1 c6328) <|
 .ret ⟨[], [2], [], 0⟩ (.inr (.inl ()))) fun c6328 =>
 .say [.br false] (ok1 c6328) <|
 .ask2 (Q27_L0 p_l v6322 0) (fun o6344 h6343 =>
 .say [.pt_ 0 [0, 3, 4] 0 (Q27_L0_X (.inl o6344)) (Q27_L0_S p_l v6322 (.inl o6344))] (ok1 (Q27_L0_W h6343)) <|
 .ret ⟨[], [2], [], 0⟩ (.inr (.inl ()))) fun o6345 h6343 =>
 .say [.pt_ 0 [0, 3, 4] 0 (Q27_L0_X (.inr (o6345))) (Q27_L0_S p_l v6322 (.inr (o6345)))] (ok1 (Q27_L0_W h6343)) <|
 .ret ⟨[], [0, 3], [], 0⟩ (.inl (IntKind.wrap .i64 (v6322 + 1)))) fun c6323 =>
 .say [.br false] (ok1 c6323) <|
 .ret ⟨[], [], [], 0⟩ (.inr (.inr (())))
def Q27_L6 (p_l : List ByteArray) (v6322 : Int) : Option (Unit ⊕ Unit) := loopM (fun v_ => (Q27_L6_T p_l v_).den) FU (v6322)
def Q27_L6_H (p_l : List ByteArray) : (Int) → St := fun (v6322) => ⟨[(0, .lf (.rows 1 (p_l.map lfS))), (3, .lf (.int .i64 v6322))], []⟩
def Q27_L6_X (r_ : Unit ⊕ Unit) : Exit := match r_ with
 | .inl o_ => .ret
 | .inr (o_) => .exit 0
def Q27_L6_S  (r_ : Unit ⊕ Unit) : St := match r_ with
 | .inl o_ => ⟨[(2, .lf (.bool false))], []⟩
 | .inr (o_) => ⟨[], []⟩
theorem Q27_L6_W {p_l : List ByteArray} {v6322 : Int} {r_ : Unit ⊕ Unit} (h : Q27_L6 p_l v6322 = some r_) : AWa_ Tryz.f108 0 [1, 0, 1, 0] (Q27_L6_X r_) (Q27_L6_S r_) (Q27_L6_H p_l (v6322)) :=
 loop_T BaseK (body := (Code.sub (bodyC Tryz.f108) [1, 0, 1, 0, 0])) (by kernel_rfl) (Q27_L6_T p_l) (Q27_L6_H p_l) Q27_L6_X Q27_L6_S (fun r_ => by rcases r_ with _ | _ <;> rfl) (fun v_ => by kernel_rfl) h
def Q27_T (p_l : List ByteArray) : Mo (Bool) :=
 .ask2 (Q27_L6 p_l 0) (fun o6348 h6347 =>
 .say [.pt_ 0 [0, 3] 0 (Q27_L6_X (.inl o6348)) (Q27_L6_S (.inl o6348))] (ok1 (Q27_L6_W h6347)) <|
 .ret (fitN 1) (false)) fun o6349 h6347 =>
 .say [.pt_ 0 [0, 3] 0 (Q27_L6_X (.inr (o6349))) (Q27_L6_S (.inr (o6349)))] (ok1 (Q27_L6_W h6347)) <|
 .ret (fitN 1) (true)
def Q27 (p_l : List ByteArray) : Option (Bool) := Mo.den (Q27_T p_l)
theorem Q27_ok (p_l : List ByteArray) (r : Bool) (h : Q27 p_l = some r) : Fn Tryz.prog GI 108 [.lf (.rows 1 (p_l.map lfS))] (.lf (.bool r)) :=
 fn_T BaseK Tryz.func108 (by kernel_rfl) (by kernel_rfl) (by kernel_rfl) (Q27_T p_l) (fun r => [.lf (.bool r)]) (by kernel_rfl) h
def Q42_J0_T (p_has : Bool) (p_v : GValue) : Mo (Bool) :=
 .ite (p_has) (fun c6408 =>
 .say [.gd 4001 true] (ok1 c6408) <|
 .ask (Q71 p_v) fun r6409 h6410 =>
 .say [.res (.lf (.bool r6409))] (ok1 (Q71_ok _ _ h6410)) <|
 .ret ⟨[], [0, 3, 4, 10], [], 1⟩ (!r6409)) fun c6408 =>
 .say [.gd 4001 false] (ok1 c6408) <|
 .ret ⟨[], [0, 3, 4, 10], [], 1⟩ (false)
def Q42_J0 (p_has : Bool) (p_v : GValue) : Option (Bool) := Mo.den (Q42_J0_T p_has p_v)
def Q42_J0_S (p_has : Bool) (p_v : GValue) (r_ : Bool) : St := ⟨[(0, .lf (.bool p_has)), (3, .ptr 0 0), (4, .lf (.bool false)), (10, .lf (.bool r_))], [.box 29 (.dat (GValue.lf1 p_v))]⟩
theorem Q42_J0_W {p_has : Bool} {p_v : GValue} {r_ : Bool} (h : Q42_J0 p_has p_v = some r_) : AWoa_ Tryz.f109 0 [1, 0] [0, 1, 2, 3, 4, 5] (Q42_J0_S p_has p_v r_) ⟨[(0, .lf (.bool p_has)), (3, .ptr 0 0), (4, .lf (.bool false))], [.box 29 (.dat (GValue.lf1 p_v))]⟩ :=
 seg_T BaseK (Q42_J0_T p_has p_v) (Q42_J0_S p_has p_v) (by kernel_rfl) h
def Q42_J5_T (p_has : Bool) (p_v : GValue) (r6412 : Bool) : Mo (Bool) :=
 .ite (r6412) (fun c6414 =>
 .say [.gd 4006 true] (ok1 c6414) <|
 .ret ⟨[.kill 0], [4, 20], [], 1⟩ (true)) fun c6414 =>
 .say [.gd 4006 false] (ok1 c6414) <|
 .ite (!p_has) (fun c6415 =>
 .say [.gd 4009 true] (ok1 c6415) <|
 .ask (Q12 p_v (GValue.mk 0 0 ⟨#[]⟩ [] [])) fun r6416 h6417 =>
 .say [.res (.lf (.bool r6416))] (ok1 (Q12_ok _ _ _ h6417)) <|
 .ret ⟨[.kill 0], [4, 20], [], 1⟩ (!r6416)) fun c6415 =>
 .say [.gd 4009 false] (ok1 c6415) <|
 .ret ⟨[.kill 0], [4, 20], [], 1⟩ (false)
def Q42_J5 (p_has : Bool) (p_v : GValue) (r6412 : Bool) : Option (Bool) := Mo.den (Q42_J5_T p_has p_v r6412)
def Q42_J5_S  (r_ : Bool) : St := ⟨[(4, .lf (.bool false)), (20, .lf (.bool r_))], [.dead]⟩
theorem Q42_J5_W {p_has : Bool} {p_v : GValue} {r6412 : Bool} {r_ : Bool} (h : Q42_J5 p_has p_v r6412 = some r_) : AWoa_ Tryz.f109 0 [1, 0] [6, 7, 8, 9, 10, 11, 12, 13, 14, 15] (Q42_J5_S r_) ⟨[(0, .lf (.bool p_has)), (3, .ptr 0 0), (4, .lf (.bool false)), (10, .lf (.bool r6412))], [.box 29 (.dat (GValue.lf1 p_v))]⟩ :=
 seg_T BaseK (Q42_J5_T p_has p_v r6412) Q42_J5_S (by kernel_rfl) h
def Q42_J10_T (r6422 : Bool) : Mo (Unit) :=
 .ret ⟨[], [4], [], 1⟩ ()
def Q42_J10 (r6422 : Bool) : Option (Unit) := Mo.den (Q42_J10_T r6422)
def Q42_J10_S (r6422 : Bool) (r_ : Unit) : St := ⟨[(4, .lf (.bool r6422))], [.dead]⟩
theorem Q42_J10_W {r6422 : Bool} {r_ : Unit} (h : Q42_J10 r6422 = some r_) : AWoa_ Tryz.f109 0 [1, 0] [16] (Q42_J10_S r6422 r_) ⟨[(4, .lf (.bool false)), (20, .lf (.bool r6422))], [.dead]⟩ :=
 seg_T BaseK (Q42_J10_T r6422) (Q42_J10_S r6422) (by kernel_rfl) h
def Q42_T (p_has : Bool) (p_v : GValue) : Mo (Bool) :=
 .ask (Q42_J0 p_has p_v) fun r6412 h6413 =>
 .say [.sg_ 1 6 [0, 3, 4] 1 (Q42_J0_S p_has p_v r6412)] (ok1 (Q42_J0_W h6413)) <|
 .ask (Q42_J5 p_has p_v r6412) fun r6422 h6423 =>
 .say [.sg_ 1 10 [0, 3, 4, 10] 1 (Q42_J5_S r6422)] (ok1 (Q42_J5_W h6423)) <|
 .ask (Q42_J10 r6422) fun r6424 h6425 =>
 .say [.sg_ 1 1 [4, 20] 1 (Q42_J10_S r6422 r6424)] (ok1 (Q42_J10_W h6425)) <|
 .ret (fitN 1) (r6422)
def Q42 (p_has : Bool) (p_v : GValue) : Option (Bool) := Mo.den (Q42_T p_has p_v)
theorem Q42_ok (p_has : Bool) (p_v : GValue) (r : Bool) (h : Q42 p_has p_v = some r) : Fn Tryz.prog GI 109 [.lf (.bool p_has), .dat (GValue.lf1 p_v)] (.lf (.bool r)) :=
 fn_T BaseK Tryz.func109 (by kernel_rfl) (by kernel_rfl) (by kernel_rfl) (Q42_T p_has p_v) (fun r => [.lf (.bool r)]) (by kernel_rfl) h
def Q8_L0_T (p_s : GSchema) : (Int × (List ByteArray)) → Mo ((Int × (List ByteArray)) ⊕ ((List ByteArray))) := fun (v6183, l6184) =>
 .say [.num p_s.fProps.length] (okc (by simp : p_s.fProps.length = (p_s.fProps.map GProp.lf).length) ok0) <|
 .ite (decide ((v6183 : Int) < (p_s.fProps.length : Int))) (fun c6185 =>
 .say [.br true] (ok1 c6185) <|
 .ask (gidx p_s.fProps v6183) fun x6186 h6187 =>
 .say [.row (GProp.lf1 x6186), .rows ((l6184 ++ [x6186.fName]).map lfS)] (okc (gidx_ok GProp.lf_eq h6187 : (0 : Int) ≤ v6183 ∧ (p_s.fProps.map GProp.lf)[v6183.toNat]? = some (GProp.lf1 x6186)) (okc (by simp [lfS] : (l6184 ++ [x6186.fName]).map lfS = (l6184.map lfS) ++ [(lfS x6186.fName)]) ok0)) <|
 .grd ((l6184.length + [x6186.fName].length) * 16 ≤ 140737488355328) fun h6188 =>
 .say [] (okc (by simpa using h6188 : ((l6184.map lfS).length + [(lfS x6186.fName)].length) * 16 ≤ 140737488355328) ok0) <|
 .ret ⟨[], [1, 3, 4], [(3, 1)], 2⟩ (.inl (IntKind.wrap .i64 (v6183 + 1), l6184 ++ [x6186.fName]))) fun c6185 =>
 .say [.br false] (ok1 c6185) <|
 .ret ⟨[], [1, 3], [], 2⟩ (.inr (l6184))
def Q8_L0 (p_s : GSchema) (v6183 : Int) (l6184 : List ByteArray) : Option (((List ByteArray))) := loopM (fun v_ => (Q8_L0_T p_s v_).den) FU (v6183, l6184)
def Q8_L0_H (p_s : GSchema) : (Int × (List ByteArray)) → St := fun (v6183, l6184) => ⟨[(1, .ptr 0 0), (3, .own 1), (4, .lf (.int .i64 v6183))], [.box 35 (.dat (GSchema.lf1 p_s)), .row 9 1 (l6184.map lfS)]⟩
def Q8_L0_S (p_s : GSchema) (r_ : ((List ByteArray))) : St := ⟨[(1, .ptr 0 0), (3, .own 1)], [.box 35 (.dat (GSchema.lf1 p_s)), .row 9 1 (r_.map lfS)]⟩
theorem Q8_L0_W {p_s : GSchema} {v6183 : Int} {l6184 : List ByteArray} {r_ : ((List ByteArray))} (h : Q8_L0 p_s v6183 l6184 = some r_) : AWa_ Tryz.f83 0 [1, 1, 0, 1, 0] (.exit 0) (Q8_L0_S p_s r_) (Q8_L0_H p_s (v6183, l6184)) :=
 loop_T BaseK (body := (Code.sub (bodyC Tryz.f83) [1, 1, 0, 1, 0, 0])) (by kernel_rfl) (Q8_L0_T p_s) (Q8_L0_H p_s) (fun _ => .exit 0) (Q8_L0_S p_s) (fun r_ => rfl) (fun v_ => by kernel_rfl) h
def Q8_J6_T (p_s : GSchema) (r6190 : ((List ByteArray))) : Mo (Bool) :=
 .ask (Q27 p_s.fRequired) fun r6355 h6356 =>
 .say [.res (.lf (.bool r6355))] (ok1 (Q27_ok _ _ h6356)) <|
 .ite (!r6355) (fun c6357 =>
 .say [.gd 14004 true] (ok1 c6357) <|
 .ret ⟨[.kill 1], [1, 30], [], 2⟩ (true)) fun c6357 =>
 .say [.gd 14004 false, .at_ 14 6, .frz 1] (ok1 c6357) <|
 .ask (Q27 r6190) fun r6358 h6359 =>
 .say [.res (.lf (.bool r6358))] (ok1 (Q27_ok _ _ h6359)) <|
 .ret ⟨[], [1, 30], [], 2⟩ (!r6358)
def Q8_J6 (p_s : GSchema) (r6190 : ((List ByteArray))) : Option (Bool) := Mo.den (Q8_J6_T p_s r6190)
def Q8_J6_S (p_s : GSchema) (r_ : Bool) : St := ⟨[(1, .ptr 0 0), (30, .lf (.bool r_))], [.box 35 (.dat (GSchema.lf1 p_s)), .dead]⟩
theorem Q8_J6_W {p_s : GSchema} {r6190 : ((List ByteArray))} {r_ : Bool} (h : Q8_J6 p_s r6190 = some r_) : AWa_ Tryz.f83 0 [1, 1, 1, 0, 0] (.normal) (Q8_J6_S p_s r_) ⟨[(1, .ptr 0 0), (3, .own 1)], [.box 35 (.dat (GSchema.lf1 p_s)), .row 9 1 (r6190.map lfS)]⟩ :=
 part_T BaseK (Q8_J6_T p_s r6190) (fun _ => .normal) (Q8_J6_S p_s) (by kernel_rfl) h
def Q8_J11_T (p_s : GSchema) : Mo (Bool) :=
 .ite (decide ((p_s.fKinds : Int) < 0)) (fun c6386 =>
 .say [.gd 18003 true] (ok1 c6386) <|
 .ret ⟨[], [1, 39], [], 2⟩ (true)) fun c6386 =>
 .say [.gd 18003 false] (okc c6386 (okc (by decide : (2 : Int) ≠ 0) ok0)) <|
 .ret ⟨[], [1, 39], [], 2⟩ ((Int.tmod p_s.fKinds 2) == 1)
def Q8_J11 (p_s : GSchema) : Option (Bool) := Mo.den (Q8_J11_T p_s)
def Q8_J11_S (p_s : GSchema) (r_ : Bool) : St := ⟨[(1, .ptr 0 0), (39, .lf (.bool r_))], [.box 35 (.dat (GSchema.lf1 p_s)), .dead]⟩
theorem Q8_J11_W {p_s : GSchema} {r_ : Bool} (h : Q8_J11 p_s = some r_) : AWoa_ Tryz.f83 0 [1, 1, 1, 1, 0, 0] [0, 1, 2, 3, 4, 5, 6, 7, 8] (Q8_J11_S p_s r_) ⟨[(1, .ptr 0 0)], [.box 35 (.dat (GSchema.lf1 p_s)), .dead]⟩ :=
 seg_T BaseK (Q8_J11_T p_s) (Q8_J11_S p_s) (by kernel_rfl) h
def Q8_J16_T (p_s : GSchema) (r6388 : Bool) : Mo (Bool) :=
 .ite (r6388) (fun c6390 =>
 .say [.gd 18009 true] (ok1 c6390) <|
 .ret ⟨[], [1, 44], [], 2⟩ (true)) fun c6390 =>
 .say [.gd 18009 false] (ok1 c6390) <|
 .ret ⟨[], [1, 44], [], 2⟩ (decide ((4096 : Int) ≤ p_s.fKinds))
def Q8_J16 (p_s : GSchema) (r6388 : Bool) : Option (Bool) := Mo.den (Q8_J16_T p_s r6388)
def Q8_J16_S (p_s : GSchema) (r_ : Bool) : St := ⟨[(1, .ptr 0 0), (44, .lf (.bool r_))], [.box 35 (.dat (GSchema.lf1 p_s)), .dead]⟩
theorem Q8_J16_W {p_s : GSchema} {r6388 : Bool} {r_ : Bool} (h : Q8_J16 p_s r6388 = some r_) : AWoa_ Tryz.f83 0 [1, 1, 1, 1, 0, 0] [9, 10, 11, 12, 13] (Q8_J16_S p_s r_) ⟨[(1, .ptr 0 0), (39, .lf (.bool r6388))], [.box 35 (.dat (GSchema.lf1 p_s)), .dead]⟩ :=
 seg_T BaseK (Q8_J16_T p_s r6388) (Q8_J16_S p_s) (by kernel_rfl) h
def Q8_J21_T (p_s : GSchema) (r6392 : Bool) : Mo (Bool) :=
 .ite (r6392) (fun c6394 =>
 .say [.gd 18014 true] (ok1 c6394) <|
 .ret ⟨[], [1, 49], [], 2⟩ (true)) fun c6394 =>
 .say [.gd 18014 false] (ok1 c6394) <|
 .ret ⟨[], [1, 49], [], 2⟩ (decide ((p_s.fMinLen : Int) < 0))
def Q8_J21 (p_s : GSchema) (r6392 : Bool) : Option (Bool) := Mo.den (Q8_J21_T p_s r6392)
def Q8_J21_S (p_s : GSchema) (r_ : Bool) : St := ⟨[(1, .ptr 0 0), (49, .lf (.bool r_))], [.box 35 (.dat (GSchema.lf1 p_s)), .dead]⟩
theorem Q8_J21_W {p_s : GSchema} {r6392 : Bool} {r_ : Bool} (h : Q8_J21 p_s r6392 = some r_) : AWoa_ Tryz.f83 0 [1, 1, 1, 1, 0, 0] [14, 15, 16, 17, 18] (Q8_J21_S p_s r_) ⟨[(1, .ptr 0 0), (44, .lf (.bool r6392))], [.box 35 (.dat (GSchema.lf1 p_s)), .dead]⟩ :=
 seg_T BaseK (Q8_J21_T p_s r6392) (Q8_J21_S p_s) (by kernel_rfl) h
def Q8_J26_T (p_s : GSchema) (r6396 : Bool) : Mo (Bool) :=
 .ite (r6396) (fun c6398 =>
 .say [.gd 18019 true] (ok1 c6398) <|
 .ret ⟨[], [1, 54], [], 2⟩ (true)) fun c6398 =>
 .say [.gd 18019 false] (ok1 c6398) <|
 .ret ⟨[], [1, 54], [], 2⟩ (decide ((p_s.fMaxLen : Int) < (-1)))
def Q8_J26 (p_s : GSchema) (r6396 : Bool) : Option (Bool) := Mo.den (Q8_J26_T p_s r6396)
def Q8_J26_S (p_s : GSchema) (r_ : Bool) : St := ⟨[(1, .ptr 0 0), (54, .lf (.bool r_))], [.box 35 (.dat (GSchema.lf1 p_s)), .dead]⟩
theorem Q8_J26_W {p_s : GSchema} {r6396 : Bool} {r_ : Bool} (h : Q8_J26 p_s r6396 = some r_) : AWoa_ Tryz.f83 0 [1, 1, 1, 1, 0, 0] [19, 20, 21, 22, 23] (Q8_J26_S p_s r_) ⟨[(1, .ptr 0 0), (49, .lf (.bool r6396))], [.box 35 (.dat (GSchema.lf1 p_s)), .dead]⟩ :=
 seg_T BaseK (Q8_J26_T p_s r6396) (Q8_J26_S p_s) (by kernel_rfl) h
def Q8_J31_T (p_s : GSchema) (r6400 : Bool) : Mo (Bool) :=
 .ite (r6400) (fun c6402 =>
 .say [.gd 18024 true] (ok1 c6402) <|
 .ret ⟨[], [1, 60], [], 2⟩ (true)) fun c6402 =>
 .say [.gd 18024 false, .num p_s.fItems.length] (okc c6402 (okc (by simp : p_s.fItems.length = (p_s.fItems.map GSchema.lf).length) ok0)) <|
 .ret ⟨[], [1, 60], [], 2⟩ (decide ((1 : Int) < (p_s.fItems.length : Int)))
def Q8_J31 (p_s : GSchema) (r6400 : Bool) : Option (Bool) := Mo.den (Q8_J31_T p_s r6400)
def Q8_J31_S (p_s : GSchema) (r_ : Bool) : St := ⟨[(1, .ptr 0 0), (60, .lf (.bool r_))], [.box 35 (.dat (GSchema.lf1 p_s)), .dead]⟩
theorem Q8_J31_W {p_s : GSchema} {r6400 : Bool} {r_ : Bool} (h : Q8_J31 p_s r6400 = some r_) : AWoa_ Tryz.f83 0 [1, 1, 1, 1, 0, 0] [24, 25, 26, 27, 28, 29] (Q8_J31_S p_s r_) ⟨[(1, .ptr 0 0), (54, .lf (.bool r6400))], [.box 35 (.dat (GSchema.lf1 p_s)), .dead]⟩ :=
 seg_T BaseK (Q8_J31_T p_s r6400) (Q8_J31_S p_s) (by kernel_rfl) h
def Q8_J36_T (p_s : GSchema) : Mo (Bool) :=
 .ask (Q42 p_s.fHasMin p_s.fMin) fun r6431 h6432 =>
 .say [.res (.lf (.bool r6431))] (ok1 (Q42_ok _ _ _ h6432)) <|
 .ite (r6431) (fun c6433 =>
 .say [.gd 22005 true] (ok1 c6433) <|
 .ret ⟨[], [1, 72], [], 2⟩ (true)) fun c6433 =>
 .say [.gd 22005 false] (ok1 c6433) <|
 .ask (Q42 p_s.fHasMax p_s.fMax) fun r6434 h6435 =>
 .say [.res (.lf (.bool r6434))] (ok1 (Q42_ok _ _ _ h6435)) <|
 .ret ⟨[], [1, 72], [], 2⟩ (r6434)
def Q8_J36 (p_s : GSchema) : Option (Bool) := Mo.den (Q8_J36_T p_s)
def Q8_J36_S (p_s : GSchema) (r_ : Bool) : St := ⟨[(1, .ptr 0 0), (72, .lf (.bool r_))], [.box 35 (.dat (GSchema.lf1 p_s)), .dead]⟩
theorem Q8_J36_W {p_s : GSchema} {r_ : Bool} (h : Q8_J36 p_s = some r_) : AWa_ Tryz.f83 0 [1, 1, 1, 1, 1, 0, 0] (.normal) (Q8_J36_S p_s r_) ⟨[(1, .ptr 0 0)], [.box 35 (.dat (GSchema.lf1 p_s)), .dead]⟩ :=
 part_T BaseK (Q8_J36_T p_s) (fun _ => .normal) (Q8_J36_S p_s) (by kernel_rfl) h
def Q8_L41_T (p_s : GSchema) : (Int) → Mo ((Int) ⊕ (Unit ⊕ Unit)) := fun (v6475) =>
 .say [.num p_s.fEnum.length] (okc (by simp : p_s.fEnum.length = (p_s.fEnum.map GValue.lf).length) ok0) <|
 .ite (decide ((v6475 : Int) < (p_s.fEnum.length : Int))) (fun c6476 =>
 .say [.br true] (ok1 c6476) <|
 .ask (gidx p_s.fEnum v6475) fun x6477 h6478 =>
 .say [.row (GValue.lf1 x6477)] (okc (gidx_ok GValue.lf_eq h6478 : (0 : Int) ≤ v6475 ∧ (p_s.fEnum.map GValue.lf)[v6475.toNat]? = some (GValue.lf1 x6477)) ok0) <|
 .ask (Q71 x6477) fun r6479 h6480 =>
 .say [.res (.lf (.bool r6479))] (ok1 (Q71_ok _ _ h6480)) <|
 .ite (!r6479) (fun c6481 =>
 .say [.br true] (ok1 c6481) <|
 .ret ⟨[.kill 0], [2], [], 2⟩ (.inr (.inl ()))) fun c6481 =>
 .say [.br false] (ok1 c6481) <|
 .ret ⟨[], [1, 5], [], 2⟩ (.inl (IntKind.wrap .i64 (v6475 + 1)))) fun c6476 =>
 .say [.br false] (ok1 c6476) <|
 .ret ⟨[.kill 0], [], [], 2⟩ (.inr (.inr (())))
def Q8_L41 (p_s : GSchema) (v6475 : Int) : Option (Unit ⊕ Unit) := loopM (fun v_ => (Q8_L41_T p_s v_).den) FU (v6475)
def Q8_L41_H (p_s : GSchema) : (Int) → St := fun (v6475) => ⟨[(1, .ptr 0 0), (5, .lf (.int .i64 v6475))], [.box 35 (.dat (GSchema.lf1 p_s)), .dead]⟩
def Q8_L41_X (r_ : Unit ⊕ Unit) : Exit := match r_ with
 | .inl o_ => .ret
 | .inr (o_) => .exit 2
def Q8_L41_S  (r_ : Unit ⊕ Unit) : St := match r_ with
 | .inl o_ => ⟨[(2, .lf (.int .i64 8))], [.dead, .dead]⟩
 | .inr (o_) => ⟨[], [.dead, .dead]⟩
theorem Q8_L41_W {p_s : GSchema} {v6475 : Int} {r_ : Unit ⊕ Unit} (h : Q8_L41 p_s v6475 = some r_) : AWa_ Tryz.f83 0 [1, 1, 1, 1, 1, 1, 0, 1, 0] (Q8_L41_X r_) (Q8_L41_S r_) (Q8_L41_H p_s (v6475)) :=
 loop_T BaseK (body := (Code.sub (bodyC Tryz.f83) [1, 1, 1, 1, 1, 1, 0, 1, 0, 0])) (by kernel_rfl) (Q8_L41_T p_s) (Q8_L41_H p_s) Q8_L41_X Q8_L41_S (fun r_ => by rcases r_ with _ | _ <;> rfl) (fun v_ => by kernel_rfl) h
def Q8_T (p_s : GSchema) : Mo (Int) :=
 .say [] (okc (by simp [lfS] : (([] : List ByteArray).map lfS) = []) ok0) <|
 .ask (Q8_L0 p_s 0 ([] : List ByteArray)) fun r6190 h6191 =>
 .say [.part [.nrow 3 9 1, .rerow 1 (([] : List ByteArray).map lfS)] 0 [1, 3, 4] 2 (.exit 0) (Q8_L0_S p_s r6190).T (Q8_L0_S p_s r6190).H] (ok1 (Q8_L0_W h6191)) <|
 .ask (Q8_J6 p_s r6190) fun r6362 h6363 =>
 .say [.pt_ 19 [1, 3] 2 (.normal) (Q8_J6_S p_s r6362)] (ok1 (Q8_J6_W h6363)) <|
 .ite (r6362) (fun c6365 =>
 .say [.br true] (ok1 c6365) <|
 .ret (fitN 1) (9)) fun c6365 =>
 .say [.br false] (ok1 c6365) <|
 .ask (Q8_J11 p_s) fun r6388 h6389 =>
 .say [.sg_ 8 9 [1] 2 (Q8_J11_S p_s r6388)] (ok1 (Q8_J11_W h6389)) <|
 .ask (Q8_J16 p_s r6388) fun r6392 h6393 =>
 .say [.sg_ 8 5 [1, 39] 2 (Q8_J16_S p_s r6392)] (ok1 (Q8_J16_W h6393)) <|
 .ask (Q8_J21 p_s r6392) fun r6396 h6397 =>
 .say [.sg_ 8 5 [1, 44] 2 (Q8_J21_S p_s r6396)] (ok1 (Q8_J21_W h6397)) <|
 .ask (Q8_J26 p_s r6396) fun r6400 h6401 =>
 .say [.sg_ 8 5 [1, 49] 2 (Q8_J26_S p_s r6400)] (ok1 (Q8_J26_W h6401)) <|
 .ask (Q8_J31 p_s r6400) fun r6404 h6405 =>
 .say [.sg_ 8 6 [1, 54] 2 (Q8_J31_S p_s r6404)] (ok1 (Q8_J31_W h6405)) <|
 .ite (r6404) (fun c6407 =>
 .say [.br true] (ok1 c6407) <|
 .ret (fitN 1) (1)) fun c6407 =>
 .say [.br false] (ok1 c6407) <|
 .ask (Q8_J36 p_s) fun r6437 h6438 =>
 .say [.pt_ 27 [1] 2 (.normal) (Q8_J36_S p_s r6437)] (ok1 (Q8_J36_W h6438)) <|
 .ite (r6437) (fun c6440 =>
 .say [.br true] (ok1 c6440) <|
 .ret (fitN 1) (8)) fun c6440 =>
 .say [.br false] (ok1 c6440) <|
 .ask2 (Q8_L41 p_s 0) (fun o6484 h6483 =>
 .say [.pt_ 0 [1, 5] 2 (Q8_L41_X (.inl o6484)) (Q8_L41_S (.inl o6484))] (ok1 (Q8_L41_W h6483)) <|
 .ret (fitN 1) (8)) fun o6485 h6483 =>
 .say [.pt_ 0 [1, 5] 2 (Q8_L41_X (.inr (o6485))) (Q8_L41_S (.inr (o6485)))] (ok1 (Q8_L41_W h6483)) <|
 .ret (fitN 1) (0)
def Q8 (p_s : GSchema) : Option (Int) := Mo.den (Q8_T p_s)
theorem Q8_ok (p_s : GSchema) (r : Int) (h : Q8 p_s = some r) : Fn Tryz.prog GI 83 [.dat (GSchema.lf1 p_s)] (.lf (.int .i64 r)) :=
 fn_T BaseK Tryz.func83 (by kernel_rfl) (by kernel_rfl) (by kernel_rfl) (Q8_T p_s) (fun r => [.lf (.int .i64 r)]) (by kernel_rfl) h
structure RB15 where
 m1 : (p_s : GSchema) → (p_number : Int) → (p_level : Int) → Option (Int × Int)
 ok1 : ∀ (p_s : GSchema) (p_number : Int) (p_level : Int) (r : Int × Int), m1 p_s p_number p_level = some r → Fn Tryz.prog GI 62 [.dat (GSchema.lf1 p_s), .lf (.int .i64 p_number), .lf (.int .i64 p_level)] (.tup [.lf (.int .i64 r.1), .lf (.int .i64 r.2)])
def Q30_J0_T (R_ : RB15) (p_level : Int) (p_number : Int) (p_s : GSchema) : Mo (Bool) :=
 .ite (decide ((16 : Int) < p_level)) (fun c6135 =>
 .say [.gd 4002 true] (ok1 c6135) <|
 .ret ⟨[], [1, 2, 3, 18], [], 1⟩ (true)) fun c6135 =>
 .say [.gd 4002 false] (ok1 c6135) <|
 .ret ⟨[], [1, 2, 3, 18], [], 1⟩ (decide ((64 : Int) < p_number))
def Q30_J0 (R_ : RB15) (p_level : Int) (p_number : Int) (p_s : GSchema) : Option (Bool) := Mo.den (Q30_J0_T R_ p_level p_number p_s)
def Q30_J0_S (p_level : Int) (p_number : Int) (p_s : GSchema) (r_ : Bool) : St := ⟨[(1, .lf (.int .i64 p_number)), (2, .lf (.int .i64 p_level)), (3, .ptr 0 0), (18, .lf (.bool r_))], [.box 35 (.dat (GSchema.lf1 p_s))]⟩
theorem Q30_J0_W {R_ : RB15} {p_level : Int} {p_number : Int} {p_s : GSchema} {r_ : Bool} (h : Q30_J0 R_ p_level p_number p_s = some r_) : AWa_ Tryz.f62 0 [1, 0, 0] (.normal) (Q30_J0_S p_level p_number p_s r_) ⟨[(1, .lf (.int .i64 p_number)), (2, .lf (.int .i64 p_level)), (3, .ptr 0 0)], [.box 35 (.dat (GSchema.lf1 p_s))]⟩ :=
 part_T BaseK (Q30_J0_T R_ p_level p_number p_s) (fun _ => .normal) (Q30_J0_S p_level p_number p_s) (by kernel_rfl) h
def Q30_J5_T (R_ : RB15) (p_level : Int) (p_s : GSchema) (v6560 : Int) (v6561 : Int) : Mo (GSchema) :=
 .ite (decide ((v6561 : Int) < (p_s.fProps.length : Int))) (fun c6563 =>
 .say [.br true] (ok1 c6563) <|
 .ask (gidx p_s.fProps v6561) fun x6564 h6565 =>
 .say [.row (GProp.lf1 x6564)] (okc (gidx_ok GProp.lf_eq h6565 : (0 : Int) ≤ v6561 ∧ (p_s.fProps.map GProp.lf)[v6561.toNat]? = some (GProp.lf1 x6564)) ok0) <|
 .ret ⟨[.norm 1], [1, 2, 3, 9, 10], [], 2⟩ (x6564.fSchema)) fun c6563 =>
 .say [.br false, .num p_s.fProps.length] (okc c6563 (okc (by simp : p_s.fProps.length = (p_s.fProps.map GProp.lf).length) ok0)) <|
 .ask (gidx p_s.fItems (IntKind.wrap .i64 (v6561 - (p_s.fProps.length : Int)))) fun x6566 h6567 =>
 .say [.row (GSchema.lf1 x6566)] (okc (gidx_ok GSchema.lf_eq h6567 : (0 : Int) ≤ (IntKind.wrap .i64 (v6561 - (p_s.fProps.length : Int))) ∧ (p_s.fItems.map GSchema.lf)[(IntKind.wrap .i64 (v6561 - (p_s.fProps.length : Int))).toNat]? = some (GSchema.lf1 x6566)) ok0) <|
 .ret ⟨[.norm 1], [1, 2, 3, 9, 10], [], 2⟩ (x6566)
def Q30_J5 (R_ : RB15) (p_level : Int) (p_s : GSchema) (v6560 : Int) (v6561 : Int) : Option (GSchema) := Mo.den (Q30_J5_T R_ p_level p_s v6560 v6561)
def Q30_J5_S (p_level : Int) (p_s : GSchema) (v6560 : Int) (v6561 : Int) (r_ : GSchema) : St := ⟨[(1, .lf (.int .i64 v6560)), (2, .lf (.int .i64 p_level)), (3, .ptr 0 0), (9, .lf (.int .i64 v6561)), (10, .ptr 1 0)], [.box 35 (.dat (GSchema.lf1 p_s)), .box 35 (.dat (GSchema.lf1 r_))]⟩
theorem Q30_J5_W {R_ : RB15} {p_level : Int} {p_s : GSchema} {v6560 : Int} {v6561 : Int} {r_ : GSchema} (h : Q30_J5 R_ p_level p_s v6560 v6561 = some r_) : AWa_ Tryz.f62 0 [1, 1, 1, 0, 1, 0, 0, 1, 0, 0, 1, 0, 1] (.normal) (Q30_J5_S p_level p_s v6560 v6561 r_) ⟨[(1, .lf (.int .i64 v6560)), (2, .lf (.int .i64 p_level)), (3, .ptr 0 0), (9, .lf (.int .i64 v6561)), (10, .ptr 1 0), (41, .lf (.bool (decide ((v6561 : Int) < (p_s.fProps.length : Int)))))], [.box 35 (.dat (GSchema.lf1 p_s)), .box 35 (Z35)]⟩ :=
 part_T BaseK (Q30_J5_T R_ p_level p_s v6560 v6561) (fun _ => .normal) (Q30_J5_S p_level p_s v6560 v6561) (by kernel_rfl) h
def Q30_L10_T (R_ : RB15) (p_level : Int) (p_s : GSchema) : (Int × Int) → Mo ((Int × Int) ⊕ (Int × Int) ⊕ (Int)) := fun (v6560, v6561) =>
 .say [.num p_s.fProps.length, .num p_s.fItems.length] (okc (by simp : p_s.fProps.length = (p_s.fProps.map GProp.lf).length) (okc (by simp : p_s.fItems.length = (p_s.fItems.map GSchema.lf).length) ok0)) <|
 .ite (decide ((v6561 : Int) < (IntKind.wrap .i64 ((p_s.fProps.length : Int) + (p_s.fItems.length : Int))))) (fun c6562 =>
 .say [.br true, .num p_s.fProps.length] (okc c6562 (okc (by simp : p_s.fProps.length = (p_s.fProps.map GProp.lf).length) ok0)) <|
 .ask (Q30_J5 R_ p_level p_s v6560 v6561) fun r6569 h6570 =>
 .say [.pt_ 1 [1, 2, 3, 9, 10, 41] 2 (.normal) (Q30_J5_S p_level p_s v6560 v6561 r6569)] (ok1 (Q30_J5_W h6570)) <|
 .ask (R_.m1 r6569 (IntKind.wrap .i64 (v6560 + 1)) (IntKind.wrap .i64 (p_level + 1))) fun r6571 h6572 =>
 .say [.res (.tup [.lf (.int .i64 r6571.1), .lf (.int .i64 r6571.2)])] (ok1 (R_.ok1 _ _ _ _ h6572)) <|
 .ite (r6571.2 != 0) (fun c6573 =>
 .say [.br true] (ok1 c6573) <|
 .ret ⟨[.kill 0], [6, 7], [], 1⟩ (.inr (.inl (r6571.1, r6571.2)))) fun c6573 =>
 .say [.br false] (ok1 c6573) <|
 .ret ⟨[], [1, 2, 3, 9], [], 1⟩ (.inl (r6571.1, IntKind.wrap .i64 (v6561 + 1)))) fun c6562 =>
 .say [.br false] (ok1 c6562) <|
 .ret ⟨[.kill 0], [1], [], 1⟩ (.inr (.inr (v6560)))
def Q30_L10 (R_ : RB15) (p_level : Int) (p_s : GSchema) (v6560 : Int) (v6561 : Int) : Option ((Int × Int) ⊕ (Int)) := loopM (fun v_ => (Q30_L10_T R_ p_level p_s v_).den) FU (v6560, v6561)
def Q30_L10_H (R_ : RB15) (p_level : Int) (p_s : GSchema) : (Int × Int) → St := fun (v6560, v6561) => ⟨[(1, .lf (.int .i64 v6560)), (2, .lf (.int .i64 p_level)), (3, .ptr 0 0), (9, .lf (.int .i64 v6561))], [.box 35 (.dat (GSchema.lf1 p_s))]⟩
def Q30_L10_X (r_ : (Int × Int) ⊕ (Int)) : Exit := match r_ with
 | .inl o_ => .ret
 | .inr (o_) => .exit 0
def Q30_L10_S  (r_ : (Int × Int) ⊕ (Int)) : St := match r_ with
 | .inl o_ => ⟨[(6, .lf (.int .i64 o_.1)), (7, .lf (.int .i64 o_.2))], [.dead]⟩
 | .inr (o_) => ⟨[(1, .lf (.int .i64 o_))], [.dead]⟩
theorem Q30_L10_W {R_ : RB15} {p_level : Int} {p_s : GSchema} {v6560 : Int} {v6561 : Int} {r_ : (Int × Int) ⊕ (Int)} (h : Q30_L10 R_ p_level p_s v6560 v6561 = some r_) : AWa_ Tryz.f62 0 [1, 1, 1, 0, 1, 0] (Q30_L10_X r_) (Q30_L10_S r_) (Q30_L10_H R_ p_level p_s (v6560, v6561)) :=
 loop_T BaseK (body := (Code.sub (bodyC Tryz.f62) [1, 1, 1, 0, 1, 0, 0])) (by kernel_rfl) (Q30_L10_T R_ p_level p_s) (Q30_L10_H R_ p_level p_s) Q30_L10_X Q30_L10_S (fun r_ => by rcases r_ with _ | _ <;> rfl) (fun v_ => by kernel_rfl) h
def Q30_T (R_ : RB15) (p_s : GSchema) (p_number : Int) (p_level : Int) : Mo (Int × Int) :=
 .ask (Q30_J0 R_ p_level p_number p_s) fun r6137 h6138 =>
 .say [.pt_ 9 [1, 2, 3] 1 (.normal) (Q30_J0_S p_level p_number p_s r6137)] (ok1 (Q30_J0_W h6138)) <|
 .ite (r6137) (fun c6140 =>
 .say [.br true] (ok1 c6140) <|
 .ret (fitN 2) (p_number, 2)) fun c6140 =>
 .say [.br false] (ok1 c6140) <|
 .ask (Q8 p_s) fun r6488 h6489 =>
 .say [.res (.lf (.int .i64 r6488))] (ok1 (Q8_ok _ _ h6489)) <|
 .ite (r6488 != 0) (fun c6491 =>
 .say [.br true] (ok1 c6491) <|
 .ret (fitN 2) (p_number, r6488)) fun c6491 =>
 .say [.br false] (ok1 c6491) <|
 .ask2 (Q30_L10 R_ p_level p_s p_number 0) (fun o6582 h6581 =>
 .say [.pt_ 0 [1, 2, 3, 9] 1 (Q30_L10_X (.inl o6582)) (Q30_L10_S (.inl o6582))] (ok1 (Q30_L10_W h6581)) <|
 .ret (fitN 2) (o6582.1, o6582.2)) fun o6583 h6581 =>
 .say [.pt_ 0 [1, 2, 3, 9] 1 (Q30_L10_X (.inr (o6583))) (Q30_L10_S (.inr (o6583)))] (ok1 (Q30_L10_W h6581)) <|
 .ret (fitN 2) (o6583, 0)
theorem Q30_okT (R_ : RB15) (p_s : GSchema) (p_number : Int) (p_level : Int) (r : Int × Int) (h : Mo.den (Q30_T R_ p_s p_number p_level) = some r) : Fn Tryz.prog GI 62 [.dat (GSchema.lf1 p_s), .lf (.int .i64 p_number), .lf (.int .i64 p_level)] (.tup [.lf (.int .i64 r.1), .lf (.int .i64 r.2)]) :=
 fn_T BaseK Tryz.func62 (by kernel_rfl) (by kernel_rfl) (by kernel_rfl) (Q30_T R_ p_s p_number p_level) (fun r => [.lf (.int .i64 r.1), .lf (.int .i64 r.2)]) (by kernel_rfl) h
def RB15_F : Nat → RB15
 | 0 => { m1 := fun p_s p_number p_level => none, ok1 := fun _ _ _ _ h => (by cases h) }
 | n_ + 1 => { m1 := fun p_s p_number p_level => Mo.den (Q30_T (RB15_F n_) p_s p_number p_level), ok1 := fun p_s p_number p_level r h => Q30_okT (RB15_F n_) p_s p_number p_level r h }
def Q30 (p_s : GSchema) (p_number : Int) (p_level : Int) : Option (Int × Int) := (RB15_F FU).m1 p_s p_number p_level
theorem Q30_ok (p_s : GSchema) (p_number : Int) (p_level : Int) (r : Int × Int) (h : Q30 p_s p_number p_level = some r) : Fn Tryz.prog GI 62 [.dat (GSchema.lf1 p_s), .lf (.int .i64 p_number), .lf (.int .i64 p_level)] (.tup [.lf (.int .i64 r.1), .lf (.int .i64 r.2)]) := (RB15_F FU).ok1 p_s p_number p_level r h
def Q95_T (p_s : GSchema) : Mo (Int) :=
 .ask (Q30 p_s 1 1) fun r6586 h6587 =>
 .say [.res (.tup [.lf (.int .i64 r6586.1), .lf (.int .i64 r6586.2)])] (ok1 (Q30_ok _ _ _ _ h6587)) <|
 .ret (fitN 1) (r6586.2)
def Q95 (p_s : GSchema) : Option (Int) := Mo.den (Q95_T p_s)
theorem Q95_ok (p_s : GSchema) (r : Int) (h : Q95 p_s = some r) : Fn Tryz.prog GI 46 [.dat (GSchema.lf1 p_s)] (.lf (.int .i64 r)) :=
 fn_T BaseK Tryz.func46 (by kernel_rfl) (by kernel_rfl) (by kernel_rfl) (Q95_T p_s) (fun r => [.lf (.int .i64 r)]) (by kernel_rfl) h
def Q34_L0_T (p_d : GSpace) : (Int) → Mo ((Int) ⊕ (Int) ⊕ Unit) := fun (v6095) =>
 .say [.num p_d.fIndexes.length] (okc (by simp : p_d.fIndexes.length = (p_d.fIndexes.map GIndex.lf).length) ok0) <|
 .ite (decide ((v6095 : Int) < (p_d.fIndexes.length : Int))) (fun c6096 =>
 .say [.br true] (ok1 c6096) <|
 .ask (gidx p_d.fIndexes v6095) fun x6097 h6098 =>
 .say [.row (GIndex.lf1 x6097)] (okc (gidx_ok GIndex.lf_eq h6098 : (0 : Int) ≤ v6095 ∧ (p_d.fIndexes.map GIndex.lf)[v6095.toNat]? = some (GIndex.lf1 x6097)) ok0) <|
 .ask (Q54 x6097) fun r6099 h6100 =>
 .say [.res (.lf (.int .i64 r6099))] (ok1 (Q54_ok _ _ h6100)) <|
 .ite (r6099 != 0) (fun c6101 =>
 .say [.br true] (ok1 c6101) <|
 .ret ⟨[.kill 0], [2], [], 1⟩ (.inr (.inl (r6099)))) fun c6101 =>
 .say [.br false, .order [(true, 0), (true, 1), (true, 2), (true, 3), (true, 4), (true, 5), (true, 6), (true, 7), (true, 9), (false, 8), (true, 10)] none []] (ok1 c6101) <|
 .ask (gidx p_d.fIndexes v6095) fun x6102 h6103 =>
 .say [.row (GIndex.lf1 x6102)] (okc (gidx_ok GIndex.lf_eq h6103 : (0 : Int) ≤ v6095 ∧ (p_d.fIndexes.map GIndex.lf)[v6095.toNat]? = some (GIndex.lf1 x6102)) ok0) <|
 .ask (Q64 p_d.fIndexes x6102.fName) fun r6104 h6105 =>
 .say [.res (.lf (.int .i64 r6104))] (ok1 (Q64_ok _ _ _ h6105)) <|
 .ite (r6104 != v6095) (fun c6106 =>
 .say [.br true] (ok1 c6106) <|
 .ret ⟨[.kill 0], [2], [], 1⟩ (.inr (.inl (16)))) fun c6106 =>
 .say [.br false] (ok1 c6106) <|
 .ret ⟨[], [1, 3], [], 1⟩ (.inl (IntKind.wrap .i64 (v6095 + 1)))) fun c6096 =>
 .say [.br false] (ok1 c6096) <|
 .ret ⟨[], [1], [], 1⟩ (.inr (.inr (())))
def Q34_L0 (p_d : GSpace) (v6095 : Int) : Option ((Int) ⊕ Unit) := loopM (fun v_ => (Q34_L0_T p_d v_).den) FU (v6095)
def Q34_L0_H (p_d : GSpace) : (Int) → St := fun (v6095) => ⟨[(1, .ptr 0 0), (3, .lf (.int .i64 v6095))], [.box 37 (.dat (GSpace.lf1 p_d))]⟩
def Q34_L0_X (r_ : (Int) ⊕ Unit) : Exit := match r_ with
 | .inl o_ => .ret
 | .inr (o_) => .exit 0
def Q34_L0_S (p_d : GSpace) (r_ : (Int) ⊕ Unit) : St := match r_ with
 | .inl o_ => ⟨[(2, .lf (.int .i64 o_))], [.dead]⟩
 | .inr (o_) => ⟨[(1, .ptr 0 0)], [.box 37 (.dat (GSpace.lf1 p_d))]⟩
theorem Q34_L0_W {p_d : GSpace} {v6095 : Int} {r_ : (Int) ⊕ Unit} (h : Q34_L0 p_d v6095 = some r_) : AWa_ Tryz.f33 0 [1, 1, 1, 0, 1, 0] (Q34_L0_X r_) (Q34_L0_S p_d r_) (Q34_L0_H p_d (v6095)) :=
 loop_T BaseK (body := (Code.sub (bodyC Tryz.f33) [1, 1, 1, 0, 1, 0, 0])) (by kernel_rfl) (Q34_L0_T p_d) (Q34_L0_H p_d) Q34_L0_X (Q34_L0_S p_d) (fun r_ => by rcases r_ with _ | _ <;> rfl) (fun v_ => by kernel_rfl) h
def Q34_J6_T (p_d : GSpace) : Mo (Bool) :=
 .ite (decide ((p_d.fLevel : Int) < 0)) (fun c6123 =>
 .say [.gd 28003 true] (ok1 c6123) <|
 .ret ⟨[], [1, 47], [], 1⟩ (true)) fun c6123 =>
 .say [.gd 28003 false] (ok1 c6123) <|
 .ret ⟨[], [1, 47], [], 1⟩ (decide ((2 : Int) < p_d.fLevel))
def Q34_J6 (p_d : GSpace) : Option (Bool) := Mo.den (Q34_J6_T p_d)
def Q34_J6_S (p_d : GSpace) (r_ : Bool) : St := ⟨[(1, .ptr 0 0), (47, .lf (.bool r_))], [.box 37 (.dat (GSpace.lf1 p_d))]⟩
theorem Q34_J6_W {p_d : GSpace} {r_ : Bool} (h : Q34_J6 p_d = some r_) : AWoa_ Tryz.f33 0 [1, 1, 1, 1, 0, 0] [0, 1, 2, 3, 4, 5, 6, 7] (Q34_J6_S p_d r_) ⟨[(1, .ptr 0 0)], [.box 37 (.dat (GSpace.lf1 p_d))]⟩ :=
 seg_T BaseK (Q34_J6_T p_d) (Q34_J6_S p_d) (by kernel_rfl) h
def Q34_J11_T (p_d : GSpace) (r6125 : Bool) : Mo (Bool) :=
 .ite (r6125) (fun c6127 =>
 .say [.gd 28008 true] (ok1 c6127) <|
 .ret ⟨[], [1, 57], [], 1⟩ (true)) fun c6127 =>
 .say [.gd 28008 false] (ok1 c6127) <|
 .ite (p_d.fAction != 0) (fun c6128 =>
 .say [.gd 28012 true] (ok1 c6128) <|
 .ret ⟨[], [1, 57], [], 1⟩ (p_d.fAction != 1)) fun c6128 =>
 .say [.gd 28012 false] (ok1 c6128) <|
 .ret ⟨[], [1, 57], [], 1⟩ (false)
def Q34_J11 (p_d : GSpace) (r6125 : Bool) : Option (Bool) := Mo.den (Q34_J11_T p_d r6125)
def Q34_J11_S (p_d : GSpace) (r_ : Bool) : St := ⟨[(1, .ptr 0 0), (57, .lf (.bool r_))], [.box 37 (.dat (GSpace.lf1 p_d))]⟩
theorem Q34_J11_W {p_d : GSpace} {r6125 : Bool} {r_ : Bool} (h : Q34_J11 p_d r6125 = some r_) : AWoa_ Tryz.f33 0 [1, 1, 1, 1, 0, 0] [8, 9, 10, 11, 12, 13, 14, 15, 16, 17] (Q34_J11_S p_d r_) ⟨[(1, .ptr 0 0), (47, .lf (.bool r6125))], [.box 37 (.dat (GSpace.lf1 p_d))]⟩ :=
 seg_T BaseK (Q34_J11_T p_d r6125) (Q34_J11_S p_d) (by kernel_rfl) h
def Q34_T (p_d : GSpace) : Mo (Int) :=
 .ask (Q20 p_d.fName) fun r3966 h3967 =>
 .say [.res (.lf (.bool r3966))] (ok1 (Q20_ok _ _ h3967)) <|
 .ite (!r3966) (fun c3969 =>
 .say [.br true] (ok1 c3969) <|
 .ret (fitN 1) (9)) fun c3969 =>
 .say [.br false, .num p_d.fIndexes.length] (okc c3969 (okc (by simp : p_d.fIndexes.length = (p_d.fIndexes.map GIndex.lf).length) ok0)) <|
 .ite (decide ((16 : Int) < (p_d.fIndexes.length : Int))) (fun c3971 =>
 .say [.br true] (ok1 c3971) <|
 .ret (fitN 1) (2)) fun c3971 =>
 .say [.br false] (ok1 c3971) <|
 .ask2 (Q34_L0 p_d 0) (fun o6112 h6111 =>
 .say [.pt_ 0 [1, 3] 1 (Q34_L0_X (.inl o6112)) (Q34_L0_S p_d (.inl o6112))] (ok1 (Q34_L0_W h6111)) <|
 .ret (fitN 1) (o6112)) fun o6113 h6111 =>
 .say [.pt_ 0 [1, 3] 1 (Q34_L0_X (.inr (o6113))) (Q34_L0_S p_d (.inr (o6113)))] (ok1 (Q34_L0_W h6111)) <|
 .ask (Q34_J6 p_d) fun r6125 h6126 =>
 .say [.sg_ 13 8 [1] 1 (Q34_J6_S p_d r6125)] (ok1 (Q34_J6_W h6126)) <|
 .ask (Q34_J11 p_d r6125) fun r6130 h6131 =>
 .say [.sg_ 13 10 [1, 47] 1 (Q34_J11_S p_d r6130)] (ok1 (Q34_J11_W h6131)) <|
 .ite (r6130) (fun c6133 =>
 .say [.br true] (ok1 c6133) <|
 .ret (fitN 1) (1)) fun c6133 =>
 .say [.br false] (ok1 c6133) <|
 .ask (Q95 p_d.fSchema) fun r6588 h6589 =>
 .say [.res (.lf (.int .i64 r6588))] (ok1 (Q95_ok _ _ h6589)) <|
 .ret (fitN 1) (r6588)
def Q34 (p_d : GSpace) : Option (Int) := Mo.den (Q34_T p_d)
theorem Q34_ok (p_d : GSpace) (r : Int) (h : Q34 p_d = some r) : Fn Tryz.prog GI 33 [.dat (GSpace.lf1 p_d)] (.lf (.int .i64 r)) :=
 fn_T BaseK Tryz.func33 (by kernel_rfl) (by kernel_rfl) (by kernel_rfl) (Q34_T p_d) (fun r => [.lf (.int .i64 r)]) (by kernel_rfl) h
def Q1_J0_T (p_hi : Int) (p_lo : Int) (p_w : GWrite) : Mo (Bool) :=
 .ite (decide ((p_w.fKind : Int) < p_lo)) (fun c2772 =>
 .say [.gd 6003 true] (ok1 c2772) <|
 .ret ⟨[], [3, 7, 20], [], 1⟩ (true)) fun c2772 =>
 .say [.gd 6003 false] (ok1 c2772) <|
 .ret ⟨[], [3, 7, 20], [], 1⟩ (decide ((p_hi : Int) < p_w.fKind))
def Q1_J0 (p_hi : Int) (p_lo : Int) (p_w : GWrite) : Option (Bool) := Mo.den (Q1_J0_T p_hi p_lo p_w)
def Q1_J0_S (p_w : GWrite) (r_ : Bool) : St := ⟨[(3, .ptr 0 0), (7, .lf (.int .i64 p_w.fKind)), (20, .lf (.bool r_))], [.box 53 (.dat (GWrite.lf1 p_w))]⟩
theorem Q1_J0_W {p_hi : Int} {p_lo : Int} {p_w : GWrite} {r_ : Bool} (h : Q1_J0 p_hi p_lo p_w = some r_) : AWoa_ Tryz.f15 0 [1, 1, 0, 0, 0] [0, 1, 2, 3, 4, 5, 6, 7] (Q1_J0_S p_w r_) ⟨[(1, .lf (.int .i64 p_lo)), (2, .lf (.int .i64 p_hi)), (3, .ptr 0 0), (7, .lf (.int .i64 p_w.fKind))], [.box 53 (.dat (GWrite.lf1 p_w))]⟩ :=
 seg_T BaseK (Q1_J0_T p_hi p_lo p_w) (Q1_J0_S p_w) (by kernel_rfl) h
def Q1_J5_T (p_w : GWrite) (r2774 : Bool) : Mo (Bool) :=
 .ite (r2774) (fun c2776 =>
 .say [.gd 6008 true] (ok1 c2776) <|
 .ret ⟨[], [3, 7, 25], [], 1⟩ (true)) fun c2776 =>
 .say [.gd 6008 false] (ok1 c2776) <|
 .ask (Q6 p_w) fun r2777 h2778 =>
 .say [.res (.lf (.bool r2777))] (ok1 (Q6_ok _ _ h2778)) <|
 .ret ⟨[], [3, 7, 25], [], 1⟩ (!r2777)
def Q1_J5 (p_w : GWrite) (r2774 : Bool) : Option (Bool) := Mo.den (Q1_J5_T p_w r2774)
def Q1_J5_S (p_w : GWrite) (r_ : Bool) : St := ⟨[(3, .ptr 0 0), (7, .lf (.int .i64 p_w.fKind)), (25, .lf (.bool r_))], [.box 53 (.dat (GWrite.lf1 p_w))]⟩
theorem Q1_J5_W {p_w : GWrite} {r2774 : Bool} {r_ : Bool} (h : Q1_J5 p_w r2774 = some r_) : AWoa_ Tryz.f15 0 [1, 1, 0, 0, 0] [8, 9, 10, 11, 12] (Q1_J5_S p_w r_) ⟨[(3, .ptr 0 0), (7, .lf (.int .i64 p_w.fKind)), (20, .lf (.bool r2774))], [.box 53 (.dat (GWrite.lf1 p_w))]⟩ :=
 seg_T BaseK (Q1_J5_T p_w r2774) (Q1_J5_S p_w) (by kernel_rfl) h
def Q1_J10_T (p_w : GWrite) (r2780 : Bool) : Mo (Bool) :=
 .ite (r2780) (fun c2782 =>
 .say [.gd 6013 true] (ok1 c2782) <|
 .ret ⟨[], [3, 7, 35], [], 1⟩ (true)) fun c2782 =>
 .say [.gd 6013 false] (ok1 c2782) <|
 .ask (Q86 p_w.fKind) fun r2783 h2784 =>
 .say [.res (.lf (.bool r2783))] (ok1 (Q86_ok _ _ h2784)) <|
 .ite (r2783) (fun c2785 =>
 .say [.gd 6016 true, .num p_w.fWrites.length] (okc c2785 (okc (by simp : p_w.fWrites.length = (p_w.fWrites.map GWrite.lf).length) ok0)) <|
 .ret ⟨[], [3, 7, 35], [], 1⟩ ((p_w.fWrites.length : Int) == 0)) fun c2785 =>
 .say [.gd 6016 false] (ok1 c2785) <|
 .ret ⟨[], [3, 7, 35], [], 1⟩ (false)
def Q1_J10 (p_w : GWrite) (r2780 : Bool) : Option (Bool) := Mo.den (Q1_J10_T p_w r2780)
def Q1_J10_S (p_w : GWrite) (r_ : Bool) : St := ⟨[(3, .ptr 0 0), (7, .lf (.int .i64 p_w.fKind)), (35, .lf (.bool r_))], [.box 53 (.dat (GWrite.lf1 p_w))]⟩
theorem Q1_J10_W {p_w : GWrite} {r2780 : Bool} {r_ : Bool} (h : Q1_J10 p_w r2780 = some r_) : AWoa_ Tryz.f15 0 [1, 1, 0, 0, 0] [13, 14, 15, 16, 17, 18, 19, 20, 21, 22] (Q1_J10_S p_w r_) ⟨[(3, .ptr 0 0), (7, .lf (.int .i64 p_w.fKind)), (25, .lf (.bool r2780))], [.box 53 (.dat (GWrite.lf1 p_w))]⟩ :=
 seg_T BaseK (Q1_J10_T p_w r2780) (Q1_J10_S p_w) (by kernel_rfl) h
def Q1_J15_T (p_w : GWrite) (r2787 : Bool) : Mo (Unit) :=
 .ret ⟨[], [3, 7, 12], [], 1⟩ ()
def Q1_J15 (p_w : GWrite) (r2787 : Bool) : Option (Unit) := Mo.den (Q1_J15_T p_w r2787)
def Q1_J15_S (p_w : GWrite) (r2787 : Bool) (r_ : Unit) : St := ⟨[(3, .ptr 0 0), (7, .lf (.int .i64 p_w.fKind)), (12, .lf (.bool r2787))], [.box 53 (.dat (GWrite.lf1 p_w))]⟩
theorem Q1_J15_W {p_w : GWrite} {r2787 : Bool} {r_ : Unit} (h : Q1_J15 p_w r2787 = some r_) : AWoa_ Tryz.f15 0 [1, 1, 0, 0, 0] [23] (Q1_J15_S p_w r2787 r_) ⟨[(3, .ptr 0 0), (7, .lf (.int .i64 p_w.fKind)), (35, .lf (.bool r2787))], [.box 53 (.dat (GWrite.lf1 p_w))]⟩ :=
 seg_T BaseK (Q1_J15_T p_w r2787) (Q1_J15_S p_w r2787) (by kernel_rfl) h
def Q1_J20_T (p_w : GWrite) : Mo (Bool) :=
 .ask (Q81 p_w.fKind) fun r2912 h2913 =>
 .say [.res (.lf (.bool r2912))] (ok1 (Q81_ok _ _ h2913)) <|
 .ite (r2912) (fun c2914 =>
 .say [.gd 14002 true] (ok1 c2914) <|
 .ask (Q74 p_w.fSpace) fun r2915 h2916 =>
 .say [.res (.lf (.bool r2915))] (ok1 (Q74_ok _ _ h2916)) <|
 .ret ⟨[], [3, 7, 49], [], 1⟩ (!r2915)) fun c2914 =>
 .say [.gd 14002 false] (ok1 c2914) <|
 .ret ⟨[], [3, 7, 49], [], 1⟩ (false)
def Q1_J20 (p_w : GWrite) : Option (Bool) := Mo.den (Q1_J20_T p_w)
def Q1_J20_S (p_w : GWrite) (r_ : Bool) : St := ⟨[(3, .ptr 0 0), (7, .lf (.int .i64 p_w.fKind)), (49, .lf (.bool r_))], [.box 53 (.dat (GWrite.lf1 p_w))]⟩
theorem Q1_J20_W {p_w : GWrite} {r_ : Bool} (h : Q1_J20 p_w = some r_) : AWoa_ Tryz.f15 0 [1, 1, 0, 0, 1, 1, 1, 1, 0] [0, 1, 2, 3, 4, 5, 6, 7] (Q1_J20_S p_w r_) ⟨[(3, .ptr 0 0), (7, .lf (.int .i64 p_w.fKind))], [.box 53 (.dat (GWrite.lf1 p_w))]⟩ :=
 seg_T BaseK (Q1_J20_T p_w) (Q1_J20_S p_w) (by kernel_rfl) h
def Q1_J25_T (p_w : GWrite) (r2918 : Bool) : Mo (Bool) :=
 .ite (r2918) (fun c2920 =>
 .say [.gd 14008 true] (ok1 c2920) <|
 .ret ⟨[], [3, 7, 59], [], 1⟩ (true)) fun c2920 =>
 .say [.gd 14008 false] (ok1 c2920) <|
 .ask (Q77 p_w.fKind) fun r2921 h2922 =>
 .say [.res (.lf (.bool r2921))] (ok1 (Q77_ok _ _ h2922)) <|
 .ite (r2921) (fun c2923 =>
 .say [.gd 14011 true] (ok1 c2923) <|
 .ask (Q74 p_w.fTxn) fun r2924 h2925 =>
 .say [.res (.lf (.bool r2924))] (ok1 (Q74_ok _ _ h2925)) <|
 .ret ⟨[], [3, 7, 59], [], 1⟩ (!r2924)) fun c2923 =>
 .say [.gd 14011 false] (ok1 c2923) <|
 .ret ⟨[], [3, 7, 59], [], 1⟩ (false)
def Q1_J25 (p_w : GWrite) (r2918 : Bool) : Option (Bool) := Mo.den (Q1_J25_T p_w r2918)
def Q1_J25_S (p_w : GWrite) (r_ : Bool) : St := ⟨[(3, .ptr 0 0), (7, .lf (.int .i64 p_w.fKind)), (59, .lf (.bool r_))], [.box 53 (.dat (GWrite.lf1 p_w))]⟩
theorem Q1_J25_W {p_w : GWrite} {r2918 : Bool} {r_ : Bool} (h : Q1_J25 p_w r2918 = some r_) : AWoa_ Tryz.f15 0 [1, 1, 0, 0, 1, 1, 1, 1, 0] [8, 9, 10, 11, 12, 13, 14, 15, 16, 17] (Q1_J25_S p_w r_) ⟨[(3, .ptr 0 0), (7, .lf (.int .i64 p_w.fKind)), (49, .lf (.bool r2918))], [.box 53 (.dat (GWrite.lf1 p_w))]⟩ :=
 seg_T BaseK (Q1_J25_T p_w r2918) (Q1_J25_S p_w) (by kernel_rfl) h
def Q1_J30_T (p_w : GWrite) (r2927 : Bool) : Mo (Bool) :=
 .ite (r2927) (fun c2929 =>
 .say [.gd 14018 true] (ok1 c2929) <|
 .ret ⟨[], [3, 7, 70], [], 1⟩ (true)) fun c2929 =>
 .say [.gd 14018 false] (ok1 c2929) <|
 .ite (p_w.fKind == 7) (fun c2930 =>
 .say [.gd 14021 true] (ok1 c2930) <|
 .ask (Q74 p_w.fIndex.fName) fun r2931 h2932 =>
 .say [.res (.lf (.bool r2931))] (ok1 (Q74_ok _ _ h2932)) <|
 .ret ⟨[], [3, 7, 70], [], 1⟩ (!r2931)) fun c2930 =>
 .say [.gd 14021 false] (ok1 c2930) <|
 .ret ⟨[], [3, 7, 70], [], 1⟩ (false)
def Q1_J30 (p_w : GWrite) (r2927 : Bool) : Option (Bool) := Mo.den (Q1_J30_T p_w r2927)
def Q1_J30_S (p_w : GWrite) (r_ : Bool) : St := ⟨[(3, .ptr 0 0), (7, .lf (.int .i64 p_w.fKind)), (70, .lf (.bool r_))], [.box 53 (.dat (GWrite.lf1 p_w))]⟩
theorem Q1_J30_W {p_w : GWrite} {r2927 : Bool} {r_ : Bool} (h : Q1_J30 p_w r2927 = some r_) : AWoa_ Tryz.f15 0 [1, 1, 0, 0, 1, 1, 1, 1, 0] [18, 19, 20, 21, 22, 23, 24, 25, 26, 27, 28] (Q1_J30_S p_w r_) ⟨[(3, .ptr 0 0), (7, .lf (.int .i64 p_w.fKind)), (59, .lf (.bool r2927))], [.box 53 (.dat (GWrite.lf1 p_w))]⟩ :=
 seg_T BaseK (Q1_J30_T p_w r2927) (Q1_J30_S p_w) (by kernel_rfl) h
def Q1_J35_T (p_w : GWrite) (r2934 : Bool) : Mo (Unit) :=
 .ret ⟨[], [3, 7, 41], [], 1⟩ ()
def Q1_J35 (p_w : GWrite) (r2934 : Bool) : Option (Unit) := Mo.den (Q1_J35_T p_w r2934)
def Q1_J35_S (p_w : GWrite) (r2934 : Bool) (r_ : Unit) : St := ⟨[(3, .ptr 0 0), (7, .lf (.int .i64 p_w.fKind)), (41, .lf (.bool r2934))], [.box 53 (.dat (GWrite.lf1 p_w))]⟩
theorem Q1_J35_W {p_w : GWrite} {r2934 : Bool} {r_ : Unit} (h : Q1_J35 p_w r2934 = some r_) : AWoa_ Tryz.f15 0 [1, 1, 0, 0, 1, 1, 1, 1, 0] [29] (Q1_J35_S p_w r2934 r_) ⟨[(3, .ptr 0 0), (7, .lf (.int .i64 p_w.fKind)), (70, .lf (.bool r2934))], [.box 53 (.dat (GWrite.lf1 p_w))]⟩ :=
 seg_T BaseK (Q1_J35_T p_w r2934) (Q1_J35_S p_w r2934) (by kernel_rfl) h
def Q1_J40_T (p_w : GWrite) : Mo (Bool) :=
 .ite (p_w.fKind == 10) (fun c2971 =>
 .say [.gd 18002 true] (ok1 c2971) <|
 .ret ⟨[], [3, 7, 78], [], 1⟩ (decide ((p_w.fStamp : Int) < 1))) fun c2971 =>
 .say [.gd 18002 false] (ok1 c2971) <|
 .ret ⟨[], [3, 7, 78], [], 1⟩ (false)
def Q1_J40 (p_w : GWrite) : Option (Bool) := Mo.den (Q1_J40_T p_w)
def Q1_J40_S (p_w : GWrite) (r_ : Bool) : St := ⟨[(3, .ptr 0 0), (7, .lf (.int .i64 p_w.fKind)), (78, .lf (.bool r_))], [.box 53 (.dat (GWrite.lf1 p_w))]⟩
theorem Q1_J40_W {p_w : GWrite} {r_ : Bool} (h : Q1_J40 p_w = some r_) : AWoa_ Tryz.f15 0 [1, 1, 0, 0, 1, 1, 1, 1, 1, 1, 0] [0, 1, 2, 3, 4, 5, 6] (Q1_J40_S p_w r_) ⟨[(3, .ptr 0 0), (7, .lf (.int .i64 p_w.fKind))], [.box 53 (.dat (GWrite.lf1 p_w))]⟩ :=
 seg_T BaseK (Q1_J40_T p_w) (Q1_J40_S p_w) (by kernel_rfl) h
def Q1_J45_T (p_w : GWrite) (r2973 : Bool) : Mo (Bool) :=
 .ite (r2973) (fun c2975 =>
 .say [.gd 18007 true] (ok1 c2975) <|
 .ret ⟨[], [3, 7, 83], [], 1⟩ (true)) fun c2975 =>
 .say [.gd 18007 false] (ok1 c2975) <|
 .ret ⟨[], [3, 7, 83], [], 1⟩ (decide ((p_w.fStamp : Int) < 0))
def Q1_J45 (p_w : GWrite) (r2973 : Bool) : Option (Bool) := Mo.den (Q1_J45_T p_w r2973)
def Q1_J45_S (p_w : GWrite) (r_ : Bool) : St := ⟨[(3, .ptr 0 0), (7, .lf (.int .i64 p_w.fKind)), (83, .lf (.bool r_))], [.box 53 (.dat (GWrite.lf1 p_w))]⟩
theorem Q1_J45_W {p_w : GWrite} {r2973 : Bool} {r_ : Bool} (h : Q1_J45 p_w r2973 = some r_) : AWoa_ Tryz.f15 0 [1, 1, 0, 0, 1, 1, 1, 1, 1, 1, 0] [7, 8, 9, 10, 11] (Q1_J45_S p_w r_) ⟨[(3, .ptr 0 0), (7, .lf (.int .i64 p_w.fKind)), (78, .lf (.bool r2973))], [.box 53 (.dat (GWrite.lf1 p_w))]⟩ :=
 seg_T BaseK (Q1_J45_T p_w r2973) (Q1_J45_S p_w) (by kernel_rfl) h
def Q1_J50_T (p_w : GWrite) (r2977 : Bool) : Mo (Bool) :=
 .ite (r2977) (fun c2979 =>
 .say [.gd 18012 true] (ok1 c2979) <|
 .ret ⟨[], [3, 7, 88], [], 1⟩ (true)) fun c2979 =>
 .say [.gd 18012 false] (ok1 c2979) <|
 .ret ⟨[], [3, 7, 88], [], 1⟩ (decide ((1099511627776 : Int) < p_w.fStamp))
def Q1_J50 (p_w : GWrite) (r2977 : Bool) : Option (Bool) := Mo.den (Q1_J50_T p_w r2977)
def Q1_J50_S (p_w : GWrite) (r_ : Bool) : St := ⟨[(3, .ptr 0 0), (7, .lf (.int .i64 p_w.fKind)), (88, .lf (.bool r_))], [.box 53 (.dat (GWrite.lf1 p_w))]⟩
theorem Q1_J50_W {p_w : GWrite} {r2977 : Bool} {r_ : Bool} (h : Q1_J50 p_w r2977 = some r_) : AWoa_ Tryz.f15 0 [1, 1, 0, 0, 1, 1, 1, 1, 1, 1, 0] [12, 13, 14, 15, 16] (Q1_J50_S p_w r_) ⟨[(3, .ptr 0 0), (7, .lf (.int .i64 p_w.fKind)), (83, .lf (.bool r2977))], [.box 53 (.dat (GWrite.lf1 p_w))]⟩ :=
 seg_T BaseK (Q1_J50_T p_w r2977) (Q1_J50_S p_w) (by kernel_rfl) h
def Q1_J55_T (p_w : GWrite) (r2981 : Bool) : Mo (Bool) :=
 .ite (r2981) (fun c2983 =>
 .say [.gd 18017 true] (ok1 c2983) <|
 .ret ⟨[], [3, 7, 98], [], 1⟩ (true)) fun c2983 =>
 .say [.gd 18017 false] (ok1 c2983) <|
 .ite (p_w.fKind == 12) (fun c2984 =>
 .say [.gd 18020 true] (ok1 c2984) <|
 .ask (Q45 p_w.fShards) fun r2985 h2986 =>
 .say [.res (.lf (.bool r2985))] (ok1 (Q45_ok _ _ h2986)) <|
 .ret ⟨[], [3, 7, 98], [], 1⟩ (!r2985)) fun c2984 =>
 .say [.gd 18020 false] (ok1 c2984) <|
 .ret ⟨[], [3, 7, 98], [], 1⟩ (false)
def Q1_J55 (p_w : GWrite) (r2981 : Bool) : Option (Bool) := Mo.den (Q1_J55_T p_w r2981)
def Q1_J55_S (p_w : GWrite) (r_ : Bool) : St := ⟨[(3, .ptr 0 0), (7, .lf (.int .i64 p_w.fKind)), (98, .lf (.bool r_))], [.box 53 (.dat (GWrite.lf1 p_w))]⟩
theorem Q1_J55_W {p_w : GWrite} {r2981 : Bool} {r_ : Bool} (h : Q1_J55 p_w r2981 = some r_) : AWoa_ Tryz.f15 0 [1, 1, 0, 0, 1, 1, 1, 1, 1, 1, 0] [17, 18, 19, 20, 21, 22, 23, 24, 25, 26] (Q1_J55_S p_w r_) ⟨[(3, .ptr 0 0), (7, .lf (.int .i64 p_w.fKind)), (88, .lf (.bool r2981))], [.box 53 (.dat (GWrite.lf1 p_w))]⟩ :=
 seg_T BaseK (Q1_J55_T p_w r2981) (Q1_J55_S p_w) (by kernel_rfl) h
def Q1_J60_T (p_w : GWrite) (r2988 : Bool) : Mo (Unit) :=
 .ret ⟨[], [3, 7, 71], [], 1⟩ ()
def Q1_J60 (p_w : GWrite) (r2988 : Bool) : Option (Unit) := Mo.den (Q1_J60_T p_w r2988)
def Q1_J60_S (p_w : GWrite) (r2988 : Bool) (r_ : Unit) : St := ⟨[(3, .ptr 0 0), (7, .lf (.int .i64 p_w.fKind)), (71, .lf (.bool r2988))], [.box 53 (.dat (GWrite.lf1 p_w))]⟩
theorem Q1_J60_W {p_w : GWrite} {r2988 : Bool} {r_ : Unit} (h : Q1_J60 p_w r2988 = some r_) : AWoa_ Tryz.f15 0 [1, 1, 0, 0, 1, 1, 1, 1, 1, 1, 0] [27] (Q1_J60_S p_w r2988 r_) ⟨[(3, .ptr 0 0), (7, .lf (.int .i64 p_w.fKind)), (98, .lf (.bool r2988))], [.box 53 (.dat (GWrite.lf1 p_w))]⟩ :=
 seg_T BaseK (Q1_J60_T p_w r2988) (Q1_J60_S p_w r2988) (by kernel_rfl) h
def Q1_J65_T (p_w : GWrite) : Mo (Bool) :=
 .ask (Q79 p_w.fKind) fun r3003 h3004 =>
 .say [.res (.lf (.bool r3003))] (ok1 (Q79_ok _ _ h3004)) <|
 .ite (r3003) (fun c3005 =>
 .say [.gd 22002 true] (ok1 c3005) <|
 .ask (Q26 p_w.fKey) fun r3006 h3007 =>
 .say [.res (.lf (.bool r3006))] (ok1 (Q26_ok _ _ h3007)) <|
 .ret ⟨[], [3, 7, 99], [], 1⟩ (!r3006)) fun c3005 =>
 .say [.gd 22002 false] (ok1 c3005) <|
 .ret ⟨[], [3, 7, 99], [], 1⟩ (false)
def Q1_J65 (p_w : GWrite) : Option (Bool) := Mo.den (Q1_J65_T p_w)
def Q1_J65_S (p_w : GWrite) (r_ : Bool) : St := ⟨[(3, .ptr 0 0), (7, .lf (.int .i64 p_w.fKind)), (99, .lf (.bool r_))], [.box 53 (.dat (GWrite.lf1 p_w))]⟩
theorem Q1_J65_W {p_w : GWrite} {r_ : Bool} (h : Q1_J65 p_w = some r_) : AWa_ Tryz.f15 0 [1, 1, 0, 0, 1, 1, 1, 1, 1, 1, 1, 1, 0] (.normal) (Q1_J65_S p_w r_) ⟨[(3, .ptr 0 0), (7, .lf (.int .i64 p_w.fKind))], [.box 53 (.dat (GWrite.lf1 p_w))]⟩ :=
 part_T BaseK (Q1_J65_T p_w) (fun _ => .normal) (Q1_J65_S p_w) (by kernel_rfl) h
def Q1_J70_T (p_w : GWrite) : Mo ((Int) ⊕ Unit) :=
 .ite (p_w.fKind == 2) (fun c3924 =>
 .say [.br true] (ok1 c3924) <|
 .ask (Q67 p_w.fDoc p_w.fKey) fun r3925 h3926 =>
 .say [.res (.lf (.int .i64 r3925))] (ok1 (Q67_ok _ _ _ h3926)) <|
 .ite (r3925 != 0) (fun c3927 =>
 .say [.br true] (ok1 c3927) <|
 .ret ⟨[.kill 0], [6], [], 1⟩ (.inl (r3925))) fun c3927 =>
 .say [.br false] (ok1 c3927) <|
 .ret ⟨[], [3, 7], [], 1⟩ (.inr (()))) fun c3924 =>
 .say [.br false] (ok1 c3924) <|
 .ret ⟨[], [3, 7], [], 1⟩ (.inr (()))
def Q1_J70 (p_w : GWrite) : Option ((Int) ⊕ Unit) := Mo.den (Q1_J70_T p_w)
def Q1_J70_X (r_ : (Int) ⊕ Unit) : Exit := match r_ with
 | .inl o_ => .ret
 | .inr (o_) => .normal
def Q1_J70_S (p_w : GWrite) (r_ : (Int) ⊕ Unit) : St := match r_ with
 | .inl o_ => ⟨[(6, .lf (.int .i64 o_))], [.dead]⟩
 | .inr (o_) => ⟨[(3, .ptr 0 0), (7, .lf (.int .i64 p_w.fKind))], [.box 53 (.dat (GWrite.lf1 p_w))]⟩
theorem Q1_J70_W {p_w : GWrite} {r_ : (Int) ⊕ Unit} (h : Q1_J70 p_w = some r_) : AWa_ Tryz.f15 0 [1, 1, 1, 0, 1] (Q1_J70_X r_) (Q1_J70_S p_w r_) ⟨[(3, .ptr 0 0), (7, .lf (.int .i64 p_w.fKind)), (109, .lf (.bool (p_w.fKind == 2)))], [.box 53 (.dat (GWrite.lf1 p_w))]⟩ :=
 part_T BaseK (Q1_J70_T p_w) Q1_J70_X (Q1_J70_S p_w) (by kernel_rfl) h
def Q1_J75_T (p_w : GWrite) : Mo (Bool) :=
 .ask (Q79 p_w.fKind) fun r3939 h3940 =>
 .say [.res (.lf (.bool r3939))] (ok1 (Q79_ok _ _ h3940)) <|
 .ite (r3939) (fun c3941 =>
 .say [.gd 34002 true] (ok1 c3941) <|
 .ask (Q17 p_w.fBefore) fun r3942 h3943 =>
 .say [.res (.lf (.bool r3942))] (ok1 (Q17_ok _ _ h3943)) <|
 .ret ⟨[], [3, 7, 125], [], 1⟩ (!r3942)) fun c3941 =>
 .say [.gd 34002 false] (ok1 c3941) <|
 .ret ⟨[], [3, 7, 125], [], 1⟩ (false)
def Q1_J75 (p_w : GWrite) : Option (Bool) := Mo.den (Q1_J75_T p_w)
def Q1_J75_S (p_w : GWrite) (r_ : Bool) : St := ⟨[(3, .ptr 0 0), (7, .lf (.int .i64 p_w.fKind)), (125, .lf (.bool r_))], [.box 53 (.dat (GWrite.lf1 p_w))]⟩
theorem Q1_J75_W {p_w : GWrite} {r_ : Bool} (h : Q1_J75 p_w = some r_) : AWa_ Tryz.f15 0 [1, 1, 1, 1, 0, 0] (.normal) (Q1_J75_S p_w r_) ⟨[(3, .ptr 0 0), (7, .lf (.int .i64 p_w.fKind))], [.box 53 (.dat (GWrite.lf1 p_w))]⟩ :=
 part_T BaseK (Q1_J75_T p_w) (fun _ => .normal) (Q1_J75_S p_w) (by kernel_rfl) h
def Q1_J80_T (p_w : GWrite) (r3945 : Bool) : Mo ((Int) ⊕ Unit) :=
 .ite (r3945) (fun c3953 =>
 .say [.br true] (ok1 c3953) <|
 .ask (Q67 p_w.fBefore p_w.fKey) fun r3954 h3955 =>
 .say [.res (.lf (.int .i64 r3954))] (ok1 (Q67_ok _ _ _ h3955)) <|
 .ite (r3954 != 0) (fun c3956 =>
 .say [.br true] (ok1 c3956) <|
 .ret ⟨[.kill 0], [6], [], 1⟩ (.inl (r3954))) fun c3956 =>
 .say [.br false] (ok1 c3956) <|
 .ret ⟨[], [3, 7], [], 1⟩ (.inr (()))) fun c3953 =>
 .say [.br false] (ok1 c3953) <|
 .ret ⟨[], [3, 7], [], 1⟩ (.inr (()))
def Q1_J80 (p_w : GWrite) (r3945 : Bool) : Option ((Int) ⊕ Unit) := Mo.den (Q1_J80_T p_w r3945)
def Q1_J80_X (r_ : (Int) ⊕ Unit) : Exit := match r_ with
 | .inl o_ => .ret
 | .inr (o_) => .normal
def Q1_J80_S (p_w : GWrite) (r_ : (Int) ⊕ Unit) : St := match r_ with
 | .inl o_ => ⟨[(6, .lf (.int .i64 o_))], [.dead]⟩
 | .inr (o_) => ⟨[(3, .ptr 0 0), (7, .lf (.int .i64 p_w.fKind))], [.box 53 (.dat (GWrite.lf1 p_w))]⟩
theorem Q1_J80_W {p_w : GWrite} {r3945 : Bool} {r_ : (Int) ⊕ Unit} (h : Q1_J80 p_w r3945 = some r_) : AWa_ Tryz.f15 0 [1, 1, 1, 1, 0, 1] (Q1_J80_X r_) (Q1_J80_S p_w r_) ⟨[(3, .ptr 0 0), (7, .lf (.int .i64 p_w.fKind)), (125, .lf (.bool r3945))], [.box 53 (.dat (GWrite.lf1 p_w))]⟩ :=
 part_T BaseK (Q1_J80_T p_w r3945) Q1_J80_X (Q1_J80_S p_w) (by kernel_rfl) h
def Q1_T (p_w : GWrite) (p_lo : Int) (p_hi : Int) : Mo (Int) :=
 .ask (Q1_J0 p_hi p_lo p_w) fun r2774 h2775 =>
 .say [.sg_ 2 8 [1, 2, 3, 7] 1 (Q1_J0_S p_w r2774)] (ok1 (Q1_J0_W h2775)) <|
 .ask (Q1_J5 p_w r2774) fun r2780 h2781 =>
 .say [.sg_ 2 5 [3, 7, 20] 1 (Q1_J5_S p_w r2780)] (ok1 (Q1_J5_W h2781)) <|
 .ask (Q1_J10 p_w r2780) fun r2787 h2788 =>
 .say [.sg_ 2 10 [3, 7, 25] 1 (Q1_J10_S p_w r2787)] (ok1 (Q1_J10_W h2788)) <|
 .ask (Q1_J15 p_w r2787) fun r2789 h2790 =>
 .say [.sg_ 2 1 [3, 7, 35] 1 (Q1_J15_S p_w r2787 r2789)] (ok1 (Q1_J15_W h2790)) <|
 .ite (r2787) (fun c2851 =>
 .say [.br true] (ok1 c2851) <|
 .ret (fitN 1) (11)) fun c2851 =>
 .say [.br false, .num p_w.fWrites.length] (okc c2851 (okc (by simp : p_w.fWrites.length = (p_w.fWrites.map GWrite.lf).length) ok0)) <|
 .ite (decide ((256 : Int) < (p_w.fWrites.length : Int))) (fun c2911 =>
 .say [.br true] (ok1 c2911) <|
 .ret (fitN 1) (2)) fun c2911 =>
 .say [.br false] (ok1 c2911) <|
 .ask (Q1_J20 p_w) fun r2918 h2919 =>
 .say [.sg_ 6 8 [3, 7] 1 (Q1_J20_S p_w r2918)] (ok1 (Q1_J20_W h2919)) <|
 .ask (Q1_J25 p_w r2918) fun r2927 h2928 =>
 .say [.sg_ 6 10 [3, 7, 49] 1 (Q1_J25_S p_w r2927)] (ok1 (Q1_J25_W h2928)) <|
 .ask (Q1_J30 p_w r2927) fun r2934 h2935 =>
 .say [.sg_ 6 11 [3, 7, 59] 1 (Q1_J30_S p_w r2934)] (ok1 (Q1_J30_W h2935)) <|
 .ask (Q1_J35 p_w r2934) fun r2936 h2937 =>
 .say [.sg_ 6 1 [3, 7, 70] 1 (Q1_J35_S p_w r2934 r2936)] (ok1 (Q1_J35_W h2937)) <|
 .ite (r2934) (fun c2970 =>
 .say [.br true] (ok1 c2970) <|
 .ret (fitN 1) (9)) fun c2970 =>
 .say [.br false] (ok1 c2970) <|
 .ask (Q1_J40 p_w) fun r2973 h2974 =>
 .say [.sg_ 8 7 [3, 7] 1 (Q1_J40_S p_w r2973)] (ok1 (Q1_J40_W h2974)) <|
 .ask (Q1_J45 p_w r2973) fun r2977 h2978 =>
 .say [.sg_ 8 5 [3, 7, 78] 1 (Q1_J45_S p_w r2977)] (ok1 (Q1_J45_W h2978)) <|
 .ask (Q1_J50 p_w r2977) fun r2981 h2982 =>
 .say [.sg_ 8 5 [3, 7, 83] 1 (Q1_J50_S p_w r2981)] (ok1 (Q1_J50_W h2982)) <|
 .ask (Q1_J55 p_w r2981) fun r2988 h2989 =>
 .say [.sg_ 8 10 [3, 7, 88] 1 (Q1_J55_S p_w r2988)] (ok1 (Q1_J55_W h2989)) <|
 .ask (Q1_J60 p_w r2988) fun r2990 h2991 =>
 .say [.sg_ 8 1 [3, 7, 98] 1 (Q1_J60_S p_w r2988 r2990)] (ok1 (Q1_J60_W h2991)) <|
 .ite (r2988) (fun c3002 =>
 .say [.br true] (ok1 c3002) <|
 .ret (fitN 1) (1)) fun c3002 =>
 .say [.br false] (ok1 c3002) <|
 .ask (Q1_J65 p_w) fun r3009 h3010 =>
 .say [.pt_ 27 [3, 7] 1 (.normal) (Q1_J65_S p_w r3009)] (ok1 (Q1_J65_W h3010)) <|
 .ite (r3009) (fun c3012 =>
 .say [.br true] (ok1 c3012) <|
 .ret (fitN 1) (8)) fun c3012 =>
 .say [.br false] (ok1 c3012) <|
 .ask2 (Q1_J70 p_w) (fun o3932 h3931 =>
 .say [.pt_ 1 [3, 7, 109] 1 (Q1_J70_X (.inl o3932)) (Q1_J70_S p_w (.inl o3932))] (ok1 (Q1_J70_W h3931)) <|
 .ret (fitN 1) (o3932)) fun o3933 h3931 =>
 .say [.pt_ 1 [3, 7, 109] 1 (Q1_J70_X (.inr (o3933))) (Q1_J70_S p_w (.inr (o3933)))] (ok1 (Q1_J70_W h3931)) <|
 .ask (Q1_J75 p_w) fun r3945 h3946 =>
 .say [.pt_ 39 [3, 7] 1 (.normal) (Q1_J75_S p_w r3945)] (ok1 (Q1_J75_W h3946)) <|
 .ask2 (Q1_J80 p_w r3945) (fun o3961 h3960 =>
 .say [.pt_ 1 [3, 7, 125] 1 (Q1_J80_X (.inl o3961)) (Q1_J80_S p_w (.inl o3961))] (ok1 (Q1_J80_W h3960)) <|
 .ret (fitN 1) (o3961)) fun o3962 h3960 =>
 .say [.pt_ 1 [3, 7, 125] 1 (Q1_J80_X (.inr (o3962))) (Q1_J80_S p_w (.inr (o3962)))] (ok1 (Q1_J80_W h3960)) <|
 .ite (p_w.fKind == 4) (fun c6592 =>
 .say [.br true] (ok1 c6592) <|
 .ask (Q34 p_w.fDef) fun r6595 h6596 =>
 .say [.res (.lf (.int .i64 r6595))] (ok1 (Q34_ok _ _ h6596)) <|
 .ret (fitN 1) (r6595)) fun c6592 =>
 .say [.br false] (ok1 c6592) <|
 .ite (p_w.fKind == 6) (fun c6600 =>
 .say [.br true] (ok1 c6600) <|
 .ask (Q54 p_w.fIndex) fun r6603 h6604 =>
 .say [.res (.lf (.int .i64 r6603))] (ok1 (Q54_ok _ _ h6604)) <|
 .ret (fitN 1) (r6603)) fun c6600 =>
 .say [.br false] (ok1 c6600) <|
 .ret (fitN 1) (0)
def Q1 (p_w : GWrite) (p_lo : Int) (p_hi : Int) : Option (Int) := Mo.den (Q1_T p_w p_lo p_hi)
theorem Q1_ok (p_w : GWrite) (p_lo : Int) (p_hi : Int) (r : Int) (h : Q1 p_w p_lo p_hi = some r) : Fn Tryz.prog GI 15 [.dat (GWrite.lf1 p_w), .lf (.int .i64 p_lo), .lf (.int .i64 p_hi)] (.lf (.int .i64 r)) :=
 fn_T BaseK Tryz.func15 (by kernel_rfl) (by kernel_rfl) (by kernel_rfl) (Q1_T p_w p_lo p_hi) (fun r => [.lf (.int .i64 r)]) (by kernel_rfl) h
def Q16_J0_T (p_e : GEntry) : Mo (Bool) :=
 .ite (decide ((p_e.fStamp : Int) < 1)) (fun c234 =>
 .say [.gd 8003 true] (ok1 c234) <|
 .ret ⟨[], [1, 19], [], 1⟩ (true)) fun c234 =>
 .say [.gd 8003 false] (ok1 c234) <|
 .ret ⟨[], [1, 19], [], 1⟩ (decide ((1099511627776 : Int) < p_e.fStamp))
def Q16_J0 (p_e : GEntry) : Option (Bool) := Mo.den (Q16_J0_T p_e)
def Q16_J0_S (p_e : GEntry) (r_ : Bool) : St := ⟨[(1, .ptr 0 0), (19, .lf (.bool r_))], [.box 55 (.dat (GEntry.lf1 p_e))]⟩
theorem Q16_J0_W {p_e : GEntry} {r_ : Bool} (h : Q16_J0 p_e = some r_) : AWoa_ Tryz.f5 0 [1, 0, 0, 1, 1, 0] [0, 1, 2, 3, 4, 5, 6, 7] (Q16_J0_S p_e r_) ⟨[(1, .ptr 0 0)], [.box 55 (.dat (GEntry.lf1 p_e))]⟩ :=
 seg_T BaseK (Q16_J0_T p_e) (Q16_J0_S p_e) (by kernel_rfl) h
def Q16_J5_T (p_e : GEntry) (r236 : Bool) : Mo (Bool) :=
 .ite (r236) (fun c238 =>
 .say [.gd 8008 true] (ok1 c238) <|
 .ret ⟨[], [1, 24], [], 1⟩ (true)) fun c238 =>
 .say [.gd 8008 false] (ok1 c238) <|
 .ret ⟨[], [1, 24], [], 1⟩ (decide ((p_e.fNumber : Int) < 0))
def Q16_J5 (p_e : GEntry) (r236 : Bool) : Option (Bool) := Mo.den (Q16_J5_T p_e r236)
def Q16_J5_S (p_e : GEntry) (r_ : Bool) : St := ⟨[(1, .ptr 0 0), (24, .lf (.bool r_))], [.box 55 (.dat (GEntry.lf1 p_e))]⟩
theorem Q16_J5_W {p_e : GEntry} {r236 : Bool} {r_ : Bool} (h : Q16_J5 p_e r236 = some r_) : AWoa_ Tryz.f5 0 [1, 0, 0, 1, 1, 0] [8, 9, 10, 11, 12] (Q16_J5_S p_e r_) ⟨[(1, .ptr 0 0), (19, .lf (.bool r236))], [.box 55 (.dat (GEntry.lf1 p_e))]⟩ :=
 seg_T BaseK (Q16_J5_T p_e r236) (Q16_J5_S p_e) (by kernel_rfl) h
def Q16_J10_T (p_e : GEntry) (r240 : Bool) : Mo (Unit) :=
 .ret ⟨[], [1, 11], [], 1⟩ ()
def Q16_J10 (p_e : GEntry) (r240 : Bool) : Option (Unit) := Mo.den (Q16_J10_T p_e r240)
def Q16_J10_S (p_e : GEntry) (r240 : Bool) (r_ : Unit) : St := ⟨[(1, .ptr 0 0), (11, .lf (.bool r240))], [.box 55 (.dat (GEntry.lf1 p_e))]⟩
theorem Q16_J10_W {p_e : GEntry} {r240 : Bool} {r_ : Unit} (h : Q16_J10 p_e r240 = some r_) : AWoa_ Tryz.f5 0 [1, 0, 0, 1, 1, 0] [13] (Q16_J10_S p_e r240 r_) ⟨[(1, .ptr 0 0), (24, .lf (.bool r240))], [.box 55 (.dat (GEntry.lf1 p_e))]⟩ :=
 seg_T BaseK (Q16_J10_T p_e r240) (Q16_J10_S p_e r240) (by kernel_rfl) h
def Q16_J15_T (p_e : GEntry) : Mo (Bool) :=
 .ite (!decide ((p_e.fSession : ByteArray) = (⟨#[]⟩ : ByteArray))) (fun c253 =>
 .say [.gd 12003 true] (ok1 c253) <|
 .ask (Q74 p_e.fSession) fun r254 h255 =>
 .say [.res (.lf (.bool r254))] (ok1 (Q74_ok _ _ h255)) <|
 .ret ⟨[], [1, 25], [], 1⟩ (!r254)) fun c253 =>
 .say [.gd 12003 false] (ok1 c253) <|
 .ret ⟨[], [1, 25], [], 1⟩ (false)
def Q16_J15 (p_e : GEntry) : Option (Bool) := Mo.den (Q16_J15_T p_e)
def Q16_J15_S (p_e : GEntry) (r_ : Bool) : St := ⟨[(1, .ptr 0 0), (25, .lf (.bool r_))], [.box 55 (.dat (GEntry.lf1 p_e))]⟩
theorem Q16_J15_W {p_e : GEntry} {r_ : Bool} (h : Q16_J15 p_e = some r_) : AWa_ Tryz.f5 0 [1, 0, 0, 1, 1, 1, 1, 0] (.normal) (Q16_J15_S p_e r_) ⟨[(1, .ptr 0 0)], [.box 55 (.dat (GEntry.lf1 p_e))]⟩ :=
 part_T BaseK (Q16_J15_T p_e) (fun _ => .normal) (Q16_J15_S p_e) (by kernel_rfl) h
def Q16_J20_T (p_e : GEntry) : Mo (Int) :=
 .ite (p_e.fWrite.fKind == 9) (fun c6612 =>
 .say [.br true] (ok1 c6612) <|
 .ret ⟨[], [1, 4], [], 1⟩ (3)) fun c6612 =>
 .say [.br false] (ok1 c6612) <|
 .ret ⟨[], [1, 4], [], 1⟩ (7)
def Q16_J20 (p_e : GEntry) : Option (Int) := Mo.den (Q16_J20_T p_e)
def Q16_J20_S (p_e : GEntry) (r_ : Int) : St := ⟨[(1, .ptr 0 0), (4, .lf (.int .i64 r_))], [.box 55 (.dat (GEntry.lf1 p_e))]⟩
theorem Q16_J20_W {p_e : GEntry} {r_ : Int} (h : Q16_J20 p_e = some r_) : AWa_ Tryz.f5 0 [1, 1, 1, 1, 0, 1] (.normal) (Q16_J20_S p_e r_) ⟨[(1, .ptr 0 0), (4, .lf (.int .i64 7)), (44, .lf (.bool (p_e.fWrite.fKind == 9)))], [.box 55 (.dat (GEntry.lf1 p_e))]⟩ :=
 part_T BaseK (Q16_J20_T p_e) (fun _ => .normal) (Q16_J20_S p_e) (by kernel_rfl) h
def Q16_L25_T (p_e : GEntry) (r6614 : Int) : (Int) → Mo ((Int) ⊕ (Int) ⊕ Unit) := fun (v6652) =>
 .say [.num p_e.fWrite.fWrites.length] (okc (by simp : p_e.fWrite.fWrites.length = (p_e.fWrite.fWrites.map GWrite.lf).length) ok0) <|
 .ite (decide ((v6652 : Int) < (p_e.fWrite.fWrites.length : Int))) (fun c6653 =>
 .say [.br true] (ok1 c6653) <|
 .ask (gidx p_e.fWrite.fWrites v6652) fun x6654 h6655 =>
 .say [.row (GWrite.lf1 x6654)] (okc (gidx_ok GWrite.lf_eq h6655 : (0 : Int) ≤ v6652 ∧ (p_e.fWrite.fWrites.map GWrite.lf)[v6652.toNat]? = some (GWrite.lf1 x6654)) ok0) <|
 .ask (Q1 x6654 2 r6614) fun r6656 h6657 =>
 .say [.res (.lf (.int .i64 r6656))] (ok1 (Q1_ok _ _ _ _ h6657)) <|
 .ite (r6656 != 0) (fun c6658 =>
 .say [.br true] (ok1 c6658) <|
 .ret ⟨[.kill 0], [2], [], 1⟩ (.inr (.inl (r6656)))) fun c6658 =>
 .say [.br false] (ok1 c6658) <|
 .ret ⟨[], [1, 4, 5], [], 1⟩ (.inl (IntKind.wrap .i64 (v6652 + 1)))) fun c6653 =>
 .say [.br false] (ok1 c6653) <|
 .ret ⟨[.kill 0], [], [], 1⟩ (.inr (.inr (())))
def Q16_L25 (p_e : GEntry) (r6614 : Int) (v6652 : Int) : Option ((Int) ⊕ Unit) := loopM (fun v_ => (Q16_L25_T p_e r6614 v_).den) FU (v6652)
def Q16_L25_H (p_e : GEntry) (r6614 : Int) : (Int) → St := fun (v6652) => ⟨[(1, .ptr 0 0), (4, .lf (.int .i64 r6614)), (5, .lf (.int .i64 v6652))], [.box 55 (.dat (GEntry.lf1 p_e))]⟩
def Q16_L25_X (r_ : (Int) ⊕ Unit) : Exit := match r_ with
 | .inl o_ => .ret
 | .inr (o_) => .exit 1
def Q16_L25_S  (r_ : (Int) ⊕ Unit) : St := match r_ with
 | .inl o_ => ⟨[(2, .lf (.int .i64 o_))], [.dead]⟩
 | .inr (o_) => ⟨[], [.dead]⟩
theorem Q16_L25_W {p_e : GEntry} {r6614 : Int} {v6652 : Int} {r_ : (Int) ⊕ Unit} (h : Q16_L25 p_e r6614 v6652 = some r_) : AWa_ Tryz.f5 0 [1, 1, 1, 1, 1, 0, 1, 0] (Q16_L25_X r_) (Q16_L25_S r_) (Q16_L25_H p_e r6614 (v6652)) :=
 loop_T BaseK (body := (Code.sub (bodyC Tryz.f5) [1, 1, 1, 1, 1, 0, 1, 0, 0])) (by kernel_rfl) (Q16_L25_T p_e r6614) (Q16_L25_H p_e r6614) Q16_L25_X Q16_L25_S (fun r_ => by rcases r_ with _ | _ <;> rfl) (fun v_ => by kernel_rfl) h
def Q16_T (p_e : GEntry) : Mo (Int) :=
 .ite (decide ((p_e.fTerm : Int) < 0)) (fun c233 =>
 .say [.br true] (ok1 c233) <|
 .ret (fitN 1) (24)) fun c233 =>
 .say [.br false] (ok1 c233) <|
 .ask (Q16_J0 p_e) fun r236 h237 =>
 .say [.sg_ 3 8 [1] 1 (Q16_J0_S p_e r236)] (ok1 (Q16_J0_W h237)) <|
 .ask (Q16_J5 p_e r236) fun r240 h241 =>
 .say [.sg_ 3 5 [1, 19] 1 (Q16_J5_S p_e r240)] (ok1 (Q16_J5_W h241)) <|
 .ask (Q16_J10 p_e r240) fun r242 h243 =>
 .say [.sg_ 3 1 [1, 24] 1 (Q16_J10_S p_e r240 r242)] (ok1 (Q16_J10_W h243)) <|
 .ite (r240) (fun c252 =>
 .say [.br true] (ok1 c252) <|
 .ret (fitN 1) (1)) fun c252 =>
 .say [.br false] (ok1 c252) <|
 .ask (Q16_J15 p_e) fun r257 h258 =>
 .say [.pt_ 17 [1] 1 (.normal) (Q16_J15_S p_e r257)] (ok1 (Q16_J15_W h258)) <|
 .ite (r257) (fun c260 =>
 .say [.br true] (ok1 c260) <|
 .ret (fitN 1) (9)) fun c260 =>
 .say [.br false] (ok1 c260) <|
 .ask (Q1 p_e.fWrite 1 12) fun r6607 h6608 =>
 .say [.res (.lf (.int .i64 r6607))] (ok1 (Q1_ok _ _ _ _ h6608)) <|
 .ite (r6607 != 0) (fun c6610 =>
 .say [.br true] (ok1 c6610) <|
 .ret (fitN 1) (r6607)) fun c6610 =>
 .say [.br false] (ok1 c6610) <|
 .ask (Q16_J20 p_e) fun r6614 h6615 =>
 .say [.pt_ 1 [1, 4, 44] 1 (.normal) (Q16_J20_S p_e r6614)] (ok1 (Q16_J20_W h6615)) <|
 .ask2 (Q16_L25 p_e r6614 0) (fun o6663 h6662 =>
 .say [.pt_ 0 [1, 4, 5] 1 (Q16_L25_X (.inl o6663)) (Q16_L25_S (.inl o6663))] (ok1 (Q16_L25_W h6662)) <|
 .ret (fitN 1) (o6663)) fun o6664 h6662 =>
 .say [.pt_ 0 [1, 4, 5] 1 (Q16_L25_X (.inr (o6664))) (Q16_L25_S (.inr (o6664)))] (ok1 (Q16_L25_W h6662)) <|
 .ret (fitN 1) (0)
def Q16 (p_e : GEntry) : Option (Int) := Mo.den (Q16_T p_e)
theorem Q16_ok (p_e : GEntry) (r : Int) (h : Q16 p_e = some r) : Fn Tryz.prog GI 5 [.dat (GEntry.lf1 p_e)] (.lf (.int .i64 r)) :=
 fn_T BaseK Tryz.func5 (by kernel_rfl) (by kernel_rfl) (by kernel_rfl) (Q16_T p_e) (fun r => [.lf (.int .i64 r)]) (by kernel_rfl) h
def Q49_J0_T (p_id : ByteArray) (p_shards : List Int) (v6753 : Int) (x6755 : Int) : Mo (Bool) :=
 .ite (decide ((x6755 : Int) < 0)) (fun c6757 =>
 .say [.gd 18002 true] (ok1 c6757) <|
 .ret ⟨[], [0, 1, 4, 6, 7, 18, 19, 20, 30], [], 1⟩ (true)) fun c6757 =>
 .say [.gd 18002 false] (ok1 c6757) <|
 .ret ⟨[], [0, 1, 4, 6, 7, 18, 19, 20, 30], [], 1⟩ (decide ((8 : Int) ≤ x6755))
def Q49_J0 (p_id : ByteArray) (p_shards : List Int) (v6753 : Int) (x6755 : Int) : Option (Bool) := Mo.den (Q49_J0_T p_id p_shards v6753 x6755)
def Q49_J0_S (p_id : ByteArray) (p_shards : List Int) (v6753 : Int) (x6755 : Int) (r_ : Bool) : St := ⟨[(0, .lf (.str p_id)), (1, .lf (.rows 1 (p_shards.map lfI))), (4, .ptr 0 0), (6, .lf (.int .i64 v6753)), (7, .lf (.int .i64 x6755)), (18, .lf (.rows 1 (p_shards.map lfI))), (19, .lf (.int .i64 (p_shards.length : Int))), (20, .lf (.int .i64 v6753)), (30, .lf (.bool r_))], [.box 61 (Z61)]⟩
theorem Q49_J0_W {p_id : ByteArray} {p_shards : List Int} {v6753 : Int} {x6755 : Int} {r_ : Bool} (h : Q49_J0 p_id p_shards v6753 x6755 = some r_) : AWoa_ Tryz.f9 0 [1, 1, 1, 0, 1, 0, 0, 1, 1, 0, 0, 1, 0] [0, 1, 2, 3, 4, 5] (Q49_J0_S p_id p_shards v6753 x6755 r_) ⟨[(0, .lf (.str p_id)), (1, .lf (.rows 1 (p_shards.map lfI))), (4, .ptr 0 0), (6, .lf (.int .i64 v6753)), (7, .lf (.int .i64 x6755)), (18, .lf (.rows 1 (p_shards.map lfI))), (19, .lf (.int .i64 (p_shards.length : Int))), (20, .lf (.int .i64 v6753))], [.box 61 (Z61)]⟩ :=
 seg_T BaseK (Q49_J0_T p_id p_shards v6753 x6755) (Q49_J0_S p_id p_shards v6753 x6755) (by kernel_rfl) h
def Q49_J5_T (p_id : ByteArray) (p_shards : List Int) (r6759 : Bool) (v6753 : Int) (x6755 : Int) : Mo (Bool) :=
 .ite (r6759) (fun c6761 =>
 .say [.gd 18006 true] (ok1 c6761) <|
 .ret ⟨[], [0, 1, 4, 18, 19, 20, 43], [], 1⟩ (true)) fun c6761 =>
 .say [.gd 18006 false] (ok1 c6761) <|
 .ite (decide ((0 : Int) < v6753)) (fun c6762 =>
 .say [.gd 18009 true] (ok1 c6762) <|
 .ask (gidx p_shards (IntKind.wrap .i64 (v6753 - 1))) fun x6763 h6764 =>
 .say [.row (lfI x6763)] (okc (gidx_ok (fun _ => rfl) h6764 : (0 : Int) ≤ (IntKind.wrap .i64 (v6753 - 1)) ∧ (p_shards.map lfI)[(IntKind.wrap .i64 (v6753 - 1)).toNat]? = some (lfI x6763)) ok0) <|
 .ret ⟨[], [0, 1, 4, 18, 19, 20, 43], [], 1⟩ (decide ((x6755 : Int) ≤ x6763))) fun c6762 =>
 .say [.gd 18009 false] (ok1 c6762) <|
 .ret ⟨[], [0, 1, 4, 18, 19, 20, 43], [], 1⟩ (false)
def Q49_J5 (p_id : ByteArray) (p_shards : List Int) (r6759 : Bool) (v6753 : Int) (x6755 : Int) : Option (Bool) := Mo.den (Q49_J5_T p_id p_shards r6759 v6753 x6755)
def Q49_J5_S (p_id : ByteArray) (p_shards : List Int) (v6753 : Int) (r_ : Bool) : St := ⟨[(0, .lf (.str p_id)), (1, .lf (.rows 1 (p_shards.map lfI))), (4, .ptr 0 0), (18, .lf (.rows 1 (p_shards.map lfI))), (19, .lf (.int .i64 (p_shards.length : Int))), (20, .lf (.int .i64 v6753)), (43, .lf (.bool r_))], [.box 61 (Z61)]⟩
theorem Q49_J5_W {p_id : ByteArray} {p_shards : List Int} {r6759 : Bool} {v6753 : Int} {x6755 : Int} {r_ : Bool} (h : Q49_J5 p_id p_shards r6759 v6753 x6755 = some r_) : AWoa_ Tryz.f9 0 [1, 1, 1, 0, 1, 0, 0, 1, 1, 0, 0, 1, 0] [6, 7, 8, 9, 10, 11, 12, 13, 14, 15, 16, 17, 18] (Q49_J5_S p_id p_shards v6753 r_) ⟨[(0, .lf (.str p_id)), (1, .lf (.rows 1 (p_shards.map lfI))), (4, .ptr 0 0), (6, .lf (.int .i64 v6753)), (7, .lf (.int .i64 x6755)), (18, .lf (.rows 1 (p_shards.map lfI))), (19, .lf (.int .i64 (p_shards.length : Int))), (20, .lf (.int .i64 v6753)), (30, .lf (.bool r6759))], [.box 61 (Z61)]⟩ :=
 seg_T BaseK (Q49_J5_T p_id p_shards r6759 v6753 x6755) (Q49_J5_S p_id p_shards v6753) (by kernel_rfl) h
def Q49_L10_T (p_id : ByteArray) (p_shards : List Int) : (Int) → Mo ((Int) ⊕ (Unit ⊕ Unit)) := fun (v6753) =>
 .ite (decide ((v6753 : Int) < (p_shards.length : Int))) (fun c6754 =>
 .say [.br true] (ok1 c6754) <|
 .ask (gidx p_shards v6753) fun x6755 h6756 =>
 .say [.row (lfI x6755)] (okc (gidx_ok (fun _ => rfl) h6756 : (0 : Int) ≤ v6753 ∧ (p_shards.map lfI)[v6753.toNat]? = some (lfI x6755)) ok0) <|
 .ask (Q49_J0 p_id p_shards v6753 x6755) fun r6759 h6760 =>
 .say [.sg_ 8 6 [0, 1, 4, 6, 7, 18, 19, 20] 1 (Q49_J0_S p_id p_shards v6753 x6755 r6759)] (ok1 (Q49_J0_W h6760)) <|
 .ask (Q49_J5 p_id p_shards r6759 v6753 x6755) fun r6766 h6767 =>
 .say [.sg_ 8 13 [0, 1, 4, 6, 7, 18, 19, 20, 30] 1 (Q49_J5_S p_id p_shards v6753 r6766)] (ok1 (Q49_J5_W h6767)) <|
 .ite (r6766) (fun c6768 =>
 .say [.br true] (ok1 c6768) <|
 .ret ⟨[], [4, 5], [], 1⟩ (.inr (.inl ()))) fun c6768 =>
 .say [.br false] (ok1 c6768) <|
 .ret ⟨[], [0, 1, 4, 18, 19, 20], [], 1⟩ (.inl (IntKind.wrap .i64 (v6753 + 1)))) fun c6754 =>
 .say [.br false] (ok1 c6754) <|
 .ret ⟨[], [0, 1, 4], [], 1⟩ (.inr (.inr (())))
def Q49_L10 (p_id : ByteArray) (p_shards : List Int) (v6753 : Int) : Option (Unit ⊕ Unit) := loopM (fun v_ => (Q49_L10_T p_id p_shards v_).den) FU (v6753)
def Q49_L10_H (p_id : ByteArray) (p_shards : List Int) : (Int) → St := fun (v6753) => ⟨[(0, .lf (.str p_id)), (1, .lf (.rows 1 (p_shards.map lfI))), (4, .ptr 0 0), (18, .lf (.rows 1 (p_shards.map lfI))), (19, .lf (.int .i64 (p_shards.length : Int))), (20, .lf (.int .i64 v6753))], [.box 61 (Z61)]⟩
def Q49_L10_X (r_ : Unit ⊕ Unit) : Exit := match r_ with
 | .inl o_ => .ret
 | .inr (o_) => .exit 0
def Q49_L10_S (p_id : ByteArray) (p_shards : List Int) (r_ : Unit ⊕ Unit) : St := match r_ with
 | .inl o_ => ⟨[(4, .ptr 0 0), (5, .lf (.int .i64 1))], [.box 61 (Z61)]⟩
 | .inr (o_) => ⟨[(0, .lf (.str p_id)), (1, .lf (.rows 1 (p_shards.map lfI))), (4, .ptr 0 0)], [.box 61 (Z61)]⟩
theorem Q49_L10_W {p_id : ByteArray} {p_shards : List Int} {v6753 : Int} {r_ : Unit ⊕ Unit} (h : Q49_L10 p_id p_shards v6753 = some r_) : AWa_ Tryz.f9 0 [1, 1, 1, 0, 1, 0] (Q49_L10_X r_) (Q49_L10_S p_id p_shards r_) (Q49_L10_H p_id p_shards (v6753)) :=
 loop_T BaseK (body := (Code.sub (bodyC Tryz.f9) [1, 1, 1, 0, 1, 0, 0])) (by kernel_rfl) (Q49_L10_T p_id p_shards) (Q49_L10_H p_id p_shards) Q49_L10_X (Q49_L10_S p_id p_shards) (fun r_ => by rcases r_ with _ | _ <;> rfl) (fun v_ => by kernel_rfl) h
def Q49_T (p_id : ByteArray) (p_shards : List Int) : Mo (GDecision × Int) :=
 .ask (Q103 p_id) fun r6668 h6669 =>
 .say [.res (.lf (.bool r6668))] (ok1 (Q103_ok _ _ h6669)) <|
 .ite (!r6668) (fun c6671 =>
 .say [.br true] (ok1 c6671) <|
 .ret (fitN 2) (GDecision.z, 9)) fun c6671 =>
 .say [.br false, .num p_shards.length] (okc c6671 (okc (by simp : p_shards.length = (p_shards.map lfI).length) ok0)) <|
 .ite ((p_shards.length : Int) == 0) (fun c6673 =>
 .say [.br true] (ok1 c6673) <|
 .ret (fitN 2) (GDecision.z, 1)) fun c6673 =>
 .say [.br false, .num p_shards.length] (okc c6673 (okc (by simp : p_shards.length = (p_shards.map lfI).length) ok0)) <|
 .ask2 (Q49_L10 p_id p_shards 0) (fun o6771 h6770 =>
 .say [.pt_ 0 [0, 1, 4, 18, 19, 20] 1 (Q49_L10_X (.inl o6771)) (Q49_L10_S p_id p_shards (.inl o6771))] (ok1 (Q49_L10_W h6770)) <|
 .ret (fitN 2) (GDecision.z, 1)) fun o6772 h6770 =>
 .say [.pt_ 0 [0, 1, 4, 18, 19, 20] 1 (Q49_L10_X (.inr (o6772))) (Q49_L10_S p_id p_shards (.inr (o6772))), .num p_shards.length] (okc (Q49_L10_W h6770) (okc (by simp : p_shards.length = (p_shards.map lfI).length) ok0)) <|
 .ask (Q73 p_shards) fun r6775 h6776 =>
 .say [.resH [] (.own 0) [.row 3 1 (r6775.map lfI)], .rows ((List.replicate (p_shards.length : Int).toNat 0).map lfI), .rows ((List.replicate (p_shards.length : Int).toNat false).map lfB), .at_ 0 0, .frz 1, .frz 3, .frz 4] (okc (Q73_ok _ _ h6776) (okc (by simp [lfI, lfK] : (List.replicate (p_shards.length : Int).toNat 0).map lfI = List.replicate (p_shards.length : Int).toNat (lfI 0)) ok0)) <|
 .grd ((0 : Int) ≤ (p_shards.length : Int) ∧ 8 * (p_shards.length : Int).toNat ≤ 281474976710656 ∧ (p_shards.length : Int).toNat ≤ maxLen) fun h6778 =>
 .say [] (okc (⟨rfl, h6778⟩ : ((p_shards.length : Int) : Int) = (p_shards.length : Int) ∧ (0 : Int) ≤ (p_shards.length : Int) ∧ 8 * (p_shards.length : Int).toNat ≤ 281474976710656 ∧ (p_shards.length : Int).toNat ≤ maxLen) (okc (by simp [lfB] : (List.replicate (p_shards.length : Int).toNat false).map lfB = List.replicate (p_shards.length : Int).toNat (lfB false)) ok0)) <|
 .grd ((0 : Int) ≤ (p_shards.length : Int) ∧ 1 * (p_shards.length : Int).toNat ≤ 281474976710656 ∧ (p_shards.length : Int).toNat ≤ maxLen) fun h6780 =>
 .say [] (okc (⟨rfl, h6780⟩ : ((p_shards.length : Int) : Int) = (p_shards.length : Int) ∧ (0 : Int) ≤ (p_shards.length : Int) ∧ 1 * (p_shards.length : Int).toNat ≤ 281474976710656 ∧ (p_shards.length : Int).toNat ≤ maxLen) ok0) <|
 .ret (fitN 2) (GDecision.mk p_id r6775 (List.replicate (p_shards.length : Int).toNat 0) 1 0 (List.replicate (p_shards.length : Int).toNat false), 0)
def Q49 (p_id : ByteArray) (p_shards : List Int) : Option (GDecision × Int) := Mo.den (Q49_T p_id p_shards)
theorem Q49_ok (p_id : ByteArray) (p_shards : List Int) (r : GDecision × Int) (h : Q49 p_id p_shards = some r) : Fn Tryz.prog GI 9 [.lf (.str p_id), .lf (.rows 1 (p_shards.map lfI))] (.tup [.dat (GDecision.lf1 r.1), .lf (.int .i64 r.2)]) :=
 fn_T BaseK Tryz.func9 (by kernel_rfl) (by kernel_rfl) (by kernel_rfl) (Q49_T p_id p_shards) (fun r => [.dat (GDecision.lf1 r.1), .lf (.int .i64 r.2)]) (by kernel_rfl) h
def Q65_L0_T (p_s : List Int) (p_v : Int) : (Int) → Mo ((Int) ⊕ (Int) ⊕ Unit) := fun (v6814) =>
 .ite (decide ((v6814 : Int) < (p_s.length : Int))) (fun c6815 =>
 .say [.br true] (ok1 c6815) <|
 .ask (gidx p_s v6814) fun x6816 h6817 =>
 .say [.row (lfI x6816)] (okc (gidx_ok (fun _ => rfl) h6817 : (0 : Int) ≤ v6814 ∧ (p_s.map lfI)[v6814.toNat]? = some (lfI x6816)) ok0) <|
 .ite (p_v == x6816) (fun c6818 =>
 .say [.br true] (ok1 c6818) <|
 .ret ⟨[], [4], [], 0⟩ (.inr (.inl (v6814)))) fun c6818 =>
 .say [.br false] (ok1 c6818) <|
 .ret ⟨[], [0, 1, 7, 8], [], 0⟩ (.inl (IntKind.wrap .i64 (v6814 + 1)))) fun c6815 =>
 .say [.br false] (ok1 c6815) <|
 .ret ⟨[], [], [], 0⟩ (.inr (.inr (())))
def Q65_L0 (p_s : List Int) (p_v : Int) (v6814 : Int) : Option ((Int) ⊕ Unit) := loopM (fun v_ => (Q65_L0_T p_s p_v v_).den) FU (v6814)
def Q65_L0_H (p_s : List Int) (p_v : Int) : (Int) → St := fun (v6814) => ⟨[(0, .lf (.rows 1 (p_s.map lfI))), (1, .lf (.int .i64 p_v)), (7, .lf (.int .i64 (p_s.length : Int))), (8, .lf (.int .i64 v6814))], []⟩
def Q65_L0_X (r_ : (Int) ⊕ Unit) : Exit := match r_ with
 | .inl o_ => .ret
 | .inr (o_) => .exit 0
def Q65_L0_S  (r_ : (Int) ⊕ Unit) : St := match r_ with
 | .inl o_ => ⟨[(4, .lf (.int .i64 o_))], []⟩
 | .inr (o_) => ⟨[], []⟩
theorem Q65_L0_W {p_s : List Int} {p_v : Int} {v6814 : Int} {r_ : (Int) ⊕ Unit} (h : Q65_L0 p_s p_v v6814 = some r_) : AWa_ Tryz.f19 0 [1, 0, 1, 0] (Q65_L0_X r_) (Q65_L0_S r_) (Q65_L0_H p_s p_v (v6814)) :=
 loop_T BaseK (body := (Code.sub (bodyC Tryz.f19) [1, 0, 1, 0, 0])) (by kernel_rfl) (Q65_L0_T p_s p_v) (Q65_L0_H p_s p_v) Q65_L0_X Q65_L0_S (fun r_ => by rcases r_ with _ | _ <;> rfl) (fun v_ => by kernel_rfl) h
def Q65_T (p_s : List Int) (p_v : Int) : Mo (Int) :=
 .say [.num p_s.length] (okc (by simp : p_s.length = (p_s.map lfI).length) ok0) <|
 .ask2 (Q65_L0 p_s p_v 0) (fun o6822 h6821 =>
 .say [.pt_ 0 [0, 1, 7, 8] 0 (Q65_L0_X (.inl o6822)) (Q65_L0_S (.inl o6822))] (ok1 (Q65_L0_W h6821)) <|
 .ret (fitN 1) (o6822)) fun o6823 h6821 =>
 .say [.pt_ 0 [0, 1, 7, 8] 0 (Q65_L0_X (.inr (o6823))) (Q65_L0_S (.inr (o6823)))] (ok1 (Q65_L0_W h6821)) <|
 .ret (fitN 1) ((-1))
def Q65 (p_s : List Int) (p_v : Int) : Option (Int) := Mo.den (Q65_T p_s p_v)
theorem Q65_ok (p_s : List Int) (p_v : Int) (r : Int) (h : Q65 p_s p_v = some r) : Fn Tryz.prog GI 19 [.lf (.rows 1 (p_s.map lfI)), .lf (.int .i64 p_v)] (.lf (.int .i64 r)) :=
 fn_T BaseK Tryz.func19 (by kernel_rfl) (by kernel_rfl) (by kernel_rfl) (Q65_T p_s p_v) (fun r => [.lf (.int .i64 r)]) (by kernel_rfl) h
def Q99_T (p_d : GDecision) : Mo (GDecision) :=
 .ask (Q73 p_d.fShards) fun r6863 h6864 =>
 .say [.resH [] (.own 0) [.row 3 1 (r6863.map lfI)]] (ok1 (Q73_ok _ _ h6864)) <|
 .ask (Q73 p_d.fVotes) fun r6867 h6868 =>
 .say [.resH [] (.own 0) [.row 3 1 (r6867.map lfI)]] (ok1 (Q73_ok _ _ h6868)) <|
 .ask (Q100 p_d.fAcked) fun r6871 h6872 =>
 .say [.res (.lf (.rows 1 (r6871.map lfB)))] (ok1 (Q100_ok _ _ h6872)) <|
 .ret ⟨[.kill 0, .kill 1, .mvn 2, .mvn 3], [0], [(4, 0), (5, 1)], 2⟩ (GDecision.mk p_d.fID r6863 r6867 p_d.fState p_d.fCommit r6871)
def Q99 (p_d : GDecision) : Option (GDecision) := Mo.den (Q99_T p_d)
theorem Q99_ok (p_d : GDecision) (r : GDecision) (h : Q99 p_d = some r) : FnH Tryz.prog GI 20 [.dat (GDecision.lf1 p_d)] [] (aggS (.agg ((GDecision.lf1 r).map AV.lf)) [(1, .own 0), (2, .own 1)]) [.row 3 1 (r.fShards.map lfI), .row 3 1 (r.fVotes.map lfI)] :=
 fn_TH BaseK Tryz.func20 (by kernel_rfl) (by kernel_rfl) (by kernel_rfl) (Q99_T p_d) (fun r => [aggS (.agg ((GDecision.lf1 r).map AV.lf)) [(1, .own 0), (2, .own 1)]]) (fun r => [.row 3 1 (r.fShards.map lfI), .row 3 1 (r.fVotes.map lfI)]) (by kernel_rfl) h
def Q56_J0_T (p_d : GDecision) (p_stamp : Int) (r6826 : Int) : Mo (Bool) :=
 .ite (decide ((r6826 : Int) < 0)) (fun c6831 =>
 .say [.gd 6002 true] (ok1 c6831) <|
 .ret ⟨[], [2, 3, 6, 8, 26], [], 2⟩ (true)) fun c6831 =>
 .say [.gd 6002 false] (ok1 c6831) <|
 .ite (p_stamp != (-1)) (fun c6832 =>
 .say [.gd 6005 true] (ok1 c6832) <|
 .ite (decide ((p_stamp : Int) < 1)) (fun c6833 =>
 .say [.gd 6008 true] (ok1 c6833) <|
 .ret ⟨[], [2, 3, 6, 8, 26], [], 2⟩ (true)) fun c6833 =>
 .say [.gd 6008 false] (ok1 c6833) <|
 .ret ⟨[], [2, 3, 6, 8, 26], [], 2⟩ (decide ((1099511627776 : Int) < p_stamp))) fun c6832 =>
 .say [.gd 6005 false] (ok1 c6832) <|
 .ret ⟨[], [2, 3, 6, 8, 26], [], 2⟩ (false)
def Q56_J0 (p_d : GDecision) (p_stamp : Int) (r6826 : Int) : Option (Bool) := Mo.den (Q56_J0_T p_d p_stamp r6826)
def Q56_J0_S (p_d : GDecision) (p_stamp : Int) (r6826 : Int) (r_ : Bool) : St := ⟨[(2, .lf (.int .i64 p_stamp)), (3, .ptr 0 0), (6, .ptr 1 0), (8, .lf (.int .i64 r6826)), (26, .lf (.bool r_))], [.box 61 (.dat (GDecision.lf1 p_d)), .box 61 (Z61)]⟩
theorem Q56_J0_W {p_d : GDecision} {p_stamp : Int} {r6826 : Int} {r_ : Bool} (h : Q56_J0 p_d p_stamp r6826 = some r_) : AWa_ Tryz.f10 0 [1, 1, 0, 0] (.normal) (Q56_J0_S p_d p_stamp r6826 r_) ⟨[(2, .lf (.int .i64 p_stamp)), (3, .ptr 0 0), (6, .ptr 1 0), (8, .lf (.int .i64 r6826))], [.box 61 (.dat (GDecision.lf1 p_d)), .box 61 (Z61)]⟩ :=
 part_T BaseK (Q56_J0_T p_d p_stamp r6826) (fun _ => .normal) (Q56_J0_S p_d p_stamp r6826) (by kernel_rfl) h
def Q56_J5_T (p_d : GDecision) (p_stamp : Int) (r6826 : Int) : Mo (Bool) :=
 .ite (p_d.fState != 1) (fun c6849 =>
 .say [.gd 10003 true] (ok1 c6849) <|
 .ret ⟨[], [2, 3, 6, 8, 37], [], 2⟩ (true)) fun c6849 =>
 .say [.gd 10003 false, .num p_d.fVotes.length] (okc c6849 (okc (by simp : p_d.fVotes.length = (p_d.fVotes.map lfI).length) ok0)) <|
 .ret ⟨[], [2, 3, 6, 8, 37], [], 2⟩ (decide (((p_d.fVotes.length : Int) : Int) ≤ r6826))
def Q56_J5 (p_d : GDecision) (p_stamp : Int) (r6826 : Int) : Option (Bool) := Mo.den (Q56_J5_T p_d p_stamp r6826)
def Q56_J5_S (p_d : GDecision) (p_stamp : Int) (r6826 : Int) (r_ : Bool) : St := ⟨[(2, .lf (.int .i64 p_stamp)), (3, .ptr 0 0), (6, .ptr 1 0), (8, .lf (.int .i64 r6826)), (37, .lf (.bool r_))], [.box 61 (.dat (GDecision.lf1 p_d)), .box 61 (Z61)]⟩
theorem Q56_J5_W {p_d : GDecision} {p_stamp : Int} {r6826 : Int} {r_ : Bool} (h : Q56_J5 p_d p_stamp r6826 = some r_) : AWoa_ Tryz.f10 0 [1, 1, 1, 0, 0] [0, 1, 2, 3, 4, 5, 6, 7, 8, 9] (Q56_J5_S p_d p_stamp r6826 r_) ⟨[(2, .lf (.int .i64 p_stamp)), (3, .ptr 0 0), (6, .ptr 1 0), (8, .lf (.int .i64 r6826))], [.box 61 (.dat (GDecision.lf1 p_d)), .box 61 (Z61)]⟩ :=
 seg_T BaseK (Q56_J5_T p_d p_stamp r6826) (Q56_J5_S p_d p_stamp r6826) (by kernel_rfl) h
def Q56_J10_T (p_d : GDecision) (p_stamp : Int) (r6826 : Int) (r6851 : Bool) : Mo (Bool) :=
 .ite (r6851) (fun c6853 =>
 .say [.gd 10010 true] (ok1 c6853) <|
 .ret ⟨[], [2, 3, 6, 8, 45], [], 2⟩ (true)) fun c6853 =>
 .say [.gd 10010 false] (ok1 c6853) <|
 .ask (gidx p_d.fVotes r6826) fun x6854 h6855 =>
 .say [.row (lfI x6854)] (okc (gidx_ok (fun _ => rfl) h6855 : (0 : Int) ≤ r6826 ∧ (p_d.fVotes.map lfI)[r6826.toNat]? = some (lfI x6854)) ok0) <|
 .ret ⟨[], [2, 3, 6, 8, 45], [], 2⟩ (x6854 != 0)
def Q56_J10 (p_d : GDecision) (p_stamp : Int) (r6826 : Int) (r6851 : Bool) : Option (Bool) := Mo.den (Q56_J10_T p_d p_stamp r6826 r6851)
def Q56_J10_S (p_d : GDecision) (p_stamp : Int) (r6826 : Int) (r_ : Bool) : St := ⟨[(2, .lf (.int .i64 p_stamp)), (3, .ptr 0 0), (6, .ptr 1 0), (8, .lf (.int .i64 r6826)), (45, .lf (.bool r_))], [.box 61 (.dat (GDecision.lf1 p_d)), .box 61 (Z61)]⟩
theorem Q56_J10_W {p_d : GDecision} {p_stamp : Int} {r6826 : Int} {r6851 : Bool} {r_ : Bool} (h : Q56_J10 p_d p_stamp r6826 r6851 = some r_) : AWoa_ Tryz.f10 0 [1, 1, 1, 0, 0] [10, 11, 12, 13, 14, 15, 16, 17] (Q56_J10_S p_d p_stamp r6826 r_) ⟨[(2, .lf (.int .i64 p_stamp)), (3, .ptr 0 0), (6, .ptr 1 0), (8, .lf (.int .i64 r6826)), (37, .lf (.bool r6851))], [.box 61 (.dat (GDecision.lf1 p_d)), .box 61 (Z61)]⟩ :=
 seg_T BaseK (Q56_J10_T p_d p_stamp r6826 r6851) (Q56_J10_S p_d p_stamp r6826) (by kernel_rfl) h
def Q56_T (p_d : GDecision) (p_shard : Int) (p_stamp : Int) : Mo (GDecision × Int) :=
 .ask (Q65 p_d.fShards p_shard) fun r6826 h6827 =>
 .say [.res (.lf (.int .i64 r6826))] (ok1 (Q65_ok _ _ _ h6827)) <|
 .ask (Q56_J0 p_d p_stamp r6826) fun r6835 h6836 =>
 .say [.pt_ 11 [2, 3, 6, 8] 2 (.normal) (Q56_J0_S p_d p_stamp r6826 r6835)] (ok1 (Q56_J0_W h6836)) <|
 .ite (r6835) (fun c6838 =>
 .say [.br true] (ok1 c6838) <|
 .ret (fitN 2) (GDecision.z, 1)) fun c6838 =>
 .say [.br false] (ok1 c6838) <|
 .ask (Q56_J5 p_d p_stamp r6826) fun r6851 h6852 =>
 .say [.sg_ 4 10 [2, 3, 6, 8] 2 (Q56_J5_S p_d p_stamp r6826 r6851)] (ok1 (Q56_J5_W h6852)) <|
 .ask (Q56_J10 p_d p_stamp r6826 r6851) fun r6857 h6858 =>
 .say [.sg_ 4 8 [2, 3, 6, 8, 37] 2 (Q56_J10_S p_d p_stamp r6826 r6857)] (ok1 (Q56_J10_W h6858)) <|
 .ite (r6857) (fun c6860 =>
 .say [.br true] (ok1 c6860) <|
 .ret (fitN 2) (GDecision.z, 23)) fun c6860 =>
 .say [.br false] (ok1 c6860) <|
 .ask (Q99 p_d) fun r6875 h6876 =>
 .say [.resH [] (aggS (.agg ((GDecision.lf1 r6875).map AV.lf)) [(1, .own 0), (2, .own 1)]) [.row 3 1 (r6875.fShards.map lfI), .row 3 1 (r6875.fVotes.map lfI)]] (ok1 (Q99_ok _ _ h6876)) <|
 .ask (gidx r6875.fVotes r6826) fun x6879 h6880 =>
 .say [.row (lfI x6879), .rows ((r6875.fVotes.set r6826.toNat p_stamp).map lfI), .at_ 0 0, .frz 2, .frz 3] (okc (gidx_lt (fun _ => rfl) h6880 : (0 : Int) ≤ r6826 ∧ r6826.toNat < (r6875.fVotes.map lfI).length) (okc (by simp [lfI, lfK] : (r6875.fVotes.set r6826.toNat p_stamp).map lfI = (r6875.fVotes.map lfI).set r6826.toNat (lfI p_stamp)) (okc ((gidx_ok (fun _ => rfl) h6880).2 : (r6875.fVotes.map lfI)[r6826.toNat]? = some (lfI x6879)) ok0))) <|
 .ret (fitN 2) (GDecision.sVotes r6875 (r6875.fVotes.set r6826.toNat p_stamp), 0)
def Q56 (p_d : GDecision) (p_shard : Int) (p_stamp : Int) : Option (GDecision × Int) := Mo.den (Q56_T p_d p_shard p_stamp)
theorem Q56_ok (p_d : GDecision) (p_shard : Int) (p_stamp : Int) (r : GDecision × Int) (h : Q56 p_d p_shard p_stamp = some r) : Fn Tryz.prog GI 10 [.dat (GDecision.lf1 p_d), .lf (.int .i64 p_shard), .lf (.int .i64 p_stamp)] (.tup [.dat (GDecision.lf1 r.1), .lf (.int .i64 r.2)]) :=
 fn_T BaseK Tryz.func10 (by kernel_rfl) (by kernel_rfl) (by kernel_rfl) (Q56_T p_d p_shard p_stamp) (fun r => [.dat (GDecision.lf1 r.1), .lf (.int .i64 r.2)]) (by kernel_rfl) h
def Q85_T (p_s : List Int) (p_v : Int) : Mo (Bool) :=
 .ask (Q65 p_s p_v) fun r6889 h6890 =>
 .say [.res (.lf (.int .i64 r6889))] (ok1 (Q65_ok _ _ _ h6890)) <|
 .ret (fitN 1) (decide ((0 : Int) ≤ r6889))
def Q85 (p_s : List Int) (p_v : Int) : Option (Bool) := Mo.den (Q85_T p_s p_v)
theorem Q85_ok (p_s : List Int) (p_v : Int) (r : Bool) (h : Q85 p_s p_v = some r) : Fn Tryz.prog GI 21 [.lf (.rows 1 (p_s.map lfI)), .lf (.int .i64 p_v)] (.lf (.bool r)) :=
 fn_T BaseK Tryz.func21 (by kernel_rfl) (by kernel_rfl) (by kernel_rfl) (Q85_T p_s p_v) (fun r => [.lf (.bool r)]) (by kernel_rfl) h
def Q98_T (p_d : GDecision) : Mo (GDecision) :=
 .ask (Q73 p_d.fShards) fun r6910 h6911 =>
 .say [.resH [] (.own 0) [.row 3 1 (r6910.map lfI)]] (ok1 (Q73_ok _ _ h6911)) <|
 .ask (Q73 p_d.fVotes) fun r6914 h6915 =>
 .say [.resH [] (.own 0) [.row 3 1 (r6914.map lfI)]] (ok1 (Q73_ok _ _ h6915)) <|
 .ask (Q100 p_d.fAcked) fun r6918 h6919 =>
 .say [.res (.lf (.rows 1 (r6918.map lfB))), .at_ 0 0, .frz 2, .frz 3] (ok1 (Q100_ok _ _ h6919)) <|
 .ret (fitN 1) (GDecision.mk p_d.fID r6910 r6914 p_d.fState p_d.fCommit r6918)
def Q98 (p_d : GDecision) : Option (GDecision) := Mo.den (Q98_T p_d)
theorem Q98_ok (p_d : GDecision) (r : GDecision) (h : Q98 p_d = some r) : Fn Tryz.prog GI 20 [.dat (GDecision.lf1 p_d)] (.dat (GDecision.lf1 r)) :=
 fn_T BaseK Tryz.func20 (by kernel_rfl) (by kernel_rfl) (by kernel_rfl) (Q98_T p_d) (fun r => [.dat (GDecision.lf1 r)]) (by kernel_rfl) h
def Q51_J0_T (p_d : GDecision) (r6893 : Bool) : Mo (Bool) :=
 .ite (p_d.fState != 1) (fun c6899 =>
 .say [.gd 6003 true] (ok1 c6899) <|
 .ret ⟨[], [1, 2, 3, 5, 22], [], 3⟩ (true)) fun c6899 =>
 .say [.gd 6003 false] (ok1 c6899) <|
 .ite (!r6893) (fun c6900 =>
 .say [.gd 6006 true] (ok1 c6900) <|
 .ask (Q85 p_d.fVotes 0) fun r6901 h6902 =>
 .say [.res (.lf (.bool r6901))] (ok1 (Q85_ok _ _ _ h6902)) <|
 .ret ⟨[], [1, 2, 3, 5, 22], [], 3⟩ (r6901)) fun c6900 =>
 .say [.gd 6006 false] (ok1 c6900) <|
 .ret ⟨[], [1, 2, 3, 5, 22], [], 3⟩ (false)
def Q51_J0 (p_d : GDecision) (r6893 : Bool) : Option (Bool) := Mo.den (Q51_J0_T p_d r6893)
def Q51_J0_S (p_d : GDecision) (r6893 : Bool) (r_ : Bool) : St := ⟨[(1, .ptr 0 0), (2, .ptr 1 0), (3, .ptr 2 0), (5, .lf (.bool r6893)), (22, .lf (.bool r_))], [.box 61 (.dat (GDecision.lf1 p_d)), .box 61 (Z61), .box 53 (Z53)]⟩
theorem Q51_J0_W {p_d : GDecision} {r6893 : Bool} {r_ : Bool} (h : Q51_J0 p_d r6893 = some r_) : AWa_ Tryz.f11 0 [1, 1, 0, 0] (.normal) (Q51_J0_S p_d r6893 r_) ⟨[(1, .ptr 0 0), (2, .ptr 1 0), (3, .ptr 2 0), (5, .lf (.bool r6893))], [.box 61 (.dat (GDecision.lf1 p_d)), .box 61 (Z61), .box 53 (Z53)]⟩ :=
 part_T BaseK (Q51_J0_T p_d r6893) (fun _ => .normal) (Q51_J0_S p_d r6893) (by kernel_rfl) h
def Q51_L5_T (r6893 : Bool) (r6922 : GDecision) : (Int × GDecision) → Mo ((Int × GDecision) ⊕ (GDecision)) := fun (v6943, s6944) =>
 .ite (decide ((v6943 : Int) < (r6922.fVotes.length : Int))) (fun c6945 =>
 .say [.br true] (ok1 c6945) <|
 .ask (gidx r6922.fVotes v6943) fun x6946 h6947 =>
 .say [.row (lfI x6946)] (okc (gidx_ok (fun _ => rfl) h6947 : (0 : Int) ≤ v6943 ∧ (r6922.fVotes.map lfI)[v6943.toNat]? = some (lfI x6946)) ok0) <|
 .ret ⟨[], [1, 2, 3, 5, 30, 31, 32], [], 3⟩ (.inl (IntKind.wrap .i64 (v6943 + 1), GDecision.sCommit s6944 (if x6946 > s6944.fCommit then x6946 else s6944.fCommit)))) fun c6945 =>
 .say [.br false] (ok1 c6945) <|
 .ret ⟨[], [1, 2, 3, 5], [], 3⟩ (.inr (s6944))
def Q51_L5 (r6893 : Bool) (r6922 : GDecision) (v6943 : Int) (s6944 : GDecision) : Option (GDecision) := loopM (fun v_ => (Q51_L5_T r6893 r6922 v_).den) FU (v6943, s6944)
def Q51_L5_H (r6893 : Bool) (r6922 : GDecision) : (Int × GDecision) → St := fun (v6943, s6944) => ⟨[(1, .ptr 0 0), (2, .ptr 1 0), (3, .ptr 2 0), (5, .lf (.bool r6893)), (30, .lf (.rows 1 (r6922.fVotes.map lfI))), (31, .lf (.int .i64 (r6922.fVotes.length : Int))), (32, .lf (.int .i64 v6943))], [.box 61 (.dat (GDecision.lf1 s6944)), .box 61 (Z61), .box 53 (Z53)]⟩
def Q51_L5_S (r6893 : Bool) (r_ : GDecision) : St := ⟨[(1, .ptr 0 0), (2, .ptr 1 0), (3, .ptr 2 0), (5, .lf (.bool r6893))], [.box 61 (.dat (GDecision.lf1 r_)), .box 61 (Z61), .box 53 (Z53)]⟩
theorem Q51_L5_W {r6893 : Bool} {r6922 : GDecision} {v6943 : Int} {s6944 : GDecision} {r_ : GDecision} (h : Q51_L5 r6893 r6922 v6943 s6944 = some r_) : AWa_ Tryz.f11 0 [1, 1, 1, 1, 1, 1, 0, 1, 0] (.exit 0) (Q51_L5_S r6893 r_) (Q51_L5_H r6893 r6922 (v6943, s6944)) :=
 loop_T BaseK (body := (Code.sub (bodyC Tryz.f11) [1, 1, 1, 1, 1, 1, 0, 1, 0, 0])) (by kernel_rfl) (Q51_L5_T r6893 r6922) (Q51_L5_H r6893 r6922) (fun _ => .exit 0) (Q51_L5_S r6893) (fun r_ => rfl) (fun v_ => by kernel_rfl) h
def Q51_J11_T (r6893 : Bool) (r6949 : GDecision) : Mo (GDecision) :=
 .ite (r6893) (fun c6952 =>
 .say [.br true] (ok1 c6952) <|
 .ret ⟨[], [1, 2, 3], [], 3⟩ (GDecision.sCommit (GDecision.sState r6949 4) 0)) fun c6952 =>
 .say [.br false] (ok1 c6952) <|
 .ret ⟨[], [1, 2, 3], [], 3⟩ (r6949)
def Q51_J11 (r6893 : Bool) (r6949 : GDecision) : Option (GDecision) := Mo.den (Q51_J11_T r6893 r6949)
def Q51_J11_S  (r_ : GDecision) : St := ⟨[(1, .ptr 0 0), (2, .ptr 1 0), (3, .ptr 2 0)], [.box 61 (.dat (GDecision.lf1 r_)), .box 61 (Z61), .box 53 (Z53)]⟩
theorem Q51_J11_W {r6893 : Bool} {r6949 : GDecision} {r_ : GDecision} (h : Q51_J11 r6893 r6949 = some r_) : AWa_ Tryz.f11 0 [1, 1, 1, 1, 1, 1, 1, 0, 1] (.normal) (Q51_J11_S r_) ⟨[(1, .ptr 0 0), (2, .ptr 1 0), (3, .ptr 2 0), (42, .lf (.bool r6893))], [.box 61 (.dat (GDecision.lf1 r6949)), .box 61 (Z61), .box 53 (Z53)]⟩ :=
 part_T BaseK (Q51_J11_T r6893 r6949) (fun _ => .normal) Q51_J11_S (by kernel_rfl) h
def Q51_T (p_d : GDecision) : Mo (GDecision × GWrite × Int) :=
 .ask (Q85 p_d.fVotes (-1)) fun r6893 h6894 =>
 .say [.res (.lf (.bool r6893))] (ok1 (Q85_ok _ _ _ h6894)) <|
 .ask (Q51_J0 p_d r6893) fun r6904 h6905 =>
 .say [.pt_ 11 [1, 2, 3, 5] 3 (.normal) (Q51_J0_S p_d r6893 r6904)] (ok1 (Q51_J0_W h6905)) <|
 .ite (r6904) (fun c6907 =>
 .say [.br true] (ok1 c6907) <|
 .ret (fitN 3) (GDecision.z, GWrite.z, 23)) fun c6907 =>
 .say [.br false] (ok1 c6907) <|
 .ask (Q98 p_d) fun r6922 h6923 =>
 .say [.res (.dat (GDecision.lf1 r6922)), .num r6922.fVotes.length] (okc (Q98_ok _ _ h6923) (okc (by simp : r6922.fVotes.length = (r6922.fVotes.map lfI).length) ok0)) <|
 .ask (Q51_L5 r6893 r6922 0 (GDecision.sCommit (GDecision.sState r6922 3) 0)) fun r6949 h6950 =>
 .say [.pt_ 0 [1, 2, 3, 5, 30, 31, 32] 3 (.exit 0) (Q51_L5_S r6893 r6949)] (ok1 (Q51_L5_W h6950)) <|
 .ask (Q51_J11 r6893 r6949) fun r6954 h6955 =>
 .say [.pt_ 1 [1, 2, 3, 42] 3 (.normal) (Q51_J11_S r6954)] (ok1 (Q51_J11_W h6955)) <|
 .ask (Q73 r6954.fShards) fun r6956 h6957 =>
 .say [.orderT (.q 0 (.q 1 (.q 2 (.q 3 (.q 4 (.q 5 (.q 6 (.l 7 (.q 8 (.l 9 (.l 10 (.q 11 .fin)))))))))))) (some 10) [1] [.resH [] (.own 0) [.row 3 1 (r6956.map lfI)]] [2, 3, 4] 4 [(2, .ptr 1 0), (3, .ptr 2 0), (4, .lf (.int .i64 0))] [.box 61 (.dat (GDecision.lf1 r6954)), .box 61 (.agg ((GDecision.lf1 r6954).map AV.lf)), .box 53 (aggS Z53 [(0, .lf (.int .i64 12)), (73, .lf (.str r6954.fID)), (74, .lf (.int .i64 r6954.fCommit)), (76, .own 3)]), .row 3 1 (r6956.map lfI)], .at_ 0 0, .frz 3] (okc (Q73_ok _ _ h6957) (okc (rfl : (some ⟨[(2, .ptr 1 0), (3, .ptr 2 0), (4, .lf (.int .i64 0))], [.box 61 (.dat (GDecision.lf1 r6954)), .box 61 (.agg ((GDecision.lf1 r6954).map AV.lf)), .box 53 (aggS Z53 [(0, .lf (.int .i64 12)), (73, .lf (.str r6954.fID)), (74, .lf (.int .i64 r6954.fCommit)), (76, .own 3)]), .row 3 1 (r6956.map lfI)]⟩ : Option St) = some ⟨[(2, .ptr 1 0), (3, .ptr 2 0), (4, .lf (.int .i64 0))], [.box 61 (.dat (GDecision.lf1 r6954)), .box 61 (.agg ((GDecision.lf1 r6954).map AV.lf)), .box 53 (aggS Z53 [(0, .lf (.int .i64 12)), (73, .lf (.str r6954.fID)), (74, .lf (.int .i64 r6954.fCommit)), (76, .own 3)]), .row 3 1 (r6956.map lfI)]⟩) ok0)) <|
 .ret (fitN 3) (r6954, GWrite.sShards (GWrite.sStamp (GWrite.sTxn (GWrite.sKind GWrite.z 12) r6954.fID) r6954.fCommit) r6956, 0)
def Q51 (p_d : GDecision) : Option (GDecision × GWrite × Int) := Mo.den (Q51_T p_d)
theorem Q51_ok (p_d : GDecision) (r : GDecision × GWrite × Int) (h : Q51 p_d = some r) : Fn Tryz.prog GI 11 [.dat (GDecision.lf1 p_d)] (.tup [.dat (GDecision.lf1 r.1), .dat (GWrite.lf1 r.2.1), .lf (.int .i64 r.2.2)]) :=
 fn_T BaseK Tryz.func11 (by kernel_rfl) (by kernel_rfl) (by kernel_rfl) (Q51_T p_d) (fun r => [.dat (GDecision.lf1 r.1), .dat (GWrite.lf1 r.2.1), .lf (.int .i64 r.2.2)]) (by kernel_rfl) h
def Q101_T (p_d : GDecision) (p_shard : Int) : Mo (GWrite × Int) :=
 .ask (Q85 p_d.fShards p_shard) fun r6964 h6965 =>
 .say [.res (.lf (.bool r6964))] (ok1 (Q85_ok _ _ _ h6965)) <|
 .ite (!r6964) (fun c6967 =>
 .say [.br true] (ok1 c6967) <|
 .ret (fitN 2) (GWrite.z, 1)) fun c6967 =>
 .say [.br false] (ok1 c6967) <|
 .ite (p_d.fState == 1) (fun c6972 =>
 .say [.br true] (ok1 c6972) <|
 .ret (fitN 2) (GWrite.z, 23)) fun c6972 =>
 .say [.br false] (ok1 c6972) <|
 .ite (p_d.fState == 3) (fun c6974 =>
 .say [.br true] (ok1 c6974) <|
 .ret (fitN 2) (GWrite.sStamp (GWrite.sTxn (GWrite.sKind GWrite.z 10) p_d.fID) p_d.fCommit, 0)) fun c6974 =>
 .say [.br false] (ok1 c6974) <|
 .ret (fitN 2) (GWrite.sTxn (GWrite.sKind GWrite.z 11) p_d.fID, 0)
def Q101 (p_d : GDecision) (p_shard : Int) : Option (GWrite × Int) := Mo.den (Q101_T p_d p_shard)
theorem Q101_ok (p_d : GDecision) (p_shard : Int) (r : GWrite × Int) (h : Q101 p_d p_shard = some r) : Fn Tryz.prog GI 12 [.dat (GDecision.lf1 p_d), .lf (.int .i64 p_shard)] (.tup [.dat (GWrite.lf1 r.1), .lf (.int .i64 r.2)]) :=
 fn_T BaseK Tryz.func12 (by kernel_rfl) (by kernel_rfl) (by kernel_rfl) (Q101_T p_d p_shard) (fun r => [.dat (GWrite.lf1 r.1), .lf (.int .i64 r.2)]) (by kernel_rfl) h
def Q15_J0_T (m7016 : List (ByteArray × Int)) (p_l : List GEntry) (v7015 : Int) : Mo (((List (ByteArray × Int)))) :=
 .ask (gidx p_l v7015) fun x7018 h7019 =>
 .say [.row (GEntry.lf1 x7018)] (okc (gidx_ok GEntry.lf_eq h7019 : (0 : Int) ≤ v7015 ∧ (p_l.map GEntry.lf)[v7015.toNat]? = some (GEntry.lf1 x7018)) ok0) <|
 .ite (x7018.fWrite.fKind == 12) (fun c7020 =>
 .say [.br true] (okc c7020 (ok1 (rfl : Tryz.prog = Tryz.prog))) <|
 .grd (m7016.length < maxLen) fun h7021 =>
 .say [] (okc (by simpa using h7021 : (m7016.map (mvI .i64)).length < maxLen) ok0) <|
 .ret ⟨[], [0, 3, 13, 14, 15], [], 1⟩ ((x7018.fWrite.fTxn, v7015) :: m7016)) fun c7020 =>
 .say [.br false] (ok1 c7020) <|
 .ret ⟨[], [0, 3, 13, 14, 15], [], 1⟩ (m7016)
def Q15_J0 (m7016 : List (ByteArray × Int)) (p_l : List GEntry) (v7015 : Int) : Option (((List (ByteArray × Int)))) := Mo.den (Q15_J0_T m7016 p_l v7015)
def Q15_J0_S (p_l : List GEntry) (v7015 : Int) (r_ : ((List (ByteArray × Int)))) : St := ⟨[(0, .lf (.rows 82 (p_l.map GEntry.lf))), (3, .mp 0), (13, .lf (.rows 82 (p_l.map GEntry.lf))), (14, .lf (.int .i64 (p_l.length : Int))), (15, .lf (.int .i64 v7015))], [.map Tryz.prog 9 3 (r_.map (mvI .i64))]⟩
theorem Q15_J0_W {m7016 : List (ByteArray × Int)} {p_l : List GEntry} {v7015 : Int} {r_ : ((List (ByteArray × Int)))} (h : Q15_J0 m7016 p_l v7015 = some r_) : AWa_ Tryz.f6 0 [1, 1, 0, 1, 0, 0, 1, 1, 0] (.normal) (Q15_J0_S p_l v7015 r_) ⟨[(0, .lf (.rows 82 (p_l.map GEntry.lf))), (3, .mp 0), (13, .lf (.rows 82 (p_l.map GEntry.lf))), (14, .lf (.int .i64 (p_l.length : Int))), (15, .lf (.int .i64 v7015))], [.map Tryz.prog 9 3 (m7016.map (mvI .i64))]⟩ :=
 part_T BaseK (Q15_J0_T m7016 p_l v7015) (fun _ => .normal) (Q15_J0_S p_l v7015) (by kernel_rfl) h
def Q15_L5_T (p_l : List GEntry) : (Int × (List (ByteArray × Int))) → Mo ((Int × (List (ByteArray × Int))) ⊕ ((List (ByteArray × Int)))) := fun (v7015, m7016) =>
 .ite (decide ((v7015 : Int) < (p_l.length : Int))) (fun c7017 =>
 .say [.br true] (ok1 c7017) <|
 .ask (Q15_J0 m7016 p_l v7015) fun r7023 h7024 =>
 .say [.pt_ 8 [0, 3, 13, 14, 15] 1 (.normal) (Q15_J0_S p_l v7015 r7023)] (ok1 (Q15_J0_W h7024)) <|
 .ret ⟨[], [0, 3, 13, 14, 15], [], 1⟩ (.inl (IntKind.wrap .i64 (v7015 + 1), r7023))) fun c7017 =>
 .say [.br false] (ok1 c7017) <|
 .ret ⟨[], [0, 3], [], 1⟩ (.inr (m7016))
def Q15_L5 (p_l : List GEntry) (v7015 : Int) (m7016 : List (ByteArray × Int)) : Option (((List (ByteArray × Int)))) := loopM (fun v_ => (Q15_L5_T p_l v_).den) FU (v7015, m7016)
def Q15_L5_H (p_l : List GEntry) : (Int × (List (ByteArray × Int))) → St := fun (v7015, m7016) => ⟨[(0, .lf (.rows 82 (p_l.map GEntry.lf))), (3, .mp 0), (13, .lf (.rows 82 (p_l.map GEntry.lf))), (14, .lf (.int .i64 (p_l.length : Int))), (15, .lf (.int .i64 v7015))], [.map Tryz.prog 9 3 (m7016.map (mvI .i64))]⟩
def Q15_L5_S (p_l : List GEntry) (r_ : ((List (ByteArray × Int)))) : St := ⟨[(0, .lf (.rows 82 (p_l.map GEntry.lf))), (3, .mp 0)], [.map Tryz.prog 9 3 (r_.map (mvI .i64))]⟩
theorem Q15_L5_W {p_l : List GEntry} {v7015 : Int} {m7016 : List (ByteArray × Int)} {r_ : ((List (ByteArray × Int)))} (h : Q15_L5 p_l v7015 m7016 = some r_) : AWa_ Tryz.f6 0 [1, 1, 0, 1, 0] (.exit 0) (Q15_L5_S p_l r_) (Q15_L5_H p_l (v7015, m7016)) :=
 loop_T BaseK (body := (Code.sub (bodyC Tryz.f6) [1, 1, 0, 1, 0, 0])) (by kernel_rfl) (Q15_L5_T p_l) (Q15_L5_H p_l) (fun _ => .exit 0) (Q15_L5_S p_l) (fun r_ => rfl) (fun v_ => by kernel_rfl) h
def Q15_J11_T (l7235 : List GDecision) (p_l : List GEntry) (r7026 : ((List (ByteArray × Int)))) (v7234 : Int) (x7237 : GEntry) : Mo (Bool) :=
 .ite (x7237.fWrite.fKind != 12) (fun c7239 =>
 .say [.gd 28003 true] (ok1 c7239) <|
 .ret ⟨[], [3, 6, 9, 30, 31, 32, 49], [], 4⟩ (true)) fun c7239 =>
 .say [.gd 28003 false, .row [.int .i64 (mget r7026 x7237.fWrite.fTxn 0)]] (okc c7239 (okc (rfl : Tryz.prog = Tryz.prog) (okc (mget_I _ _ _ _ : mapGet (r7026.map (mvI .i64)) x7237.fWrite.fTxn (.int .i64 0) = (.int .i64 (mget r7026 x7237.fWrite.fTxn 0))) ok0))) <|
 .ret ⟨[], [3, 6, 9, 30, 31, 32, 49], [], 4⟩ ((mget r7026 x7237.fWrite.fTxn 0) != v7234)
def Q15_J11 (l7235 : List GDecision) (p_l : List GEntry) (r7026 : ((List (ByteArray × Int)))) (v7234 : Int) (x7237 : GEntry) : Option (Bool) := Mo.den (Q15_J11_T l7235 p_l r7026 v7234 x7237)
def Q15_J11_S (l7235 : List GDecision) (p_l : List GEntry) (r7026 : ((List (ByteArray × Int)))) (v7234 : Int) (x7237 : GEntry) (r_ : Bool) : St := ⟨[(3, .mp 0), (6, .own 1), (9, .ptr 3 0), (30, .lf (.rows 82 (p_l.map GEntry.lf))), (31, .lf (.int .i64 (p_l.length : Int))), (32, .lf (.int .i64 v7234)), (49, .lf (.bool r_))], [.map Tryz.prog 9 3 (r7026.map (mvI .i64)), .row 61 6 (l7235.map GDecision.lf), .dead, .box 53 (.agg ((GWrite.lf1 x7237.fWrite).map AV.lf))]⟩
theorem Q15_J11_W {l7235 : List GDecision} {p_l : List GEntry} {r7026 : ((List (ByteArray × Int)))} {v7234 : Int} {x7237 : GEntry} {r_ : Bool} (h : Q15_J11 l7235 p_l r7026 v7234 x7237 = some r_) : AWa_ Tryz.f6 0 [1, 1, 1, 1, 0, 1, 0, 0, 1, 1, 0, 0, 1, 1, 0, 0] (.normal) (Q15_J11_S l7235 p_l r7026 v7234 x7237 r_) ⟨[(3, .mp 0), (6, .own 1), (7, .lf (.int .i64 v7234)), (9, .ptr 3 0), (30, .lf (.rows 82 (p_l.map GEntry.lf))), (31, .lf (.int .i64 (p_l.length : Int))), (32, .lf (.int .i64 v7234))], [.map Tryz.prog 9 3 (r7026.map (mvI .i64)), .row 61 6 (l7235.map GDecision.lf), .dead, .box 53 (.agg ((GWrite.lf1 x7237.fWrite).map AV.lf))]⟩ :=
 part_T BaseK (Q15_J11_T l7235 p_l r7026 v7234 x7237) (fun _ => .normal) (Q15_J11_S l7235 p_l r7026 v7234 x7237) (by kernel_rfl) h
def Q15_J16_T (l7235 : List GDecision) (p_l : List GEntry) (r7026 : ((List (ByteArray × Int)))) (r7244 : List Int) (v7234 : Int) (x7237 : GEntry) : Mo (Int) :=
 .ite (x7237.fWrite.fStamp == 0) (fun c7248 =>
 .say [.br true] (ok1 c7248) <|
 .ret ⟨[], [3, 6, 11, 30, 31, 32], [], 8⟩ (4)) fun c7248 =>
 .say [.br false] (ok1 c7248) <|
 .ret ⟨[], [3, 6, 11, 30, 31, 32], [], 8⟩ (3)
def Q15_J16 (l7235 : List GDecision) (p_l : List GEntry) (r7026 : ((List (ByteArray × Int)))) (r7244 : List Int) (v7234 : Int) (x7237 : GEntry) : Option (Int) := Mo.den (Q15_J16_T l7235 p_l r7026 r7244 v7234 x7237)
def Q15_J16_S (l7235 : List GDecision) (p_l : List GEntry) (r7026 : ((List (ByteArray × Int)))) (r7244 : List Int) (v7234 : Int) (x7237 : GEntry) (r_ : Int) : St := ⟨[(3, .mp 0), (6, .own 1), (11, .ptr 4 0), (30, .lf (.rows 82 (p_l.map GEntry.lf))), (31, .lf (.int .i64 (p_l.length : Int))), (32, .lf (.int .i64 v7234))], [.map Tryz.prog 9 3 (r7026.map (mvI .i64)), .row 61 6 (l7235.map GDecision.lf), .dead, .dead, .box 61 (.agg [.lf (.str x7237.fWrite.fTxn), .own 5, .own 6, .lf (.int .i64 r_), .lf (.int .i64 x7237.fWrite.fStamp), .own 7]), .row 3 1 (r7244.map lfI), .row 3 1 ((List.replicate (x7237.fWrite.fShards.length : Int).toNat 0).map lfI), .row 4 1 ((List.replicate (x7237.fWrite.fShards.length : Int).toNat false).map lfB)]⟩
theorem Q15_J16_W {l7235 : List GDecision} {p_l : List GEntry} {r7026 : ((List (ByteArray × Int)))} {r7244 : List Int} {v7234 : Int} {x7237 : GEntry} {r_ : Int} (h : Q15_J16 l7235 p_l r7026 r7244 v7234 x7237 = some r_) : AWa_ Tryz.f6 0 [1, 1, 1, 1, 0, 1, 0, 0, 1, 1, 0, 0, 1, 1, 1, 1, 1, 1, 1, 0, 1] (.normal) (Q15_J16_S l7235 p_l r7026 r7244 v7234 x7237 r_) ⟨[(3, .mp 0), (6, .own 1), (11, .ptr 4 0), (30, .lf (.rows 82 (p_l.map GEntry.lf))), (31, .lf (.int .i64 (p_l.length : Int))), (32, .lf (.int .i64 v7234)), (69, .lf (.bool (x7237.fWrite.fStamp == 0)))], [.map Tryz.prog 9 3 (r7026.map (mvI .i64)), .row 61 6 (l7235.map GDecision.lf), .dead, .dead, .box 61 (.agg [.lf (.str x7237.fWrite.fTxn), .own 5, .own 6, .lf (.int .i64 3), .lf (.int .i64 x7237.fWrite.fStamp), .own 7]), .row 3 1 (r7244.map lfI), .row 3 1 ((List.replicate (x7237.fWrite.fShards.length : Int).toNat 0).map lfI), .row 4 1 ((List.replicate (x7237.fWrite.fShards.length : Int).toNat false).map lfB)]⟩ :=
 part_T BaseK (Q15_J16_T l7235 p_l r7026 r7244 v7234 x7237) (fun _ => .normal) (Q15_J16_S l7235 p_l r7026 r7244 v7234 x7237) (by kernel_rfl) h
def Q15_J21_T (l7235 : List GDecision) (p_l : List GEntry) (r7026 : ((List (ByteArray × Int)))) (v7234 : Int) : Mo (((List GDecision))) :=
 .ask (gidx p_l v7234) fun x7237 h7238 =>
 .say [.row (GEntry.lf1 x7237)] (okc (gidx_ok GEntry.lf_eq h7238 : (0 : Int) ≤ v7234 ∧ (p_l.map GEntry.lf)[v7234.toNat]? = some (GEntry.lf1 x7237)) ok0) <|
 .ask (Q15_J11 l7235 p_l r7026 v7234 x7237) fun r7241 h7242 =>
 .say [.part [.kill 2] 33 [3, 6, 7, 9, 30, 31, 32] 4 (.normal) (Q15_J11_S l7235 p_l r7026 v7234 x7237 r7241).T (Q15_J11_S l7235 p_l r7026 v7234 x7237 r7241).H] (ok1 (Q15_J11_W h7242)) <|
 .ite (r7241) (fun c7243 =>
 .say [.br true] (ok1 c7243) <|
 .ret ⟨[], [3, 6, 30, 31, 32], [], 2⟩ (l7235)) fun c7243 =>
 .say [.br false, .num x7237.fWrite.fShards.length] (okc c7243 (okc (by simp : x7237.fWrite.fShards.length = (x7237.fWrite.fShards.map lfI).length) ok0)) <|
 .ask (Q73 x7237.fWrite.fShards) fun r7244 h7245 =>
 .say [.orderT (.q 0 (.q 1 (.q 2 (.q 3 (.q 5 (.q 6 (.alt 4 (.q 7 (.l 8 (.l 9 .fin))) (.l 8 (.l 4 (.q 7 (.l 9 .fin))))))))))) (some 9) [4] [.both [.at_ 32 4, .resv 1, .resH [] (.own 0) [.row 3 1 (r7244.map lfI)], .slot 4] [.at_ 32 8, .resv 1, .slot 4, .resH [] (.own 0) [.row 3 1 (r7244.map lfI)]]] [3, 6, 9, 10, 11, 30, 31, 32] 6 [(3, .mp 0), (6, .own 1), (9, .ptr 3 0), (10, .lf (.int .i64 (x7237.fWrite.fShards.length : Int))), (11, .ptr 4 0), (30, .lf (.rows 82 (p_l.map GEntry.lf))), (31, .lf (.int .i64 (p_l.length : Int))), (32, .lf (.int .i64 v7234))] [.map Tryz.prog 9 3 (r7026.map (mvI .i64)), .row 61 6 (l7235.map GDecision.lf), .dead, .box 53 (.agg ((GWrite.lf1 x7237.fWrite).map AV.lf)), .box 61 (.agg [.lf (.str x7237.fWrite.fTxn), .own 5, .nils 1, .lf (.int .i64 3), .lf (.int .i64 x7237.fWrite.fStamp), .nils 1]), .row 3 1 (r7244.map lfI)], .rows ((List.replicate (x7237.fWrite.fShards.length : Int).toNat 0).map lfI), .rows ((List.replicate (x7237.fWrite.fShards.length : Int).toNat false).map lfB)] (okc (Q73_ok _ _ h7245) (okc (rfl : (some ⟨[(3, .mp 0), (6, .own 1), (9, .ptr 3 0), (10, .lf (.int .i64 (x7237.fWrite.fShards.length : Int))), (11, .ptr 4 0), (30, .lf (.rows 82 (p_l.map GEntry.lf))), (31, .lf (.int .i64 (p_l.length : Int))), (32, .lf (.int .i64 v7234))], [.map Tryz.prog 9 3 (r7026.map (mvI .i64)), .row 61 6 (l7235.map GDecision.lf), .dead, .box 53 (.agg ((GWrite.lf1 x7237.fWrite).map AV.lf)), .box 61 (.agg [.lf (.str x7237.fWrite.fTxn), .own 5, .nils 1, .lf (.int .i64 3), .lf (.int .i64 x7237.fWrite.fStamp), .nils 1]), .row 3 1 (r7244.map lfI)]⟩ : Option St) = some ⟨[(3, .mp 0), (6, .own 1), (9, .ptr 3 0), (10, .lf (.int .i64 (x7237.fWrite.fShards.length : Int))), (11, .ptr 4 0), (30, .lf (.rows 82 (p_l.map GEntry.lf))), (31, .lf (.int .i64 (p_l.length : Int))), (32, .lf (.int .i64 v7234))], [.map Tryz.prog 9 3 (r7026.map (mvI .i64)), .row 61 6 (l7235.map GDecision.lf), .dead, .box 53 (.agg ((GWrite.lf1 x7237.fWrite).map AV.lf)), .box 61 (.agg [.lf (.str x7237.fWrite.fTxn), .own 5, .nils 1, .lf (.int .i64 3), .lf (.int .i64 x7237.fWrite.fStamp), .nils 1]), .row 3 1 (r7244.map lfI)]⟩) (okc (Q73_ok _ _ h7245) (okc (rfl : (some ⟨[(3, .mp 0), (6, .own 1), (9, .ptr 3 0), (10, .lf (.int .i64 (x7237.fWrite.fShards.length : Int))), (11, .ptr 4 0), (30, .lf (.rows 82 (p_l.map GEntry.lf))), (31, .lf (.int .i64 (p_l.length : Int))), (32, .lf (.int .i64 v7234))], [.map Tryz.prog 9 3 (r7026.map (mvI .i64)), .row 61 6 (l7235.map GDecision.lf), .dead, .box 53 (.agg ((GWrite.lf1 x7237.fWrite).map AV.lf)), .box 61 (.agg [.lf (.str x7237.fWrite.fTxn), .own 5, .nils 1, .lf (.int .i64 3), .lf (.int .i64 x7237.fWrite.fStamp), .nils 1]), .row 3 1 (r7244.map lfI)]⟩ : Option St) = some ⟨[(3, .mp 0), (6, .own 1), (9, .ptr 3 0), (10, .lf (.int .i64 (x7237.fWrite.fShards.length : Int))), (11, .ptr 4 0), (30, .lf (.rows 82 (p_l.map GEntry.lf))), (31, .lf (.int .i64 (p_l.length : Int))), (32, .lf (.int .i64 v7234))], [.map Tryz.prog 9 3 (r7026.map (mvI .i64)), .row 61 6 (l7235.map GDecision.lf), .dead, .box 53 (.agg ((GWrite.lf1 x7237.fWrite).map AV.lf)), .box 61 (.agg [.lf (.str x7237.fWrite.fTxn), .own 5, .nils 1, .lf (.int .i64 3), .lf (.int .i64 x7237.fWrite.fStamp), .nils 1]), .row 3 1 (r7244.map lfI)]⟩) (okc (by simp [lfI, lfK] : (List.replicate (x7237.fWrite.fShards.length : Int).toNat 0).map lfI = List.replicate (x7237.fWrite.fShards.length : Int).toNat (lfI 0)) ok0))))) <|
 .grd ((0 : Int) ≤ (x7237.fWrite.fShards.length : Int) ∧ 8 * (x7237.fWrite.fShards.length : Int).toNat ≤ 281474976710656 ∧ (x7237.fWrite.fShards.length : Int).toNat ≤ maxLen) fun h7246 =>
 .say [] (okc (⟨rfl, h7246⟩ : ((x7237.fWrite.fShards.length : Int) : Int) = (x7237.fWrite.fShards.length : Int) ∧ (0 : Int) ≤ (x7237.fWrite.fShards.length : Int) ∧ 8 * (x7237.fWrite.fShards.length : Int).toNat ≤ 281474976710656 ∧ (x7237.fWrite.fShards.length : Int).toNat ≤ maxLen) (okc (by simp [lfB] : (List.replicate (x7237.fWrite.fShards.length : Int).toNat false).map lfB = List.replicate (x7237.fWrite.fShards.length : Int).toNat (lfB false)) ok0)) <|
 .grd ((0 : Int) ≤ (x7237.fWrite.fShards.length : Int) ∧ 1 * (x7237.fWrite.fShards.length : Int).toNat ≤ 281474976710656 ∧ (x7237.fWrite.fShards.length : Int).toNat ≤ maxLen) fun h7247 =>
 .say [] (okc (⟨rfl, h7247⟩ : ((x7237.fWrite.fShards.length : Int) : Int) = (x7237.fWrite.fShards.length : Int) ∧ (0 : Int) ≤ (x7237.fWrite.fShards.length : Int) ∧ 1 * (x7237.fWrite.fShards.length : Int).toNat ≤ 281474976710656 ∧ (x7237.fWrite.fShards.length : Int).toNat ≤ maxLen) ok0) <|
 .ask (Q15_J16 l7235 p_l r7026 r7244 v7234 x7237) fun r7250 h7251 =>
 .say [.part [.kill 3] 1 [3, 6, 11, 30, 31, 32, 69] 8 (.normal) (Q15_J16_S l7235 p_l r7026 r7244 v7234 x7237 r7250).T (Q15_J16_S l7235 p_l r7026 r7244 v7234 x7237 r7250).H, .at_ 42 2, .frz 5, .frz 6, .frz 7, .rows ((l7235 ++ [GDecision.mk x7237.fWrite.fTxn r7244 (List.replicate (x7237.fWrite.fShards.length : Int).toNat 0) r7250 x7237.fWrite.fStamp (List.replicate (x7237.fWrite.fShards.length : Int).toNat false)]).map GDecision.lf)] (okc (Q15_J16_W h7251) (okc (by simp [GDecision.lf_eq] : (l7235 ++ [GDecision.mk x7237.fWrite.fTxn r7244 (List.replicate (x7237.fWrite.fShards.length : Int).toNat 0) r7250 x7237.fWrite.fStamp (List.replicate (x7237.fWrite.fShards.length : Int).toNat false)]).map GDecision.lf = (l7235.map GDecision.lf) ++ [(GDecision.lf1 (GDecision.mk x7237.fWrite.fTxn r7244 (List.replicate (x7237.fWrite.fShards.length : Int).toNat 0) r7250 x7237.fWrite.fStamp (List.replicate (x7237.fWrite.fShards.length : Int).toNat false)))]) ok0)) <|
 .grd ((l7235.length + [GDecision.mk x7237.fWrite.fTxn r7244 (List.replicate (x7237.fWrite.fShards.length : Int).toNat 0) r7250 x7237.fWrite.fStamp (List.replicate (x7237.fWrite.fShards.length : Int).toNat false)].length) * 104 ≤ 140737488355328) fun h7252 =>
 .say [] (okc (by simpa using h7252 : ((l7235.map GDecision.lf).length + [(GDecision.lf1 (GDecision.mk x7237.fWrite.fTxn r7244 (List.replicate (x7237.fWrite.fShards.length : Int).toNat 0) r7250 x7237.fWrite.fStamp (List.replicate (x7237.fWrite.fShards.length : Int).toNat false)))].length) * 104 ≤ 140737488355328) ok0) <|
 .ret ⟨[], [3, 6, 30, 31, 32], [(9, 1)], 2⟩ (l7235 ++ [GDecision.mk x7237.fWrite.fTxn r7244 (List.replicate (x7237.fWrite.fShards.length : Int).toNat 0) r7250 x7237.fWrite.fStamp (List.replicate (x7237.fWrite.fShards.length : Int).toNat false)])
def Q15_J21 (l7235 : List GDecision) (p_l : List GEntry) (r7026 : ((List (ByteArray × Int)))) (v7234 : Int) : Option (((List GDecision))) := Mo.den (Q15_J21_T l7235 p_l r7026 v7234)
def Q15_J21_S (p_l : List GEntry) (r7026 : ((List (ByteArray × Int)))) (v7234 : Int) (r_ : ((List GDecision))) : St := ⟨[(3, .mp 0), (6, .own 1), (30, .lf (.rows 82 (p_l.map GEntry.lf))), (31, .lf (.int .i64 (p_l.length : Int))), (32, .lf (.int .i64 v7234))], [.map Tryz.prog 9 3 (r7026.map (mvI .i64)), .row 61 6 (r_.map GDecision.lf)]⟩
theorem Q15_J21_W {l7235 : List GDecision} {p_l : List GEntry} {r7026 : ((List (ByteArray × Int)))} {v7234 : Int} {r_ : ((List GDecision))} (h : Q15_J21 l7235 p_l r7026 v7234 = some r_) : AWa_ Tryz.f6 0 [1, 1, 1, 1, 0, 1, 0, 0, 1, 1, 0] (.normal) (Q15_J21_S p_l r7026 v7234 r_) ⟨[(3, .mp 0), (6, .own 1), (30, .lf (.rows 82 (p_l.map GEntry.lf))), (31, .lf (.int .i64 (p_l.length : Int))), (32, .lf (.int .i64 v7234))], [.map Tryz.prog 9 3 (r7026.map (mvI .i64)), .row 61 6 (l7235.map GDecision.lf)]⟩ :=
 part_T BaseK (Q15_J21_T l7235 p_l r7026 v7234) (fun _ => .normal) (Q15_J21_S p_l r7026 v7234) (by kernel_rfl) h
def Q15_L26_T (p_l : List GEntry) (r7026 : ((List (ByteArray × Int)))) : (Int × (List GDecision)) → Mo ((Int × (List GDecision)) ⊕ ((List GDecision))) := fun (v7234, l7235) =>
 .ite (decide ((v7234 : Int) < (p_l.length : Int))) (fun c7236 =>
 .say [.br true] (ok1 c7236) <|
 .ask (Q15_J21 l7235 p_l r7026 v7234) fun r7254 h7255 =>
 .say [.pt_ 12 [3, 6, 30, 31, 32] 2 (.normal) (Q15_J21_S p_l r7026 v7234 r7254)] (ok1 (Q15_J21_W h7255)) <|
 .ret ⟨[], [3, 6, 30, 31, 32], [], 2⟩ (.inl (IntKind.wrap .i64 (v7234 + 1), r7254))) fun c7236 =>
 .say [.br false] (ok1 c7236) <|
 .ret ⟨[.kill 0], [6], [], 2⟩ (.inr (l7235))
def Q15_L26 (p_l : List GEntry) (r7026 : ((List (ByteArray × Int)))) (v7234 : Int) (l7235 : List GDecision) : Option (((List GDecision))) := loopM (fun v_ => (Q15_L26_T p_l r7026 v_).den) FU (v7234, l7235)
def Q15_L26_H (p_l : List GEntry) (r7026 : ((List (ByteArray × Int)))) : (Int × (List GDecision)) → St := fun (v7234, l7235) => ⟨[(3, .mp 0), (6, .own 1), (30, .lf (.rows 82 (p_l.map GEntry.lf))), (31, .lf (.int .i64 (p_l.length : Int))), (32, .lf (.int .i64 v7234))], [.map Tryz.prog 9 3 (r7026.map (mvI .i64)), .row 61 6 (l7235.map GDecision.lf)]⟩
def Q15_L26_S  (r_ : ((List GDecision))) : St := ⟨[(6, .own 1)], [.dead, .row 61 6 (r_.map GDecision.lf)]⟩
theorem Q15_L26_W {p_l : List GEntry} {r7026 : ((List (ByteArray × Int)))} {v7234 : Int} {l7235 : List GDecision} {r_ : ((List GDecision))} (h : Q15_L26 p_l r7026 v7234 l7235 = some r_) : AWa_ Tryz.f6 0 [1, 1, 1, 1, 0, 1, 0] (.exit 2) (Q15_L26_S r_) (Q15_L26_H p_l r7026 (v7234, l7235)) :=
 loop_T BaseK (body := (Code.sub (bodyC Tryz.f6) [1, 1, 1, 1, 0, 1, 0, 0])) (by kernel_rfl) (Q15_L26_T p_l r7026) (Q15_L26_H p_l r7026) (fun _ => .exit 2) Q15_L26_S (fun r_ => rfl) (fun v_ => by kernel_rfl) h
def Q15_T (p_l : List GEntry) : Mo (List GDecision) :=
 .say [.num p_l.length] (okc (by simp : p_l.length = (p_l.map GEntry.lf).length) ok0) <|
 .ask (Q15_L5 p_l 0 ([] : List (ByteArray × Int))) fun r7026 h7027 =>
 .say [.pt_ 0 [0, 3, 13, 14, 15] 1 (.exit 0) (Q15_L5_S p_l r7026), .num p_l.length] (okc (Q15_L5_W h7027) (okc (by simp : p_l.length = (p_l.map GEntry.lf).length) (okc (by simp [GDecision.lf_eq] : (([] : List GDecision).map GDecision.lf) = []) ok0))) <|
 .ask (Q15_L26 p_l r7026 0 ([] : List GDecision)) fun r7258 h7259 =>
 .say [.part [.nrow 6 61 6, .rerow 1 (([] : List GDecision).map GDecision.lf)] 0 [3, 6, 30, 31, 32] 2 (.exit 2) (Q15_L26_S r7258).T (Q15_L26_S r7258).H, .at_ 0 0, .frz 1] (ok1 (Q15_L26_W h7259)) <|
 .ret (fitN 1) (r7258)
def Q15 (p_l : List GEntry) : Option (List GDecision) := Mo.den (Q15_T p_l)
theorem Q15_ok (p_l : List GEntry) (r : List GDecision) (h : Q15 p_l = some r) : Fn Tryz.prog GI 6 [.lf (.rows 82 (p_l.map GEntry.lf))] (.lf (.rows 6 (r.map GDecision.lf))) :=
 fn_T BaseK Tryz.func6 (by kernel_rfl) (by kernel_rfl) (by kernel_rfl) (Q15_T p_l) (fun r => [.lf (.rows 6 (r.map GDecision.lf))]) (by kernel_rfl) h
end
end Go.Proofs.YtplokbmdcfakbaaGreatDoor
