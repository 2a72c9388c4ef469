/- Printed by dec.py. -/
import Derived.Test.YtplokbmdcfakbaaGreatDoorQV6
set_option linter.unusedSimpArgs false
set_option linter.unusedVariables false
namespace Go.Proofs.YtplokbmdcfakbaaGreatDoor
open Go.RowKit
set_option maxRecDepth 20000
set_option maxHeartbeats 4000000
noncomputable section
def Q45_J0_T (p_l : List Int) (v2690 : Int) : Mo (Bool) :=
 .say [.order [(true, 0), (true, 1), (true, 2), (true, 3), (true, 4), (true, 5), (true, 6), (true, 7), (true, 8), (true, 9), (true, 10), (true, 11), (true, 12), (true, 13), (true, 14), (true, 15), (true, 16), (true, 17), (true, 18), (true, 19), (true, 20), (true, 21), (true, 22), (true, 23), (true, 24), (true, 25), (true, 26), (true, 27)] none []] ok0 <|
 .ask (gidx p_l v2690) fun x2692 h2693 =>
 .say [.row (lfI x2692)] (okc (gidx_ok (fun _ => rfl) h2693 : (0 : Int) ≤ v2690 ∧ (p_l.map lfI)[v2690.toNat]? = some (lfI x2692)) ok0) <|
 .ite (decide ((x2692 : Int) < 0)) (fun c2694 =>
 .say [.gd 10005 true] (ok1 c2694) <|
 .ret ⟨[], [0, 3, 37], [], 0⟩ (true)) fun c2694 =>
 .say [.gd 10005 false] (ok1 c2694) <|
 .ask (gidx p_l v2690) fun x2695 h2696 =>
 .say [.row (lfI x2695)] (okc (gidx_ok (fun _ => rfl) h2696 : (0 : Int) ≤ v2690 ∧ (p_l.map lfI)[v2690.toNat]? = some (lfI x2695)) ok0) <|
 .ite (decide ((8 : Int) ≤ x2695)) (fun c2697 =>
 .say [.gd 10012 true] (ok1 c2697) <|
 .ret ⟨[], [0, 3, 37], [], 0⟩ (true)) fun c2697 =>
 .say [.gd 10012 false] (ok1 c2697) <|
 .ite (decide ((0 : Int) < v2690)) (fun c2698 =>
 .say [.gd 10015 true] (ok1 c2698) <|
 .ask (gidx p_l (IntKind.wrap .i64 (v2690 - 1))) fun x2699 h2700 =>
 .say [.row (lfI x2699)] (okc (gidx_ok (fun _ => rfl) h2700 : (0 : Int) ≤ (IntKind.wrap .i64 (v2690 - 1)) ∧ (p_l.map lfI)[(IntKind.wrap .i64 (v2690 - 1)).toNat]? = some (lfI x2699)) ok0) <|
 .ask (gidx p_l v2690) fun x2701 h2702 =>
 .say [.row (lfI x2701)] (okc (gidx_ok (fun _ => rfl) h2702 : (0 : Int) ≤ v2690 ∧ (p_l.map lfI)[v2690.toNat]? = some (lfI x2701)) ok0) <|
 .ret ⟨[], [0, 3, 37], [], 0⟩ (decide ((x2701 : Int) ≤ x2699))) fun c2698 =>
 .say [.gd 10015 false] (ok1 c2698) <|
 .ret ⟨[], [0, 3, 37], [], 0⟩ (false)
def Q45_J0 (p_l : List Int) (v2690 : Int) : Option (Bool) := Mo.den (Q45_J0_T p_l v2690)
def Q45_J0_S (p_l : List Int) (v2690 : Int) (r_ : Bool) : St := ⟨[(0, .lf (.rows 1 (p_l.map lfI))), (3, .lf (.int .i64 v2690)), (37, .lf (.bool r_))], []⟩
theorem Q45_J0_W {p_l : List Int} {v2690 : Int} {r_ : Bool} (h : Q45_J0 p_l v2690 = some r_) : AWa_ Tryz.f28 0 [1, 0, 1, 0, 0, 1, 0, 0, 0] (.normal) (Q45_J0_S p_l v2690 r_) ⟨[(0, .lf (.rows 1 (p_l.map lfI))), (3, .lf (.int .i64 v2690))], []⟩ :=
 part_T BaseK (Q45_J0_T p_l v2690) (fun _ => .normal) (Q45_J0_S p_l v2690) (by kernel_rfl) h
def Q45_L5_T (p_l : List Int) : (Int) → Mo ((Int) ⊕ (Unit ⊕ Unit)) := fun (v2690) =>
 .say [.num p_l.length] (okc (by simp : p_l.length = (p_l.map lfI).length) ok0) <|
 .ite (decide ((v2690 : Int) < (p_l.length : Int))) (fun c2691 =>
 .say [.br true] (ok1 c2691) <|
 .ask (Q45_J0 p_l v2690) fun r2704 h2705 =>
 .say [.pt_ 15 [0, 3] 0 (.normal) (Q45_J0_S p_l v2690 r2704)] (ok1 (Q45_J0_W h2705)) <|
 .ite (r2704) (fun c2706 =>
 .say [.br true] (ok1 c2706) <|
 .ret ⟨[], [2], [], 0⟩ (.inr (.inl ()))) fun c2706 =>
 .say [.br false] (ok1 c2706) <|
 .ret ⟨[], [0, 3], [], 0⟩ (.inl (IntKind.wrap .i64 (v2690 + 1)))) fun c2691 =>
 .say [.br false] (ok1 c2691) <|
 .ret ⟨[], [0], [], 0⟩ (.inr (.inr (())))
def Q45_L5 (p_l : List Int) (v2690 : Int) : Option (Unit ⊕ Unit) := loopM (fun v_ => (Q45_L5_T p_l v_).den) FU (v2690)
def Q45_L5_H (p_l : List Int) : (Int) → St := fun (v2690) => ⟨[(0, .lf (.rows 1 (p_l.map lfI))), (3, .lf (.int .i64 v2690))], []⟩
def Q45_L5_X (r_ : Unit ⊕ Unit) : Exit := match r_ with
 | .inl o_ => .ret
 | .inr (o_) => .exit 0
def Q45_L5_S (p_l : List Int) (r_ : Unit ⊕ Unit) : St := match r_ with
 | .inl o_ => ⟨[(2, .lf (.bool false))], []⟩
 | .inr (o_) => ⟨[(0, .lf (.rows 1 (p_l.map lfI)))], []⟩
theorem Q45_L5_W {p_l : List Int} {v2690 : Int} {r_ : Unit ⊕ Unit} (h : Q45_L5 p_l v2690 = some r_) : AWa_ Tryz.f28 0 [1, 0, 1, 0] (Q45_L5_X r_) (Q45_L5_S p_l r_) (Q45_L5_H p_l (v2690)) :=
 loop_T BaseK (body := (Code.sub (bodyC Tryz.f28) [1, 0, 1, 0, 0])) (by kernel_rfl) (Q45_L5_T p_l) (Q45_L5_H p_l) Q45_L5_X (Q45_L5_S p_l) (fun r_ => by rcases r_ with _ | _ <;> rfl) (fun v_ => by kernel_rfl) h
def Q45_T (p_l : List Int) : Mo (Bool) :=
 .ask2 (Q45_L5 p_l 0) (fun o2709 h2708 =>
 .say [.pt_ 0 [0, 3] 0 (Q45_L5_X (.inl o2709)) (Q45_L5_S p_l (.inl o2709))] (ok1 (Q45_L5_W h2708)) <|
 .ret (fitN 1) (false)) fun o2710 h2708 =>
 .say [.pt_ 0 [0, 3] 0 (Q45_L5_X (.inr (o2710))) (Q45_L5_S p_l (.inr (o2710))), .num p_l.length] (okc (Q45_L5_W h2708) (okc (by simp : p_l.length = (p_l.map lfI).length) ok0)) <|
 .ret (fitN 1) (decide ((0 : Int) < (p_l.length : Int)))
def Q45 (p_l : List Int) : Option (Bool) := Mo.den (Q45_T p_l)
theorem Q45_ok (p_l : List Int) (r : Bool) (h : Q45 p_l = some r) : Fn Tryz.prog GI 28 [.lf (.rows 1 (p_l.map lfI))] (.lf (.bool r)) :=
 fn_T BaseK Tryz.func28 (by kernel_rfl) (by kernel_rfl) (by kernel_rfl) (Q45_T p_l) (fun r => [.lf (.bool r)]) (by kernel_rfl) h
def Q26_J0_T (p_v : GValue) : Mo (Bool) :=
 .ask (Q71 p_v) fun r2743 h2744 =>
 .say [.res (.lf (.bool r2743))] (ok1 (Q71_ok _ _ h2744)) <|
 .ite (r2743) (fun c2745 =>
 .say [.gd 4002 true] (ok1 c2745) <|
 .ret ⟨[], [1, 2, 9], [], 1⟩ (p_v.fKind != 6)) fun c2745 =>
 .say [.gd 4002 false] (ok1 c2745) <|
 .ret ⟨[], [1, 2, 9], [], 1⟩ (false)
def Q26_J0 (p_v : GValue) : Option (Bool) := Mo.den (Q26_J0_T p_v)
def Q26_J0_S (p_v : GValue) (r_ : Bool) : St := ⟨[(1, .ptr 0 0), (2, .lf (.bool false)), (9, .lf (.bool r_))], [.box 29 (.dat (GValue.lf1 p_v))]⟩
theorem Q26_J0_W {p_v : GValue} {r_ : Bool} (h : Q26_J0 p_v = some r_) : AWoa_ Tryz.f30 0 [1, 0] [0, 1, 2, 3, 4, 5, 6] (Q26_J0_S p_v r_) ⟨[(1, .ptr 0 0), (2, .lf (.bool false))], [.box 29 (.dat (GValue.lf1 p_v))]⟩ :=
 seg_T BaseK (Q26_J0_T p_v) (Q26_J0_S p_v) (by kernel_rfl) h
def Q26_J5_T (p_v : GValue) (r2747 : Bool) : Mo (Bool) :=
 .ite (r2747) (fun c2749 =>
 .say [.gd 4007 true] (ok1 c2749) <|
 .ret ⟨[], [1, 2, 14], [], 1⟩ (p_v.fKind != 1)) fun c2749 =>
 .say [.gd 4007 false] (ok1 c2749) <|
 .ret ⟨[], [1, 2, 14], [], 1⟩ (false)
def Q26_J5 (p_v : GValue) (r2747 : Bool) : Option (Bool) := Mo.den (Q26_J5_T p_v r2747)
def Q26_J5_S (p_v : GValue) (r_ : Bool) : St := ⟨[(1, .ptr 0 0), (2, .lf (.bool false)), (14, .lf (.bool r_))], [.box 29 (.dat (GValue.lf1 p_v))]⟩
theorem Q26_J5_W {p_v : GValue} {r2747 : Bool} {r_ : Bool} (h : Q26_J5 p_v r2747 = some r_) : AWoa_ Tryz.f30 0 [1, 0] [7, 8, 9, 10, 11] (Q26_J5_S p_v r_) ⟨[(1, .ptr 0 0), (2, .lf (.bool false)), (9, .lf (.bool r2747))], [.box 29 (.dat (GValue.lf1 p_v))]⟩ :=
 seg_T BaseK (Q26_J5_T p_v r2747) (Q26_J5_S p_v) (by kernel_rfl) h
def Q26_J10_T (p_v : GValue) (r2751 : Bool) : Mo (Bool) :=
 .ite (r2751) (fun c2753 =>
 .say [.gd 4012 true] (ok1 c2753) <|
 .ret ⟨[.kill 0], [2, 19], [], 1⟩ (p_v.fKind != 11)) fun c2753 =>
 .say [.gd 4012 false] (ok1 c2753) <|
 .ret ⟨[.kill 0], [2, 19], [], 1⟩ (false)
def Q26_J10 (p_v : GValue) (r2751 : Bool) : Option (Bool) := Mo.den (Q26_J10_T p_v r2751)
def Q26_J10_S  (r_ : Bool) : St := ⟨[(2, .lf (.bool false)), (19, .lf (.bool r_))], [.dead]⟩
theorem Q26_J10_W {p_v : GValue} {r2751 : Bool} {r_ : Bool} (h : Q26_J10 p_v r2751 = some r_) : AWoa_ Tryz.f30 0 [1, 0] [12, 13, 14, 15, 16] (Q26_J10_S r_) ⟨[(1, .ptr 0 0), (2, .lf (.bool false)), (14, .lf (.bool r2751))], [.box 29 (.dat (GValue.lf1 p_v))]⟩ :=
 seg_T BaseK (Q26_J10_T p_v r2751) Q26_J10_S (by kernel_rfl) h
def Q26_J15_T (r2757 : Bool) : Mo (Unit) :=
 .ret ⟨[], [2], [], 1⟩ ()
def Q26_J15 (r2757 : Bool) : Option (Unit) := Mo.den (Q26_J15_T r2757)
def Q26_J15_S (r2757 : Bool) (r_ : Unit) : St := ⟨[(2, .lf (.bool r2757))], [.dead]⟩
theorem Q26_J15_W {r2757 : Bool} {r_ : Unit} (h : Q26_J15 r2757 = some r_) : AWoa_ Tryz.f30 0 [1, 0] [17] (Q26_J15_S r2757 r_) ⟨[(2, .lf (.bool false)), (19, .lf (.bool r2757))], [.dead]⟩ :=
 seg_T BaseK (Q26_J15_T r2757) (Q26_J15_S r2757) (by kernel_rfl) h
def Q26_T (p_v : GValue) : Mo (Bool) :=
 .ask (Q26_J0 p_v) fun r2747 h2748 =>
 .say [.sg_ 1 7 [1, 2] 1 (Q26_J0_S p_v r2747)] (ok1 (Q26_J0_W h2748)) <|
 .ask (Q26_J5 p_v r2747) fun r2751 h2752 =>
 .say [.sg_ 1 5 [1, 2, 9] 1 (Q26_J5_S p_v r2751)] (ok1 (Q26_J5_W h2752)) <|
 .ask (Q26_J10 p_v r2751) fun r2757 h2758 =>
 .say [.sg_ 1 5 [1, 2, 14] 1 (Q26_J10_S r2757)] (ok1 (Q26_J10_W h2758)) <|
 .ask (Q26_J15 r2757) fun r2759 h2760 =>
 .say [.sg_ 1 1 [2, 19] 1 (Q26_J15_S r2757 r2759)] (ok1 (Q26_J15_W h2760)) <|
 .ret (fitN 1) (r2757)
def Q26 (p_v : GValue) : Option (Bool) := Mo.den (Q26_T p_v)
theorem Q26_ok (p_v : GValue) (r : Bool) (h : Q26 p_v = some r) : Fn Tryz.prog GI 30 [.dat (GValue.lf1 p_v)] (.lf (.bool r)) :=
 fn_T BaseK Tryz.func30 (by kernel_rfl) (by kernel_rfl) (by kernel_rfl) (Q26_T p_v) (fun r => [.lf (.bool r)]) (by kernel_rfl) h
def Q33_J0_T (p_doc : GValue) : Mo (Bool) :=
 .ask (Q71 p_doc) fun r3026 h3027 =>
 .say [.res (.lf (.bool r3026))] (ok1 (Q71_ok _ _ h3027)) <|
 .ite (!r3026) (fun c3028 =>
 .say [.gd 4003 true] (ok1 c3028) <|
 .ret ⟨[], [1, 2, 13], [], 2⟩ (true)) fun c3028 =>
 .say [.gd 4003 false, .num p_doc.fDoc.length] (okc c3028 (okc (by simp : p_doc.fDoc.length = (p_doc.fDoc.map GField.lf).length) ok0)) <|
 .ret ⟨[], [1, 2, 13], [], 2⟩ ((p_doc.fDoc.length : Int) == 0)
def Q33_J0 (p_doc : GValue) : Option (Bool) := Mo.den (Q33_J0_T p_doc)
def Q33_J0_S (p_doc : GValue) (r_ : Bool) : St := ⟨[(1, .ptr 0 0), (2, .ptr 1 0), (13, .lf (.bool r_))], [.box 29 (.dat (GValue.lf1 p_doc)), .box 29 (.agg [.lf (.int .i64 0), .lf (.int .i64 0), .lf (.str ⟨#[]⟩), .nils 5, .nils 6])]⟩
theorem Q33_J0_W {p_doc : GValue} {r_ : Bool} (h : Q33_J0 p_doc = some r_) : AWoa_ Tryz.f58 0 [1, 0, 0] [0, 1, 2, 3, 4, 5, 6, 7, 8] (Q33_J0_S p_doc r_) ⟨[(1, .ptr 0 0), (2, .ptr 1 0)], [.box 29 (.dat (GValue.lf1 p_doc)), .box 29 (.agg [.lf (.int .i64 0), .lf (.int .i64 0), .lf (.str ⟨#[]⟩), .nils 5, .nils 6])]⟩ :=
 seg_T BaseK (Q33_J0_T p_doc) (Q33_J0_S p_doc) (by kernel_rfl) h
def Q33_J5_T (p_doc : GValue) (r3030 : Bool) : Mo (Bool) :=
 .ite (r3030) (fun c3032 =>
 .say [.gd 4009 true] (ok1 c3032) <|
 .ret ⟨[], [1, 2, 21], [], 2⟩ (true)) fun c3032 =>
 .say [.gd 4009 false] (ok1 c3032) <|
 .ask (gidx p_doc.fDoc 0) fun x3033 h3034 =>
 .say [.row (GField.lf1 x3033)] (okc (gidx_ok GField.lf_eq h3034 : (0 : Int) ≤ 0 ∧ (p_doc.fDoc.map GField.lf)[(0 : Int).toNat]? = some (GField.lf1 x3033)) ok0) <|
 .ret ⟨[], [1, 2, 21], [], 2⟩ (!decide ((x3033.fName : ByteArray) = (⟨#[95, 105, 100]⟩ : ByteArray)))
def Q33_J5 (p_doc : GValue) (r3030 : Bool) : Option (Bool) := Mo.den (Q33_J5_T p_doc r3030)
def Q33_J5_S (p_doc : GValue) (r_ : Bool) : St := ⟨[(1, .ptr 0 0), (2, .ptr 1 0), (21, .lf (.bool r_))], [.box 29 (.dat (GValue.lf1 p_doc)), .box 29 (.agg [.lf (.int .i64 0), .lf (.int .i64 0), .lf (.str ⟨#[]⟩), .nils 5, .nils 6])]⟩
theorem Q33_J5_W {p_doc : GValue} {r3030 : Bool} {r_ : Bool} (h : Q33_J5 p_doc r3030 = some r_) : AWoa_ Tryz.f58 0 [1, 0, 0] [9, 10, 11, 12, 13, 14, 15, 16] (Q33_J5_S p_doc r_) ⟨[(1, .ptr 0 0), (2, .ptr 1 0), (13, .lf (.bool r3030))], [.box 29 (.dat (GValue.lf1 p_doc)), .box 29 (.agg [.lf (.int .i64 0), .lf (.int .i64 0), .lf (.str ⟨#[]⟩), .nils 5, .nils 6])]⟩ :=
 seg_T BaseK (Q33_J5_T p_doc r3030) (Q33_J5_S p_doc) (by kernel_rfl) h
def Q33_J10_T (x3042 : GField) : Mo (Bool) :=
 .ite (x3042.fValue.fKind == 6) (fun c3052 =>
 .say [.gd 10003 true] (ok1 c3052) <|
 .ret ⟨[], [2, 4, 35], [], 3⟩ (true)) fun c3052 =>
 .say [.gd 10003 false] (ok1 c3052) <|
 .ret ⟨[], [2, 4, 35], [], 3⟩ (x3042.fValue.fKind == 1)
def Q33_J10 (x3042 : GField) : Option (Bool) := Mo.den (Q33_J10_T x3042)
def Q33_J10_S (x3042 : GField) (r_ : Bool) : St := ⟨[(2, .ptr 1 0), (4, .ptr 2 0), (35, .lf (.bool r_))], [.dead, .box 29 (.agg [.lf (.int .i64 0), .lf (.int .i64 0), .lf (.str ⟨#[]⟩), .nils 5, .nils 6]), .box 29 (.agg [.lf (.int .i64 x3042.fValue.fKind), .lf (.int .i64 x3042.fValue.fInt), .lf (.str x3042.fValue.fText), .lf (.rows 5 (x3042.fValue.fList.map GValue.lf)), .lf (.rows 6 (x3042.fValue.fDoc.map GField.lf))])]⟩
theorem Q33_J10_W {x3042 : GField} {r_ : Bool} (h : Q33_J10 x3042 = some r_) : AWoa_ Tryz.f58 0 [1, 1, 1, 0, 0] [0, 1, 2, 3, 4, 5, 6, 7] (Q33_J10_S x3042 r_) ⟨[(2, .ptr 1 0), (4, .ptr 2 0)], [.dead, .box 29 (.agg [.lf (.int .i64 0), .lf (.int .i64 0), .lf (.str ⟨#[]⟩), .nils 5, .nils 6]), .box 29 (.agg [.lf (.int .i64 x3042.fValue.fKind), .lf (.int .i64 x3042.fValue.fInt), .lf (.str x3042.fValue.fText), .lf (.rows 5 (x3042.fValue.fList.map GValue.lf)), .lf (.rows 6 (x3042.fValue.fDoc.map GField.lf))])]⟩ :=
 seg_T BaseK (Q33_J10_T x3042) (Q33_J10_S x3042) (by kernel_rfl) h
def Q33_J15_T (r3054 : Bool) (x3042 : GField) : Mo (Bool) :=
 .ite (r3054) (fun c3056 =>
 .say [.gd 10008 true] (ok1 c3056) <|
 .ret ⟨[], [2, 4, 40], [], 3⟩ (true)) fun c3056 =>
 .say [.gd 10008 false] (ok1 c3056) <|
 .ret ⟨[], [2, 4, 40], [], 3⟩ (x3042.fValue.fKind == 11)
def Q33_J15 (r3054 : Bool) (x3042 : GField) : Option (Bool) := Mo.den (Q33_J15_T r3054 x3042)
def Q33_J15_S (x3042 : GField) (r_ : Bool) : St := ⟨[(2, .ptr 1 0), (4, .ptr 2 0), (40, .lf (.bool r_))], [.dead, .box 29 (.agg [.lf (.int .i64 0), .lf (.int .i64 0), .lf (.str ⟨#[]⟩), .nils 5, .nils 6]), .box 29 (.agg [.lf (.int .i64 x3042.fValue.fKind), .lf (.int .i64 x3042.fValue.fInt), .lf (.str x3042.fValue.fText), .lf (.rows 5 (x3042.fValue.fList.map GValue.lf)), .lf (.rows 6 (x3042.fValue.fDoc.map GField.lf))])]⟩
theorem Q33_J15_W {r3054 : Bool} {x3042 : GField} {r_ : Bool} (h : Q33_J15 r3054 x3042 = some r_) : AWoa_ Tryz.f58 0 [1, 1, 1, 0, 0] [8, 9, 10, 11, 12] (Q33_J15_S x3042 r_) ⟨[(2, .ptr 1 0), (4, .ptr 2 0), (35, .lf (.bool r3054))], [.dead, .box 29 (.agg [.lf (.int .i64 0), .lf (.int .i64 0), .lf (.str ⟨#[]⟩), .nils 5, .nils 6]), .box 29 (.agg [.lf (.int .i64 x3042.fValue.fKind), .lf (.int .i64 x3042.fValue.fInt), .lf (.str x3042.fValue.fText), .lf (.rows 5 (x3042.fValue.fList.map GValue.lf)), .lf (.rows 6 (x3042.fValue.fDoc.map GField.lf))])]⟩ :=
 seg_T BaseK (Q33_J15_T r3054 x3042) (Q33_J15_S x3042) (by kernel_rfl) h
def Q33_T (p_doc : GValue) : Mo (GValue × Bool) :=
 .ask (Q33_J0 p_doc) fun r3030 h3031 =>
 .say [.sg_ 1 9 [1, 2] 2 (Q33_J0_S p_doc r3030)] (ok1 (Q33_J0_W h3031)) <|
 .ask (Q33_J5 p_doc r3030) fun r3036 h3037 =>
 .say [.sg_ 1 8 [1, 2, 13] 2 (Q33_J5_S p_doc r3036)] (ok1 (Q33_J5_W h3037)) <|
 .ite (r3036) (fun c3039 =>
 .say [.br true] (ok1 c3039) <|
 .ret (fitN 2) (GValue.mk 0 0 ⟨#[]⟩ [] [], false)) fun c3039 =>
 .say [.br false] (ok1 c3039) <|
 .ask (gidx p_doc.fDoc 0) fun x3042 h3043 =>
 .say [.row (GField.lf1 x3042)] (okc (gidx_ok GField.lf_eq h3043 : (0 : Int) ≤ 0 ∧ (p_doc.fDoc.map GField.lf)[(0 : Int).toNat]? = some (GField.lf1 x3042)) ok0) <|
 .ask (Q33_J10 x3042) fun r3054 h3055 =>
 .say [.seg 4 [.kill 0] 8 [2, 4] 3 (Q33_J10_S x3042 r3054).T (Q33_J10_S x3042 r3054).H] (ok1 (Q33_J10_W h3055)) <|
 .ask (Q33_J15 r3054 x3042) fun r3058 h3059 =>
 .say [.sg_ 4 5 [2, 4, 35] 3 (Q33_J15_S x3042 r3058)] (ok1 (Q33_J15_W h3059)) <|
 .ite (r3058) (fun c3061 =>
 .say [.br true] (ok1 c3061) <|
 .ret (fitN 2) (GValue.mk 0 0 ⟨#[]⟩ [] [], false)) fun c3061 =>
 .say [.br false] (ok1 c3061) <|
 .ret (fitN 2) (x3042.fValue, true)
def Q33 (p_doc : GValue) : Option (GValue × Bool) := Mo.den (Q33_T p_doc)
theorem Q33_ok (p_doc : GValue) (r : GValue × Bool) (h : Q33 p_doc = some r) : Fn Tryz.prog GI 58 [.dat (GValue.lf1 p_doc)] (.tup [.dat (GValue.lf1 r.1), .lf (.bool r.2)]) :=
 fn_T BaseK Tryz.func58 (by kernel_rfl) (by kernel_rfl) (by kernel_rfl) (Q33_T p_doc) (fun r => [.dat (GValue.lf1 r.1), .lf (.bool r.2)]) (by kernel_rfl) h
def Q89_T (p_v : GValue) : Mo (Int × Int) :=
 .ask (Q80 p_v) fun r3070 h3071 =>
 .say [.res (.tup [.lf (.str r3070.1), .lf (.int .i64 r3070.2)])] (ok1 (Q80_ok _ _ h3071)) <|
 .ret (fitN 2) ((r3070.1.size : Int), r3070.2)
def Q89 (p_v : GValue) : Option (Int × Int) := Mo.den (Q89_T p_v)
theorem Q89_ok (p_v : GValue) (r : Int × Int) (h : Q89 p_v = some r) : Fn Tryz.prog GI 59 [.dat (GValue.lf1 p_v)] (.tup [.lf (.int .i64 r.1), .lf (.int .i64 r.2)]) :=
 fn_T BaseK Tryz.func59 (by kernel_rfl) (by kernel_rfl) (by kernel_rfl) (Q89_T p_v) (fun r => [.lf (.int .i64 r.1), .lf (.int .i64 r.2)]) (by kernel_rfl) h
def Q78_T (p_doc : GValue) : Mo (Int) :=
 .ask (Q33 p_doc) fun r3064 h3065 =>
 .say [.res (.tup [.dat (GValue.lf1 r3064.1), .lf (.bool r3064.2)])] (ok1 (Q33_ok _ _ h3065)) <|
 .ite (!r3064.2) (fun c3067 =>
 .say [.br true] (ok1 c3067) <|
 .ret (fitN 1) (8)) fun c3067 =>
 .say [.br false] (ok1 c3067) <|
 .ask (Q89 p_doc) fun r3074 h3075 =>
 .say [.res (.tup [.lf (.int .i64 r3074.1), .lf (.int .i64 r3074.2)])] (ok1 (Q89_ok _ _ h3075)) <|
 .ite (r3074.2 != 0) (fun c3077 =>
 .say [.br true] (ok1 c3077) <|
 .ret (fitN 1) (r3074.2)) fun c3077 =>
 .say [.br false] (ok1 c3077) <|
 .ite (decide ((16384 : Int) < r3074.1)) (fun c3079 =>
 .say [.br true] (ok1 c3079) <|
 .ret (fitN 1) (2)) fun c3079 =>
 .say [.br false] (ok1 c3079) <|
 .ret (fitN 1) (0)
def Q78 (p_doc : GValue) : Option (Int) := Mo.den (Q78_T p_doc)
theorem Q78_ok (p_doc : GValue) (r : Int) (h : Q78 p_doc = some r) : Fn Tryz.prog GI 43 [.dat (GValue.lf1 p_doc)] (.lf (.int .i64 r)) :=
 fn_T BaseK Tryz.func43 (by kernel_rfl) (by kernel_rfl) (by kernel_rfl) (Q78_T p_doc) (fun r => [.lf (.int .i64 r)]) (by kernel_rfl) h
def Q72_T (p_a : Int) (p_b : Int) : Mo (Int) :=
 .ite (decide ((p_a : Int) < p_b)) (fun c3095 =>
 .say [.br true] (ok1 c3095) <|
 .ret (fitN 1) ((-1))) fun c3095 =>
 .say [.br false] (ok1 c3095) <|
 .ite (decide ((p_b : Int) < p_a)) (fun c3097 =>
 .say [.br true] (ok1 c3097) <|
 .ret (fitN 1) (1)) fun c3097 =>
 .say [.br false] (ok1 c3097) <|
 .ret (fitN 1) (0)
def Q72 (p_a : Int) (p_b : Int) : Option (Int) := Mo.den (Q72_T p_a p_b)
theorem Q72_ok (p_a : Int) (p_b : Int) (r : Int) (h : Q72 p_a p_b = some r) : Fn Tryz.prog GI 60 [.lf (.int .i64 p_a), .lf (.int .i64 p_b)] (.lf (.int .i64 r)) :=
 fn_T BaseK Tryz.func60 (by kernel_rfl) (by kernel_rfl) (by kernel_rfl) (Q72_T p_a p_b) (fun r => [.lf (.int .i64 r)]) (by kernel_rfl) h
def Q41_J0_T (p_a : ByteArray) (p_b : ByteArray) (v3207 : Int) : Mo (Bool) :=
 .ite (decide ((v3207 : Int) < (p_a.size : Int))) (fun c3208 =>
 .say [.gd 6004 true] (ok1 c3208) <|
 .ret ⟨[], [0, 1, 5, 15], [], 0⟩ (decide ((v3207 : Int) < (p_b.size : Int)))) fun c3208 =>
 .say [.gd 6004 false] (ok1 c3208) <|
 .ret ⟨[], [0, 1, 5, 15], [], 0⟩ (false)
def Q41_J0 (p_a : ByteArray) (p_b : ByteArray) (v3207 : Int) : Option (Bool) := Mo.den (Q41_J0_T p_a p_b v3207)
def Q41_J0_S (p_a : ByteArray) (p_b : ByteArray) (v3207 : Int) (r_ : Bool) : St := ⟨[(0, .lf (.str p_a)), (1, .lf (.str p_b)), (5, .lf (.int .i64 v3207)), (15, .lf (.bool r_))], []⟩
theorem Q41_J0_W {p_a : ByteArray} {p_b : ByteArray} {v3207 : Int} {r_ : Bool} (h : Q41_J0 p_a p_b v3207 = some r_) : AWa_ Tryz.f61 0 [1, 0, 1, 0, 0, 0, 0] (.normal) (Q41_J0_S p_a p_b v3207 r_) ⟨[(0, .lf (.str p_a)), (1, .lf (.str p_b)), (5, .lf (.int .i64 v3207))], []⟩ :=
 part_T BaseK (Q41_J0_T p_a p_b v3207) (fun _ => .normal) (Q41_J0_S p_a p_b v3207) (by kernel_rfl) h
def Q41_L5_T (p_a : ByteArray) (p_b : ByteArray) : (Int) → Mo ((Int) ⊕ (Int) ⊕ Unit) := fun (v3207) =>
 .ask (Q41_J0 p_a p_b v3207) fun r3210 h3211 =>
 .say [.pt_ 11 [0, 1, 5] 0 (.normal) (Q41_J0_S p_a p_b v3207 r3210)] (ok1 (Q41_J0_W h3211)) <|
 .ite (r3210) (fun c3212 =>
 .say [.br true, .order [(true, 0), (true, 1), (true, 2), (true, 3), (true, 4), (true, 5), (true, 6)] none []] (ok1 c3212) <|
 .ask (sidx p_a v3207) fun b3213 h3214 =>
 .say [.byt b3213] (okc (sidx_ok h3214 : (0 : Int) ≤ v3207 ∧ p_a[v3207.toNat]? = some b3213) ok0) <|
 .ask (sidx p_b v3207) fun b3215 h3216 =>
 .say [.byt b3215] (okc (sidx_ok h3216 : (0 : Int) ≤ v3207 ∧ p_b[v3207.toNat]? = some b3215) ok0) <|
 .ite ((b3213.toNat : Int) != (b3215.toNat : Int)) (fun c3217 =>
 .say [.br true] (ok1 c3217) <|
 .ask (sidx p_a v3207) fun b3218 h3219 =>
 .say [] (okc (sidx_ok h3219 : (0 : Int) ≤ v3207 ∧ p_a[v3207.toNat]? = some b3218) ok0) <|
 .ask (sidx p_b v3207) fun b3220 h3221 =>
 .say [] (okc (sidx_ok h3221 : (0 : Int) ≤ v3207 ∧ p_b[v3207.toNat]? = some b3220) ok0) <|
 .ask (Q72 (IntKind.wrap .i64 (b3218.toNat : Int)) (IntKind.wrap .i64 (b3220.toNat : Int))) fun r3222 h3223 =>
 .say [.orderT (.q 0 (.q 1 (.q 2 (.q 3 (.q 4 (.q 5 (.q 6 (.q 7 (.l 8 (.q 9 .fin)))))))))) (some 8) [] [.byt b3218, .byt b3220, .res (.lf (.int .i64 r3222))] [4] 0 [(4, .lf (.int .i64 r3222))] []] (okc (Q72_ok _ _ _ h3223) (okc (rfl : (some ⟨[(4, .lf (.int .i64 r3222))], []⟩ : Option St) = some ⟨[(4, .lf (.int .i64 r3222))], []⟩) ok0)) <|
 .ret ⟨[], [4], [], 0⟩ (.inr (.inl (r3222)))) fun c3217 =>
 .say [.br false] (ok1 c3217) <|
 .ret ⟨[], [0, 1, 5], [], 0⟩ (.inl (IntKind.wrap .i64 (v3207 + 1)))) fun c3212 =>
 .say [.br false] (ok1 c3212) <|
 .ret ⟨[], [0, 1], [], 0⟩ (.inr (.inr (())))
def Q41_L5 (p_a : ByteArray) (p_b : ByteArray) (v3207 : Int) : Option ((Int) ⊕ Unit) := loopM (fun v_ => (Q41_L5_T p_a p_b v_).den) FU (v3207)
def Q41_L5_H (p_a : ByteArray) (p_b : ByteArray) : (Int) → St := fun (v3207) => ⟨[(0, .lf (.str p_a)), (1, .lf (.str p_b)), (5, .lf (.int .i64 v3207))], []⟩
def Q41_L5_X (r_ : (Int) ⊕ Unit) : Exit := match r_ with
 | .inl o_ => .ret
 | .inr (o_) => .exit 0
def Q41_L5_S (p_a : ByteArray) (p_b : ByteArray) (r_ : (Int) ⊕ Unit) : St := match r_ with
 | .inl o_ => ⟨[(4, .lf (.int .i64 o_))], []⟩
 | .inr (o_) => ⟨[(0, .lf (.str p_a)), (1, .lf (.str p_b))], []⟩
theorem Q41_L5_W {p_a : ByteArray} {p_b : ByteArray} {v3207 : Int} {r_ : (Int) ⊕ Unit} (h : Q41_L5 p_a p_b v3207 = some r_) : AWa_ Tryz.f61 0 [1, 0, 1, 0] (Q41_L5_X r_) (Q41_L5_S p_a p_b r_) (Q41_L5_H p_a p_b (v3207)) :=
 loop_T BaseK (body := (Code.sub (bodyC Tryz.f61) [1, 0, 1, 0, 0])) (by kernel_rfl) (Q41_L5_T p_a p_b) (Q41_L5_H p_a p_b) Q41_L5_X (Q41_L5_S p_a p_b) (fun r_ => by rcases r_ with _ | _ <;> rfl) (fun v_ => by kernel_rfl) h
def Q41_T (p_a : ByteArray) (p_b : ByteArray) : Mo (Int) :=
 .ask2 (Q41_L5 p_a p_b 0) (fun o3227 h3226 =>
 .say [.pt_ 0 [0, 1, 5] 0 (Q41_L5_X (.inl o3227)) (Q41_L5_S p_a p_b (.inl o3227))] (ok1 (Q41_L5_W h3226)) <|
 .ret (fitN 1) (o3227)) fun o3228 h3226 =>
 .say [.pt_ 0 [0, 1, 5] 0 (Q41_L5_X (.inr (o3228))) (Q41_L5_S p_a p_b (.inr (o3228)))] (ok1 (Q41_L5_W h3226)) <|
 .ask (Q72 (p_a.size : Int) (p_b.size : Int)) fun r3229 h3230 =>
 .say [.res (.lf (.int .i64 r3229))] (ok1 (Q72_ok _ _ _ h3230)) <|
 .ret (fitN 1) (r3229)
def Q41 (p_a : ByteArray) (p_b : ByteArray) : Option (Int) := Mo.den (Q41_T p_a p_b)
theorem Q41_ok (p_a : ByteArray) (p_b : ByteArray) (r : Int) (h : Q41 p_a p_b = some r) : Fn Tryz.prog GI 61 [.lf (.str p_a), .lf (.str p_b)] (.lf (.int .i64 r)) :=
 fn_T BaseK Tryz.func61 (by kernel_rfl) (by kernel_rfl) (by kernel_rfl) (Q41_T p_a p_b) (fun r => [.lf (.int .i64 r)]) (by kernel_rfl) h
structure RB9 where
 m1 : (p_a : GValue) → (p_b : GValue) → Option (Int)
 ok1 : ∀ (p_a : GValue) (p_b : GValue) (r : Int), m1 p_a p_b = some r → Fn Tryz.prog GI 44 [.dat (GValue.lf1 p_a), .dat (GValue.lf1 p_b)] (.lf (.int .i64 r))
def Q10_J0_T (R_ : RB9) (p_a : GValue) (p_b : GValue) : Mo (Bool) :=
 .ite (p_a.fKind == 3) (fun c3456 =>
 .say [.br true] (ok1 c3456) <|
 .ret ⟨[], [2, 3, 20, 21], [], 2⟩ (p_a.fKind == 3)) fun c3456 =>
 .say [.br false] (ok1 c3456) <|
 .ite (p_a.fKind == 9) (fun c3457 =>
 .say [.br true] (ok1 c3457) <|
 .ret ⟨[], [2, 3, 20, 21], [], 2⟩ (p_a.fKind == 9)) fun c3457 =>
 .say [.br false] (ok1 c3457) <|
 .ret ⟨[], [2, 3, 20, 21], [], 2⟩ (p_a.fKind == 10)
def Q10_J0 (R_ : RB9) (p_a : GValue) (p_b : GValue) : Option (Bool) := Mo.den (Q10_J0_T R_ p_a p_b)
def Q10_J0_S (p_a : GValue) (p_b : GValue) (r_ : Bool) : St := ⟨[(2, .ptr 0 0), (3, .ptr 1 0), (20, .lf (.int .i64 p_a.fKind)), (21, .lf (.bool r_))], [.box 29 (.dat (GValue.lf1 p_a)), .box 29 (.dat (GValue.lf1 p_b))]⟩
theorem Q10_J0_W {R_ : RB9} {p_a : GValue} {p_b : GValue} {r_ : Bool} (h : Q10_J0 R_ p_a p_b = some r_) : AWa_ Tryz.f44 0 [1, 1, 0, 1, 0, 0, 1] (.normal) (Q10_J0_S p_a p_b r_) ⟨[(2, .ptr 0 0), (3, .ptr 1 0), (20, .lf (.int .i64 p_a.fKind)), (21, .lf (.bool (p_a.fKind == 3)))], [.box 29 (.dat (GValue.lf1 p_a)), .box 29 (.dat (GValue.lf1 p_b))]⟩ :=
 part_T BaseK (Q10_J0_T R_ p_a p_b) (fun _ => .normal) (Q10_J0_S p_a p_b) (by kernel_rfl) h
def Q10_J5_T (R_ : RB9) (p_a : GValue) (p_b : GValue) : Mo (Bool) :=
 .ite (p_a.fKind == 4) (fun c3567 =>
 .say [.br true] (ok1 c3567) <|
 .ret ⟨[], [2, 3, 20, 30], [], 2⟩ (p_a.fKind == 4)) fun c3567 =>
 .say [.br false] (ok1 c3567) <|
 .ite (p_a.fKind == 7) (fun c3568 =>
 .say [.br true] (ok1 c3568) <|
 .ret ⟨[], [2, 3, 20, 30], [], 2⟩ (p_a.fKind == 7)) fun c3568 =>
 .say [.br false] (ok1 c3568) <|
 .ret ⟨[], [2, 3, 20, 30], [], 2⟩ (p_a.fKind == 8)
def Q10_J5 (R_ : RB9) (p_a : GValue) (p_b : GValue) : Option (Bool) := Mo.den (Q10_J5_T R_ p_a p_b)
def Q10_J5_S (p_a : GValue) (p_b : GValue) (r_ : Bool) : St := ⟨[(2, .ptr 0 0), (3, .ptr 1 0), (20, .lf (.int .i64 p_a.fKind)), (30, .lf (.bool r_))], [.box 29 (.dat (GValue.lf1 p_a)), .box 29 (.dat (GValue.lf1 p_b))]⟩
theorem Q10_J5_W {R_ : RB9} {p_a : GValue} {p_b : GValue} {r_ : Bool} (h : Q10_J5 R_ p_a p_b = some r_) : AWa_ Tryz.f44 0 [1, 1, 0, 1, 0, 1, 1, 0, 1] (.normal) (Q10_J5_S p_a p_b r_) ⟨[(2, .ptr 0 0), (3, .ptr 1 0), (20, .lf (.int .i64 p_a.fKind)), (30, .lf (.bool (p_a.fKind == 4)))], [.box 29 (.dat (GValue.lf1 p_a)), .box 29 (.dat (GValue.lf1 p_b))]⟩ :=
 part_T BaseK (Q10_J5_T R_ p_a p_b) (fun _ => .normal) (Q10_J5_S p_a p_b) (by kernel_rfl) h
def Q10_J10_T (R_ : RB9) (p_a : GValue) (p_b : GValue) (v3773 : Int) : Mo (Bool) :=
 .say [.num p_a.fList.length] (okc (by simp : p_a.fList.length = (p_a.fList.map GValue.lf).length) ok0) <|
 .ite (decide ((v3773 : Int) < (p_a.fList.length : Int))) (fun c3774 =>
 .say [.gd 30005 true, .num p_b.fList.length] (okc c3774 (okc (by simp : p_b.fList.length = (p_b.fList.map GValue.lf).length) ok0)) <|
 .ret ⟨[], [2, 3, 5, 52], [], 2⟩ (decide ((v3773 : Int) < (p_b.fList.length : Int)))) fun c3774 =>
 .say [.gd 30005 false] (ok1 c3774) <|
 .ret ⟨[], [2, 3, 5, 52], [], 2⟩ (false)
def Q10_J10 (R_ : RB9) (p_a : GValue) (p_b : GValue) (v3773 : Int) : Option (Bool) := Mo.den (Q10_J10_T R_ p_a p_b v3773)
def Q10_J10_S (p_a : GValue) (p_b : GValue) (v3773 : Int) (r_ : Bool) : St := ⟨[(2, .ptr 0 0), (3, .ptr 1 0), (5, .lf (.int .i64 v3773)), (52, .lf (.bool r_))], [.box 29 (.dat (GValue.lf1 p_a)), .box 29 (.dat (GValue.lf1 p_b))]⟩
theorem Q10_J10_W {R_ : RB9} {p_a : GValue} {p_b : GValue} {v3773 : Int} {r_ : Bool} (h : Q10_J10 R_ p_a p_b v3773 = some r_) : AWa_ Tryz.f44 0 [1, 1, 0, 1, 0, 1, 1, 1, 1, 1, 0, 0, 1, 0, 0, 0, 0] (.normal) (Q10_J10_S p_a p_b v3773 r_) ⟨[(2, .ptr 0 0), (3, .ptr 1 0), (5, .lf (.int .i64 v3773))], [.box 29 (.dat (GValue.lf1 p_a)), .box 29 (.dat (GValue.lf1 p_b))]⟩ :=
 part_T BaseK (Q10_J10_T R_ p_a p_b v3773) (fun _ => .normal) (Q10_J10_S p_a p_b v3773) (by kernel_rfl) h
def Q10_L15_T (R_ : RB9) (p_a : GValue) (p_b : GValue) : (Int) → Mo ((Int) ⊕ (Int) ⊕ Unit) := fun (v3773) =>
 .ask (Q10_J10 R_ p_a p_b v3773) fun r3776 h3777 =>
 .say [.pt_ 35 [2, 3, 5] 2 (.normal) (Q10_J10_S p_a p_b v3773 r3776)] (ok1 (Q10_J10_W h3777)) <|
 .ite (r3776) (fun c3778 =>
 .say [.br true] (ok1 c3778) <|
 .ask (gidx p_a.fList v3773) fun x3779 h3780 =>
 .say [] (okc (gidx_ok GValue.lf_eq h3780 : (0 : Int) ≤ v3773 ∧ (p_a.fList.map GValue.lf)[v3773.toNat]? = some (GValue.lf1 x3779)) ok0) <|
 .ask (gidx p_b.fList v3773) fun x3781 h3782 =>
 .say [] (okc (gidx_ok GValue.lf_eq h3782 : (0 : Int) ≤ v3773 ∧ (p_b.fList.map GValue.lf)[v3773.toNat]? = some (GValue.lf1 x3781)) ok0) <|
 .ask (R_.m1 x3779 x3781) fun r3783 h3784 =>
 .say [.orderT (.q 0 (.q 1 (.q 2 (.q 3 (.q 4 (.q 5 (.q 6 (.q 7 (.q 8 (.q 9 (.l 10 (.q 11 .fin)))))))))))) (some 10) [] [.row (GValue.lf1 x3779), .row (GValue.lf1 x3781), .res (.lf (.int .i64 r3783))] [2, 3, 5, 6] 2 [(2, .ptr 0 0), (3, .ptr 1 0), (5, .lf (.int .i64 v3773)), (6, .lf (.int .i64 r3783))] [.box 29 (.dat (GValue.lf1 p_a)), .box 29 (.dat (GValue.lf1 p_b))]] (okc (R_.ok1 _ _ _ h3784) (okc (rfl : (some ⟨[(2, .ptr 0 0), (3, .ptr 1 0), (5, .lf (.int .i64 v3773)), (6, .lf (.int .i64 r3783))], [.box 29 (.dat (GValue.lf1 p_a)), .box 29 (.dat (GValue.lf1 p_b))]⟩ : Option St) = some ⟨[(2, .ptr 0 0), (3, .ptr 1 0), (5, .lf (.int .i64 v3773)), (6, .lf (.int .i64 r3783))], [.box 29 (.dat (GValue.lf1 p_a)), .box 29 (.dat (GValue.lf1 p_b))]⟩) ok0)) <|
 .ite (r3783 != 0) (fun c3785 =>
 .say [.br true] (ok1 c3785) <|
 .ret ⟨[.kill 0, .kill 1], [4], [], 2⟩ (.inr (.inl (r3783)))) fun c3785 =>
 .say [.br false] (ok1 c3785) <|
 .ret ⟨[], [2, 3, 5], [], 2⟩ (.inl (IntKind.wrap .i64 (v3773 + 1)))) fun c3778 =>
 .say [.br false] (ok1 c3778) <|
 .ret ⟨[], [2, 3], [], 2⟩ (.inr (.inr (())))
def Q10_L15 (R_ : RB9) (p_a : GValue) (p_b : GValue) (v3773 : Int) : Option ((Int) ⊕ Unit) := loopM (fun v_ => (Q10_L15_T R_ p_a p_b v_).den) FU (v3773)
def Q10_L15_H (R_ : RB9) (p_a : GValue) (p_b : GValue) : (Int) → St := fun (v3773) => ⟨[(2, .ptr 0 0), (3, .ptr 1 0), (5, .lf (.int .i64 v3773))], [.box 29 (.dat (GValue.lf1 p_a)), .box 29 (.dat (GValue.lf1 p_b))]⟩
def Q10_L15_X (r_ : (Int) ⊕ Unit) : Exit := match r_ with
 | .inl o_ => .ret
 | .inr (o_) => .exit 1
def Q10_L15_S (p_a : GValue) (p_b : GValue) (r_ : (Int) ⊕ Unit) : St := match r_ with
 | .inl o_ => ⟨[(4, .lf (.int .i64 o_))], [.dead, .dead]⟩
 | .inr (o_) => ⟨[(2, .ptr 0 0), (3, .ptr 1 0)], [.box 29 (.dat (GValue.lf1 p_a)), .box 29 (.dat (GValue.lf1 p_b))]⟩
theorem Q10_L15_W {R_ : RB9} {p_a : GValue} {p_b : GValue} {v3773 : Int} {r_ : (Int) ⊕ Unit} (h : Q10_L15 R_ p_a p_b v3773 = some r_) : AWa_ Tryz.f44 0 [1, 1, 0, 1, 0, 1, 1, 1, 1, 1, 0, 0, 1, 0] (Q10_L15_X r_) (Q10_L15_S p_a p_b r_) (Q10_L15_H R_ p_a p_b (v3773)) :=
 loop_T BaseK (body := (Code.sub (bodyC Tryz.f44) [1, 1, 0, 1, 0, 1, 1, 1, 1, 1, 0, 0, 1, 0, 0])) (by kernel_rfl) (Q10_L15_T R_ p_a p_b) (Q10_L15_H R_ p_a p_b) Q10_L15_X (Q10_L15_S p_a p_b) (fun r_ => by rcases r_ with _ | _ <;> rfl) (fun v_ => by kernel_rfl) h
def Q10_J21_T (R_ : RB9) (p_a : GValue) (p_b : GValue) (v3875 : Int) : Mo (Bool) :=
 .say [.num p_a.fDoc.length] (okc (by simp : p_a.fDoc.length = (p_a.fDoc.map GField.lf).length) ok0) <|
 .ite (decide ((v3875 : Int) < (p_a.fDoc.length : Int))) (fun c3876 =>
 .say [.gd 46005 true, .num p_b.fDoc.length] (okc c3876 (okc (by simp : p_b.fDoc.length = (p_b.fDoc.map GField.lf).length) ok0)) <|
 .ret ⟨[], [2, 3, 7, 89], [], 2⟩ (decide ((v3875 : Int) < (p_b.fDoc.length : Int)))) fun c3876 =>
 .say [.gd 46005 false] (ok1 c3876) <|
 .ret ⟨[], [2, 3, 7, 89], [], 2⟩ (false)
def Q10_J21 (R_ : RB9) (p_a : GValue) (p_b : GValue) (v3875 : Int) : Option (Bool) := Mo.den (Q10_J21_T R_ p_a p_b v3875)
def Q10_J21_S (p_a : GValue) (p_b : GValue) (v3875 : Int) (r_ : Bool) : St := ⟨[(2, .ptr 0 0), (3, .ptr 1 0), (7, .lf (.int .i64 v3875)), (89, .lf (.bool r_))], [.box 29 (.dat (GValue.lf1 p_a)), .box 29 (.dat (GValue.lf1 p_b))]⟩
theorem Q10_J21_W {R_ : RB9} {p_a : GValue} {p_b : GValue} {v3875 : Int} {r_ : Bool} (h : Q10_J21 R_ p_a p_b v3875 = some r_) : AWa_ Tryz.f44 0 [1, 1, 0, 1, 0, 1, 1, 1, 1, 1, 1, 1, 0, 0, 1, 0, 0, 0, 0] (.normal) (Q10_J21_S p_a p_b v3875 r_) ⟨[(2, .ptr 0 0), (3, .ptr 1 0), (7, .lf (.int .i64 v3875))], [.box 29 (.dat (GValue.lf1 p_a)), .box 29 (.dat (GValue.lf1 p_b))]⟩ :=
 part_T BaseK (Q10_J21_T R_ p_a p_b v3875) (fun _ => .normal) (Q10_J21_S p_a p_b v3875) (by kernel_rfl) h
def Q10_J26_T (R_ : RB9) (p_a : GValue) (p_b : GValue) (r3885 : Int) (v3875 : Int) : Mo (Int) :=
 .ite (r3885 == 0) (fun c3887 =>
 .say [.br true] (ok1 c3887) <|
 .ask (gidx p_a.fDoc v3875) fun x3888 h3889 =>
 .say [] (okc (gidx_ok GField.lf_eq h3889 : (0 : Int) ≤ v3875 ∧ (p_a.fDoc.map GField.lf)[v3875.toNat]? = some (GField.lf1 x3888)) ok0) <|
 .ask (gidx p_b.fDoc v3875) fun x3890 h3891 =>
 .say [] (okc (gidx_ok GField.lf_eq h3891 : (0 : Int) ≤ v3875 ∧ (p_b.fDoc.map GField.lf)[v3875.toNat]? = some (GField.lf1 x3890)) ok0) <|
 .ask (R_.m1 x3888.fValue x3890.fValue) fun r3892 h3893 =>
 .say [.orderT (.q 0 (.q 1 (.q 2 (.q 3 (.q 4 (.q 5 (.q 6 (.q 7 (.q 8 (.q 9 (.q 10 (.q 11 (.l 12 (.q 13 .fin)))))))))))))) (some 12) [] [.row (GField.lf1 x3888), .row (GField.lf1 x3890), .res (.lf (.int .i64 r3892))] [2, 3, 7, 8] 2 [(2, .ptr 0 0), (3, .ptr 1 0), (7, .lf (.int .i64 v3875)), (8, .lf (.int .i64 r3892))] [.box 29 (.dat (GValue.lf1 p_a)), .box 29 (.dat (GValue.lf1 p_b))]] (okc (R_.ok1 _ _ _ h3893) (okc (rfl : (some ⟨[(2, .ptr 0 0), (3, .ptr 1 0), (7, .lf (.int .i64 v3875)), (8, .lf (.int .i64 r3892))], [.box 29 (.dat (GValue.lf1 p_a)), .box 29 (.dat (GValue.lf1 p_b))]⟩ : Option St) = some ⟨[(2, .ptr 0 0), (3, .ptr 1 0), (7, .lf (.int .i64 v3875)), (8, .lf (.int .i64 r3892))], [.box 29 (.dat (GValue.lf1 p_a)), .box 29 (.dat (GValue.lf1 p_b))]⟩) ok0)) <|
 .ret ⟨[], [2, 3, 7, 8], [], 2⟩ (r3892)) fun c3887 =>
 .say [.br false] (ok1 c3887) <|
 .ret ⟨[], [2, 3, 7, 8], [], 2⟩ (r3885)
def Q10_J26 (R_ : RB9) (p_a : GValue) (p_b : GValue) (r3885 : Int) (v3875 : Int) : Option (Int) := Mo.den (Q10_J26_T R_ p_a p_b r3885 v3875)
def Q10_J26_S (p_a : GValue) (p_b : GValue) (v3875 : Int) (r_ : Int) : St := ⟨[(2, .ptr 0 0), (3, .ptr 1 0), (7, .lf (.int .i64 v3875)), (8, .lf (.int .i64 r_))], [.box 29 (.dat (GValue.lf1 p_a)), .box 29 (.dat (GValue.lf1 p_b))]⟩
theorem Q10_J26_W {R_ : RB9} {p_a : GValue} {p_b : GValue} {r3885 : Int} {v3875 : Int} {r_ : Int} (h : Q10_J26 R_ p_a p_b r3885 v3875 = some r_) : AWa_ Tryz.f44 0 [1, 1, 0, 1, 0, 1, 1, 1, 1, 1, 1, 1, 0, 0, 1, 0, 0, 1, 0, 0, 1, 0, 1] (.normal) (Q10_J26_S p_a p_b v3875 r_) ⟨[(2, .ptr 0 0), (3, .ptr 1 0), (7, .lf (.int .i64 v3875)), (8, .lf (.int .i64 r3885)), (106, .lf (.bool (r3885 == 0)))], [.box 29 (.dat (GValue.lf1 p_a)), .box 29 (.dat (GValue.lf1 p_b))]⟩ :=
 part_T BaseK (Q10_J26_T R_ p_a p_b r3885 v3875) (fun _ => .normal) (Q10_J26_S p_a p_b v3875) (by kernel_rfl) h
def Q10_L31_T (R_ : RB9) (p_a : GValue) (p_b : GValue) : (Int) → Mo ((Int) ⊕ (Int) ⊕ Unit) := fun (v3875) =>
 .ask (Q10_J21 R_ p_a p_b v3875) fun r3878 h3879 =>
 .say [.pt_ 51 [2, 3, 7] 2 (.normal) (Q10_J21_S p_a p_b v3875 r3878)] (ok1 (Q10_J21_W h3879)) <|
 .ite (r3878) (fun c3880 =>
 .say [.br true] (ok1 c3880) <|
 .ask (gidx p_a.fDoc v3875) fun x3881 h3882 =>
 .say [] (okc (gidx_ok GField.lf_eq h3882 : (0 : Int) ≤ v3875 ∧ (p_a.fDoc.map GField.lf)[v3875.toNat]? = some (GField.lf1 x3881)) ok0) <|
 .ask (gidx p_b.fDoc v3875) fun x3883 h3884 =>
 .say [] (okc (gidx_ok GField.lf_eq h3884 : (0 : Int) ≤ v3875 ∧ (p_b.fDoc.map GField.lf)[v3875.toNat]? = some (GField.lf1 x3883)) ok0) <|
 .ask (Q41 x3881.fName x3883.fName) fun r3885 h3886 =>
 .say [.orderT (.q 0 (.q 1 (.q 2 (.q 3 (.q 4 (.q 5 (.q 6 (.q 7 (.q 8 (.q 9 (.q 10 (.q 11 (.l 12 (.q 13 .fin)))))))))))))) (some 12) [] [.row (GField.lf1 x3881), .row (GField.lf1 x3883), .res (.lf (.int .i64 r3885))] [2, 3, 7, 8] 2 [(2, .ptr 0 0), (3, .ptr 1 0), (7, .lf (.int .i64 v3875)), (8, .lf (.int .i64 r3885))] [.box 29 (.dat (GValue.lf1 p_a)), .box 29 (.dat (GValue.lf1 p_b))]] (okc (Q41_ok _ _ _ h3886) (okc (rfl : (some ⟨[(2, .ptr 0 0), (3, .ptr 1 0), (7, .lf (.int .i64 v3875)), (8, .lf (.int .i64 r3885))], [.box 29 (.dat (GValue.lf1 p_a)), .box 29 (.dat (GValue.lf1 p_b))]⟩ : Option St) = some ⟨[(2, .ptr 0 0), (3, .ptr 1 0), (7, .lf (.int .i64 v3875)), (8, .lf (.int .i64 r3885))], [.box 29 (.dat (GValue.lf1 p_a)), .box 29 (.dat (GValue.lf1 p_b))]⟩) ok0)) <|
 .ask (Q10_J26 R_ p_a p_b r3885 v3875) fun r3895 h3896 =>
 .say [.pt_ 1 [2, 3, 7, 8, 106] 2 (.normal) (Q10_J26_S p_a p_b v3875 r3895)] (ok1 (Q10_J26_W h3896)) <|
 .ite (r3895 != 0) (fun c3897 =>
 .say [.br true] (ok1 c3897) <|
 .ret ⟨[.kill 0, .kill 1], [4], [], 2⟩ (.inr (.inl (r3895)))) fun c3897 =>
 .say [.br false] (ok1 c3897) <|
 .ret ⟨[], [2, 3, 7], [], 2⟩ (.inl (IntKind.wrap .i64 (v3875 + 1)))) fun c3880 =>
 .say [.br false] (ok1 c3880) <|
 .ret ⟨[], [2, 3], [], 2⟩ (.inr (.inr (())))
def Q10_L31 (R_ : RB9) (p_a : GValue) (p_b : GValue) (v3875 : Int) : Option ((Int) ⊕ Unit) := loopM (fun v_ => (Q10_L31_T R_ p_a p_b v_).den) FU (v3875)
def Q10_L31_H (R_ : RB9) (p_a : GValue) (p_b : GValue) : (Int) → St := fun (v3875) => ⟨[(2, .ptr 0 0), (3, .ptr 1 0), (7, .lf (.int .i64 v3875))], [.box 29 (.dat (GValue.lf1 p_a)), .box 29 (.dat (GValue.lf1 p_b))]⟩
def Q10_L31_X (r_ : (Int) ⊕ Unit) : Exit := match r_ with
 | .inl o_ => .ret
 | .inr (o_) => .exit 3
def Q10_L31_S (p_a : GValue) (p_b : GValue) (r_ : (Int) ⊕ Unit) : St := match r_ with
 | .inl o_ => ⟨[(4, .lf (.int .i64 o_))], [.dead, .dead]⟩
 | .inr (o_) => ⟨[(2, .ptr 0 0), (3, .ptr 1 0)], [.box 29 (.dat (GValue.lf1 p_a)), .box 29 (.dat (GValue.lf1 p_b))]⟩
theorem Q10_L31_W {R_ : RB9} {p_a : GValue} {p_b : GValue} {v3875 : Int} {r_ : (Int) ⊕ Unit} (h : Q10_L31 R_ p_a p_b v3875 = some r_) : AWa_ Tryz.f44 0 [1, 1, 0, 1, 0, 1, 1, 1, 1, 1, 1, 1, 0, 0, 1, 0] (Q10_L31_X r_) (Q10_L31_S p_a p_b r_) (Q10_L31_H R_ p_a p_b (v3875)) :=
 loop_T BaseK (body := (Code.sub (bodyC Tryz.f44) [1, 1, 0, 1, 0, 1, 1, 1, 1, 1, 1, 1, 0, 0, 1, 0, 0])) (by kernel_rfl) (Q10_L31_T R_ p_a p_b) (Q10_L31_H R_ p_a p_b) Q10_L31_X (Q10_L31_S p_a p_b) (fun r_ => by rcases r_ with _ | _ <;> rfl) (fun v_ => by kernel_rfl) h
def Q10_T (R_ : RB9) (p_a : GValue) (p_b : GValue) : Mo (Int) :=
 .ite (p_a.fKind != p_b.fKind) (fun c3100 =>
 .say [.br true] (ok1 c3100) <|
 .ask (Q72 p_a.fKind p_b.fKind) fun r3103 h3104 =>
 .say [.res (.lf (.int .i64 r3103))] (ok1 (Q72_ok _ _ _ h3104)) <|
 .ret (fitN 1) (r3103)) fun c3100 =>
 .say [.br false] (ok1 c3100) <|
 .ask (Q10_J0 R_ p_a p_b) fun r3459 h3460 =>
 .say [.pt_ 1 [2, 3, 20, 21] 2 (.normal) (Q10_J0_S p_a p_b r3459)] (ok1 (Q10_J0_W h3460)) <|
 .ite (r3459) (fun c3562 =>
 .say [.br true] (ok1 c3562) <|
 .ask (Q72 p_a.fInt p_b.fInt) fun r3565 h3566 =>
 .say [.res (.lf (.int .i64 r3565))] (ok1 (Q72_ok _ _ _ h3566)) <|
 .ret (fitN 1) (r3565)) fun c3562 =>
 .say [.br false] (ok1 c3562) <|
 .ask (Q10_J5 R_ p_a p_b) fun r3570 h3571 =>
 .say [.pt_ 1 [2, 3, 20, 30] 2 (.normal) (Q10_J5_S p_a p_b r3570)] (ok1 (Q10_J5_W h3571)) <|
 .ite (r3570) (fun c3665 =>
 .say [.br true] (ok1 c3665) <|
 .ask (Q41 p_a.fText p_b.fText) fun r3668 h3669 =>
 .say [.res (.lf (.int .i64 r3668))] (ok1 (Q41_ok _ _ _ h3669)) <|
 .ret (fitN 1) (r3668)) fun c3665 =>
 .say [.br false] (ok1 c3665) <|
 .ite (p_a.fKind == 6) (fun c3760 =>
 .say [.br true] (ok1 c3760) <|
 .ask2 (Q10_L15 R_ p_a p_b 0) (fun o3791 h3790 =>
 .say [.pt_ 0 [2, 3, 5] 2 (Q10_L15_X (.inl o3791)) (Q10_L15_S p_a p_b (.inl o3791))] (ok1 (Q10_L15_W h3790)) <|
 .ret (fitN 1) (o3791)) fun o3792 h3790 =>
 .say [.pt_ 0 [2, 3, 5] 2 (Q10_L15_X (.inr (o3792))) (Q10_L15_S p_a p_b (.inr (o3792))), .num p_a.fList.length, .num p_b.fList.length] (okc (Q10_L15_W h3790) (okc (by simp : p_a.fList.length = (p_a.fList.map GValue.lf).length) (okc (by simp : p_b.fList.length = (p_b.fList.map GValue.lf).length) ok0))) <|
 .ask (Q72 (p_a.fList.length : Int) (p_b.fList.length : Int)) fun r3795 h3796 =>
 .say [.res (.lf (.int .i64 r3795))] (ok1 (Q72_ok _ _ _ h3796)) <|
 .ret (fitN 1) (r3795)) fun c3760 =>
 .say [.br false] (ok1 c3760) <|
 .ite (p_a.fKind == 5) (fun c3852 =>
 .say [.br true] (ok1 c3852) <|
 .ask2 (Q10_L31 R_ p_a p_b 0) (fun o3903 h3902 =>
 .say [.pt_ 0 [2, 3, 7] 2 (Q10_L31_X (.inl o3903)) (Q10_L31_S p_a p_b (.inl o3903))] (ok1 (Q10_L31_W h3902)) <|
 .ret (fitN 1) (o3903)) fun o3904 h3902 =>
 .say [.pt_ 0 [2, 3, 7] 2 (Q10_L31_X (.inr (o3904))) (Q10_L31_S p_a p_b (.inr (o3904))), .num p_a.fDoc.length, .num p_b.fDoc.length] (okc (Q10_L31_W h3902) (okc (by simp : p_a.fDoc.length = (p_a.fDoc.map GField.lf).length) (okc (by simp : p_b.fDoc.length = (p_b.fDoc.map GField.lf).length) ok0))) <|
 .ask (Q72 (p_a.fDoc.length : Int) (p_b.fDoc.length : Int)) fun r3907 h3908 =>
 .say [.res (.lf (.int .i64 r3907))] (ok1 (Q72_ok _ _ _ h3908)) <|
 .ret (fitN 1) (r3907)) fun c3852 =>
 .say [.br false] (ok1 c3852) <|
 .ret (fitN 1) (0)
theorem Q10_okT (R_ : RB9) (p_a : GValue) (p_b : GValue) (r : Int) (h : Mo.den (Q10_T R_ p_a p_b) = some r) : Fn Tryz.prog GI 44 [.dat (GValue.lf1 p_a), .dat (GValue.lf1 p_b)] (.lf (.int .i64 r)) :=
 fn_T BaseK Tryz.func44 (by kernel_rfl) (by kernel_rfl) (by kernel_rfl) (Q10_T R_ p_a p_b) (fun r => [.lf (.int .i64 r)]) (by kernel_rfl) h
def RB9_F : Nat → RB9
 | 0 => { m1 := fun p_a p_b => none, ok1 := fun _ _ _ h => (by cases h) }
 | n_ + 1 => { m1 := fun p_a p_b => Mo.den (Q10_T (RB9_F n_) p_a p_b), ok1 := fun p_a p_b r h => Q10_okT (RB9_F n_) p_a p_b r h }
def Q10 (p_a : GValue) (p_b : GValue) : Option (Int) := (RB9_F FU).m1 p_a p_b
theorem Q10_ok (p_a : GValue) (p_b : GValue) (r : Int) (h : Q10 p_a p_b = some r) : Fn Tryz.prog GI 44 [.dat (GValue.lf1 p_a), .dat (GValue.lf1 p_b)] (.lf (.int .i64 r)) := (RB9_F FU).ok1 p_a p_b r h
def Q67_J0_T (p_doc : GValue) (p_key : GValue) (r3082 : Int) : Mo (Bool) :=
 .ite (r3082 != 0) (fun c3085 =>
 .say [.gd 6002 true] (ok1 c3085) <|
 .ret ⟨[], [2, 3, 5, 13], [], 2⟩ (r3082 != 2)) fun c3085 =>
 .say [.gd 6002 false] (ok1 c3085) <|
 .ret ⟨[], [2, 3, 5, 13], [], 2⟩ (false)
def Q67_J0 (p_doc : GValue) (p_key : GValue) (r3082 : Int) : Option (Bool) := Mo.den (Q67_J0_T p_doc p_key r3082)
def Q67_J0_S (p_doc : GValue) (p_key : GValue) (r3082 : Int) (r_ : Bool) : St := ⟨[(2, .ptr 0 0), (3, .ptr 1 0), (5, .lf (.int .i64 r3082)), (13, .lf (.bool r_))], [.box 29 (.dat (GValue.lf1 p_doc)), .box 29 (.dat (GValue.lf1 p_key))]⟩
theorem Q67_J0_W {p_doc : GValue} {p_key : GValue} {r3082 : Int} {r_ : Bool} (h : Q67_J0 p_doc p_key r3082 = some r_) : AWa_ Tryz.f31 0 [1, 0, 1, 0] (.normal) (Q67_J0_S p_doc p_key r3082 r_) ⟨[(2, .ptr 0 0), (3, .ptr 1 0), (5, .lf (.int .i64 r3082))], [.box 29 (.dat (GValue.lf1 p_doc)), .box 29 (.dat (GValue.lf1 p_key))]⟩ :=
 part_T BaseK (Q67_J0_T p_doc p_key r3082) (fun _ => .normal) (Q67_J0_S p_doc p_key r3082) (by kernel_rfl) h
def Q67_T (p_doc : GValue) (p_key : GValue) : Mo (Int) :=
 .ask (Q78 p_doc) fun r3082 h3083 =>
 .say [.res (.lf (.int .i64 r3082))] (ok1 (Q78_ok _ _ h3083)) <|
 .ask (Q67_J0 p_doc p_key r3082) fun r3087 h3088 =>
 .say [.pt_ 11 [2, 3, 5] 2 (.normal) (Q67_J0_S p_doc p_key r3082 r3087)] (ok1 (Q67_J0_W h3088)) <|
 .ite (r3087) (fun c3090 =>
 .say [.br true] (ok1 c3090) <|
 .ret (fitN 1) (r3082)) fun c3090 =>
 .say [.br false] (ok1 c3090) <|
 .ask (gidx p_doc.fDoc 0) fun x3911 h3912 =>
 .say [] (okc (gidx_ok GField.lf_eq h3912 : (0 : Int) ≤ 0 ∧ (p_doc.fDoc.map GField.lf)[(0 : Int).toNat]? = some (GField.lf1 x3911)) ok0) <|
 .ask (Q10 x3911.fValue p_key) fun r3913 h3914 =>
 .say [.orderT (.q 0 (.q 1 (.q 2 (.q 3 (.q 4 (.q 5 (.l 6 (.q 7 .fin)))))))) (some 6) [] [.row (GField.lf1 x3911), .res (.lf (.int .i64 r3913))] [2, 22] 2 [(2, .ptr 0 0), (22, .lf (.bool (r3913 != 0)))] [.box 29 (.dat (GValue.lf1 p_doc)), .box 29 (.dat (GValue.lf1 p_key))]] (okc (Q10_ok _ _ _ h3914) (okc (rfl : (some ⟨[(2, .ptr 0 0), (22, .lf (.bool (r3913 != 0)))], [.box 29 (.dat (GValue.lf1 p_doc)), .box 29 (.dat (GValue.lf1 p_key))]⟩ : Option St) = some ⟨[(2, .ptr 0 0), (22, .lf (.bool (r3913 != 0)))], [.box 29 (.dat (GValue.lf1 p_doc)), .box 29 (.dat (GValue.lf1 p_key))]⟩) ok0)) <|
 .ite (r3913 != 0) (fun c3916 =>
 .say [.br true] (ok1 c3916) <|
 .ret (fitN 1) (8)) fun c3916 =>
 .say [.br false] (ok1 c3916) <|
 .ask (Q78 p_doc) fun r3917 h3918 =>
 .say [.res (.lf (.int .i64 r3917))] (ok1 (Q78_ok _ _ h3918)) <|
 .ret (fitN 1) (r3917)
def Q67 (p_doc : GValue) (p_key : GValue) : Option (Int) := Mo.den (Q67_T p_doc p_key)
theorem Q67_ok (p_doc : GValue) (p_key : GValue) (r : Int) (h : Q67 p_doc p_key = some r) : Fn Tryz.prog GI 31 [.dat (GValue.lf1 p_doc), .dat (GValue.lf1 p_key)] (.lf (.int .i64 r)) :=
 fn_T BaseK Tryz.func31 (by kernel_rfl) (by kernel_rfl) (by kernel_rfl) (Q67_T p_doc p_key) (fun r => [.lf (.int .i64 r)]) (by kernel_rfl) h
def Q62_L0_T (p_a : List ByteArray) (p_b : List ByteArray) : (Int) → Mo ((Int) ⊕ (Unit ⊕ Unit)) := fun (v4045) =>
 .say [.num p_a.length] (okc (by simp : p_a.length = (p_a.map lfS).length) ok0) <|
 .ite (decide ((v4045 : Int) < (p_a.length : Int))) (fun c4046 =>
 .say [.br true, .order [(true, 0), (true, 1), (true, 2), (true, 3), (true, 4), (true, 5), (true, 6), (true, 7), (true, 8)] none []] (ok1 c4046) <|
 .ask (gidx p_a v4045) fun x4047 h4048 =>
 .say [.row (lfS x4047)] (okc (gidx_ok (fun _ => rfl) h4048 : (0 : Int) ≤ v4045 ∧ (p_a.map lfS)[v4045.toNat]? = some (lfS x4047)) ok0) <|
 .ask (gidx p_b v4045) fun x4049 h4050 =>
 .say [.row (lfS x4049)] (okc (gidx_ok (fun _ => rfl) h4050 : (0 : Int) ≤ v4045 ∧ (p_b.map lfS)[v4045.toNat]? = some (lfS x4049)) ok0) <|
 .ite (!decide ((x4047 : ByteArray) = (x4049 : ByteArray))) (fun c4051 =>
 .say [.br true] (ok1 c4051) <|
 .ret ⟨[], [4], [], 0⟩ (.inr (.inl ()))) fun c4051 =>
 .say [.br false] (ok1 c4051) <|
 .ret ⟨[], [0, 1, 5], [], 0⟩ (.inl (IntKind.wrap .i64 (v4045 + 1)))) fun c4046 =>
 .say [.br false] (ok1 c4046) <|
 .ret ⟨[], [], [], 0⟩ (.inr (.inr (())))
def Q62_L0 (p_a : List ByteArray) (p_b : List ByteArray) (v4045 : Int) : Option (Unit ⊕ Unit) := loopM (fun v_ => (Q62_L0_T p_a p_b v_).den) FU (v4045)
def Q62_L0_H (p_a : List ByteArray) (p_b : List ByteArray) : (Int) → St := fun (v4045) => ⟨[(0, .lf (.rows 1 (p_a.map lfS))), (1, .lf (.rows 1 (p_b.map lfS))), (5, .lf (.int .i64 v4045))], []⟩
def Q62_L0_X (r_ : Unit ⊕ Unit) : Exit := match r_ with
 | .inl o_ => .ret
 | .inr (o_) => .exit 0
def Q62_L0_S  (r_ : Unit ⊕ Unit) : St := match r_ with
 | .inl o_ => ⟨[(4, .lf (.bool false))], []⟩
 | .inr (o_) => ⟨[], []⟩
theorem Q62_L0_W {p_a : List ByteArray} {p_b : List ByteArray} {v4045 : Int} {r_ : Unit ⊕ Unit} (h : Q62_L0 p_a p_b v4045 = some r_) : AWa_ Tryz.f63 0 [1, 1, 0, 1, 0] (Q62_L0_X r_) (Q62_L0_S r_) (Q62_L0_H p_a p_b (v4045)) :=
 loop_T BaseK (body := (Code.sub (bodyC Tryz.f63) [1, 1, 0, 1, 0, 0])) (by kernel_rfl) (Q62_L0_T p_a p_b) (Q62_L0_H p_a p_b) Q62_L0_X Q62_L0_S (fun r_ => by rcases r_ with _ | _ <;> rfl) (fun v_ => by kernel_rfl) h
def Q62_T (p_a : List ByteArray) (p_b : List ByteArray) : Mo (Bool) :=
 .say [.num p_a.length, .num p_b.length] (okc (by simp : p_a.length = (p_a.map lfS).length) (okc (by simp : p_b.length = (p_b.map lfS).length) ok0)) <|
 .ite ((p_a.length : Int) != (p_b.length : Int)) (fun c4010 =>
 .say [.br true] (ok1 c4010) <|
 .ret (fitN 1) (false)) fun c4010 =>
 .say [.br false] (ok1 c4010) <|
 .ask2 (Q62_L0 p_a p_b 0) (fun o4054 h4053 =>
 .say [.pt_ 0 [0, 1, 5] 0 (Q62_L0_X (.inl o4054)) (Q62_L0_S (.inl o4054))] (ok1 (Q62_L0_W h4053)) <|
 .ret (fitN 1) (false)) fun o4055 h4053 =>
 .say [.pt_ 0 [0, 1, 5] 0 (Q62_L0_X (.inr (o4055))) (Q62_L0_S (.inr (o4055)))] (ok1 (Q62_L0_W h4053)) <|
 .ret (fitN 1) (true)
def Q62 (p_a : List ByteArray) (p_b : List ByteArray) : Option (Bool) := Mo.den (Q62_T p_a p_b)
theorem Q62_ok (p_a : List ByteArray) (p_b : List ByteArray) (r : Bool) (h : Q62 p_a p_b = some r) : Fn Tryz.prog GI 63 [.lf (.rows 1 (p_a.map lfS)), .lf (.rows 1 (p_b.map lfS))] (.lf (.bool r)) :=
 fn_T BaseK Tryz.func63 (by kernel_rfl) (by kernel_rfl) (by kernel_rfl) (Q62_T p_a p_b) (fun r => [.lf (.bool r)]) (by kernel_rfl) h
def Q36_L0_T (p_l : List GOrder) (v4193 : Int) : (Int) → Mo ((Int) ⊕ (Unit ⊕ Unit)) := fun (v4208) =>
 .ite (decide ((v4208 : Int) < v4193)) (fun c4209 =>
 .say [.br true, .order [(true, 0), (true, 1), (true, 2), (true, 3), (true, 4), (true, 5), (true, 6), (true, 7), (true, 8), (true, 9), (false, 10)] (some 10) []] (ok1 c4209) <|
 .ask (gidx p_l v4193) fun x4210 h4211 =>
 .say [.row (GOrder.lf1 x4210)] (okc (gidx_ok GOrder.lf_eq h4211 : (0 : Int) ≤ v4193 ∧ (p_l.map GOrder.lf)[v4193.toNat]? = some (GOrder.lf1 x4210)) ok0) <|
 .ask (gidx p_l v4208) fun x4212 h4213 =>
 .say [.row (GOrder.lf1 x4212)] (okc (gidx_ok GOrder.lf_eq h4213 : (0 : Int) ≤ v4208 ∧ (p_l.map GOrder.lf)[v4208.toNat]? = some (GOrder.lf1 x4212)) ok0) <|
 .ask (Q62 x4210.fPath x4212.fPath) fun r4214 h4215 =>
 .say [.res (.lf (.bool r4214))] (ok1 (Q62_ok _ _ _ h4215)) <|
 .ite (r4214) (fun c4216 =>
 .say [.br true] (ok1 c4216) <|
 .ret ⟨[], [2], [], 0⟩ (.inr (.inl ()))) fun c4216 =>
 .say [.br false] (ok1 c4216) <|
 .ret ⟨[], [0, 3, 4], [], 0⟩ (.inl (IntKind.wrap .i64 (v4208 + 1)))) fun c4209 =>
 .say [.br false] (ok1 c4209) <|
 .ret ⟨[], [0, 3], [], 0⟩ (.inr (.inr (())))
def Q36_L0 (p_l : List GOrder) (v4193 : Int) (v4208 : Int) : Option (Unit ⊕ Unit) := loopM (fun v_ => (Q36_L0_T p_l v4193 v_).den) FU (v4208)
def Q36_L0_H (p_l : List GOrder) (v4193 : Int) : (Int) → St := fun (v4208) => ⟨[(0, .lf (.rows 2 (p_l.map GOrder.lf))), (3, .lf (.int .i64 v4193)), (4, .lf (.int .i64 v4208))], []⟩
def Q36_L0_X (r_ : Unit ⊕ Unit) : Exit := match r_ with
 | .inl o_ => .ret
 | .inr (o_) => .exit 2
def Q36_L0_S (p_l : List GOrder) (v4193 : Int) (r_ : Unit ⊕ Unit) : St := match r_ with
 | .inl o_ => ⟨[(2, .lf (.int .i64 12))], []⟩
 | .inr (o_) => ⟨[(0, .lf (.rows 2 (p_l.map GOrder.lf))), (3, .lf (.int .i64 v4193))], []⟩
theorem Q36_L0_W {p_l : List GOrder} {v4193 : Int} {v4208 : Int} {r_ : Unit ⊕ Unit} (h : Q36_L0 p_l v4193 v4208 = some r_) : AWa_ Tryz.f47 0 [1, 1, 0, 1, 0, 0, 1, 0, 0, 1, 1, 0] (Q36_L0_X r_) (Q36_L0_S p_l v4193 r_) (Q36_L0_H p_l v4193 (v4208)) :=
 loop_T BaseK (body := (Code.sub (bodyC Tryz.f47) [1, 1, 0, 1, 0, 0, 1, 0, 0, 1, 1, 0, 0])) (by kernel_rfl) (Q36_L0_T p_l v4193) (Q36_L0_H p_l v4193) Q36_L0_X (Q36_L0_S p_l v4193) (fun r_ => by rcases r_ with _ | _ <;> rfl) (fun v_ => by kernel_rfl) h
def Q36_L6_T (p_l : List GOrder) : (Int) → Mo ((Int) ⊕ (Int) ⊕ Unit) := fun (v4193) =>
 .say [.num p_l.length] (okc (by simp : p_l.length = (p_l.map GOrder.lf).length) ok0) <|
 .ite (decide ((v4193 : Int) < (p_l.length : Int))) (fun c4194 =>
 .say [.br true] (ok1 c4194) <|
 .ask (gidx p_l v4193) fun x4195 h4196 =>
 .say [.row (GOrder.lf1 x4195)] (okc (gidx_ok GOrder.lf_eq h4196 : (0 : Int) ≤ v4193 ∧ (p_l.map GOrder.lf)[v4193.toNat]? = some (GOrder.lf1 x4195)) ok0) <|
 .ask (Q38 x4195.fPath) fun r4197 h4198 =>
 .say [.res (.lf (.bool r4197))] (ok1 (Q38_ok _ _ h4198)) <|
 .ite (!r4197) (fun c4199 =>
 .say [.br true] (ok1 c4199) <|
 .ret ⟨[], [2], [], 0⟩ (.inr (.inl (10)))) fun c4199 =>
 .say [.br false] (ok1 c4199) <|
 .ask2 (Q36_L0 p_l v4193 0) (fun o4219 h4218 =>
 .say [.pt_ 0 [0, 3, 4] 0 (Q36_L0_X (.inl o4219)) (Q36_L0_S p_l v4193 (.inl o4219))] (ok1 (Q36_L0_W h4218)) <|
 .ret ⟨[], [2], [], 0⟩ (.inr (.inl (12)))) fun o4220 h4218 =>
 .say [.pt_ 0 [0, 3, 4] 0 (Q36_L0_X (.inr (o4220))) (Q36_L0_S p_l v4193 (.inr (o4220)))] (ok1 (Q36_L0_W h4218)) <|
 .ret ⟨[], [0, 3], [], 0⟩ (.inl (IntKind.wrap .i64 (v4193 + 1)))) fun c4194 =>
 .say [.br false] (ok1 c4194) <|
 .ret ⟨[], [], [], 0⟩ (.inr (.inr (())))
def Q36_L6 (p_l : List GOrder) (v4193 : Int) : Option ((Int) ⊕ Unit) := loopM (fun v_ => (Q36_L6_T p_l v_).den) FU (v4193)
def Q36_L6_H (p_l : List GOrder) : (Int) → St := fun (v4193) => ⟨[(0, .lf (.rows 2 (p_l.map GOrder.lf))), (3, .lf (.int .i64 v4193))], []⟩
def Q36_L6_X (r_ : (Int) ⊕ Unit) : Exit := match r_ with
 | .inl o_ => .ret
 | .inr (o_) => .exit 0
def Q36_L6_S  (r_ : (Int) ⊕ Unit) : St := match r_ with
 | .inl o_ => ⟨[(2, .lf (.int .i64 o_))], []⟩
 | .inr (o_) => ⟨[], []⟩
theorem Q36_L6_W {p_l : List GOrder} {v4193 : Int} {r_ : (Int) ⊕ Unit} (h : Q36_L6 p_l v4193 = some r_) : AWa_ Tryz.f47 0 [1, 1, 0, 1, 0] (Q36_L6_X r_) (Q36_L6_S r_) (Q36_L6_H p_l (v4193)) :=
 loop_T BaseK (body := (Code.sub (bodyC Tryz.f47) [1, 1, 0, 1, 0, 0])) (by kernel_rfl) (Q36_L6_T p_l) (Q36_L6_H p_l) Q36_L6_X Q36_L6_S (fun r_ => by rcases r_ with _ | _ <;> rfl) (fun v_ => by kernel_rfl) h
def Q36_T (p_l : List GOrder) : Mo (Int) :=
 .say [.num p_l.length] (okc (by simp : p_l.length = (p_l.map GOrder.lf).length) ok0) <|
 .ite (decide ((8 : Int) < (p_l.length : Int))) (fun c3990 =>
 .say [.br true] (ok1 c3990) <|
 .ret (fitN 1) (2)) fun c3990 =>
 .say [.br false] (ok1 c3990) <|
 .ask2 (Q36_L6 p_l 0) (fun o4224 h4223 =>
 .say [.pt_ 0 [0, 3] 0 (Q36_L6_X (.inl o4224)) (Q36_L6_S (.inl o4224))] (ok1 (Q36_L6_W h4223)) <|
 .ret (fitN 1) (o4224)) fun o4225 h4223 =>
 .say [.pt_ 0 [0, 3] 0 (Q36_L6_X (.inr (o4225))) (Q36_L6_S (.inr (o4225)))] (ok1 (Q36_L6_W h4223)) <|
 .ret (fitN 1) (0)
def Q36 (p_l : List GOrder) : Option (Int) := Mo.den (Q36_T p_l)
theorem Q36_ok (p_l : List GOrder) (r : Int) (h : Q36 p_l = some r) : Fn Tryz.prog GI 47 [.lf (.rows 2 (p_l.map GOrder.lf))] (.lf (.int .i64 r)) :=
 fn_T BaseK Tryz.func47 (by kernel_rfl) (by kernel_rfl) (by kernel_rfl) (Q36_T p_l) (fun r => [.lf (.int .i64 r)]) (by kernel_rfl) h
structure RB10 where
 m1 : (p_p : GPred) → (p_levels : Int) → (p_left : Int) → Option (Int)
 ok1 : ∀ (p_p : GPred) (p_levels : Int) (p_left : Int) (r : Int), m1 p_p p_levels p_left = some r → Fn Tryz.prog GI 64 [.dat (GPred.lf1 p_p), .lf (.int .i64 p_levels), .lf (.int .i64 p_left)] (.lf (.int .i64 r))
def Q39_J0_T (R_ : RB10) (p_left : Int) (p_levels : Int) (p_p : GPred) : Mo (Bool) :=
 .ite (p_levels == 0) (fun c4251 =>
 .say [.gd 4002 true] (ok1 c4251) <|
 .ret ⟨[], [1, 2, 3, 13], [], 1⟩ (true)) fun c4251 =>
 .say [.gd 4002 false] (ok1 c4251) <|
 .ret ⟨[], [1, 2, 3, 13], [], 1⟩ (decide ((p_left : Int) ≤ 0))
def Q39_J0 (R_ : RB10) (p_left : Int) (p_levels : Int) (p_p : GPred) : Option (Bool) := Mo.den (Q39_J0_T R_ p_left p_levels p_p)
def Q39_J0_S (p_left : Int) (p_levels : Int) (p_p : GPred) (r_ : Bool) : St := ⟨[(1, .lf (.int .i64 p_levels)), (2, .lf (.int .i64 p_left)), (3, .ptr 0 0), (13, .lf (.bool r_))], [.box 47 (.dat (GPred.lf1 p_p))]⟩
theorem Q39_J0_W {R_ : RB10} {p_left : Int} {p_levels : Int} {p_p : GPred} {r_ : Bool} (h : Q39_J0 R_ p_left p_levels p_p = some r_) : AWa_ Tryz.f64 0 [1, 0, 0] (.normal) (Q39_J0_S p_left p_levels p_p r_) ⟨[(1, .lf (.int .i64 p_levels)), (2, .lf (.int .i64 p_left)), (3, .ptr 0 0)], [.box 47 (.dat (GPred.lf1 p_p))]⟩ :=
 part_T BaseK (Q39_J0_T R_ p_left p_levels p_p) (fun _ => .normal) (Q39_J0_S p_left p_levels p_p) (by kernel_rfl) h
def Q39_J5_T (R_ : RB10) (p_levels : Int) (p_p : GPred) (v4300 : Int) (v4301 : Int) : Mo (Bool) :=
 .say [.num p_p.fKids.length] (okc (by simp : p_p.fKids.length = (p_p.fKids.map GPred.lf).length) ok0) <|
 .ite (decide ((v4301 : Int) < (p_p.fKids.length : Int))) (fun c4302 =>
 .say [.gd 12005 true] (ok1 c4302) <|
 .ret ⟨[], [1, 2, 3, 7, 24], [], 1⟩ (decide ((0 : Int) ≤ v4300))) fun c4302 =>
 .say [.gd 12005 false] (ok1 c4302) <|
 .ret ⟨[], [1, 2, 3, 7, 24], [], 1⟩ (false)
def Q39_J5 (R_ : RB10) (p_levels : Int) (p_p : GPred) (v4300 : Int) (v4301 : Int) : Option (Bool) := Mo.den (Q39_J5_T R_ p_levels p_p v4300 v4301)
def Q39_J5_S (p_levels : Int) (p_p : GPred) (v4300 : Int) (v4301 : Int) (r_ : Bool) : St := ⟨[(1, .lf (.int .i64 p_levels)), (2, .lf (.int .i64 v4300)), (3, .ptr 0 0), (7, .lf (.int .i64 v4301)), (24, .lf (.bool r_))], [.box 47 (.dat (GPred.lf1 p_p))]⟩
theorem Q39_J5_W {R_ : RB10} {p_levels : Int} {p_p : GPred} {v4300 : Int} {v4301 : Int} {r_ : Bool} (h : Q39_J5 R_ p_levels p_p v4300 v4301 = some r_) : AWa_ Tryz.f64 0 [1, 1, 1, 0, 1, 0, 0, 0, 0] (.normal) (Q39_J5_S p_levels p_p v4300 v4301 r_) ⟨[(1, .lf (.int .i64 p_levels)), (2, .lf (.int .i64 v4300)), (3, .ptr 0 0), (7, .lf (.int .i64 v4301))], [.box 47 (.dat (GPred.lf1 p_p))]⟩ :=
 part_T BaseK (Q39_J5_T R_ p_levels p_p v4300 v4301) (fun _ => .normal) (Q39_J5_S p_levels p_p v4300 v4301) (by kernel_rfl) h
def Q39_L10_T (R_ : RB10) (p_levels : Int) (p_p : GPred) : (Int × Int) → Mo ((Int × Int) ⊕ (Int)) := fun (v4300, v4301) =>
 .ask (Q39_J5 R_ p_levels p_p v4300 v4301) fun r4304 h4305 =>
 .say [.pt_ 17 [1, 2, 3, 7] 1 (.normal) (Q39_J5_S p_levels p_p v4300 v4301 r4304)] (ok1 (Q39_J5_W h4305)) <|
 .ite (r4304) (fun c4306 =>
 .say [.br true] (ok1 c4306) <|
 .ask (gidx p_p.fKids v4301) fun x4307 h4308 =>
 .say [.row (GPred.lf1 x4307)] (okc (gidx_ok GPred.lf_eq h4308 : (0 : Int) ≤ v4301 ∧ (p_p.fKids.map GPred.lf)[v4301.toNat]? = some (GPred.lf1 x4307)) ok0) <|
 .ask (R_.m1 x4307 (IntKind.wrap .i64 (p_levels - 1)) v4300) fun r4309 h4310 =>
 .say [.res (.lf (.int .i64 r4309))] (ok1 (R_.ok1 _ _ _ _ h4310)) <|
 .ret ⟨[], [1, 2, 3, 7], [], 1⟩ (.inl (r4309, IntKind.wrap .i64 (v4301 + 1)))) fun c4306 =>
 .say [.br false] (ok1 c4306) <|
 .ret ⟨[.kill 0], [2], [], 1⟩ (.inr (v4300))
def Q39_L10 (R_ : RB10) (p_levels : Int) (p_p : GPred) (v4300 : Int) (v4301 : Int) : Option (Int) := loopM (fun v_ => (Q39_L10_T R_ p_levels p_p v_).den) FU (v4300, v4301)
def Q39_L10_H (R_ : RB10) (p_levels : Int) (p_p : GPred) : (Int × Int) → St := fun (v4300, v4301) => ⟨[(1, .lf (.int .i64 p_levels)), (2, .lf (.int .i64 v4300)), (3, .ptr 0 0), (7, .lf (.int .i64 v4301))], [.box 47 (.dat (GPred.lf1 p_p))]⟩
def Q39_L10_S  (r_ : Int) : St := ⟨[(2, .lf (.int .i64 r_))], [.dead]⟩
theorem Q39_L10_W {R_ : RB10} {p_levels : Int} {p_p : GPred} {v4300 : Int} {v4301 : Int} {r_ : Int} (h : Q39_L10 R_ p_levels p_p v4300 v4301 = some r_) : AWa_ Tryz.f64 0 [1, 1, 1, 0, 1, 0] (.exit 0) (Q39_L10_S r_) (Q39_L10_H R_ p_levels p_p (v4300, v4301)) :=
 loop_T BaseK (body := (Code.sub (bodyC Tryz.f64) [1, 1, 1, 0, 1, 0, 0])) (by kernel_rfl) (Q39_L10_T R_ p_levels p_p) (Q39_L10_H R_ p_levels p_p) (fun _ => .exit 0) Q39_L10_S (fun r_ => rfl) (fun v_ => by kernel_rfl) h
def Q39_T (R_ : RB10) (p_p : GPred) (p_levels : Int) (p_left : Int) : Mo (Int) :=
 .ask (Q39_J0 R_ p_left p_levels p_p) fun r4253 h4254 =>
 .say [.pt_ 9 [1, 2, 3] 1 (.normal) (Q39_J0_S p_left p_levels p_p r4253)] (ok1 (Q39_J0_W h4254)) <|
 .ite (r4253) (fun c4256 =>
 .say [.br true] (ok1 c4256) <|
 .ret (fitN 1) ((-1))) fun c4256 =>
 .say [.br false] (ok1 c4256) <|
 .ask (Q39_L10 R_ p_levels p_p (IntKind.wrap .i64 (p_left - 1)) 0) fun r4313 h4314 =>
 .say [.pt_ 0 [1, 2, 3, 7] 1 (.exit 0) (Q39_L10_S r4313)] (ok1 (Q39_L10_W h4314)) <|
 .ret (fitN 1) (r4313)
theorem Q39_okT (R_ : RB10) (p_p : GPred) (p_levels : Int) (p_left : Int) (r : Int) (h : Mo.den (Q39_T R_ p_p p_levels p_left) = some r) : Fn Tryz.prog GI 64 [.dat (GPred.lf1 p_p), .lf (.int .i64 p_levels), .lf (.int .i64 p_left)] (.lf (.int .i64 r)) :=
 fn_T BaseK Tryz.func64 (by kernel_rfl) (by kernel_rfl) (by kernel_rfl) (Q39_T R_ p_p p_levels p_left) (fun r => [.lf (.int .i64 r)]) (by kernel_rfl) h
def RB10_F : Nat → RB10
 | 0 => { m1 := fun p_p p_levels p_left => none, ok1 := fun _ _ _ _ h => (by cases h) }
 | n_ + 1 => { m1 := fun p_p p_levels p_left => Mo.den (Q39_T (RB10_F n_) p_p p_levels p_left), ok1 := fun p_p p_levels p_left r h => Q39_okT (RB10_F n_) p_p p_levels p_left r h }
def Q39 (p_p : GPred) (p_levels : Int) (p_left : Int) : Option (Int) := (RB10_F FU).m1 p_p p_levels p_left
theorem Q39_ok (p_p : GPred) (p_levels : Int) (p_left : Int) (r : Int) (h : Q39 p_p p_levels p_left = some r) : Fn Tryz.prog GI 64 [.dat (GPred.lf1 p_p), .lf (.int .i64 p_levels), .lf (.int .i64 p_left)] (.lf (.int .i64 r)) := (RB10_F FU).ok1 p_p p_levels p_left r h
def Q61_J0_T (p_p : GPred) : Mo (Bool) :=
 .ite (p_p.fOp == 15) (fun c4340 =>
 .say [.br true] (ok1 c4340) <|
 .ret ⟨[], [1, 4, 5], [], 1⟩ (p_p.fOp == 15)) fun c4340 =>
 .say [.br false] (ok1 c4340) <|
 .ret ⟨[], [1, 4, 5], [], 1⟩ (p_p.fOp == 23)
def Q61_J0 (p_p : GPred) : Option (Bool) := Mo.den (Q61_J0_T p_p)
def Q61_J0_S (p_p : GPred) (r_ : Bool) : St := ⟨[(1, .ptr 0 0), (4, .lf (.int .i64 p_p.fOp)), (5, .lf (.bool r_))], [.box 47 (.dat (GPred.lf1 p_p))]⟩
theorem Q61_J0_W {p_p : GPred} {r_ : Bool} (h : Q61_J0 p_p = some r_) : AWa_ Tryz.f84 0 [1, 0, 1, 0, 0, 1] (.normal) (Q61_J0_S p_p r_) ⟨[(1, .ptr 0 0), (4, .lf (.int .i64 p_p.fOp)), (5, .lf (.bool (p_p.fOp == 15)))], [.box 47 (.dat (GPred.lf1 p_p))]⟩ :=
 part_T BaseK (Q61_J0_T p_p) (fun _ => .normal) (Q61_J0_S p_p) (by kernel_rfl) h
def Q61_J5_T (p_p : GPred) : Mo (Bool) :=
 .ite (p_p.fOp == 20) (fun c4352 =>
 .say [.br true] (ok1 c4352) <|
 .ret ⟨[], [1, 12], [], 1⟩ (p_p.fOp == 20)) fun c4352 =>
 .say [.br false] (ok1 c4352) <|
 .ite (p_p.fOp == 21) (fun c4353 =>
 .say [.br true] (ok1 c4353) <|
 .ret ⟨[], [1, 12], [], 1⟩ (p_p.fOp == 21)) fun c4353 =>
 .say [.br false] (ok1 c4353) <|
 .ret ⟨[], [1, 12], [], 1⟩ (p_p.fOp == 22)
def Q61_J5 (p_p : GPred) : Option (Bool) := Mo.den (Q61_J5_T p_p)
def Q61_J5_S (p_p : GPred) (r_ : Bool) : St := ⟨[(1, .ptr 0 0), (12, .lf (.bool r_))], [.box 47 (.dat (GPred.lf1 p_p))]⟩
theorem Q61_J5_W {p_p : GPred} {r_ : Bool} (h : Q61_J5 p_p = some r_) : AWa_ Tryz.f84 0 [1, 0, 1, 0, 1, 1, 0, 1] (.normal) (Q61_J5_S p_p r_) ⟨[(1, .ptr 0 0), (4, .lf (.int .i64 p_p.fOp)), (12, .lf (.bool (p_p.fOp == 20)))], [.box 47 (.dat (GPred.lf1 p_p))]⟩ :=
 part_T BaseK (Q61_J5_T p_p) (fun _ => .normal) (Q61_J5_S p_p) (by kernel_rfl) h
def Q61_T (p_p : GPred) : Mo (Bool) :=
 .ask (Q61_J0 p_p) fun r4342 h4343 =>
 .say [.pt_ 1 [1, 4, 5] 1 (.normal) (Q61_J0_S p_p r4342)] (ok1 (Q61_J0_W h4343)) <|
 .ite (r4342) (fun c4351 =>
 .say [.br true, .num p_p.fKids.length] (okc c4351 (okc (by simp : p_p.fKids.length = (p_p.fKids.map GPred.lf).length) ok0)) <|
 .ret (fitN 1) ((p_p.fKids.length : Int) == 1)) fun c4351 =>
 .say [.br false] (ok1 c4351) <|
 .ask (Q61_J5 p_p) fun r4355 h4356 =>
 .say [.pt_ 1 [1, 4, 12] 1 (.normal) (Q61_J5_S p_p r4355)] (ok1 (Q61_J5_W h4356)) <|
 .ite (r4355) (fun c4358 =>
 .say [.br true, .num p_p.fKids.length] (okc c4358 (okc (by simp : p_p.fKids.length = (p_p.fKids.map GPred.lf).length) ok0)) <|
 .ret (fitN 1) (decide ((0 : Int) < (p_p.fKids.length : Int)))) fun c4358 =>
 .say [.br false, .num p_p.fKids.length] (okc c4358 (okc (by simp : p_p.fKids.length = (p_p.fKids.map GPred.lf).length) ok0)) <|
 .ret (fitN 1) ((p_p.fKids.length : Int) == 0)
def Q61 (p_p : GPred) : Option (Bool) := Mo.den (Q61_T p_p)
theorem Q61_ok (p_p : GPred) (r : Bool) (h : Q61 p_p = some r) : Fn Tryz.prog GI 84 [.dat (GPred.lf1 p_p)] (.lf (.bool r)) :=
 fn_T BaseK Tryz.func84 (by kernel_rfl) (by kernel_rfl) (by kernel_rfl) (Q61_T p_p) (fun r => [.lf (.bool r)]) (by kernel_rfl) h
def Q75_T (p_op : Int) : Mo (Bool) :=
 .ite (p_op == 8) (fun c4365 =>
 .say [.gd 4002 true] (ok1 c4365) <|
 .ret (fitN 1) (true)) fun c4365 =>
 .say [.gd 4002 false] (ok1 c4365) <|
 .ite (p_op == 9) (fun c4366 =>
 .say [.gd 4006 true] (ok1 c4366) <|
 .ret (fitN 1) (true)) fun c4366 =>
 .say [.gd 4006 false] (ok1 c4366) <|
 .ret (fitN 1) (p_op == 14)
def Q75 (p_op : Int) : Option (Bool) := Mo.den (Q75_T p_op)
theorem Q75_ok (p_op : Int) (r : Bool) (h : Q75 p_op = some r) : Fn Tryz.prog GI 85 [.lf (.int .i64 p_op)] (.lf (.bool r)) :=
 fn_T BaseK Tryz.func85 (by kernel_rfl) (by kernel_rfl) (by kernel_rfl) (Q75_T p_op) (fun r => [.lf (.bool r)]) (by kernel_rfl) h
def Q25_J0_T (p_p : GPred) : Mo (Bool) :=
 .ite (p_p.fN == 0) (fun c4412 =>
 .say [.gd 8003 true] (ok1 c4412) <|
 .ret ⟨[.kill 0], [2], [], 1⟩ (true)) fun c4412 =>
 .say [.gd 8003 false] (ok1 c4412) <|
 .ret ⟨[.kill 0], [2], [], 1⟩ (p_p.fN == 1)
def Q25_J0 (p_p : GPred) : Option (Bool) := Mo.den (Q25_J0_T p_p)
def Q25_J0_S  (r_ : Bool) : St := ⟨[(2, .lf (.bool r_))], [.dead]⟩
theorem Q25_J0_W {p_p : GPred} {r_ : Bool} (h : Q25_J0 p_p = some r_) : AWa_ Tryz.f86 0 [1, 0, 1, 0, 1, 0, 0] (.normal) (Q25_J0_S r_) ⟨[(1, .ptr 0 0)], [.box 47 (.dat (GPred.lf1 p_p))]⟩ :=
 part_T BaseK (Q25_J0_T p_p) (fun _ => .normal) Q25_J0_S (by kernel_rfl) h
def Q25_J5_T (p_p : GPred) : Mo (Bool) :=
 .ite (decide ((1 : Int) ≤ p_p.fN)) (fun c4436 =>
 .say [.gd 12003 true] (ok1 c4436) <|
 .ret ⟨[.kill 0], [2], [], 1⟩ (decide ((p_p.fN : Int) ≤ 11))) fun c4436 =>
 .say [.gd 12003 false] (ok1 c4436) <|
 .ret ⟨[.kill 0], [2], [], 1⟩ (false)
def Q25_J5 (p_p : GPred) : Option (Bool) := Mo.den (Q25_J5_T p_p)
def Q25_J5_S  (r_ : Bool) : St := ⟨[(2, .lf (.bool r_))], [.dead]⟩
theorem Q25_J5_W {p_p : GPred} {r_ : Bool} (h : Q25_J5 p_p = some r_) : AWa_ Tryz.f86 0 [1, 0, 1, 0, 1, 1, 1, 0, 0] (.normal) (Q25_J5_S r_) ⟨[(1, .ptr 0 0)], [.box 47 (.dat (GPred.lf1 p_p))]⟩ :=
 part_T BaseK (Q25_J5_T p_p) (fun _ => .normal) Q25_J5_S (by kernel_rfl) h
def Q25_J10_T (p_p : GPred) : Mo (Bool) :=
 .ite (decide ((1 : Int) ≤ p_p.fN)) (fun c4469 =>
 .say [.gd 16003 true] (ok1 c4469) <|
 .ret ⟨[], [1, 2, 34], [], 1⟩ (decide ((0 : Int) ≤ p_p.fM))) fun c4469 =>
 .say [.gd 16003 false] (ok1 c4469) <|
 .ret ⟨[], [1, 2, 34], [], 1⟩ (false)
def Q25_J10 (p_p : GPred) : Option (Bool) := Mo.den (Q25_J10_T p_p)
def Q25_J10_S (p_p : GPred) (r_ : Bool) : St := ⟨[(1, .ptr 0 0), (2, .lf (.bool false)), (34, .lf (.bool r_))], [.box 47 (.dat (GPred.lf1 p_p))]⟩
theorem Q25_J10_W {p_p : GPred} {r_ : Bool} (h : Q25_J10 p_p = some r_) : AWoa_ Tryz.f86 0 [1, 0, 1, 0, 1, 1, 1, 1, 1, 0, 0] [0, 1, 2, 3, 4, 5, 6, 7] (Q25_J10_S p_p r_) ⟨[(1, .ptr 0 0), (2, .lf (.bool false))], [.box 47 (.dat (GPred.lf1 p_p))]⟩ :=
 seg_T BaseK (Q25_J10_T p_p) (Q25_J10_S p_p) (by kernel_rfl) h
def Q25_J15_T (p_p : GPred) (r4471 : Bool) : Mo (Bool) :=
 .ite (r4471) (fun c4473 =>
 .say [.gd 16008 true] (ok1 c4473) <|
 .ret ⟨[.kill 0], [2, 41], [], 1⟩ (decide ((p_p.fM : Int) < p_p.fN))) fun c4473 =>
 .say [.gd 16008 false] (ok1 c4473) <|
 .ret ⟨[.kill 0], [2, 41], [], 1⟩ (false)
def Q25_J15 (p_p : GPred) (r4471 : Bool) : Option (Bool) := Mo.den (Q25_J15_T p_p r4471)
def Q25_J15_S  (r_ : Bool) : St := ⟨[(2, .lf (.bool false)), (41, .lf (.bool r_))], [.dead]⟩
theorem Q25_J15_W {p_p : GPred} {r4471 : Bool} {r_ : Bool} (h : Q25_J15 p_p r4471 = some r_) : AWoa_ Tryz.f86 0 [1, 0, 1, 0, 1, 1, 1, 1, 1, 0, 0] [8, 9, 10, 11, 12, 13, 14] (Q25_J15_S r_) ⟨[(1, .ptr 0 0), (2, .lf (.bool false)), (34, .lf (.bool r4471))], [.box 47 (.dat (GPred.lf1 p_p))]⟩ :=
 seg_T BaseK (Q25_J15_T p_p r4471) Q25_J15_S (by kernel_rfl) h
def Q25_J20_T (r4477 : Bool) : Mo (Unit) :=
 .ret ⟨[], [2], [], 1⟩ ()
def Q25_J20 (r4477 : Bool) : Option (Unit) := Mo.den (Q25_J20_T r4477)
def Q25_J20_S (r4477 : Bool) (r_ : Unit) : St := ⟨[(2, .lf (.bool r4477))], [.dead]⟩
theorem Q25_J20_W {r4477 : Bool} {r_ : Unit} (h : Q25_J20 r4477 = some r_) : AWoa_ Tryz.f86 0 [1, 0, 1, 0, 1, 1, 1, 1, 1, 0, 0] [15] (Q25_J20_S r4477 r_) ⟨[(2, .lf (.bool false)), (41, .lf (.bool r4477))], [.dead]⟩ :=
 seg_T BaseK (Q25_J20_T r4477) (Q25_J20_S r4477) (by kernel_rfl) h
def Q25_T (p_p : GPred) : Mo (Bool) :=
 .ite (p_p.fOp == 10) (fun c4410 =>
 .say [.br true] (ok1 c4410) <|
 .ask (Q25_J0 p_p) fun r4416 h4417 =>
 .say [.pt_ 13 [1] 1 (.normal) (Q25_J0_S r4416)] (ok1 (Q25_J0_W h4417)) <|
 .ret (fitN 1) (r4416)) fun c4410 =>
 .say [.br false] (ok1 c4410) <|
 .ite (p_p.fOp == 11) (fun c4434 =>
 .say [.br true] (ok1 c4434) <|
 .ask (Q25_J5 p_p) fun r4440 h4441 =>
 .say [.pt_ 17 [1] 1 (.normal) (Q25_J5_S r4440)] (ok1 (Q25_J5_W h4441)) <|
 .ret (fitN 1) (r4440)) fun c4434 =>
 .say [.br false] (ok1 c4434) <|
 .ite (p_p.fOp == 12) (fun c4456 =>
 .say [.br true] (ok1 c4456) <|
 .ask (Q25_J10 p_p) fun r4471 h4472 =>
 .say [.sg_ 7 8 [1, 2] 1 (Q25_J10_S p_p r4471)] (ok1 (Q25_J10_W h4472)) <|
 .ask (Q25_J15 p_p r4471) fun r4477 h4478 =>
 .say [.sg_ 7 7 [1, 2, 34] 1 (Q25_J15_S r4477)] (ok1 (Q25_J15_W h4478)) <|
 .ask (Q25_J20 r4477) fun r4479 h4480 =>
 .say [.sg_ 7 1 [2, 41] 1 (Q25_J20_S r4477 r4479)] (ok1 (Q25_J20_W h4480)) <|
 .ret (fitN 1) (r4477)) fun c4456 =>
 .say [.br false] (ok1 c4456) <|
 .ite (p_p.fOp == 13) (fun c4482 =>
 .say [.br true] (ok1 c4482) <|
 .ret (fitN 1) (decide ((0 : Int) ≤ p_p.fN))) fun c4482 =>
 .say [.br false] (ok1 c4482) <|
 .ret (fitN 1) (true)
def Q25 (p_p : GPred) : Option (Bool) := Mo.den (Q25_T p_p)
theorem Q25_ok (p_p : GPred) (r : Bool) (h : Q25 p_p = some r) : Fn Tryz.prog GI 86 [.dat (GPred.lf1 p_p)] (.lf (.bool r)) :=
 fn_T BaseK Tryz.func86 (by kernel_rfl) (by kernel_rfl) (by kernel_rfl) (Q25_T p_p) (fun r => [.lf (.bool r)]) (by kernel_rfl) h
def Q82_T (p_op : Int) : Mo (Bool) :=
 .ite (decide ((2 : Int) ≤ p_op)) (fun c4513 =>
 .say [.gd 4002 true] (ok1 c4513) <|
 .ret (fitN 1) (decide ((p_op : Int) ≤ 19))) fun c4513 =>
 .say [.gd 4002 false] (ok1 c4513) <|
 .ret (fitN 1) (false)
def Q82 (p_op : Int) : Option (Bool) := Mo.den (Q82_T p_op)
theorem Q82_ok (p_op : Int) (r : Bool) (h : Q82 p_op = some r) : Fn Tryz.prog GI 87 [.lf (.int .i64 p_op)] (.lf (.bool r)) :=
 fn_T BaseK Tryz.func87 (by kernel_rfl) (by kernel_rfl) (by kernel_rfl) (Q82_T p_op) (fun r => [.lf (.bool r)]) (by kernel_rfl) h
def Q76_T (p_op : Int) : Mo (Bool) :=
 .ite (p_op == 16) (fun c4544 =>
 .say [.gd 4002 true] (ok1 c4544) <|
 .ret (fitN 1) (true)) fun c4544 =>
 .say [.gd 4002 false] (ok1 c4544) <|
 .ite (p_op == 17) (fun c4545 =>
 .say [.gd 4006 true] (ok1 c4545) <|
 .ret (fitN 1) (true)) fun c4545 =>
 .say [.gd 4006 false] (ok1 c4545) <|
 .ret (fitN 1) (p_op == 19)
def Q76 (p_op : Int) : Option (Bool) := Mo.den (Q76_T p_op)
theorem Q76_ok (p_op : Int) (r : Bool) (h : Q76 p_op = some r) : Fn Tryz.prog GI 89 [.lf (.int .i64 p_op)] (.lf (.bool r)) :=
 fn_T BaseK Tryz.func89 (by kernel_rfl) (by kernel_rfl) (by kernel_rfl) (Q76_T p_op) (fun r => [.lf (.bool r)]) (by kernel_rfl) h
def Q83_T (p_op : Int) : Mo (Bool) :=
 .ite (decide ((2 : Int) ≤ p_op)) (fun c4542 =>
 .say [.gd 4002 true] (ok1 c4542) <|
 .ite (decide ((p_op : Int) ≤ 7)) (fun c4543 =>
 .say [.gd 4006 true] (ok1 c4543) <|
 .ret (fitN 1) (true)) fun c4543 =>
 .say [.gd 4006 false] (ok1 c4543) <|
 .ask (Q76 p_op) fun r4546 h4547 =>
 .say [.res (.lf (.bool r4546))] (ok1 (Q76_ok _ _ h4547)) <|
 .ret (fitN 1) (r4546)) fun c4542 =>
 .say [.gd 4002 false] (ok1 c4542) <|
 .ask (Q76 p_op) fun r4548 h4549 =>
 .say [.res (.lf (.bool r4548))] (ok1 (Q76_ok _ _ h4549)) <|
 .ret (fitN 1) (r4548)
def Q83 (p_op : Int) : Option (Bool) := Mo.den (Q83_T p_op)
theorem Q83_ok (p_op : Int) (r : Bool) (h : Q83 p_op = some r) : Fn Tryz.prog GI 88 [.lf (.int .i64 p_op)] (.lf (.bool r)) :=
 fn_T BaseK Tryz.func88 (by kernel_rfl) (by kernel_rfl) (by kernel_rfl) (Q83_T p_op) (fun r => [.lf (.bool r)]) (by kernel_rfl) h
def Q84_T (p_n : Int) : Mo (Bool) :=
 .ite (decide ((0 : Int) ≤ p_n)) (fun c4652 =>
 .say [.gd 4002 true] (ok1 c4652) <|
 .ret (fitN 1) (decide ((p_n : Int) < 65536))) fun c4652 =>
 .say [.gd 4002 false] (ok1 c4652) <|
 .ret (fitN 1) (false)
def Q84 (p_n : Int) : Option (Bool) := Mo.den (Q84_T p_n)
theorem Q84_ok (p_n : Int) (r : Bool) (h : Q84 p_n = some r) : Fn Tryz.prog GI 111 [.lf (.int .i64 p_n)] (.lf (.bool r)) :=
 fn_T BaseK Tryz.func111 (by kernel_rfl) (by kernel_rfl) (by kernel_rfl) (Q84_T p_n) (fun r => [.lf (.bool r)]) (by kernel_rfl) h
def Q96_T (p_p : GPoint) : Mo (Bool) :=
 .ask (Q84 p_p.fX) fun r4653 h4654 =>
 .say [.res (.lf (.bool r4653))] (ok1 (Q84_ok _ _ h4654)) <|
 .ite (r4653) (fun c4655 =>
 .say [.gd 4003 true] (ok1 c4655) <|
 .ask (Q84 p_p.fY) fun r4656 h4657 =>
 .say [.res (.lf (.bool r4656))] (ok1 (Q84_ok _ _ h4657)) <|
 .ret (fitN 1) (r4656)) fun c4655 =>
 .say [.gd 4003 false] (ok1 c4655) <|
 .ret (fitN 1) (false)
def Q96 (p_p : GPoint) : Option (Bool) := Mo.den (Q96_T p_p)
theorem Q96_ok (p_p : GPoint) (r : Bool) (h : Q96 p_p = some r) : Fn Tryz.prog GI 110 [.dat (GPoint.lf1 p_p)] (.lf (.bool r)) :=
 fn_T BaseK Tryz.func110 (by kernel_rfl) (by kernel_rfl) (by kernel_rfl) (Q96_T p_p) (fun r => [.lf (.bool r)]) (by kernel_rfl) h
def Q22_L0_T (p_s : GShape) : (Int) → Mo ((Int) ⊕ (Unit ⊕ Unit)) := fun (v4688) =>
 .ite (decide ((v4688 : Int) < (p_s.fPoints.length : Int))) (fun c4689 =>
 .say [.br true] (ok1 c4689) <|
 .ask (gidx p_s.fPoints v4688) fun x4690 h4691 =>
 .say [.row (GPoint.lf1 x4690)] (okc (gidx_ok GPoint.lf_eq h4691 : (0 : Int) ≤ v4688 ∧ (p_s.fPoints.map GPoint.lf)[v4688.toNat]? = some (GPoint.lf1 x4690)) ok0) <|
 .ask (Q96 x4690) fun r4692 h4693 =>
 .say [.res (.lf (.bool r4692))] (ok1 (Q96_ok _ _ h4693)) <|
 .ite (!r4692) (fun c4694 =>
 .say [.br true] (ok1 c4694) <|
 .ret ⟨[.kill 0], [2], [], 1⟩ (.inr (.inl ()))) fun c4694 =>
 .say [.br false] (ok1 c4694) <|
 .ret ⟨[], [1, 3, 4], [], 1⟩ (.inl (IntKind.wrap .i64 (v4688 + 1)))) fun c4689 =>
 .say [.br false] (ok1 c4689) <|
 .ret ⟨[], [1, 3], [], 1⟩ (.inr (.inr (())))
def Q22_L0 (p_s : GShape) (v4688 : Int) : Option (Unit ⊕ Unit) := loopM (fun v_ => (Q22_L0_T p_s v_).den) FU (v4688)
def Q22_L0_H (p_s : GShape) : (Int) → St := fun (v4688) => ⟨[(1, .ptr 0 0), (3, .lf (.int .i64 (p_s.fPoints.length : Int))), (4, .lf (.int .i64 v4688))], [.box 41 (.dat (GShape.lf1 p_s))]⟩
def Q22_L0_X (r_ : Unit ⊕ Unit) : Exit := match r_ with
 | .inl o_ => .ret
 | .inr (o_) => .exit 0
def Q22_L0_S (p_s : GShape) (r_ : Unit ⊕ Unit) : St := match r_ with
 | .inl o_ => ⟨[(2, .lf (.int .i64 18))], [.dead]⟩
 | .inr (o_) => ⟨[(1, .ptr 0 0), (3, .lf (.int .i64 (p_s.fPoints.length : Int)))], [.box 41 (.dat (GShape.lf1 p_s))]⟩
theorem Q22_L0_W {p_s : GShape} {v4688 : Int} {r_ : Unit ⊕ Unit} (h : Q22_L0 p_s v4688 = some r_) : AWa_ Tryz.f90 0 [1, 1, 1, 0, 1, 0] (Q22_L0_X r_) (Q22_L0_S p_s r_) (Q22_L0_H p_s (v4688)) :=
 loop_T BaseK (body := (Code.sub (bodyC Tryz.f90) [1, 1, 1, 0, 1, 0, 0])) (by kernel_rfl) (Q22_L0_T p_s) (Q22_L0_H p_s) Q22_L0_X (Q22_L0_S p_s) (fun r_ => by rcases r_ with _ | _ <;> rfl) (fun v_ => by kernel_rfl) h
def Q22_J6_T (p_s : GShape) : Mo (Bool) :=
 .ite (p_s.fKind == 1) (fun c4725 =>
 .say [.gd 20003 true] (ok1 c4725) <|
 .ret ⟨[], [1, 3, 28], [], 1⟩ ((p_s.fPoints.length : Int) == 2)) fun c4725 =>
 .say [.gd 20003 false] (ok1 c4725) <|
 .ret ⟨[], [1, 3, 28], [], 1⟩ (false)
def Q22_J6 (p_s : GShape) : Option (Bool) := Mo.den (Q22_J6_T p_s)
def Q22_J6_S (p_s : GShape) (r_ : Bool) : St := ⟨[(1, .ptr 0 0), (3, .lf (.int .i64 (p_s.fPoints.length : Int))), (28, .lf (.bool r_))], [.box 41 (.dat (GShape.lf1 p_s))]⟩
theorem Q22_J6_W {p_s : GShape} {r_ : Bool} (h : Q22_J6 p_s = some r_) : AWoa_ Tryz.f90 0 [1, 1, 1, 1, 0, 0] [0, 1, 2, 3, 4, 5, 6] (Q22_J6_S p_s r_) ⟨[(1, .ptr 0 0), (3, .lf (.int .i64 (p_s.fPoints.length : Int)))], [.box 41 (.dat (GShape.lf1 p_s))]⟩ :=
 seg_T BaseK (Q22_J6_T p_s) (Q22_J6_S p_s) (by kernel_rfl) h
def Q22_J11_T (p_s : GShape) (r4727 : Bool) : Mo (Bool) :=
 .ite (r4727) (fun c4729 =>
 .say [.gd 20007 true] (ok1 c4729) <|
 .ret ⟨[], [1, 3, 33], [], 1⟩ (p_s.fR == 0)) fun c4729 =>
 .say [.gd 20007 false] (ok1 c4729) <|
 .ret ⟨[], [1, 3, 33], [], 1⟩ (false)
def Q22_J11 (p_s : GShape) (r4727 : Bool) : Option (Bool) := Mo.den (Q22_J11_T p_s r4727)
def Q22_J11_S (p_s : GShape) (r_ : Bool) : St := ⟨[(1, .ptr 0 0), (3, .lf (.int .i64 (p_s.fPoints.length : Int))), (33, .lf (.bool r_))], [.box 41 (.dat (GShape.lf1 p_s))]⟩
theorem Q22_J11_W {p_s : GShape} {r4727 : Bool} {r_ : Bool} (h : Q22_J11 p_s r4727 = some r_) : AWoa_ Tryz.f90 0 [1, 1, 1, 1, 0, 0] [7, 8, 9, 10, 11] (Q22_J11_S p_s r_) ⟨[(1, .ptr 0 0), (3, .lf (.int .i64 (p_s.fPoints.length : Int))), (28, .lf (.bool r4727))], [.box 41 (.dat (GShape.lf1 p_s))]⟩ :=
 seg_T BaseK (Q22_J11_T p_s r4727) (Q22_J11_S p_s) (by kernel_rfl) h
def Q22_J16_T (p_s : GShape) (r4731 : Bool) : Mo (Bool) :=
 .ite (r4731) (fun c4733 =>
 .say [.gd 20012 true] (ok1 c4733) <|
 .ret ⟨[], [1, 3, 47], [], 1⟩ (true)) fun c4733 =>
 .say [.gd 20012 false] (ok1 c4733) <|
 .ite (p_s.fKind == 2) (fun c4734 =>
 .say [.gd 20016 true] (ok1 c4734) <|
 .ite ((p_s.fPoints.length : Int) == 1) (fun c4735 =>
 .say [.gd 20020 true] (ok1 c4735) <|
 .ask (Q84 p_s.fR) fun r4736 h4737 =>
 .say [.res (.lf (.bool r4736))] (ok1 (Q84_ok _ _ h4737)) <|
 .ret ⟨[], [1, 3, 47], [], 1⟩ (r4736)) fun c4735 =>
 .say [.gd 20020 false] (ok1 c4735) <|
 .ret ⟨[], [1, 3, 47], [], 1⟩ (false)) fun c4734 =>
 .say [.gd 20016 false] (ok1 c4734) <|
 .ret ⟨[], [1, 3, 47], [], 1⟩ (false)
def Q22_J16 (p_s : GShape) (r4731 : Bool) : Option (Bool) := Mo.den (Q22_J16_T p_s r4731)
def Q22_J16_S (p_s : GShape) (r_ : Bool) : St := ⟨[(1, .ptr 0 0), (3, .lf (.int .i64 (p_s.fPoints.length : Int))), (47, .lf (.bool r_))], [.box 41 (.dat (GShape.lf1 p_s))]⟩
theorem Q22_J16_W {p_s : GShape} {r4731 : Bool} {r_ : Bool} (h : Q22_J16 p_s r4731 = some r_) : AWoa_ Tryz.f90 0 [1, 1, 1, 1, 0, 0] [12, 13, 14, 15, 16, 17, 18, 19, 20, 21, 22, 23, 24, 25] (Q22_J16_S p_s r_) ⟨[(1, .ptr 0 0), (3, .lf (.int .i64 (p_s.fPoints.length : Int))), (33, .lf (.bool r4731))], [.box 41 (.dat (GShape.lf1 p_s))]⟩ :=
 seg_T BaseK (Q22_J16_T p_s r4731) (Q22_J16_S p_s) (by kernel_rfl) h
def Q22_J21_T (p_s : GShape) (r4739 : Bool) : Mo (Bool) :=
 .ite (r4739) (fun c4741 =>
 .say [.gd 20026 true] (ok1 c4741) <|
 .ret ⟨[.kill 0], [61], [], 1⟩ (true)) fun c4741 =>
 .say [.gd 20026 false] (ok1 c4741) <|
 .ite (p_s.fKind == 3) (fun c4742 =>
 .say [.gd 20030 true] (ok1 c4742) <|
 .ite (decide ((3 : Int) ≤ (p_s.fPoints.length : Int))) (fun c4743 =>
 .say [.gd 20034 true] (ok1 c4743) <|
 .ret ⟨[.kill 0], [61], [], 1⟩ (p_s.fR == 0)) fun c4743 =>
 .say [.gd 20034 false] (ok1 c4743) <|
 .ret ⟨[.kill 0], [61], [], 1⟩ (false)) fun c4742 =>
 .say [.gd 20030 false] (ok1 c4742) <|
 .ret ⟨[.kill 0], [61], [], 1⟩ (false)
def Q22_J21 (p_s : GShape) (r4739 : Bool) : Option (Bool) := Mo.den (Q22_J21_T p_s r4739)
def Q22_J21_S  (r_ : Bool) : St := ⟨[(61, .lf (.bool r_))], [.dead]⟩
theorem Q22_J21_W {p_s : GShape} {r4739 : Bool} {r_ : Bool} (h : Q22_J21 p_s r4739 = some r_) : AWoa_ Tryz.f90 0 [1, 1, 1, 1, 0, 0] [26, 27, 28, 29, 30, 31, 32, 33, 34, 35, 36, 37, 38, 39] (Q22_J21_S r_) ⟨[(1, .ptr 0 0), (3, .lf (.int .i64 (p_s.fPoints.length : Int))), (47, .lf (.bool r4739))], [.box 41 (.dat (GShape.lf1 p_s))]⟩ :=
 seg_T BaseK (Q22_J21_T p_s r4739) Q22_J21_S (by kernel_rfl) h
def Q22_T (p_s : GShape) : Mo (Int) :=
 .say [.num p_s.fPoints.length] (okc (by simp : p_s.fPoints.length = (p_s.fPoints.map GPoint.lf).length) ok0) <|
 .ite (decide ((64 : Int) < (p_s.fPoints.length : Int))) (fun c4647 =>
 .say [.br true] (ok1 c4647) <|
 .ret (fitN 1) (18)) fun c4647 =>
 .say [.br false] (ok1 c4647) <|
 .ask2 (Q22_L0 p_s 0) (fun o4697 h4696 =>
 .say [.pt_ 0 [1, 3, 4] 1 (Q22_L0_X (.inl o4697)) (Q22_L0_S p_s (.inl o4697))] (ok1 (Q22_L0_W h4696)) <|
 .ret (fitN 1) (18)) fun o4698 h4696 =>
 .say [.pt_ 0 [1, 3, 4] 1 (Q22_L0_X (.inr (o4698))) (Q22_L0_S p_s (.inr (o4698)))] (ok1 (Q22_L0_W h4696)) <|
 .ask (Q22_J6 p_s) fun r4727 h4728 =>
 .say [.sg_ 9 7 [1, 3] 1 (Q22_J6_S p_s r4727)] (ok1 (Q22_J6_W h4728)) <|
 .ask (Q22_J11 p_s r4727) fun r4731 h4732 =>
 .say [.sg_ 9 5 [1, 3, 28] 1 (Q22_J11_S p_s r4731)] (ok1 (Q22_J11_W h4732)) <|
 .ask (Q22_J16 p_s r4731) fun r4739 h4740 =>
 .say [.sg_ 9 14 [1, 3, 33] 1 (Q22_J16_S p_s r4739)] (ok1 (Q22_J16_W h4740)) <|
 .ask (Q22_J21 p_s r4739) fun r4749 h4750 =>
 .say [.sg_ 9 14 [1, 3, 47] 1 (Q22_J21_S r4749)] (ok1 (Q22_J21_W h4750)) <|
 .ite (r4749) (fun c4752 =>
 .say [.br true] (ok1 c4752) <|
 .ret (fitN 1) (0)) fun c4752 =>
 .say [.br false] (ok1 c4752) <|
 .ret (fitN 1) (18)
def Q22 (p_s : GShape) : Option (Int) := Mo.den (Q22_T p_s)
theorem Q22_ok (p_s : GShape) (r : Int) (h : Q22 p_s = some r) : Fn Tryz.prog GI 90 [.dat (GShape.lf1 p_s)] (.lf (.int .i64 r)) :=
 fn_T BaseK Tryz.func90 (by kernel_rfl) (by kernel_rfl) (by kernel_rfl) (Q22_T p_s) (fun r => [.lf (.int .i64 r)]) (by kernel_rfl) h
def Q43_J0_T (p_s : GShape) : Mo (Bool) :=
 .ite (p_s.fKind == 0) (fun c4859 =>
 .say [.gd 4003 true, .num p_s.fPoints.length] (okc c4859 (okc (by simp : p_s.fPoints.length = (p_s.fPoints.map GPoint.lf).length) ok0)) <|
 .ret ⟨[], [1, 2, 11], [], 1⟩ ((p_s.fPoints.length : Int) == 0)) fun c4859 =>
 .say [.gd 4003 false] (ok1 c4859) <|
 .ret ⟨[], [1, 2, 11], [], 1⟩ (false)
def Q43_J0 (p_s : GShape) : Option (Bool) := Mo.den (Q43_J0_T p_s)
def Q43_J0_S (p_s : GShape) (r_ : Bool) : St := ⟨[(1, .ptr 0 0), (2, .lf (.bool false)), (11, .lf (.bool r_))], [.box 41 (.dat (GShape.lf1 p_s))]⟩
theorem Q43_J0_W {p_s : GShape} {r_ : Bool} (h : Q43_J0 p_s = some r_) : AWoa_ Tryz.f112 0 [1, 0] [0, 1, 2, 3, 4, 5, 6, 7, 8] (Q43_J0_S p_s r_) ⟨[(1, .ptr 0 0), (2, .lf (.bool false))], [.box 41 (.dat (GShape.lf1 p_s))]⟩ :=
 seg_T BaseK (Q43_J0_T p_s) (Q43_J0_S p_s) (by kernel_rfl) h
def Q43_J5_T (p_s : GShape) (r4861 : Bool) : Mo (Bool) :=
 .ite (r4861) (fun c4863 =>
 .say [.gd 4009 true] (ok1 c4863) <|
 .ret ⟨[.kill 0], [2, 16], [], 1⟩ (p_s.fR == 0)) fun c4863 =>
 .say [.gd 4009 false] (ok1 c4863) <|
 .ret ⟨[.kill 0], [2, 16], [], 1⟩ (false)
def Q43_J5 (p_s : GShape) (r4861 : Bool) : Option (Bool) := Mo.den (Q43_J5_T p_s r4861)
def Q43_J5_S  (r_ : Bool) : St := ⟨[(2, .lf (.bool false)), (16, .lf (.bool r_))], [.dead]⟩
theorem Q43_J5_W {p_s : GShape} {r4861 : Bool} {r_ : Bool} (h : Q43_J5 p_s r4861 = some r_) : AWoa_ Tryz.f112 0 [1, 0] [9, 10, 11, 12, 13] (Q43_J5_S r_) ⟨[(1, .ptr 0 0), (2, .lf (.bool false)), (11, .lf (.bool r4861))], [.box 41 (.dat (GShape.lf1 p_s))]⟩ :=
 seg_T BaseK (Q43_J5_T p_s r4861) Q43_J5_S (by kernel_rfl) h
def Q43_J10_T (r4867 : Bool) : Mo (Unit) :=
 .ret ⟨[], [2], [], 1⟩ ()
def Q43_J10 (r4867 : Bool) : Option (Unit) := Mo.den (Q43_J10_T r4867)
def Q43_J10_S (r4867 : Bool) (r_ : Unit) : St := ⟨[(2, .lf (.bool r4867))], [.dead]⟩
theorem Q43_J10_W {r4867 : Bool} {r_ : Unit} (h : Q43_J10 r4867 = some r_) : AWoa_ Tryz.f112 0 [1, 0] [14] (Q43_J10_S r4867 r_) ⟨[(2, .lf (.bool false)), (16, .lf (.bool r4867))], [.dead]⟩ :=
 seg_T BaseK (Q43_J10_T r4867) (Q43_J10_S r4867) (by kernel_rfl) h
def Q43_T (p_s : GShape) : Mo (Bool) :=
 .ask (Q43_J0 p_s) fun r4861 h4862 =>
 .say [.sg_ 1 9 [1, 2] 1 (Q43_J0_S p_s r4861)] (ok1 (Q43_J0_W h4862)) <|
 .ask (Q43_J5 p_s r4861) fun r4867 h4868 =>
 .say [.sg_ 1 5 [1, 2, 11] 1 (Q43_J5_S r4867)] (ok1 (Q43_J5_W h4868)) <|
 .ask (Q43_J10 r4867) fun r4869 h4870 =>
 .say [.sg_ 1 1 [2, 16] 1 (Q43_J10_S r4867 r4869)] (ok1 (Q43_J10_W h4870)) <|
 .ret (fitN 1) (r4867)
def Q43 (p_s : GShape) : Option (Bool) := Mo.den (Q43_T p_s)
theorem Q43_ok (p_s : GShape) (r : Bool) (h : Q43 p_s = some r) : Fn Tryz.prog GI 112 [.dat (GShape.lf1 p_s)] (.lf (.bool r)) :=
 fn_T BaseK Tryz.func112 (by kernel_rfl) (by kernel_rfl) (by kernel_rfl) (Q43_T p_s) (fun r => [.lf (.bool r)]) (by kernel_rfl) h
def Q18_J0_T (p_e : GExpr) : Mo (Bool) :=
 .ite (p_e.fOp == 0) (fun c4878 =>
 .say [.gd 4003 true, .num p_e.fPath.length] (okc c4878 (okc (by simp : p_e.fPath.length = (p_e.fPath.map lfS).length) ok0)) <|
 .ret ⟨[], [1, 2, 11], [], 1⟩ ((p_e.fPath.length : Int) == 0)) fun c4878 =>
 .say [.gd 4003 false] (ok1 c4878) <|
 .ret ⟨[], [1, 2, 11], [], 1⟩ (false)
def Q18_J0 (p_e : GExpr) : Option (Bool) := Mo.den (Q18_J0_T p_e)
def Q18_J0_S (p_e : GExpr) (r_ : Bool) : St := ⟨[(1, .ptr 0 0), (2, .lf (.bool false)), (11, .lf (.bool r_))], [.box 44 (.dat (GExpr.lf1 p_e))]⟩
theorem Q18_J0_W {p_e : GExpr} {r_ : Bool} (h : Q18_J0 p_e = some r_) : AWoa_ Tryz.f113 0 [1, 0] [0, 1, 2, 3, 4, 5, 6, 7, 8] (Q18_J0_S p_e r_) ⟨[(1, .ptr 0 0), (2, .lf (.bool false))], [.box 44 (.dat (GExpr.lf1 p_e))]⟩ :=
 seg_T BaseK (Q18_J0_T p_e) (Q18_J0_S p_e) (by kernel_rfl) h
def Q18_J5_T (p_e : GExpr) (r4880 : Bool) : Mo (Bool) :=
 .ite (r4880) (fun c4882 =>
 .say [.gd 4009 true] (ok1 c4882) <|
 .ret ⟨[], [1, 2, 16], [], 1⟩ (decide ((p_e.fName : ByteArray) = (⟨#[]⟩ : ByteArray)))) fun c4882 =>
 .say [.gd 4009 false] (ok1 c4882) <|
 .ret ⟨[], [1, 2, 16], [], 1⟩ (false)
def Q18_J5 (p_e : GExpr) (r4880 : Bool) : Option (Bool) := Mo.den (Q18_J5_T p_e r4880)
def Q18_J5_S (p_e : GExpr) (r_ : Bool) : St := ⟨[(1, .ptr 0 0), (2, .lf (.bool false)), (16, .lf (.bool r_))], [.box 44 (.dat (GExpr.lf1 p_e))]⟩
theorem Q18_J5_W {p_e : GExpr} {r4880 : Bool} {r_ : Bool} (h : Q18_J5 p_e r4880 = some r_) : AWoa_ Tryz.f113 0 [1, 0] [9, 10, 11, 12, 13] (Q18_J5_S p_e r_) ⟨[(1, .ptr 0 0), (2, .lf (.bool false)), (11, .lf (.bool r4880))], [.box 44 (.dat (GExpr.lf1 p_e))]⟩ :=
 seg_T BaseK (Q18_J5_T p_e r4880) (Q18_J5_S p_e) (by kernel_rfl) h
def Q18_J10_T (p_e : GExpr) (r4884 : Bool) : Mo (Bool) :=
 .ite (r4884) (fun c4886 =>
 .say [.gd 4014 true, .num p_e.fNames.length] (okc c4886 (okc (by simp : p_e.fNames.length = (p_e.fNames.map lfS).length) ok0)) <|
 .ret ⟨[], [1, 2, 22], [], 1⟩ ((p_e.fNames.length : Int) == 0)) fun c4886 =>
 .say [.gd 4014 false] (ok1 c4886) <|
 .ret ⟨[], [1, 2, 22], [], 1⟩ (false)
def Q18_J10 (p_e : GExpr) (r4884 : Bool) : Option (Bool) := Mo.den (Q18_J10_T p_e r4884)
def Q18_J10_S (p_e : GExpr) (r_ : Bool) : St := ⟨[(1, .ptr 0 0), (2, .lf (.bool false)), (22, .lf (.bool r_))], [.box 44 (.dat (GExpr.lf1 p_e))]⟩
theorem Q18_J10_W {p_e : GExpr} {r4884 : Bool} {r_ : Bool} (h : Q18_J10 p_e r4884 = some r_) : AWoa_ Tryz.f113 0 [1, 0] [14, 15, 16, 17, 18, 19] (Q18_J10_S p_e r_) ⟨[(1, .ptr 0 0), (2, .lf (.bool false)), (16, .lf (.bool r4884))], [.box 44 (.dat (GExpr.lf1 p_e))]⟩ :=
 seg_T BaseK (Q18_J10_T p_e r4884) (Q18_J10_S p_e) (by kernel_rfl) h
def Q18_J15_T (p_e : GExpr) (r4888 : Bool) : Mo (Bool) :=
 .ite (r4888) (fun c4890 =>
 .say [.gd 4020 true] (ok1 c4890) <|
 .ask (Q17 p_e.fArg) fun r4891 h4892 =>
 .say [.res (.lf (.bool r4891))] (ok1 (Q17_ok _ _ h4892)) <|
 .ret ⟨[], [1, 2, 27], [], 1⟩ (r4891)) fun c4890 =>
 .say [.gd 4020 false] (ok1 c4890) <|
 .ret ⟨[], [1, 2, 27], [], 1⟩ (false)
def Q18_J15 (p_e : GExpr) (r4888 : Bool) : Option (Bool) := Mo.den (Q18_J15_T p_e r4888)
def Q18_J15_S (p_e : GExpr) (r_ : Bool) : St := ⟨[(1, .ptr 0 0), (2, .lf (.bool false)), (27, .lf (.bool r_))], [.box 44 (.dat (GExpr.lf1 p_e))]⟩
theorem Q18_J15_W {p_e : GExpr} {r4888 : Bool} {r_ : Bool} (h : Q18_J15 p_e r4888 = some r_) : AWoa_ Tryz.f113 0 [1, 0] [20, 21, 22, 23, 24] (Q18_J15_S p_e r_) ⟨[(1, .ptr 0 0), (2, .lf (.bool false)), (22, .lf (.bool r4888))], [.box 44 (.dat (GExpr.lf1 p_e))]⟩ :=
 seg_T BaseK (Q18_J15_T p_e r4888) (Q18_J15_S p_e) (by kernel_rfl) h
def Q18_J20_T (p_e : GExpr) (r4894 : Bool) : Mo (Bool) :=
 .ite (r4894) (fun c4896 =>
 .say [.gd 4025 true] (ok1 c4896) <|
 .ret ⟨[], [1, 2, 32], [], 1⟩ (p_e.fN == 0)) fun c4896 =>
 .say [.gd 4025 false] (ok1 c4896) <|
 .ret ⟨[], [1, 2, 32], [], 1⟩ (false)
def Q18_J20 (p_e : GExpr) (r4894 : Bool) : Option (Bool) := Mo.den (Q18_J20_T p_e r4894)
def Q18_J20_S (p_e : GExpr) (r_ : Bool) : St := ⟨[(1, .ptr 0 0), (2, .lf (.bool false)), (32, .lf (.bool r_))], [.box 44 (.dat (GExpr.lf1 p_e))]⟩
theorem Q18_J20_W {p_e : GExpr} {r4894 : Bool} {r_ : Bool} (h : Q18_J20 p_e r4894 = some r_) : AWoa_ Tryz.f113 0 [1, 0] [25, 26, 27, 28, 29] (Q18_J20_S p_e r_) ⟨[(1, .ptr 0 0), (2, .lf (.bool false)), (27, .lf (.bool r4894))], [.box 44 (.dat (GExpr.lf1 p_e))]⟩ :=
 seg_T BaseK (Q18_J20_T p_e r4894) (Q18_J20_S p_e) (by kernel_rfl) h
def Q18_J25_T (p_e : GExpr) (r4898 : Bool) : Mo (Bool) :=
 .ite (r4898) (fun c4900 =>
 .say [.gd 4030 true, .num p_e.fKids.length] (okc c4900 (okc (by simp : p_e.fKids.length = (p_e.fKids.map GExpr.lf).length) ok0)) <|
 .ret ⟨[.kill 0], [2, 38], [], 1⟩ ((p_e.fKids.length : Int) == 0)) fun c4900 =>
 .say [.gd 4030 false] (ok1 c4900) <|
 .ret ⟨[.kill 0], [2, 38], [], 1⟩ (false)
def Q18_J25 (p_e : GExpr) (r4898 : Bool) : Option (Bool) := Mo.den (Q18_J25_T p_e r4898)
def Q18_J25_S  (r_ : Bool) : St := ⟨[(2, .lf (.bool false)), (38, .lf (.bool r_))], [.dead]⟩
theorem Q18_J25_W {p_e : GExpr} {r4898 : Bool} {r_ : Bool} (h : Q18_J25 p_e r4898 = some r_) : AWoa_ Tryz.f113 0 [1, 0] [30, 31, 32, 33, 34, 35] (Q18_J25_S r_) ⟨[(1, .ptr 0 0), (2, .lf (.bool false)), (32, .lf (.bool r4898))], [.box 44 (.dat (GExpr.lf1 p_e))]⟩ :=
 seg_T BaseK (Q18_J25_T p_e r4898) Q18_J25_S (by kernel_rfl) h
def Q18_J30_T (r4904 : Bool) : Mo (Unit) :=
 .ret ⟨[], [2], [], 1⟩ ()
def Q18_J30 (r4904 : Bool) : Option (Unit) := Mo.den (Q18_J30_T r4904)
def Q18_J30_S (r4904 : Bool) (r_ : Unit) : St := ⟨[(2, .lf (.bool r4904))], [.dead]⟩
theorem Q18_J30_W {r4904 : Bool} {r_ : Unit} (h : Q18_J30 r4904 = some r_) : AWoa_ Tryz.f113 0 [1, 0] [36] (Q18_J30_S r4904 r_) ⟨[(2, .lf (.bool false)), (38, .lf (.bool r4904))], [.dead]⟩ :=
 seg_T BaseK (Q18_J30_T r4904) (Q18_J30_S r4904) (by kernel_rfl) h
def Q18_T (p_e : GExpr) : Mo (Bool) :=
 .ask (Q18_J0 p_e) fun r4880 h4881 =>
 .say [.sg_ 1 9 [1, 2] 1 (Q18_J0_S p_e r4880)] (ok1 (Q18_J0_W h4881)) <|
 .ask (Q18_J5 p_e r4880) fun r4884 h4885 =>
 .say [.sg_ 1 5 [1, 2, 11] 1 (Q18_J5_S p_e r4884)] (ok1 (Q18_J5_W h4885)) <|
 .ask (Q18_J10 p_e r4884) fun r4888 h4889 =>
 .say [.sg_ 1 6 [1, 2, 16] 1 (Q18_J10_S p_e r4888)] (ok1 (Q18_J10_W h4889)) <|
 .ask (Q18_J15 p_e r4888) fun r4894 h4895 =>
 .say [.sg_ 1 5 [1, 2, 22] 1 (Q18_J15_S p_e r4894)] (ok1 (Q18_J15_W h4895)) <|
 .ask (Q18_J20 p_e r4894) fun r4898 h4899 =>
 .say [.sg_ 1 5 [1, 2, 27] 1 (Q18_J20_S p_e r4898)] (ok1 (Q18_J20_W h4899)) <|
 .ask (Q18_J25 p_e r4898) fun r4904 h4905 =>
 .say [.sg_ 1 6 [1, 2, 32] 1 (Q18_J25_S r4904)] (ok1 (Q18_J25_W h4905)) <|
 .ask (Q18_J30 r4904) fun r4906 h4907 =>
 .say [.sg_ 1 1 [2, 38] 1 (Q18_J30_S r4904 r4906)] (ok1 (Q18_J30_W h4907)) <|
 .ret (fitN 1) (r4904)
def Q18 (p_e : GExpr) : Option (Bool) := Mo.den (Q18_T p_e)
theorem Q18_ok (p_e : GExpr) (r : Bool) (h : Q18 p_e = some r) : Fn Tryz.prog GI 113 [.dat (GExpr.lf1 p_e)] (.lf (.bool r)) :=
 fn_T BaseK Tryz.func113 (by kernel_rfl) (by kernel_rfl) (by kernel_rfl) (Q18_T p_e) (fun r => [.lf (.bool r)]) (by kernel_rfl) h
def Q9_J0_T (p_p : GPred) : Mo (Bool) :=
 .ask (Q82 p_p.fOp) fun r4790 h4791 =>
 .say [.res (.lf (.bool r4790))] (ok1 (Q82_ok _ _ h4791)) <|
 .ite (!r4790) (fun c4792 =>
 .say [.gd 4004 true, .num p_p.fPath.length] (okc c4792 (okc (by simp : p_p.fPath.length = (p_p.fPath.map lfS).length) ok0)) <|
 .ret ⟨[], [1, 12], [], 1⟩ (decide ((0 : Int) < (p_p.fPath.length : Int)))) fun c4792 =>
 .say [.gd 4004 false] (ok1 c4792) <|
 .ret ⟨[], [1, 12], [], 1⟩ (false)
def Q9_J0 (p_p : GPred) : Option (Bool) := Mo.den (Q9_J0_T p_p)
def Q9_J0_S (p_p : GPred) (r_ : Bool) : St := ⟨[(1, .ptr 0 0), (12, .lf (.bool r_))], [.box 47 (.dat (GPred.lf1 p_p))]⟩
theorem Q9_J0_W {p_p : GPred} {r_ : Bool} (h : Q9_J0 p_p = some r_) : AWoa_ Tryz.f91 0 [1, 0, 0] [0, 1, 2, 3, 4, 5, 6, 7, 8, 9] (Q9_J0_S p_p r_) ⟨[(1, .ptr 0 0)], [.box 47 (.dat (GPred.lf1 p_p))]⟩ :=
 seg_T BaseK (Q9_J0_T p_p) (Q9_J0_S p_p) (by kernel_rfl) h
def Q9_J5_T (p_p : GPred) (r4794 : Bool) : Mo (Bool) :=
 .ite (r4794) (fun c4796 =>
 .say [.gd 4010 true] (ok1 c4796) <|
 .ret ⟨[], [1, 24], [], 1⟩ (true)) fun c4796 =>
 .say [.gd 4010 false] (ok1 c4796) <|
 .ask (Q83 p_p.fOp) fun r4797 h4798 =>
 .say [.res (.lf (.bool r4797))] (ok1 (Q83_ok _ _ h4798)) <|
 .ite (!r4797) (fun c4799 =>
 .say [.gd 4015 true] (ok1 c4799) <|
 .ask (Q17 p_p.fArg) fun r4800 h4801 =>
 .say [.res (.lf (.bool r4800))] (ok1 (Q17_ok _ _ h4801)) <|
 .ret ⟨[], [1, 24], [], 1⟩ (!r4800)) fun c4799 =>
 .say [.gd 4015 false] (ok1 c4799) <|
 .ret ⟨[], [1, 24], [], 1⟩ (false)
def Q9_J5 (p_p : GPred) (r4794 : Bool) : Option (Bool) := Mo.den (Q9_J5_T p_p r4794)
def Q9_J5_S (p_p : GPred) (r_ : Bool) : St := ⟨[(1, .ptr 0 0), (24, .lf (.bool r_))], [.box 47 (.dat (GPred.lf1 p_p))]⟩
theorem Q9_J5_W {p_p : GPred} {r4794 : Bool} {r_ : Bool} (h : Q9_J5 p_p r4794 = some r_) : AWoa_ Tryz.f91 0 [1, 0, 0] [10, 11, 12, 13, 14, 15, 16, 17, 18, 19, 20, 21] (Q9_J5_S p_p r_) ⟨[(1, .ptr 0 0), (12, .lf (.bool r4794))], [.box 47 (.dat (GPred.lf1 p_p))]⟩ :=
 seg_T BaseK (Q9_J5_T p_p r4794) (Q9_J5_S p_p) (by kernel_rfl) h
def Q9_J10_T (p_p : GPred) (r4803 : Bool) : Mo (Bool) :=
 .ite (r4803) (fun c4805 =>
 .say [.gd 4022 true] (ok1 c4805) <|
 .ret ⟨[], [1, 36], [], 1⟩ (true)) fun c4805 =>
 .say [.gd 4022 false] (ok1 c4805) <|
 .ask (Q75 p_p.fOp) fun r4806 h4807 =>
 .say [.res (.lf (.bool r4806))] (ok1 (Q75_ok _ _ h4807)) <|
 .ite (!r4806) (fun c4808 =>
 .say [.gd 4027 true, .num p_p.fArgs.length] (okc c4808 (okc (by simp : p_p.fArgs.length = (p_p.fArgs.map GValue.lf).length) ok0)) <|
 .ret ⟨[], [1, 36], [], 1⟩ (decide ((0 : Int) < (p_p.fArgs.length : Int)))) fun c4808 =>
 .say [.gd 4027 false] (ok1 c4808) <|
 .ret ⟨[], [1, 36], [], 1⟩ (false)
def Q9_J10 (p_p : GPred) (r4803 : Bool) : Option (Bool) := Mo.den (Q9_J10_T p_p r4803)
def Q9_J10_S (p_p : GPred) (r_ : Bool) : St := ⟨[(1, .ptr 0 0), (36, .lf (.bool r_))], [.box 47 (.dat (GPred.lf1 p_p))]⟩
theorem Q9_J10_W {p_p : GPred} {r4803 : Bool} {r_ : Bool} (h : Q9_J10 p_p r4803 = some r_) : AWoa_ Tryz.f91 0 [1, 0, 0] [22, 23, 24, 25, 26, 27, 28, 29, 30, 31, 32, 33] (Q9_J10_S p_p r_) ⟨[(1, .ptr 0 0), (24, .lf (.bool r4803))], [.box 47 (.dat (GPred.lf1 p_p))]⟩ :=
 seg_T BaseK (Q9_J10_T p_p r4803) (Q9_J10_S p_p) (by kernel_rfl) h
def Q9_J15_T (p_p : GPred) : Mo (Bool) :=
 .ite (p_p.fOp != 10) (fun c4835 =>
 .say [.gd 8003 true] (ok1 c4835) <|
 .ret ⟨[], [1, 44], [], 1⟩ (p_p.fOp != 11)) fun c4835 =>
 .say [.gd 8003 false] (ok1 c4835) <|
 .ret ⟨[], [1, 44], [], 1⟩ (false)
def Q9_J15 (p_p : GPred) : Option (Bool) := Mo.den (Q9_J15_T p_p)
def Q9_J15_S (p_p : GPred) (r_ : Bool) : St := ⟨[(1, .ptr 0 0), (44, .lf (.bool r_))], [.box 47 (.dat (GPred.lf1 p_p))]⟩
theorem Q9_J15_W {p_p : GPred} {r_ : Bool} (h : Q9_J15 p_p = some r_) : AWoa_ Tryz.f91 0 [1, 1, 0, 0] [0, 1, 2, 3, 4, 5, 6, 7] (Q9_J15_S p_p r_) ⟨[(1, .ptr 0 0)], [.box 47 (.dat (GPred.lf1 p_p))]⟩ :=
 seg_T BaseK (Q9_J15_T p_p) (Q9_J15_S p_p) (by kernel_rfl) h
def Q9_J20_T (p_p : GPred) (r4837 : Bool) : Mo (Bool) :=
 .ite (r4837) (fun c4839 =>
 .say [.gd 8008 true] (ok1 c4839) <|
 .ret ⟨[], [1, 49], [], 1⟩ (p_p.fOp != 12)) fun c4839 =>
 .say [.gd 8008 false] (ok1 c4839) <|
 .ret ⟨[], [1, 49], [], 1⟩ (false)
def Q9_J20 (p_p : GPred) (r4837 : Bool) : Option (Bool) := Mo.den (Q9_J20_T p_p r4837)
def Q9_J20_S (p_p : GPred) (r_ : Bool) : St := ⟨[(1, .ptr 0 0), (49, .lf (.bool r_))], [.box 47 (.dat (GPred.lf1 p_p))]⟩
theorem Q9_J20_W {p_p : GPred} {r4837 : Bool} {r_ : Bool} (h : Q9_J20 p_p r4837 = some r_) : AWoa_ Tryz.f91 0 [1, 1, 0, 0] [8, 9, 10, 11, 12] (Q9_J20_S p_p r_) ⟨[(1, .ptr 0 0), (44, .lf (.bool r4837))], [.box 47 (.dat (GPred.lf1 p_p))]⟩ :=
 seg_T BaseK (Q9_J20_T p_p r4837) (Q9_J20_S p_p) (by kernel_rfl) h
def Q9_J25_T (p_p : GPred) (r4841 : Bool) : Mo (Bool) :=
 .ite (r4841) (fun c4843 =>
 .say [.gd 8013 true] (ok1 c4843) <|
 .ret ⟨[], [1, 54], [], 1⟩ (p_p.fOp != 13)) fun c4843 =>
 .say [.gd 8013 false] (ok1 c4843) <|
 .ret ⟨[], [1, 54], [], 1⟩ (false)
def Q9_J25 (p_p : GPred) (r4841 : Bool) : Option (Bool) := Mo.den (Q9_J25_T p_p r4841)
def Q9_J25_S (p_p : GPred) (r_ : Bool) : St := ⟨[(1, .ptr 0 0), (54, .lf (.bool r_))], [.box 47 (.dat (GPred.lf1 p_p))]⟩
theorem Q9_J25_W {p_p : GPred} {r4841 : Bool} {r_ : Bool} (h : Q9_J25 p_p r4841 = some r_) : AWoa_ Tryz.f91 0 [1, 1, 0, 0] [13, 14, 15, 16, 17] (Q9_J25_S p_p r_) ⟨[(1, .ptr 0 0), (49, .lf (.bool r4841))], [.box 47 (.dat (GPred.lf1 p_p))]⟩ :=
 seg_T BaseK (Q9_J25_T p_p r4841) (Q9_J25_S p_p) (by kernel_rfl) h
def Q9_J30_T (p_p : GPred) (r4845 : Bool) : Mo (Bool) :=
 .ite (r4845) (fun c4847 =>
 .say [.gd 8018 true] (ok1 c4847) <|
 .ret ⟨[], [1, 59], [], 1⟩ (p_p.fN != 0)) fun c4847 =>
 .say [.gd 8018 false] (ok1 c4847) <|
 .ret ⟨[], [1, 59], [], 1⟩ (false)
def Q9_J30 (p_p : GPred) (r4845 : Bool) : Option (Bool) := Mo.den (Q9_J30_T p_p r4845)
def Q9_J30_S (p_p : GPred) (r_ : Bool) : St := ⟨[(1, .ptr 0 0), (59, .lf (.bool r_))], [.box 47 (.dat (GPred.lf1 p_p))]⟩
theorem Q9_J30_W {p_p : GPred} {r4845 : Bool} {r_ : Bool} (h : Q9_J30 p_p r4845 = some r_) : AWoa_ Tryz.f91 0 [1, 1, 0, 0] [18, 19, 20, 21, 22] (Q9_J30_S p_p r_) ⟨[(1, .ptr 0 0), (54, .lf (.bool r4845))], [.box 47 (.dat (GPred.lf1 p_p))]⟩ :=
 seg_T BaseK (Q9_J30_T p_p r4845) (Q9_J30_S p_p) (by kernel_rfl) h
def Q9_J35_T (p_p : GPred) (r4849 : Bool) : Mo (Bool) :=
 .ite (r4849) (fun c4851 =>
 .say [.gd 8023 true] (ok1 c4851) <|
 .ret ⟨[], [1, 69], [], 1⟩ (true)) fun c4851 =>
 .say [.gd 8023 false] (ok1 c4851) <|
 .ite (p_p.fOp != 12) (fun c4852 =>
 .say [.gd 8027 true] (ok1 c4852) <|
 .ret ⟨[], [1, 69], [], 1⟩ (p_p.fM != 0)) fun c4852 =>
 .say [.gd 8027 false] (ok1 c4852) <|
 .ret ⟨[], [1, 69], [], 1⟩ (false)
def Q9_J35 (p_p : GPred) (r4849 : Bool) : Option (Bool) := Mo.den (Q9_J35_T p_p r4849)
def Q9_J35_S (p_p : GPred) (r_ : Bool) : St := ⟨[(1, .ptr 0 0), (69, .lf (.bool r_))], [.box 47 (.dat (GPred.lf1 p_p))]⟩
theorem Q9_J35_W {p_p : GPred} {r4849 : Bool} {r_ : Bool} (h : Q9_J35 p_p r4849 = some r_) : AWoa_ Tryz.f91 0 [1, 1, 0, 0] [23, 24, 25, 26, 27, 28, 29, 30, 31, 32] (Q9_J35_S p_p r_) ⟨[(1, .ptr 0 0), (59, .lf (.bool r4849))], [.box 47 (.dat (GPred.lf1 p_p))]⟩ :=
 seg_T BaseK (Q9_J35_T p_p r4849) (Q9_J35_S p_p) (by kernel_rfl) h
def Q9_J40_T (p_p : GPred) : Mo (Bool) :=
 .ite (p_p.fOp == 18) (fun c4858 =>
 .say [.gd 12003 true] (ok1 c4858) <|
 .ret ⟨[], [1, 77], [], 1⟩ (true)) fun c4858 =>
 .say [.gd 12003 false] (ok1 c4858) <|
 .ask (Q43 p_p.fShape) fun r4871 h4872 =>
 .say [.res (.lf (.bool r4871))] (ok1 (Q43_ok _ _ h4872)) <|
 .ret ⟨[], [1, 77], [], 1⟩ (r4871)
def Q9_J40 (p_p : GPred) : Option (Bool) := Mo.den (Q9_J40_T p_p)
def Q9_J40_S (p_p : GPred) (r_ : Bool) : St := ⟨[(1, .ptr 0 0), (77, .lf (.bool r_))], [.box 47 (.dat (GPred.lf1 p_p))]⟩
theorem Q9_J40_W {p_p : GPred} {r_ : Bool} (h : Q9_J40 p_p = some r_) : AWoa_ Tryz.f91 0 [1, 1, 1, 0] [0, 1, 2, 3, 4, 5, 6, 7] (Q9_J40_S p_p r_) ⟨[(1, .ptr 0 0)], [.box 47 (.dat (GPred.lf1 p_p))]⟩ :=
 seg_T BaseK (Q9_J40_T p_p) (Q9_J40_S p_p) (by kernel_rfl) h
def Q9_J45_T (p_p : GPred) (r4874 : Bool) : Mo (Bool) :=
 .ite (r4874) (fun c4876 =>
 .say [.gd 12008 true] (ok1 c4876) <|
 .ite (p_p.fOp == 24) (fun c4877 =>
 .say [.gd 12012 true] (ok1 c4877) <|
 .ret ⟨[.kill 0], [87], [], 1⟩ (true)) fun c4877 =>
 .say [.gd 12012 false] (ok1 c4877) <|
 .ask (Q18 p_p.fExpr) fun r4908 h4909 =>
 .say [.res (.lf (.bool r4908))] (ok1 (Q18_ok _ _ h4909)) <|
 .ret ⟨[.kill 0], [87], [], 1⟩ (r4908)) fun c4876 =>
 .say [.gd 12008 false] (ok1 c4876) <|
 .ret ⟨[.kill 0], [87], [], 1⟩ (false)
def Q9_J45 (p_p : GPred) (r4874 : Bool) : Option (Bool) := Mo.den (Q9_J45_T p_p r4874)
def Q9_J45_S  (r_ : Bool) : St := ⟨[(87, .lf (.bool r_))], [.dead]⟩
theorem Q9_J45_W {p_p : GPred} {r4874 : Bool} {r_ : Bool} (h : Q9_J45 p_p r4874 = some r_) : AWoa_ Tryz.f91 0 [1, 1, 1, 0] [8, 9, 10, 11, 12, 13, 14, 15, 16, 17] (Q9_J45_S r_) ⟨[(1, .ptr 0 0), (77, .lf (.bool r4874))], [.box 47 (.dat (GPred.lf1 p_p))]⟩ :=
 seg_T BaseK (Q9_J45_T p_p r4874) Q9_J45_S (by kernel_rfl) h
def Q9_J50_T (r4914 : Bool) : Mo (Unit) :=
 .ret ⟨[], [2], [], 1⟩ ()
def Q9_J50 (r4914 : Bool) : Option (Unit) := Mo.den (Q9_J50_T r4914)
def Q9_J50_S (r4914 : Bool) (r_ : Unit) : St := ⟨[(2, .lf (.bool r4914))], [.dead]⟩
theorem Q9_J50_W {r4914 : Bool} {r_ : Unit} (h : Q9_J50 r4914 = some r_) : AWoa_ Tryz.f91 0 [1, 1, 1, 0] [18] (Q9_J50_S r4914 r_) ⟨[(87, .lf (.bool r4914))], [.dead]⟩ :=
 seg_T BaseK (Q9_J50_T r4914) (Q9_J50_S r4914) (by kernel_rfl) h
def Q9_T (p_p : GPred) : Mo (Bool) :=
 .ask (Q9_J0 p_p) fun r4794 h4795 =>
 .say [.sg_ 1 10 [1] 1 (Q9_J0_S p_p r4794)] (ok1 (Q9_J0_W h4795)) <|
 .ask (Q9_J5 p_p r4794) fun r4803 h4804 =>
 .say [.sg_ 1 12 [1, 12] 1 (Q9_J5_S p_p r4803)] (ok1 (Q9_J5_W h4804)) <|
 .ask (Q9_J10 p_p r4803) fun r4810 h4811 =>
 .say [.sg_ 1 12 [1, 24] 1 (Q9_J10_S p_p r4810)] (ok1 (Q9_J10_W h4811)) <|
 .ite (r4810) (fun c4813 =>
 .say [.br true] (ok1 c4813) <|
 .ret (fitN 1) (false)) fun c4813 =>
 .say [.br false] (ok1 c4813) <|
 .ask (Q9_J15 p_p) fun r4837 h4838 =>
 .say [.sg_ 3 8 [1] 1 (Q9_J15_S p_p r4837)] (ok1 (Q9_J15_W h4838)) <|
 .ask (Q9_J20 p_p r4837) fun r4841 h4842 =>
 .say [.sg_ 3 5 [1, 44] 1 (Q9_J20_S p_p r4841)] (ok1 (Q9_J20_W h4842)) <|
 .ask (Q9_J25 p_p r4841) fun r4845 h4846 =>
 .say [.sg_ 3 5 [1, 49] 1 (Q9_J25_S p_p r4845)] (ok1 (Q9_J25_W h4846)) <|
 .ask (Q9_J30 p_p r4845) fun r4849 h4850 =>
 .say [.sg_ 3 5 [1, 54] 1 (Q9_J30_S p_p r4849)] (ok1 (Q9_J30_W h4850)) <|
 .ask (Q9_J35 p_p r4849) fun r4854 h4855 =>
 .say [.sg_ 3 10 [1, 59] 1 (Q9_J35_S p_p r4854)] (ok1 (Q9_J35_W h4855)) <|
 .ite (r4854) (fun c4857 =>
 .say [.br true] (ok1 c4857) <|
 .ret (fitN 1) (false)) fun c4857 =>
 .say [.br false] (ok1 c4857) <|
 .ask (Q9_J40 p_p) fun r4874 h4875 =>
 .say [.sg_ 5 8 [1] 1 (Q9_J40_S p_p r4874)] (ok1 (Q9_J40_W h4875)) <|
 .ask (Q9_J45 p_p r4874) fun r4914 h4915 =>
 .say [.sg_ 5 10 [1, 77] 1 (Q9_J45_S r4914)] (ok1 (Q9_J45_W h4915)) <|
 .ask (Q9_J50 r4914) fun r4916 h4917 =>
 .say [.sg_ 5 1 [87] 1 (Q9_J50_S r4914 r4916)] (ok1 (Q9_J50_W h4917)) <|
 .ret (fitN 1) (r4914)
def Q9 (p_p : GPred) : Option (Bool) := Mo.den (Q9_T p_p)
theorem Q9_ok (p_p : GPred) (r : Bool) (h : Q9 p_p = some r) : Fn Tryz.prog GI 91 [.dat (GPred.lf1 p_p)] (.lf (.bool r)) :=
 fn_T BaseK Tryz.func91 (by kernel_rfl) (by kernel_rfl) (by kernel_rfl) (Q9_T p_p) (fun r => [.lf (.bool r)]) (by kernel_rfl) h
def Q28_J0_T (p_op : Int) : Mo (Bool) :=
 .ite (p_op == 1) (fun c4986 =>
 .say [.br true] (ok1 c4986) <|
 .ret ⟨[], [3, 4], [], 0⟩ (p_op == 1)) fun c4986 =>
 .say [.br false] (ok1 c4986) <|
 .ite (p_op == 2) (fun c4987 =>
 .say [.br true] (ok1 c4987) <|
 .ret ⟨[], [3, 4], [], 0⟩ (p_op == 2)) fun c4987 =>
 .say [.br false] (ok1 c4987) <|
 .ret ⟨[], [3, 4], [], 0⟩ (p_op == 3)
def Q28_J0 (p_op : Int) : Option (Bool) := Mo.den (Q28_J0_T p_op)
def Q28_J0_S (p_op : Int) (r_ : Bool) : St := ⟨[(3, .lf (.int .i64 p_op)), (4, .lf (.bool r_))], []⟩
theorem Q28_J0_W {p_op : Int} {r_ : Bool} (h : Q28_J0 p_op = some r_) : AWa_ Tryz.f117 0 [1, 0, 1, 0, 0, 1] (.normal) (Q28_J0_S p_op r_) ⟨[(3, .lf (.int .i64 p_op)), (4, .lf (.bool (p_op == 1)))], []⟩ :=
 part_T BaseK (Q28_J0_T p_op) (fun _ => .normal) (Q28_J0_S p_op) (by kernel_rfl) h
def Q28_J5_T (p_op : Int) : Mo (Bool) :=
 .ite (p_op == 18) (fun c5021 =>
 .say [.br true] (ok1 c5021) <|
 .ret ⟨[], [3, 8], [], 0⟩ (p_op == 18)) fun c5021 =>
 .say [.br false] (ok1 c5021) <|
 .ite (p_op == 22) (fun c5022 =>
 .say [.br true] (ok1 c5022) <|
 .ret ⟨[], [3, 8], [], 0⟩ (p_op == 22)) fun c5022 =>
 .say [.br false] (ok1 c5022) <|
 .ite (p_op == 23) (fun c5023 =>
 .say [.br true] (ok1 c5023) <|
 .ret ⟨[], [3, 8], [], 0⟩ (p_op == 23)) fun c5023 =>
 .say [.br false] (ok1 c5023) <|
 .ite (p_op == 24) (fun c5024 =>
 .say [.br true] (ok1 c5024) <|
 .ret ⟨[], [3, 8], [], 0⟩ (p_op == 24)) fun c5024 =>
 .say [.br false] (ok1 c5024) <|
 .ite (p_op == 26) (fun c5025 =>
 .say [.br true] (ok1 c5025) <|
 .ret ⟨[], [3, 8], [], 0⟩ (p_op == 26)) fun c5025 =>
 .say [.br false] (ok1 c5025) <|
 .ite (p_op == 30) (fun c5026 =>
 .say [.br true] (ok1 c5026) <|
 .ret ⟨[], [3, 8], [], 0⟩ (p_op == 30)) fun c5026 =>
 .say [.br false] (ok1 c5026) <|
 .ite (p_op == 31) (fun c5027 =>
 .say [.br true] (ok1 c5027) <|
 .ret ⟨[], [3, 8], [], 0⟩ (p_op == 31)) fun c5027 =>
 .say [.br false] (ok1 c5027) <|
 .ret ⟨[], [3, 8], [], 0⟩ (p_op == 36)
def Q28_J5 (p_op : Int) : Option (Bool) := Mo.den (Q28_J5_T p_op)
def Q28_J5_S (p_op : Int) (r_ : Bool) : St := ⟨[(3, .lf (.int .i64 p_op)), (8, .lf (.bool r_))], []⟩
theorem Q28_J5_W {p_op : Int} {r_ : Bool} (h : Q28_J5 p_op = some r_) : AWa_ Tryz.f117 0 [1, 0, 1, 0, 1, 1, 0, 1] (.normal) (Q28_J5_S p_op r_) ⟨[(3, .lf (.int .i64 p_op)), (8, .lf (.bool (p_op == 18)))], []⟩ :=
 part_T BaseK (Q28_J5_T p_op) (fun _ => .normal) (Q28_J5_S p_op) (by kernel_rfl) h
def Q28_J10_T (p_op : Int) : Mo (Bool) :=
 .ite (p_op == 19) (fun c5050 =>
 .say [.br true] (ok1 c5050) <|
 .ret ⟨[], [3, 17], [], 0⟩ (p_op == 19)) fun c5050 =>
 .say [.br false] (ok1 c5050) <|
 .ret ⟨[], [3, 17], [], 0⟩ (p_op == 25)
def Q28_J10 (p_op : Int) : Option (Bool) := Mo.den (Q28_J10_T p_op)
def Q28_J10_S (p_op : Int) (r_ : Bool) : St := ⟨[(3, .lf (.int .i64 p_op)), (17, .lf (.bool r_))], []⟩
theorem Q28_J10_W {p_op : Int} {r_ : Bool} (h : Q28_J10 p_op = some r_) : AWa_ Tryz.f117 0 [1, 0, 1, 0, 1, 1, 1, 1, 0, 1] (.normal) (Q28_J10_S p_op r_) ⟨[(3, .lf (.int .i64 p_op)), (17, .lf (.bool (p_op == 19)))], []⟩ :=
 part_T BaseK (Q28_J10_T p_op) (fun _ => .normal) (Q28_J10_S p_op) (by kernel_rfl) h
def Q28_J15_T (p_op : Int) : Mo (Bool) :=
 .ite (p_op == 4) (fun c5068 =>
 .say [.br true] (ok1 c5068) <|
 .ret ⟨[], [20], [], 0⟩ (p_op == 4)) fun c5068 =>
 .say [.br false] (ok1 c5068) <|
 .ite (p_op == 6) (fun c5069 =>
 .say [.br true] (ok1 c5069) <|
 .ret ⟨[], [20], [], 0⟩ (p_op == 6)) fun c5069 =>
 .say [.br false] (ok1 c5069) <|
 .ite (p_op == 16) (fun c5070 =>
 .say [.br true] (ok1 c5070) <|
 .ret ⟨[], [20], [], 0⟩ (p_op == 16)) fun c5070 =>
 .say [.br false] (ok1 c5070) <|
 .ite (p_op == 17) (fun c5071 =>
 .say [.br true] (ok1 c5071) <|
 .ret ⟨[], [20], [], 0⟩ (p_op == 17)) fun c5071 =>
 .say [.br false] (ok1 c5071) <|
 .ite (p_op == 21) (fun c5072 =>
 .say [.br true] (ok1 c5072) <|
 .ret ⟨[], [20], [], 0⟩ (p_op == 21)) fun c5072 =>
 .say [.br false] (ok1 c5072) <|
 .ite (p_op == 29) (fun c5073 =>
 .say [.br true] (ok1 c5073) <|
 .ret ⟨[], [20], [], 0⟩ (p_op == 29)) fun c5073 =>
 .say [.br false] (ok1 c5073) <|
 .ite (p_op == 37) (fun c5074 =>
 .say [.br true] (ok1 c5074) <|
 .ret ⟨[], [20], [], 0⟩ (p_op == 37)) fun c5074 =>
 .say [.br false] (ok1 c5074) <|
 .ite (p_op == 35) (fun c5075 =>
 .say [.br true] (ok1 c5075) <|
 .ret ⟨[], [20], [], 0⟩ (p_op == 35)) fun c5075 =>
 .say [.br false] (ok1 c5075) <|
 .ret ⟨[], [20], [], 0⟩ (p_op == 34)
def Q28_J15 (p_op : Int) : Option (Bool) := Mo.den (Q28_J15_T p_op)
def Q28_J15_S  (r_ : Bool) : St := ⟨[(20, .lf (.bool r_))], []⟩
theorem Q28_J15_W {p_op : Int} {r_ : Bool} (h : Q28_J15 p_op = some r_) : AWa_ Tryz.f117 0 [1, 0, 1, 0, 1, 1, 1, 1, 1, 1, 0, 1] (.normal) (Q28_J15_S r_) ⟨[(3, .lf (.int .i64 p_op)), (20, .lf (.bool (p_op == 4)))], []⟩ :=
 part_T BaseK (Q28_J15_T p_op) (fun _ => .normal) Q28_J15_S (by kernel_rfl) h
def Q28_T (p_op : Int) : Mo (Int) :=
 .ask (Q28_J0 p_op) fun r4989 h4990 =>
 .say [.pt_ 1 [3, 4] 0 (.normal) (Q28_J0_S p_op r4989)] (ok1 (Q28_J0_W h4990)) <|
 .ite (r4989) (fun c5020 =>
 .say [.br true] (ok1 c5020) <|
 .ret (fitN 1) (0)) fun c5020 =>
 .say [.br false] (ok1 c5020) <|
 .ask (Q28_J5 p_op) fun r5029 h5030 =>
 .say [.pt_ 1 [3, 8] 0 (.normal) (Q28_J5_S p_op r5029)] (ok1 (Q28_J5_W h5030)) <|
 .ite (r5029) (fun c5049 =>
 .say [.br true] (ok1 c5049) <|
 .ret (fitN 1) (1)) fun c5049 =>
 .say [.br false] (ok1 c5049) <|
 .ask (Q28_J10 p_op) fun r5052 h5053 =>
 .say [.pt_ 1 [3, 17] 0 (.normal) (Q28_J10_S p_op r5052)] (ok1 (Q28_J10_W h5053)) <|
 .ite (r5052) (fun c5067 =>
 .say [.br true] (ok1 c5067) <|
 .ret (fitN 1) (3)) fun c5067 =>
 .say [.br false] (ok1 c5067) <|
 .ask (Q28_J15 p_op) fun r5077 h5078 =>
 .say [.pt_ 1 [3, 20] 0 (.normal) (Q28_J15_S r5077)] (ok1 (Q28_J15_W h5078)) <|
 .ite (r5077) (fun c5080 =>
 .say [.br true] (ok1 c5080) <|
 .ret (fitN 1) ((-1))) fun c5080 =>
 .say [.br false] (ok1 c5080) <|
 .ret (fitN 1) (2)
def Q28 (p_op : Int) : Option (Int) := Mo.den (Q28_T p_op)
theorem Q28_ok (p_op : Int) (r : Int) (h : Q28 p_op = some r) : Fn Tryz.prog GI 117 [.lf (.int .i64 p_op)] (.lf (.int .i64 r)) :=
 fn_T BaseK Tryz.func117 (by kernel_rfl) (by kernel_rfl) (by kernel_rfl) (Q28_T p_op) (fun r => [.lf (.int .i64 r)]) (by kernel_rfl) h
def Q37_L0_T (p_l : List ByteArray) (v5296 : Int) : (Int) → Mo ((Int) ⊕ (Unit ⊕ Unit)) := fun (v5309) =>
 .ite (decide ((v5309 : Int) < v5296)) (fun c5310 =>
 .say [.br true, .order [(true, 0), (true, 1), (true, 2), (true, 3), (true, 4), (true, 5), (true, 6), (true, 7), (true, 8)] none []] (ok1 c5310) <|
 .ask (gidx p_l v5309) fun x5311 h5312 =>
 .say [.row (lfS x5311)] (okc (gidx_ok (fun _ => rfl) h5312 : (0 : Int) ≤ v5309 ∧ (p_l.map lfS)[v5309.toNat]? = some (lfS x5311)) ok0) <|
 .ask (gidx p_l v5296) fun x5313 h5314 =>
 .say [.row (lfS x5313)] (okc (gidx_ok (fun _ => rfl) h5314 : (0 : Int) ≤ v5296 ∧ (p_l.map lfS)[v5296.toNat]? = some (lfS x5313)) ok0) <|
 .ite (decide ((x5311 : ByteArray) = (x5313 : ByteArray))) (fun c5315 =>
 .say [.br true] (ok1 c5315) <|
 .ret ⟨[], [2], [], 0⟩ (.inr (.inl ()))) fun c5315 =>
 .say [.br false] (ok1 c5315) <|
 .ret ⟨[], [0, 3, 4], [], 0⟩ (.inl (IntKind.wrap .i64 (v5309 + 1)))) fun c5310 =>
 .say [.br false] (ok1 c5310) <|
 .ret ⟨[], [0, 3], [], 0⟩ (.inr (.inr (())))
def Q37_L0 (p_l : List ByteArray) (v5296 : Int) (v5309 : Int) : Option (Unit ⊕ Unit) := loopM (fun v_ => (Q37_L0_T p_l v5296 v_).den) FU (v5309)
def Q37_L0_H (p_l : List ByteArray) (v5296 : Int) : (Int) → St := fun (v5309) => ⟨[(0, .lf (.rows 1 (p_l.map lfS))), (3, .lf (.int .i64 v5296)), (4, .lf (.int .i64 v5309))], []⟩
def Q37_L0_X (r_ : Unit ⊕ Unit) : Exit := match r_ with
 | .inl o_ => .ret
 | .inr (o_) => .exit 2
def Q37_L0_S (p_l : List ByteArray) (v5296 : Int) (r_ : Unit ⊕ Unit) : St := match r_ with
 | .inl o_ => ⟨[(2, .lf (.bool false))], []⟩
 | .inr (o_) => ⟨[(0, .lf (.rows 1 (p_l.map lfS))), (3, .lf (.int .i64 v5296))], []⟩
theorem Q37_L0_W {p_l : List ByteArray} {v5296 : Int} {v5309 : Int} {r_ : Unit ⊕ Unit} (h : Q37_L0 p_l v5296 v5309 = some r_) : AWa_ Tryz.f118 0 [1, 0, 1, 0, 0, 1, 0, 0, 1, 1, 0] (Q37_L0_X r_) (Q37_L0_S p_l v5296 r_) (Q37_L0_H p_l v5296 (v5309)) :=
 loop_T BaseK (body := (Code.sub (bodyC Tryz.f118) [1, 0, 1, 0, 0, 1, 0, 0, 1, 1, 0, 0])) (by kernel_rfl) (Q37_L0_T p_l v5296) (Q37_L0_H p_l v5296) Q37_L0_X (Q37_L0_S p_l v5296) (fun r_ => by rcases r_ with _ | _ <;> rfl) (fun v_ => by kernel_rfl) h
def Q37_L6_T (p_l : List ByteArray) : (Int) → Mo ((Int) ⊕ (Unit ⊕ Unit)) := fun (v5296) =>
 .say [.num p_l.length] (okc (by simp : p_l.length = (p_l.map lfS).length) ok0) <|
 .ite (decide ((v5296 : Int) < (p_l.length : Int))) (fun c5297 =>
 .say [.br true] (ok1 c5297) <|
 .ask (gidx p_l v5296) fun x5298 h5299 =>
 .say [.row (lfS x5298)] (okc (gidx_ok (fun _ => rfl) h5299 : (0 : Int) ≤ v5296 ∧ (p_l.map lfS)[v5296.toNat]? = some (lfS x5298)) ok0) <|
 .ask (Q20 x5298) fun r5300 h5301 =>
 .say [.res (.lf (.bool r5300))] (ok1 (Q20_ok _ _ h5301)) <|
 .ite (!r5300) (fun c5302 =>
 .say [.br true] (ok1 c5302) <|
 .ret ⟨[], [2], [], 0⟩ (.inr (.inl ()))) fun c5302 =>
 .say [.br false] (ok1 c5302) <|
 .ask2 (Q37_L0 p_l v5296 0) (fun o5318 h5317 =>
 .say [.pt_ 0 [0, 3, 4] 0 (Q37_L0_X (.inl o5318)) (Q37_L0_S p_l v5296 (.inl o5318))] (ok1 (Q37_L0_W h5317)) <|
 .ret ⟨[], [2], [], 0⟩ (.inr (.inl ()))) fun o5319 h5317 =>
 .say [.pt_ 0 [0, 3, 4] 0 (Q37_L0_X (.inr (o5319))) (Q37_L0_S p_l v5296 (.inr (o5319)))] (ok1 (Q37_L0_W h5317)) <|
 .ret ⟨[], [0, 3], [], 0⟩ (.inl (IntKind.wrap .i64 (v5296 + 1)))) fun c5297 =>
 .say [.br false] (ok1 c5297) <|
 .ret ⟨[], [], [], 0⟩ (.inr (.inr (())))
def Q37_L6 (p_l : List ByteArray) (v5296 : Int) : Option (Unit ⊕ Unit) := loopM (fun v_ => (Q37_L6_T p_l v_).den) FU (v5296)
def Q37_L6_H (p_l : List ByteArray) : (Int) → St := fun (v5296) => ⟨[(0, .lf (.rows 1 (p_l.map lfS))), (3, .lf (.int .i64 v5296))], []⟩
def Q37_L6_X (r_ : Unit ⊕ Unit) : Exit := match r_ with
 | .inl o_ => .ret
 | .inr (o_) => .exit 0
def Q37_L6_S  (r_ : Unit ⊕ Unit) : St := match r_ with
 | .inl o_ => ⟨[(2, .lf (.bool false))], []⟩
 | .inr (o_) => ⟨[], []⟩
theorem Q37_L6_W {p_l : List ByteArray} {v5296 : Int} {r_ : Unit ⊕ Unit} (h : Q37_L6 p_l v5296 = some r_) : AWa_ Tryz.f118 0 [1, 0, 1, 0] (Q37_L6_X r_) (Q37_L6_S r_) (Q37_L6_H p_l (v5296)) :=
 loop_T BaseK (body := (Code.sub (bodyC Tryz.f118) [1, 0, 1, 0, 0])) (by kernel_rfl) (Q37_L6_T p_l) (Q37_L6_H p_l) Q37_L6_X Q37_L6_S (fun r_ => by rcases r_ with _ | _ <;> rfl) (fun v_ => by kernel_rfl) h
def Q37_T (p_l : List ByteArray) : Mo (Bool) :=
 .ask2 (Q37_L6 p_l 0) (fun o5322 h5321 =>
 .say [.pt_ 0 [0, 3] 0 (Q37_L6_X (.inl o5322)) (Q37_L6_S (.inl o5322))] (ok1 (Q37_L6_W h5321)) <|
 .ret (fitN 1) (false)) fun o5323 h5321 =>
 .say [.pt_ 0 [0, 3] 0 (Q37_L6_X (.inr (o5323))) (Q37_L6_S (.inr (o5323)))] (ok1 (Q37_L6_W h5321)) <|
 .ret (fitN 1) (true)
def Q37 (p_l : List ByteArray) : Option (Bool) := Mo.den (Q37_T p_l)
theorem Q37_ok (p_l : List ByteArray) (r : Bool) (h : Q37 p_l = some r) : Fn Tryz.prog GI 118 [.lf (.rows 1 (p_l.map lfS))] (.lf (.bool r)) :=
 fn_T BaseK Tryz.func118 (by kernel_rfl) (by kernel_rfl) (by kernel_rfl) (Q37_T p_l) (fun r => [.lf (.bool r)]) (by kernel_rfl) h
structure RB13 where
 m1 : (p_a : GValue) → (p_b : GValue) → Option (Bool)
 ok1 : ∀ (p_a : GValue) (p_b : GValue) (r : Bool), m1 p_a p_b = some r → Fn Tryz.prog GI 66 [.dat (GValue.lf1 p_a), .dat (GValue.lf1 p_b)] (.lf (.bool r))
def Q12_J0_T (R_ : RB13) (p_a : GValue) (p_b : GValue) : Mo (Bool) :=
 .ite (p_a.fKind != p_b.fKind) (fun c5391 =>
 .say [.gd 4005 true] (ok1 c5391) <|
 .ret ⟨[], [2, 3, 18], [], 2⟩ (true)) fun c5391 =>
 .say [.gd 4005 false] (ok1 c5391) <|
 .ret ⟨[], [2, 3, 18], [], 2⟩ (p_a.fInt != p_b.fInt)
def Q12_J0 (R_ : RB13) (p_a : GValue) (p_b : GValue) : Option (Bool) := Mo.den (Q12_J0_T R_ p_a p_b)
def Q12_J0_S (p_a : GValue) (p_b : GValue) (r_ : Bool) : St := ⟨[(2, .ptr 0 0), (3, .ptr 1 0), (18, .lf (.bool r_))], [.box 29 (.dat (GValue.lf1 p_a)), .box 29 (.dat (GValue.lf1 p_b))]⟩
theorem Q12_J0_W {R_ : RB13} {p_a : GValue} {p_b : GValue} {r_ : Bool} (h : Q12_J0 R_ p_a p_b = some r_) : AWoa_ Tryz.f66 0 [1, 0, 0] [0, 1, 2, 3, 4, 5, 6, 7, 8, 9, 10, 11] (Q12_J0_S p_a p_b r_) ⟨[(2, .ptr 0 0), (3, .ptr 1 0)], [.box 29 (.dat (GValue.lf1 p_a)), .box 29 (.dat (GValue.lf1 p_b))]⟩ :=
 seg_T BaseK (Q12_J0_T R_ p_a p_b) (Q12_J0_S p_a p_b) (by kernel_rfl) h
def Q12_J5_T (R_ : RB13) (p_a : GValue) (p_b : GValue) (r5393 : Bool) : Mo (Bool) :=
 .ite (r5393) (fun c5395 =>
 .say [.gd 4012 true] (ok1 c5395) <|
 .ret ⟨[], [2, 3, 25], [], 2⟩ (true)) fun c5395 =>
 .say [.gd 4012 false] (ok1 c5395) <|
 .ret ⟨[], [2, 3, 25], [], 2⟩ (!decide ((p_a.fText : ByteArray) = (p_b.fText : ByteArray)))
def Q12_J5 (R_ : RB13) (p_a : GValue) (p_b : GValue) (r5393 : Bool) : Option (Bool) := Mo.den (Q12_J5_T R_ p_a p_b r5393)
def Q12_J5_S (p_a : GValue) (p_b : GValue) (r_ : Bool) : St := ⟨[(2, .ptr 0 0), (3, .ptr 1 0), (25, .lf (.bool r_))], [.box 29 (.dat (GValue.lf1 p_a)), .box 29 (.dat (GValue.lf1 p_b))]⟩
theorem Q12_J5_W {R_ : RB13} {p_a : GValue} {p_b : GValue} {r5393 : Bool} {r_ : Bool} (h : Q12_J5 R_ p_a p_b r5393 = some r_) : AWoa_ Tryz.f66 0 [1, 0, 0] [12, 13, 14, 15, 16, 17, 18] (Q12_J5_S p_a p_b r_) ⟨[(2, .ptr 0 0), (3, .ptr 1 0), (18, .lf (.bool r5393))], [.box 29 (.dat (GValue.lf1 p_a)), .box 29 (.dat (GValue.lf1 p_b))]⟩ :=
 seg_T BaseK (Q12_J5_T R_ p_a p_b r5393) (Q12_J5_S p_a p_b) (by kernel_rfl) h
def Q12_J10_T (R_ : RB13) (p_a : GValue) (p_b : GValue) (r5397 : Bool) : Mo (Bool) :=
 .ite (r5397) (fun c5399 =>
 .say [.gd 4019 true] (ok1 c5399) <|
 .ret ⟨[], [2, 3, 34], [], 2⟩ (true)) fun c5399 =>
 .say [.gd 4019 false, .num p_a.fList.length, .num p_b.fList.length] (okc c5399 (okc (by simp : p_a.fList.length = (p_a.fList.map GValue.lf).length) (okc (by simp : p_b.fList.length = (p_b.fList.map GValue.lf).length) ok0))) <|
 .ret ⟨[], [2, 3, 34], [], 2⟩ ((p_a.fList.length : Int) != (p_b.fList.length : Int))
def Q12_J10 (R_ : RB13) (p_a : GValue) (p_b : GValue) (r5397 : Bool) : Option (Bool) := Mo.den (Q12_J10_T R_ p_a p_b r5397)
def Q12_J10_S (p_a : GValue) (p_b : GValue) (r_ : Bool) : St := ⟨[(2, .ptr 0 0), (3, .ptr 1 0), (34, .lf (.bool r_))], [.box 29 (.dat (GValue.lf1 p_a)), .box 29 (.dat (GValue.lf1 p_b))]⟩
theorem Q12_J10_W {R_ : RB13} {p_a : GValue} {p_b : GValue} {r5397 : Bool} {r_ : Bool} (h : Q12_J10 R_ p_a p_b r5397 = some r_) : AWoa_ Tryz.f66 0 [1, 0, 0] [19, 20, 21, 22, 23, 24, 25, 26, 27] (Q12_J10_S p_a p_b r_) ⟨[(2, .ptr 0 0), (3, .ptr 1 0), (25, .lf (.bool r5397))], [.box 29 (.dat (GValue.lf1 p_a)), .box 29 (.dat (GValue.lf1 p_b))]⟩ :=
 seg_T BaseK (Q12_J10_T R_ p_a p_b r5397) (Q12_J10_S p_a p_b) (by kernel_rfl) h
def Q12_J15_T (R_ : RB13) (p_a : GValue) (p_b : GValue) (r5401 : Bool) : Mo (Bool) :=
 .ite (r5401) (fun c5403 =>
 .say [.gd 4028 true] (ok1 c5403) <|
 .ret ⟨[], [2, 3, 43], [], 2⟩ (true)) fun c5403 =>
 .say [.gd 4028 false, .num p_a.fDoc.length, .num p_b.fDoc.length] (okc c5403 (okc (by simp : p_a.fDoc.length = (p_a.fDoc.map GField.lf).length) (okc (by simp : p_b.fDoc.length = (p_b.fDoc.map GField.lf).length) ok0))) <|
 .ret ⟨[], [2, 3, 43], [], 2⟩ ((p_a.fDoc.length : Int) != (p_b.fDoc.length : Int))
def Q12_J15 (R_ : RB13) (p_a : GValue) (p_b : GValue) (r5401 : Bool) : Option (Bool) := Mo.den (Q12_J15_T R_ p_a p_b r5401)
def Q12_J15_S (p_a : GValue) (p_b : GValue) (r_ : Bool) : St := ⟨[(2, .ptr 0 0), (3, .ptr 1 0), (43, .lf (.bool r_))], [.box 29 (.dat (GValue.lf1 p_a)), .box 29 (.dat (GValue.lf1 p_b))]⟩
theorem Q12_J15_W {R_ : RB13} {p_a : GValue} {p_b : GValue} {r5401 : Bool} {r_ : Bool} (h : Q12_J15 R_ p_a p_b r5401 = some r_) : AWoa_ Tryz.f66 0 [1, 0, 0] [28, 29, 30, 31, 32, 33, 34, 35, 36] (Q12_J15_S p_a p_b r_) ⟨[(2, .ptr 0 0), (3, .ptr 1 0), (34, .lf (.bool r5401))], [.box 29 (.dat (GValue.lf1 p_a)), .box 29 (.dat (GValue.lf1 p_b))]⟩ :=
 seg_T BaseK (Q12_J15_T R_ p_a p_b r5401) (Q12_J15_S p_a p_b) (by kernel_rfl) h
def Q12_L20_T (R_ : RB13) (p_a : GValue) (p_b : GValue) : (Int) → Mo ((Int) ⊕ (Unit ⊕ Unit)) := fun (v5453) =>
 .say [.num p_a.fList.length] (okc (by simp : p_a.fList.length = (p_a.fList.map GValue.lf).length) ok0) <|
 .ite (decide ((v5453 : Int) < (p_a.fList.length : Int))) (fun c5454 =>
 .say [.br true] (ok1 c5454) <|
 .ask (gidx p_a.fList v5453) fun x5455 h5456 =>
 .say [] (okc (gidx_ok GValue.lf_eq h5456 : (0 : Int) ≤ v5453 ∧ (p_a.fList.map GValue.lf)[v5453.toNat]? = some (GValue.lf1 x5455)) ok0) <|
 .ask (gidx p_b.fList v5453) fun x5457 h5458 =>
 .say [] (okc (gidx_ok GValue.lf_eq h5458 : (0 : Int) ≤ v5453 ∧ (p_b.fList.map GValue.lf)[v5453.toNat]? = some (GValue.lf1 x5457)) ok0) <|
 .ask (R_.m1 x5455 x5457) fun r5459 h5460 =>
 .say [.orderT (.q 0 (.q 1 (.q 2 (.q 3 (.q 4 (.q 5 (.q 6 (.q 7 (.q 8 (.q 9 (.l 10 (.q 11 .fin)))))))))))) (some 10) [] [.row (GValue.lf1 x5455), .row (GValue.lf1 x5457), .res (.lf (.bool r5459))] [2, 3, 5, 62] 2 [(2, .ptr 0 0), (3, .ptr 1 0), (5, .lf (.int .i64 v5453)), (62, .lf (.bool (!r5459)))] [.box 29 (.dat (GValue.lf1 p_a)), .box 29 (.dat (GValue.lf1 p_b))]] (okc (R_.ok1 _ _ _ h5460) (okc (rfl : (some ⟨[(2, .ptr 0 0), (3, .ptr 1 0), (5, .lf (.int .i64 v5453)), (62, .lf (.bool (!r5459)))], [.box 29 (.dat (GValue.lf1 p_a)), .box 29 (.dat (GValue.lf1 p_b))]⟩ : Option St) = some ⟨[(2, .ptr 0 0), (3, .ptr 1 0), (5, .lf (.int .i64 v5453)), (62, .lf (.bool (!r5459)))], [.box 29 (.dat (GValue.lf1 p_a)), .box 29 (.dat (GValue.lf1 p_b))]⟩) ok0)) <|
 .ite (!r5459) (fun c5461 =>
 .say [.br true] (ok1 c5461) <|
 .ret ⟨[.kill 0, .kill 1], [4], [], 2⟩ (.inr (.inl ()))) fun c5461 =>
 .say [.br false] (ok1 c5461) <|
 .ret ⟨[], [2, 3, 5], [], 2⟩ (.inl (IntKind.wrap .i64 (v5453 + 1)))) fun c5454 =>
 .say [.br false] (ok1 c5454) <|
 .ret ⟨[], [2, 3], [], 2⟩ (.inr (.inr (())))
def Q12_L20 (R_ : RB13) (p_a : GValue) (p_b : GValue) (v5453 : Int) : Option (Unit ⊕ Unit) := loopM (fun v_ => (Q12_L20_T R_ p_a p_b v_).den) FU (v5453)
def Q12_L20_H (R_ : RB13) (p_a : GValue) (p_b : GValue) : (Int) → St := fun (v5453) => ⟨[(2, .ptr 0 0), (3, .ptr 1 0), (5, .lf (.int .i64 v5453))], [.box 29 (.dat (GValue.lf1 p_a)), .box 29 (.dat (GValue.lf1 p_b))]⟩
def Q12_L20_X (r_ : Unit ⊕ Unit) : Exit := match r_ with
 | .inl o_ => .ret
 | .inr (o_) => .exit 0
def Q12_L20_S (p_a : GValue) (p_b : GValue) (r_ : Unit ⊕ Unit) : St := match r_ with
 | .inl o_ => ⟨[(4, .lf (.bool false))], [.dead, .dead]⟩
 | .inr (o_) => ⟨[(2, .ptr 0 0), (3, .ptr 1 0)], [.box 29 (.dat (GValue.lf1 p_a)), .box 29 (.dat (GValue.lf1 p_b))]⟩
theorem Q12_L20_W {R_ : RB13} {p_a : GValue} {p_b : GValue} {v5453 : Int} {r_ : Unit ⊕ Unit} (h : Q12_L20 R_ p_a p_b v5453 = some r_) : AWa_ Tryz.f66 0 [1, 1, 0, 1, 0] (Q12_L20_X r_) (Q12_L20_S p_a p_b r_) (Q12_L20_H R_ p_a p_b (v5453)) :=
 loop_T BaseK (body := (Code.sub (bodyC Tryz.f66) [1, 1, 0, 1, 0, 0])) (by kernel_rfl) (Q12_L20_T R_ p_a p_b) (Q12_L20_H R_ p_a p_b) Q12_L20_X (Q12_L20_S p_a p_b) (fun r_ => by rcases r_ with _ | _ <;> rfl) (fun v_ => by kernel_rfl) h
def Q12_J26_T (R_ : RB13) (p_a : GValue) (p_b : GValue) (v5547 : Int) : Mo (Bool) :=
 .ask (gidx p_a.fDoc v5547) fun x5549 h5550 =>
 .say [] (okc (gidx_ok GField.lf_eq h5550 : (0 : Int) ≤ v5547 ∧ (p_a.fDoc.map GField.lf)[v5547.toNat]? = some (GField.lf1 x5549)) ok0) <|
 .ask (gidx p_b.fDoc v5547) fun x5551 h5552 =>
 .say [] (okc (gidx_ok GField.lf_eq h5552 : (0 : Int) ≤ v5547 ∧ (p_b.fDoc.map GField.lf)[v5547.toNat]? = some (GField.lf1 x5551)) ok0) <|
 .ite (!decide ((x5549.fName : ByteArray) = (x5551.fName : ByteArray))) (fun c5553 =>
 .say [.orderT (.q 0 (.q 1 (.q 2 (.q 3 (.q 4 (.q 5 (.q 6 (.q 7 (.q 8 (.q 9 (.q 10 (.q 11 (.q 12 (.q 13 (.q 14 (.q 15 (.q 16 (.q 17 (.q 18 (.q 19 (.q 20 (.q 21 (.q 22 (.q 23 (.q 24 (.q 25 (.l 26 (.q 27 (.q 28 .fin))))))))))))))))))))))))))))) (some 26) [] [.row (GField.lf1 x5549), .row (GField.lf1 x5551), .gd 24013 true] [2, 3, 6, 98] 2 [(2, .ptr 0 0), (3, .ptr 1 0), (6, .lf (.int .i64 v5547)), (98, .lf (.bool true))] [.box 29 (.dat (GValue.lf1 p_a)), .box 29 (.dat (GValue.lf1 p_b))]] (okc c5553 (okc (rfl : (some ⟨[(2, .ptr 0 0), (3, .ptr 1 0), (6, .lf (.int .i64 v5547)), (98, .lf (.bool true))], [.box 29 (.dat (GValue.lf1 p_a)), .box 29 (.dat (GValue.lf1 p_b))]⟩ : Option St) = some ⟨[(2, .ptr 0 0), (3, .ptr 1 0), (6, .lf (.int .i64 v5547)), (98, .lf (.bool true))], [.box 29 (.dat (GValue.lf1 p_a)), .box 29 (.dat (GValue.lf1 p_b))]⟩) ok0)) <|
 .ret ⟨[], [2, 3, 6, 98], [], 2⟩ (true)) fun c5553 =>
 .say [] (ok1 c5553) <|
 .ask (gidx p_a.fDoc v5547) fun x5554 h5555 =>
 .say [] (okc (gidx_ok GField.lf_eq h5555 : (0 : Int) ≤ v5547 ∧ (p_a.fDoc.map GField.lf)[v5547.toNat]? = some (GField.lf1 x5554)) ok0) <|
 .ask (gidx p_b.fDoc v5547) fun x5556 h5557 =>
 .say [] (okc (gidx_ok GField.lf_eq h5557 : (0 : Int) ≤ v5547 ∧ (p_b.fDoc.map GField.lf)[v5547.toNat]? = some (GField.lf1 x5556)) ok0) <|
 .ask (R_.m1 x5554.fValue x5556.fValue) fun r5558 h5559 =>
 .say [.orderT (.q 0 (.q 1 (.q 2 (.q 3 (.q 4 (.q 5 (.q 6 (.q 7 (.q 8 (.q 9 (.q 10 (.q 11 (.q 12 (.q 13 (.q 14 (.q 15 (.q 16 (.q 17 (.q 18 (.q 19 (.q 20 (.q 21 (.q 22 (.q 23 (.q 24 (.q 25 (.l 26 (.q 27 (.q 28 .fin))))))))))))))))))))))))))))) (some 26) [] [.row (GField.lf1 x5549), .row (GField.lf1 x5551), .gd 24013 false, .row (GField.lf1 x5554), .row (GField.lf1 x5556), .res (.lf (.bool r5558))] [2, 3, 6, 98] 2 [(2, .ptr 0 0), (3, .ptr 1 0), (6, .lf (.int .i64 v5547)), (98, .lf (.bool (!r5558)))] [.box 29 (.dat (GValue.lf1 p_a)), .box 29 (.dat (GValue.lf1 p_b))]] (okc (R_.ok1 _ _ _ h5559) (okc (rfl : (some ⟨[(2, .ptr 0 0), (3, .ptr 1 0), (6, .lf (.int .i64 v5547)), (98, .lf (.bool (!r5558)))], [.box 29 (.dat (GValue.lf1 p_a)), .box 29 (.dat (GValue.lf1 p_b))]⟩ : Option St) = some ⟨[(2, .ptr 0 0), (3, .ptr 1 0), (6, .lf (.int .i64 v5547)), (98, .lf (.bool (!r5558)))], [.box 29 (.dat (GValue.lf1 p_a)), .box 29 (.dat (GValue.lf1 p_b))]⟩) ok0)) <|
 .ret ⟨[], [2, 3, 6, 98], [], 2⟩ (!r5558)
def Q12_J26 (R_ : RB13) (p_a : GValue) (p_b : GValue) (v5547 : Int) : Option (Bool) := Mo.den (Q12_J26_T R_ p_a p_b v5547)
def Q12_J26_S (p_a : GValue) (p_b : GValue) (v5547 : Int) (r_ : Bool) : St := ⟨[(2, .ptr 0 0), (3, .ptr 1 0), (6, .lf (.int .i64 v5547)), (98, .lf (.bool r_))], [.box 29 (.dat (GValue.lf1 p_a)), .box 29 (.dat (GValue.lf1 p_b))]⟩
theorem Q12_J26_W {R_ : RB13} {p_a : GValue} {p_b : GValue} {v5547 : Int} {r_ : Bool} (h : Q12_J26 R_ p_a p_b v5547 = some r_) : AWa_ Tryz.f66 0 [1, 1, 1, 0, 1, 0, 0, 1, 0, 0, 0] (.normal) (Q12_J26_S p_a p_b v5547 r_) ⟨[(2, .ptr 0 0), (3, .ptr 1 0), (6, .lf (.int .i64 v5547))], [.box 29 (.dat (GValue.lf1 p_a)), .box 29 (.dat (GValue.lf1 p_b))]⟩ :=
 part_T BaseK (Q12_J26_T R_ p_a p_b v5547) (fun _ => .normal) (Q12_J26_S p_a p_b v5547) (by kernel_rfl) h
def Q12_L31_T (R_ : RB13) (p_a : GValue) (p_b : GValue) : (Int) → Mo ((Int) ⊕ (Unit ⊕ Unit)) := fun (v5547) =>
 .say [.num p_a.fDoc.length] (okc (by simp : p_a.fDoc.length = (p_a.fDoc.map GField.lf).length) ok0) <|
 .ite (decide ((v5547 : Int) < (p_a.fDoc.length : Int))) (fun c5548 =>
 .say [.br true] (ok1 c5548) <|
 .ask (Q12_J26 R_ p_a p_b v5547) fun r5561 h5562 =>
 .say [.pt_ 29 [2, 3, 6] 2 (.normal) (Q12_J26_S p_a p_b v5547 r5561)] (ok1 (Q12_J26_W h5562)) <|
 .ite (r5561) (fun c5563 =>
 .say [.br true] (ok1 c5563) <|
 .ret ⟨[.kill 0, .kill 1], [4], [], 2⟩ (.inr (.inl ()))) fun c5563 =>
 .say [.br false] (ok1 c5563) <|
 .ret ⟨[], [2, 3, 6], [], 2⟩ (.inl (IntKind.wrap .i64 (v5547 + 1)))) fun c5548 =>
 .say [.br false] (ok1 c5548) <|
 .ret ⟨[.kill 0, .kill 1], [], [], 2⟩ (.inr (.inr (())))
def Q12_L31 (R_ : RB13) (p_a : GValue) (p_b : GValue) (v5547 : Int) : Option (Unit ⊕ Unit) := loopM (fun v_ => (Q12_L31_T R_ p_a p_b v_).den) FU (v5547)
def Q12_L31_H (R_ : RB13) (p_a : GValue) (p_b : GValue) : (Int) → St := fun (v5547) => ⟨[(2, .ptr 0 0), (3, .ptr 1 0), (6, .lf (.int .i64 v5547))], [.box 29 (.dat (GValue.lf1 p_a)), .box 29 (.dat (GValue.lf1 p_b))]⟩
def Q12_L31_X (r_ : Unit ⊕ Unit) : Exit := match r_ with
 | .inl o_ => .ret
 | .inr (o_) => .exit 2
def Q12_L31_S  (r_ : Unit ⊕ Unit) : St := match r_ with
 | .inl o_ => ⟨[(4, .lf (.bool false))], [.dead, .dead]⟩
 | .inr (o_) => ⟨[], [.dead, .dead]⟩
theorem Q12_L31_W {R_ : RB13} {p_a : GValue} {p_b : GValue} {v5547 : Int} {r_ : Unit ⊕ Unit} (h : Q12_L31 R_ p_a p_b v5547 = some r_) : AWa_ Tryz.f66 0 [1, 1, 1, 0, 1, 0] (Q12_L31_X r_) (Q12_L31_S r_) (Q12_L31_H R_ p_a p_b (v5547)) :=
 loop_T BaseK (body := (Code.sub (bodyC Tryz.f66) [1, 1, 1, 0, 1, 0, 0])) (by kernel_rfl) (Q12_L31_T R_ p_a p_b) (Q12_L31_H R_ p_a p_b) Q12_L31_X Q12_L31_S (fun r_ => by rcases r_ with _ | _ <;> rfl) (fun v_ => by kernel_rfl) h
def Q12_T (R_ : RB13) (p_a : GValue) (p_b : GValue) : Mo (Bool) :=
 .ask (Q12_J0 R_ p_a p_b) fun r5393 h5394 =>
 .say [.sg_ 1 12 [2, 3] 2 (Q12_J0_S p_a p_b r5393)] (ok1 (Q12_J0_W h5394)) <|
 .ask (Q12_J5 R_ p_a p_b r5393) fun r5397 h5398 =>
 .say [.sg_ 1 7 [2, 3, 18] 2 (Q12_J5_S p_a p_b r5397)] (ok1 (Q12_J5_W h5398)) <|
 .ask (Q12_J10 R_ p_a p_b r5397) fun r5401 h5402 =>
 .say [.sg_ 1 9 [2, 3, 25] 2 (Q12_J10_S p_a p_b r5401)] (ok1 (Q12_J10_W h5402)) <|
 .ask (Q12_J15 R_ p_a p_b r5401) fun r5405 h5406 =>
 .say [.sg_ 1 9 [2, 3, 34] 2 (Q12_J15_S p_a p_b r5405)] (ok1 (Q12_J15_W h5406)) <|
 .ite (r5405) (fun c5408 =>
 .say [.br true] (ok1 c5408) <|
 .ret (fitN 1) (false)) fun c5408 =>
 .say [.br false] (ok1 c5408) <|
 .ask2 (Q12_L20 R_ p_a p_b 0) (fun o5464 h5463 =>
 .say [.pt_ 0 [2, 3, 5] 2 (Q12_L20_X (.inl o5464)) (Q12_L20_S p_a p_b (.inl o5464))] (ok1 (Q12_L20_W h5463)) <|
 .ret (fitN 1) (false)) fun o5465 h5463 =>
 .say [.pt_ 0 [2, 3, 5] 2 (Q12_L20_X (.inr (o5465))) (Q12_L20_S p_a p_b (.inr (o5465)))] (ok1 (Q12_L20_W h5463)) <|
 .ask2 (Q12_L31 R_ p_a p_b 0) (fun o5566 h5565 =>
 .say [.pt_ 0 [2, 3, 6] 2 (Q12_L31_X (.inl o5566)) (Q12_L31_S (.inl o5566))] (ok1 (Q12_L31_W h5565)) <|
 .ret (fitN 1) (false)) fun o5567 h5565 =>
 .say [.pt_ 0 [2, 3, 6] 2 (Q12_L31_X (.inr (o5567))) (Q12_L31_S (.inr (o5567)))] (ok1 (Q12_L31_W h5565)) <|
 .ret (fitN 1) (true)
theorem Q12_okT (R_ : RB13) (p_a : GValue) (p_b : GValue) (r : Bool) (h : Mo.den (Q12_T R_ p_a p_b) = some r) : Fn Tryz.prog GI 66 [.dat (GValue.lf1 p_a), .dat (GValue.lf1 p_b)] (.lf (.bool r)) :=
 fn_T BaseK Tryz.func66 (by kernel_rfl) (by kernel_rfl) (by kernel_rfl) (Q12_T R_ p_a p_b) (fun r => [.lf (.bool r)]) (by kernel_rfl) h
def RB13_F : Nat → RB13
 | 0 => { m1 := fun p_a p_b => none, ok1 := fun _ _ _ h => (by cases h) }
 | n_ + 1 => { m1 := fun p_a p_b => Mo.den (Q12_T (RB13_F n_) p_a p_b), ok1 := fun p_a p_b r h => Q12_okT (RB13_F n_) p_a p_b r h }
def Q12 (p_a : GValue) (p_b : GValue) : Option (Bool) := (RB13_F FU).m1 p_a p_b
theorem Q12_ok (p_a : GValue) (p_b : GValue) (r : Bool) (h : Q12 p_a p_b = some r) : Fn Tryz.prog GI 66 [.dat (GValue.lf1 p_a), .dat (GValue.lf1 p_b)] (.lf (.bool r)) := (RB13_F FU).ok1 p_a p_b r h
def Q4_J0_T (p_e : GExpr) : Mo (Bool) :=
 .ite (decide ((p_e.fOp : Int) < 1)) (fun c5091 =>
 .say [.orderT (.q 0 (.q 1 (.q 2 (.q 3 (.q 4 (.q 5 (.q 6 (.q 7 (.q 8 (.q 9 (.q 10 (.l 11 (.q 12 (.q 13 (.q 14 (.q 17 (.alt 15 (.q 16 (.l 18 (.l 19 (.q 20 (.q 21 (.q 22 (.q 23 (.q 24 (.l 25 (.q 26 (.q 27 (.q 28 (.q 31 (.alt 29 (.q 30 (.l 32 (.q 33 (.q 34 (.q 35 (.q 36 (.l 37 (.q 38 (.q 39 (.q 40 (.q 41 (.q 42 .fin)))))))))))) (.l 32 (.q 33 (.l 29 (.q 30 (.q 34 (.q 35 (.q 36 (.l 37 (.q 38 (.q 39 (.q 40 (.q 41 (.q 42 .fin))))))))))))))))))))))))))) (.l 18 (.alt 15 (.q 16 (.l 19 (.q 20 (.q 21 (.q 22 (.q 23 (.q 24 (.l 25 (.q 26 (.q 27 (.q 28 (.q 31 (.alt 29 (.q 30 (.l 32 (.q 33 (.q 34 (.q 35 (.q 36 (.l 37 (.q 38 (.q 39 (.q 40 (.q 41 (.q 42 .fin)))))))))))) (.l 32 (.q 33 (.l 29 (.q 30 (.q 34 (.q 35 (.q 36 (.l 37 (.q 38 (.q 39 (.q 40 (.q 41 (.q 42 .fin)))))))))))))))))))))))))) (.l 19 (.l 15 (.q 16 (.q 20 (.q 21 (.q 22 (.q 23 (.q 24 (.l 25 (.q 26 (.q 27 (.q 28 (.q 31 (.alt 29 (.q 30 (.l 32 (.q 33 (.q 34 (.q 35 (.q 36 (.l 37 (.q 38 (.q 39 (.q 40 (.q 41 (.q 42 .fin)))))))))))) (.l 32 (.q 33 (.l 29 (.q 30 (.q 34 (.q 35 (.q 36 (.l 37 (.q 38 (.q 39 (.q 40 (.q 41 (.q 42 .fin)))))))))))))))))))))))))))))))))))))))))))))) (some 11) [] [.gd 4003 true, .both [.both [] []] [.both [.both [] []] [.both [] []]]] [1, 46] 1 [(1, .ptr 0 0), (46, .lf (.bool true))] [.box 44 (.dat (GExpr.lf1 p_e))]] (okc c5091 (okc (rfl : (some ⟨[(1, .ptr 0 0), (46, .lf (.bool true))], [.box 44 (.dat (GExpr.lf1 p_e))]⟩ : Option St) = some ⟨[(1, .ptr 0 0), (46, .lf (.bool true))], [.box 44 (.dat (GExpr.lf1 p_e))]⟩) (okc (rfl : (some ⟨[(1, .ptr 0 0), (46, .lf (.bool true))], [.box 44 (.dat (GExpr.lf1 p_e))]⟩ : Option St) = some ⟨[(1, .ptr 0 0), (46, .lf (.bool true))], [.box 44 (.dat (GExpr.lf1 p_e))]⟩) (okc (rfl : (some ⟨[(1, .ptr 0 0), (46, .lf (.bool true))], [.box 44 (.dat (GExpr.lf1 p_e))]⟩ : Option St) = some ⟨[(1, .ptr 0 0), (46, .lf (.bool true))], [.box 44 (.dat (GExpr.lf1 p_e))]⟩) (okc (rfl : (some ⟨[(1, .ptr 0 0), (46, .lf (.bool true))], [.box 44 (.dat (GExpr.lf1 p_e))]⟩ : Option St) = some ⟨[(1, .ptr 0 0), (46, .lf (.bool true))], [.box 44 (.dat (GExpr.lf1 p_e))]⟩) (okc (rfl : (some ⟨[(1, .ptr 0 0), (46, .lf (.bool true))], [.box 44 (.dat (GExpr.lf1 p_e))]⟩ : Option St) = some ⟨[(1, .ptr 0 0), (46, .lf (.bool true))], [.box 44 (.dat (GExpr.lf1 p_e))]⟩) (okc (rfl : (some ⟨[(1, .ptr 0 0), (46, .lf (.bool true))], [.box 44 (.dat (GExpr.lf1 p_e))]⟩ : Option St) = some ⟨[(1, .ptr 0 0), (46, .lf (.bool true))], [.box 44 (.dat (GExpr.lf1 p_e))]⟩) ok0))))))) <|
 .ret ⟨[], [1, 46], [], 1⟩ (true)) fun c5091 =>
 .say [] (ok1 c5091) <|
 .ite (decide ((37 : Int) < p_e.fOp)) (fun c5092 =>
 .say [.orderT (.q 0 (.q 1 (.q 2 (.q 3 (.q 4 (.q 5 (.q 6 (.q 7 (.q 8 (.q 9 (.q 10 (.l 11 (.q 12 (.q 13 (.q 14 (.q 17 (.alt 15 (.q 16 (.l 18 (.l 19 (.q 20 (.q 21 (.q 22 (.q 23 (.q 24 (.l 25 (.q 26 (.q 27 (.q 28 (.q 31 (.alt 29 (.q 30 (.l 32 (.q 33 (.q 34 (.q 35 (.q 36 (.l 37 (.q 38 (.q 39 (.q 40 (.q 41 (.q 42 .fin)))))))))))) (.l 32 (.q 33 (.l 29 (.q 30 (.q 34 (.q 35 (.q 36 (.l 37 (.q 38 (.q 39 (.q 40 (.q 41 (.q 42 .fin))))))))))))))))))))))))))) (.l 18 (.alt 15 (.q 16 (.l 19 (.q 20 (.q 21 (.q 22 (.q 23 (.q 24 (.l 25 (.q 26 (.q 27 (.q 28 (.q 31 (.alt 29 (.q 30 (.l 32 (.q 33 (.q 34 (.q 35 (.q 36 (.l 37 (.q 38 (.q 39 (.q 40 (.q 41 (.q 42 .fin)))))))))))) (.l 32 (.q 33 (.l 29 (.q 30 (.q 34 (.q 35 (.q 36 (.l 37 (.q 38 (.q 39 (.q 40 (.q 41 (.q 42 .fin)))))))))))))))))))))))))) (.l 19 (.l 15 (.q 16 (.q 20 (.q 21 (.q 22 (.q 23 (.q 24 (.l 25 (.q 26 (.q 27 (.q 28 (.q 31 (.alt 29 (.q 30 (.l 32 (.q 33 (.q 34 (.q 35 (.q 36 (.l 37 (.q 38 (.q 39 (.q 40 (.q 41 (.q 42 .fin)))))))))))) (.l 32 (.q 33 (.l 29 (.q 30 (.q 34 (.q 35 (.q 36 (.l 37 (.q 38 (.q 39 (.q 40 (.q 41 (.q 42 .fin)))))))))))))))))))))))))))))))))))))))))))))) (some 11) [] [.gd 4003 false, .gd 4008 true, .both [.both [] []] [.both [.both [] []] [.both [] []]]] [1, 46] 1 [(1, .ptr 0 0), (46, .lf (.bool true))] [.box 44 (.dat (GExpr.lf1 p_e))]] (okc c5092 (okc (rfl : (some ⟨[(1, .ptr 0 0), (46, .lf (.bool true))], [.box 44 (.dat (GExpr.lf1 p_e))]⟩ : Option St) = some ⟨[(1, .ptr 0 0), (46, .lf (.bool true))], [.box 44 (.dat (GExpr.lf1 p_e))]⟩) (okc (rfl : (some ⟨[(1, .ptr 0 0), (46, .lf (.bool true))], [.box 44 (.dat (GExpr.lf1 p_e))]⟩ : Option St) = some ⟨[(1, .ptr 0 0), (46, .lf (.bool true))], [.box 44 (.dat (GExpr.lf1 p_e))]⟩) (okc (rfl : (some ⟨[(1, .ptr 0 0), (46, .lf (.bool true))], [.box 44 (.dat (GExpr.lf1 p_e))]⟩ : Option St) = some ⟨[(1, .ptr 0 0), (46, .lf (.bool true))], [.box 44 (.dat (GExpr.lf1 p_e))]⟩) (okc (rfl : (some ⟨[(1, .ptr 0 0), (46, .lf (.bool true))], [.box 44 (.dat (GExpr.lf1 p_e))]⟩ : Option St) = some ⟨[(1, .ptr 0 0), (46, .lf (.bool true))], [.box 44 (.dat (GExpr.lf1 p_e))]⟩) (okc (rfl : (some ⟨[(1, .ptr 0 0), (46, .lf (.bool true))], [.box 44 (.dat (GExpr.lf1 p_e))]⟩ : Option St) = some ⟨[(1, .ptr 0 0), (46, .lf (.bool true))], [.box 44 (.dat (GExpr.lf1 p_e))]⟩) (okc (rfl : (some ⟨[(1, .ptr 0 0), (46, .lf (.bool true))], [.box 44 (.dat (GExpr.lf1 p_e))]⟩ : Option St) = some ⟨[(1, .ptr 0 0), (46, .lf (.bool true))], [.box 44 (.dat (GExpr.lf1 p_e))]⟩) ok0))))))) <|
 .ret ⟨[], [1, 46], [], 1⟩ (true)) fun c5092 =>
 .say [] (ok1 c5092) <|
 .ask (Q28 p_e.fOp) fun r5093 h5094 =>
 .say [] (ok1 (Q28_ok _ _ h5094)) <|
 .ite (decide ((0 : Int) ≤ r5093)) (fun c5095 =>
 .say [] (okc c5095 (okc (by simp : p_e.fKids.length = (p_e.fKids.map GExpr.lf).length) ok0)) <|
 .ask (Q28 p_e.fOp) fun r5096 h5097 =>
 .say [] (ok1 (Q28_ok _ _ h5097)) <|
 .ite ((p_e.fKids.length : Int) != r5096) (fun c5098 =>
 .say [.orderT (.q 0 (.q 1 (.q 2 (.q 3 (.q 4 (.q 5 (.q 6 (.q 7 (.q 8 (.q 9 (.q 10 (.l 11 (.q 12 (.q 13 (.q 14 (.q 17 (.alt 15 (.q 16 (.l 18 (.l 19 (.q 20 (.q 21 (.q 22 (.q 23 (.q 24 (.l 25 (.q 26 (.q 27 (.q 28 (.q 31 (.alt 29 (.q 30 (.l 32 (.q 33 (.q 34 (.q 35 (.q 36 (.l 37 (.q 38 (.q 39 (.q 40 (.q 41 (.q 42 .fin)))))))))))) (.l 32 (.q 33 (.l 29 (.q 30 (.q 34 (.q 35 (.q 36 (.l 37 (.q 38 (.q 39 (.q 40 (.q 41 (.q 42 .fin))))))))))))))))))))))))))) (.l 18 (.alt 15 (.q 16 (.l 19 (.q 20 (.q 21 (.q 22 (.q 23 (.q 24 (.l 25 (.q 26 (.q 27 (.q 28 (.q 31 (.alt 29 (.q 30 (.l 32 (.q 33 (.q 34 (.q 35 (.q 36 (.l 37 (.q 38 (.q 39 (.q 40 (.q 41 (.q 42 .fin)))))))))))) (.l 32 (.q 33 (.l 29 (.q 30 (.q 34 (.q 35 (.q 36 (.l 37 (.q 38 (.q 39 (.q 40 (.q 41 (.q 42 .fin)))))))))))))))))))))))))) (.l 19 (.l 15 (.q 16 (.q 20 (.q 21 (.q 22 (.q 23 (.q 24 (.l 25 (.q 26 (.q 27 (.q 28 (.q 31 (.alt 29 (.q 30 (.l 32 (.q 33 (.q 34 (.q 35 (.q 36 (.l 37 (.q 38 (.q 39 (.q 40 (.q 41 (.q 42 .fin)))))))))))) (.l 32 (.q 33 (.l 29 (.q 30 (.q 34 (.q 35 (.q 36 (.l 37 (.q 38 (.q 39 (.q 40 (.q 41 (.q 42 .fin)))))))))))))))))))))))))))))))))))))))))))))) (some 11) [] [.gd 4003 false, .gd 4008 false, .res (.lf (.int .i64 r5093)), .gd 4013 true, .both [.num p_e.fKids.length, .res (.lf (.int .i64 r5096)), .gd 4023 true, .both [] []] [.both [.num p_e.fKids.length, .res (.lf (.int .i64 r5096)), .gd 4023 true, .both [] []] [.res (.lf (.int .i64 r5096)), .num p_e.fKids.length, .gd 4023 true, .both [] []]]] [1, 46] 1 [(1, .ptr 0 0), (46, .lf (.bool true))] [.box 44 (.dat (GExpr.lf1 p_e))]] (okc c5098 (okc (rfl : (some ⟨[(1, .ptr 0 0), (46, .lf (.bool true))], [.box 44 (.dat (GExpr.lf1 p_e))]⟩ : Option St) = some ⟨[(1, .ptr 0 0), (46, .lf (.bool true))], [.box 44 (.dat (GExpr.lf1 p_e))]⟩) (okc (rfl : (some ⟨[(1, .ptr 0 0), (46, .lf (.bool true))], [.box 44 (.dat (GExpr.lf1 p_e))]⟩ : Option St) = some ⟨[(1, .ptr 0 0), (46, .lf (.bool true))], [.box 44 (.dat (GExpr.lf1 p_e))]⟩) (okc (by simp : p_e.fKids.length = (p_e.fKids.map GExpr.lf).length) (okc (Q28_ok _ _ h5097) (okc c5098 (okc (rfl : (some ⟨[(1, .ptr 0 0), (46, .lf (.bool true))], [.box 44 (.dat (GExpr.lf1 p_e))]⟩ : Option St) = some ⟨[(1, .ptr 0 0), (46, .lf (.bool true))], [.box 44 (.dat (GExpr.lf1 p_e))]⟩) (okc (rfl : (some ⟨[(1, .ptr 0 0), (46, .lf (.bool true))], [.box 44 (.dat (GExpr.lf1 p_e))]⟩ : Option St) = some ⟨[(1, .ptr 0 0), (46, .lf (.bool true))], [.box 44 (.dat (GExpr.lf1 p_e))]⟩) (okc (Q28_ok _ _ h5097) (okc (by simp : p_e.fKids.length = (p_e.fKids.map GExpr.lf).length) (okc c5098 (okc (rfl : (some ⟨[(1, .ptr 0 0), (46, .lf (.bool true))], [.box 44 (.dat (GExpr.lf1 p_e))]⟩ : Option St) = some ⟨[(1, .ptr 0 0), (46, .lf (.bool true))], [.box 44 (.dat (GExpr.lf1 p_e))]⟩) (okc (rfl : (some ⟨[(1, .ptr 0 0), (46, .lf (.bool true))], [.box 44 (.dat (GExpr.lf1 p_e))]⟩ : Option St) = some ⟨[(1, .ptr 0 0), (46, .lf (.bool true))], [.box 44 (.dat (GExpr.lf1 p_e))]⟩) ok0))))))))))))) <|
 .ret ⟨[], [1, 46], [], 1⟩ (true)) fun c5098 =>
 .say [] (ok1 c5098) <|
 .ite (p_e.fOp == 34) (fun c5099 =>
 .say [] (okc c5099 (okc (by simp : p_e.fKids.length = (p_e.fKids.map GExpr.lf).length) (okc (by simp : p_e.fNames.length = (p_e.fNames.map lfS).length) ok0))) <|
 .ite ((p_e.fKids.length : Int) != (p_e.fNames.length : Int)) (fun c5100 =>
 .say [.orderT (.q 0 (.q 1 (.q 2 (.q 3 (.q 4 (.q 5 (.q 6 (.q 7 (.q 8 (.q 9 (.q 10 (.l 11 (.q 12 (.q 13 (.q 14 (.q 17 (.alt 15 (.q 16 (.l 18 (.l 19 (.q 20 (.q 21 (.q 22 (.q 23 (.q 24 (.l 25 (.q 26 (.q 27 (.q 28 (.q 31 (.alt 29 (.q 30 (.l 32 (.q 33 (.q 34 (.q 35 (.q 36 (.l 37 (.q 38 (.q 39 (.q 40 (.q 41 (.q 42 .fin)))))))))))) (.l 32 (.q 33 (.l 29 (.q 30 (.q 34 (.q 35 (.q 36 (.l 37 (.q 38 (.q 39 (.q 40 (.q 41 (.q 42 .fin))))))))))))))))))))))))))) (.l 18 (.alt 15 (.q 16 (.l 19 (.q 20 (.q 21 (.q 22 (.q 23 (.q 24 (.l 25 (.q 26 (.q 27 (.q 28 (.q 31 (.alt 29 (.q 30 (.l 32 (.q 33 (.q 34 (.q 35 (.q 36 (.l 37 (.q 38 (.q 39 (.q 40 (.q 41 (.q 42 .fin)))))))))))) (.l 32 (.q 33 (.l 29 (.q 30 (.q 34 (.q 35 (.q 36 (.l 37 (.q 38 (.q 39 (.q 40 (.q 41 (.q 42 .fin)))))))))))))))))))))))))) (.l 19 (.l 15 (.q 16 (.q 20 (.q 21 (.q 22 (.q 23 (.q 24 (.l 25 (.q 26 (.q 27 (.q 28 (.q 31 (.alt 29 (.q 30 (.l 32 (.q 33 (.q 34 (.q 35 (.q 36 (.l 37 (.q 38 (.q 39 (.q 40 (.q 41 (.q 42 .fin)))))))))))) (.l 32 (.q 33 (.l 29 (.q 30 (.q 34 (.q 35 (.q 36 (.l 37 (.q 38 (.q 39 (.q 40 (.q 41 (.q 42 .fin)))))))))))))))))))))))))))))))))))))))))))))) (some 11) [] [.gd 4003 false, .gd 4008 false, .res (.lf (.int .i64 r5093)), .gd 4013 true, .both [.num p_e.fKids.length, .res (.lf (.int .i64 r5096)), .gd 4023 false, .gd 4027 true, .both [.num p_e.fKids.length, .num p_e.fNames.length, .gd 4035 true] [.num p_e.fNames.length, .num p_e.fKids.length, .gd 4035 true]] [.both [.num p_e.fKids.length, .res (.lf (.int .i64 r5096)), .gd 4023 false, .gd 4027 true, .both [.num p_e.fKids.length, .num p_e.fNames.length, .gd 4035 true] [.num p_e.fNames.length, .num p_e.fKids.length, .gd 4035 true]] [.res (.lf (.int .i64 r5096)), .num p_e.fKids.length, .gd 4023 false, .gd 4027 true, .both [.num p_e.fKids.length, .num p_e.fNames.length, .gd 4035 true] [.num p_e.fNames.length, .num p_e.fKids.length, .gd 4035 true]]]] [1, 46] 1 [(1, .ptr 0 0), (46, .lf (.bool true))] [.box 44 (.dat (GExpr.lf1 p_e))]] (okc c5100 (okc (rfl : (some ⟨[(1, .ptr 0 0), (46, .lf (.bool true))], [.box 44 (.dat (GExpr.lf1 p_e))]⟩ : Option St) = some ⟨[(1, .ptr 0 0), (46, .lf (.bool true))], [.box 44 (.dat (GExpr.lf1 p_e))]⟩) (okc (by simp : p_e.fNames.length = (p_e.fNames.map lfS).length) (okc (by simp : p_e.fKids.length = (p_e.fKids.map GExpr.lf).length) (okc c5100 (okc (rfl : (some ⟨[(1, .ptr 0 0), (46, .lf (.bool true))], [.box 44 (.dat (GExpr.lf1 p_e))]⟩ : Option St) = some ⟨[(1, .ptr 0 0), (46, .lf (.bool true))], [.box 44 (.dat (GExpr.lf1 p_e))]⟩) (okc (by simp : p_e.fKids.length = (p_e.fKids.map GExpr.lf).length) (okc (Q28_ok _ _ h5097) (okc c5098 (okc c5099 (okc (by simp : p_e.fKids.length = (p_e.fKids.map GExpr.lf).length) (okc (by simp : p_e.fNames.length = (p_e.fNames.map lfS).length) (okc c5100 (okc (rfl : (some ⟨[(1, .ptr 0 0), (46, .lf (.bool true))], [.box 44 (.dat (GExpr.lf1 p_e))]⟩ : Option St) = some ⟨[(1, .ptr 0 0), (46, .lf (.bool true))], [.box 44 (.dat (GExpr.lf1 p_e))]⟩) (okc (by simp : p_e.fNames.length = (p_e.fNames.map lfS).length) (okc (by simp : p_e.fKids.length = (p_e.fKids.map GExpr.lf).length) (okc c5100 (okc (rfl : (some ⟨[(1, .ptr 0 0), (46, .lf (.bool true))], [.box 44 (.dat (GExpr.lf1 p_e))]⟩ : Option St) = some ⟨[(1, .ptr 0 0), (46, .lf (.bool true))], [.box 44 (.dat (GExpr.lf1 p_e))]⟩) (okc (Q28_ok _ _ h5097) (okc (by simp : p_e.fKids.length = (p_e.fKids.map GExpr.lf).length) (okc c5098 (okc c5099 (okc (by simp : p_e.fKids.length = (p_e.fKids.map GExpr.lf).length) (okc (by simp : p_e.fNames.length = (p_e.fNames.map lfS).length) (okc c5100 (okc (rfl : (some ⟨[(1, .ptr 0 0), (46, .lf (.bool true))], [.box 44 (.dat (GExpr.lf1 p_e))]⟩ : Option St) = some ⟨[(1, .ptr 0 0), (46, .lf (.bool true))], [.box 44 (.dat (GExpr.lf1 p_e))]⟩) (okc (by simp : p_e.fNames.length = (p_e.fNames.map lfS).length) (okc (by simp : p_e.fKids.length = (p_e.fKids.map GExpr.lf).length) (okc c5100 (okc (rfl : (some ⟨[(1, .ptr 0 0), (46, .lf (.bool true))], [.box 44 (.dat (GExpr.lf1 p_e))]⟩ : Option St) = some ⟨[(1, .ptr 0 0), (46, .lf (.bool true))], [.box 44 (.dat (GExpr.lf1 p_e))]⟩) ok0)))))))))))))))))))))))))))))) <|
 .ret ⟨[], [1, 46], [], 1⟩ (true)) fun c5100 =>
 .say [.orderT (.q 0 (.q 1 (.q 2 (.q 3 (.q 4 (.q 5 (.q 6 (.q 7 (.q 8 (.q 9 (.q 10 (.l 11 (.q 12 (.q 13 (.q 14 (.q 17 (.alt 15 (.q 16 (.l 18 (.l 19 (.q 20 (.q 21 (.q 22 (.q 23 (.q 24 (.l 25 (.q 26 (.q 27 (.q 28 (.q 31 (.alt 29 (.q 30 (.l 32 (.q 33 (.q 34 (.q 35 (.q 36 (.l 37 (.q 38 (.q 39 (.q 40 (.q 41 (.q 42 .fin)))))))))))) (.l 32 (.q 33 (.l 29 (.q 30 (.q 34 (.q 35 (.q 36 (.l 37 (.q 38 (.q 39 (.q 40 (.q 41 (.q 42 .fin))))))))))))))))))))))))))) (.l 18 (.alt 15 (.q 16 (.l 19 (.q 20 (.q 21 (.q 22 (.q 23 (.q 24 (.l 25 (.q 26 (.q 27 (.q 28 (.q 31 (.alt 29 (.q 30 (.l 32 (.q 33 (.q 34 (.q 35 (.q 36 (.l 37 (.q 38 (.q 39 (.q 40 (.q 41 (.q 42 .fin)))))))))))) (.l 32 (.q 33 (.l 29 (.q 30 (.q 34 (.q 35 (.q 36 (.l 37 (.q 38 (.q 39 (.q 40 (.q 41 (.q 42 .fin)))))))))))))))))))))))))) (.l 19 (.l 15 (.q 16 (.q 20 (.q 21 (.q 22 (.q 23 (.q 24 (.l 25 (.q 26 (.q 27 (.q 28 (.q 31 (.alt 29 (.q 30 (.l 32 (.q 33 (.q 34 (.q 35 (.q 36 (.l 37 (.q 38 (.q 39 (.q 40 (.q 41 (.q 42 .fin)))))))))))) (.l 32 (.q 33 (.l 29 (.q 30 (.q 34 (.q 35 (.q 36 (.l 37 (.q 38 (.q 39 (.q 40 (.q 41 (.q 42 .fin)))))))))))))))))))))))))))))))))))))))))))))) (some 11) [] [.gd 4003 false, .gd 4008 false, .res (.lf (.int .i64 r5093)), .gd 4013 true, .both [.num p_e.fKids.length, .res (.lf (.int .i64 r5096)), .gd 4023 false, .gd 4027 true, .both [.num p_e.fKids.length, .num p_e.fNames.length, .gd 4035 false, .num p_e.fKids.length] [.num p_e.fNames.length, .num p_e.fKids.length, .gd 4035 false, .num p_e.fKids.length]] [.both [.num p_e.fKids.length, .res (.lf (.int .i64 r5096)), .gd 4023 false, .gd 4027 true, .both [.num p_e.fKids.length, .num p_e.fNames.length, .gd 4035 false, .num p_e.fKids.length] [.num p_e.fNames.length, .num p_e.fKids.length, .gd 4035 false, .num p_e.fKids.length]] [.res (.lf (.int .i64 r5096)), .num p_e.fKids.length, .gd 4023 false, .gd 4027 true, .both [.num p_e.fKids.length, .num p_e.fNames.length, .gd 4035 false, .num p_e.fKids.length] [.num p_e.fNames.length, .num p_e.fKids.length, .gd 4035 false, .num p_e.fKids.length]]]] [1, 46] 1 [(1, .ptr 0 0), (46, .lf (.bool ((p_e.fKids.length : Int) == 0)))] [.box 44 (.dat (GExpr.lf1 p_e))]] (okc c5100 (okc (by simp : p_e.fKids.length = (p_e.fKids.map GExpr.lf).length) (okc (rfl : (some ⟨[(1, .ptr 0 0), (46, .lf (.bool ((p_e.fKids.length : Int) == 0)))], [.box 44 (.dat (GExpr.lf1 p_e))]⟩ : Option St) = some ⟨[(1, .ptr 0 0), (46, .lf (.bool ((p_e.fKids.length : Int) == 0)))], [.box 44 (.dat (GExpr.lf1 p_e))]⟩) (okc (by simp : p_e.fNames.length = (p_e.fNames.map lfS).length) (okc (by simp : p_e.fKids.length = (p_e.fKids.map GExpr.lf).length) (okc c5100 (okc (by simp : p_e.fKids.length = (p_e.fKids.map GExpr.lf).length) (okc (rfl : (some ⟨[(1, .ptr 0 0), (46, .lf (.bool ((p_e.fKids.length : Int) == 0)))], [.box 44 (.dat (GExpr.lf1 p_e))]⟩ : Option St) = some ⟨[(1, .ptr 0 0), (46, .lf (.bool ((p_e.fKids.length : Int) == 0)))], [.box 44 (.dat (GExpr.lf1 p_e))]⟩) (okc (by simp : p_e.fKids.length = (p_e.fKids.map GExpr.lf).length) (okc (Q28_ok _ _ h5097) (okc c5098 (okc c5099 (okc (by simp : p_e.fKids.length = (p_e.fKids.map GExpr.lf).length) (okc (by simp : p_e.fNames.length = (p_e.fNames.map lfS).length) (okc c5100 (okc (by simp : p_e.fKids.length = (p_e.fKids.map GExpr.lf).length) (okc (rfl : (some ⟨[(1, .ptr 0 0), (46, .lf (.bool ((p_e.fKids.length : Int) == 0)))], [.box 44 (.dat (GExpr.lf1 p_e))]⟩ : Option St) = some ⟨[(1, .ptr 0 0), (46, .lf (.bool ((p_e.fKids.length : Int) == 0)))], [.box 44 (.dat (GExpr.lf1 p_e))]⟩) (okc (by simp : p_e.fNames.length = (p_e.fNames.map lfS).length) (okc (by simp : p_e.fKids.length = (p_e.fKids.map GExpr.lf).length) (okc c5100 (okc (by simp : p_e.fKids.length = (p_e.fKids.map GExpr.lf).length) (okc (rfl : (some ⟨[(1, .ptr 0 0), (46, .lf (.bool ((p_e.fKids.length : Int) == 0)))], [.box 44 (.dat (GExpr.lf1 p_e))]⟩ : Option St) = some ⟨[(1, .ptr 0 0), (46, .lf (.bool ((p_e.fKids.length : Int) == 0)))], [.box 44 (.dat (GExpr.lf1 p_e))]⟩) (okc (Q28_ok _ _ h5097) (okc (by simp : p_e.fKids.length = (p_e.fKids.map GExpr.lf).length) (okc c5098 (okc c5099 (okc (by simp : p_e.fKids.length = (p_e.fKids.map GExpr.lf).length) (okc (by simp : p_e.fNames.length = (p_e.fNames.map lfS).length) (okc c5100 (okc (by simp : p_e.fKids.length = (p_e.fKids.map GExpr.lf).length) (okc (rfl : (some ⟨[(1, .ptr 0 0), (46, .lf (.bool ((p_e.fKids.length : Int) == 0)))], [.box 44 (.dat (GExpr.lf1 p_e))]⟩ : Option St) = some ⟨[(1, .ptr 0 0), (46, .lf (.bool ((p_e.fKids.length : Int) == 0)))], [.box 44 (.dat (GExpr.lf1 p_e))]⟩) (okc (by simp : p_e.fNames.length = (p_e.fNames.map lfS).length) (okc (by simp : p_e.fKids.length = (p_e.fKids.map GExpr.lf).length) (okc c5100 (okc (by simp : p_e.fKids.length = (p_e.fKids.map GExpr.lf).length) (okc (rfl : (some ⟨[(1, .ptr 0 0), (46, .lf (.bool ((p_e.fKids.length : Int) == 0)))], [.box 44 (.dat (GExpr.lf1 p_e))]⟩ : Option St) = some ⟨[(1, .ptr 0 0), (46, .lf (.bool ((p_e.fKids.length : Int) == 0)))], [.box 44 (.dat (GExpr.lf1 p_e))]⟩) ok0)))))))))))))))))))))))))))))))))))) <|
 .ret ⟨[], [1, 46], [], 1⟩ ((p_e.fKids.length : Int) == 0)) fun c5099 =>
 .say [.orderT (.q 0 (.q 1 (.q 2 (.q 3 (.q 4 (.q 5 (.q 6 (.q 7 (.q 8 (.q 9 (.q 10 (.l 11 (.q 12 (.q 13 (.q 14 (.q 17 (.alt 15 (.q 16 (.l 18 (.l 19 (.q 20 (.q 21 (.q 22 (.q 23 (.q 24 (.l 25 (.q 26 (.q 27 (.q 28 (.q 31 (.alt 29 (.q 30 (.l 32 (.q 33 (.q 34 (.q 35 (.q 36 (.l 37 (.q 38 (.q 39 (.q 40 (.q 41 (.q 42 .fin)))))))))))) (.l 32 (.q 33 (.l 29 (.q 30 (.q 34 (.q 35 (.q 36 (.l 37 (.q 38 (.q 39 (.q 40 (.q 41 (.q 42 .fin))))))))))))))))))))))))))) (.l 18 (.alt 15 (.q 16 (.l 19 (.q 20 (.q 21 (.q 22 (.q 23 (.q 24 (.l 25 (.q 26 (.q 27 (.q 28 (.q 31 (.alt 29 (.q 30 (.l 32 (.q 33 (.q 34 (.q 35 (.q 36 (.l 37 (.q 38 (.q 39 (.q 40 (.q 41 (.q 42 .fin)))))))))))) (.l 32 (.q 33 (.l 29 (.q 30 (.q 34 (.q 35 (.q 36 (.l 37 (.q 38 (.q 39 (.q 40 (.q 41 (.q 42 .fin)))))))))))))))))))))))))) (.l 19 (.l 15 (.q 16 (.q 20 (.q 21 (.q 22 (.q 23 (.q 24 (.l 25 (.q 26 (.q 27 (.q 28 (.q 31 (.alt 29 (.q 30 (.l 32 (.q 33 (.q 34 (.q 35 (.q 36 (.l 37 (.q 38 (.q 39 (.q 40 (.q 41 (.q 42 .fin)))))))))))) (.l 32 (.q 33 (.l 29 (.q 30 (.q 34 (.q 35 (.q 36 (.l 37 (.q 38 (.q 39 (.q 40 (.q 41 (.q 42 .fin)))))))))))))))))))))))))))))))))))))))))))))) (some 11) [] [.gd 4003 false, .gd 4008 false, .res (.lf (.int .i64 r5093)), .gd 4013 true, .both [.num p_e.fKids.length, .res (.lf (.int .i64 r5096)), .gd 4023 false, .gd 4027 false, .both [] []] [.both [.num p_e.fKids.length, .res (.lf (.int .i64 r5096)), .gd 4023 false, .gd 4027 false, .both [] []] [.res (.lf (.int .i64 r5096)), .num p_e.fKids.length, .gd 4023 false, .gd 4027 false, .both [] []]]] [1, 46] 1 [(1, .ptr 0 0), (46, .lf (.bool false))] [.box 44 (.dat (GExpr.lf1 p_e))]] (okc c5099 (okc (rfl : (some ⟨[(1, .ptr 0 0), (46, .lf (.bool false))], [.box 44 (.dat (GExpr.lf1 p_e))]⟩ : Option St) = some ⟨[(1, .ptr 0 0), (46, .lf (.bool false))], [.box 44 (.dat (GExpr.lf1 p_e))]⟩) (okc (rfl : (some ⟨[(1, .ptr 0 0), (46, .lf (.bool false))], [.box 44 (.dat (GExpr.lf1 p_e))]⟩ : Option St) = some ⟨[(1, .ptr 0 0), (46, .lf (.bool false))], [.box 44 (.dat (GExpr.lf1 p_e))]⟩) (okc (by simp : p_e.fKids.length = (p_e.fKids.map GExpr.lf).length) (okc (Q28_ok _ _ h5097) (okc c5098 (okc c5099 (okc (rfl : (some ⟨[(1, .ptr 0 0), (46, .lf (.bool false))], [.box 44 (.dat (GExpr.lf1 p_e))]⟩ : Option St) = some ⟨[(1, .ptr 0 0), (46, .lf (.bool false))], [.box 44 (.dat (GExpr.lf1 p_e))]⟩) (okc (rfl : (some ⟨[(1, .ptr 0 0), (46, .lf (.bool false))], [.box 44 (.dat (GExpr.lf1 p_e))]⟩ : Option St) = some ⟨[(1, .ptr 0 0), (46, .lf (.bool false))], [.box 44 (.dat (GExpr.lf1 p_e))]⟩) (okc (Q28_ok _ _ h5097) (okc (by simp : p_e.fKids.length = (p_e.fKids.map GExpr.lf).length) (okc c5098 (okc c5099 (okc (rfl : (some ⟨[(1, .ptr 0 0), (46, .lf (.bool false))], [.box 44 (.dat (GExpr.lf1 p_e))]⟩ : Option St) = some ⟨[(1, .ptr 0 0), (46, .lf (.bool false))], [.box 44 (.dat (GExpr.lf1 p_e))]⟩) (okc (rfl : (some ⟨[(1, .ptr 0 0), (46, .lf (.bool false))], [.box 44 (.dat (GExpr.lf1 p_e))]⟩ : Option St) = some ⟨[(1, .ptr 0 0), (46, .lf (.bool false))], [.box 44 (.dat (GExpr.lf1 p_e))]⟩) ok0))))))))))))))) <|
 .ret ⟨[], [1, 46], [], 1⟩ (false)) fun c5095 =>
 .say [] (ok1 c5095) <|
 .ite (p_e.fOp == 34) (fun c5101 =>
 .say [] (okc c5101 (okc (by simp : p_e.fKids.length = (p_e.fKids.map GExpr.lf).length) (okc (by simp : p_e.fNames.length = (p_e.fNames.map lfS).length) ok0))) <|
 .ite ((p_e.fKids.length : Int) != (p_e.fNames.length : Int)) (fun c5102 =>
 .say [.orderT (.q 0 (.q 1 (.q 2 (.q 3 (.q 4 (.q 5 (.q 6 (.q 7 (.q 8 (.q 9 (.q 10 (.l 11 (.q 12 (.q 13 (.q 14 (.q 17 (.alt 15 (.q 16 (.l 18 (.l 19 (.q 20 (.q 21 (.q 22 (.q 23 (.q 24 (.l 25 (.q 26 (.q 27 (.q 28 (.q 31 (.alt 29 (.q 30 (.l 32 (.q 33 (.q 34 (.q 35 (.q 36 (.l 37 (.q 38 (.q 39 (.q 40 (.q 41 (.q 42 .fin)))))))))))) (.l 32 (.q 33 (.l 29 (.q 30 (.q 34 (.q 35 (.q 36 (.l 37 (.q 38 (.q 39 (.q 40 (.q 41 (.q 42 .fin))))))))))))))))))))))))))) (.l 18 (.alt 15 (.q 16 (.l 19 (.q 20 (.q 21 (.q 22 (.q 23 (.q 24 (.l 25 (.q 26 (.q 27 (.q 28 (.q 31 (.alt 29 (.q 30 (.l 32 (.q 33 (.q 34 (.q 35 (.q 36 (.l 37 (.q 38 (.q 39 (.q 40 (.q 41 (.q 42 .fin)))))))))))) (.l 32 (.q 33 (.l 29 (.q 30 (.q 34 (.q 35 (.q 36 (.l 37 (.q 38 (.q 39 (.q 40 (.q 41 (.q 42 .fin)))))))))))))))))))))))))) (.l 19 (.l 15 (.q 16 (.q 20 (.q 21 (.q 22 (.q 23 (.q 24 (.l 25 (.q 26 (.q 27 (.q 28 (.q 31 (.alt 29 (.q 30 (.l 32 (.q 33 (.q 34 (.q 35 (.q 36 (.l 37 (.q 38 (.q 39 (.q 40 (.q 41 (.q 42 .fin)))))))))))) (.l 32 (.q 33 (.l 29 (.q 30 (.q 34 (.q 35 (.q 36 (.l 37 (.q 38 (.q 39 (.q 40 (.q 41 (.q 42 .fin)))))))))))))))))))))))))))))))))))))))))))))) (some 11) [] [.gd 4003 false, .gd 4008 false, .res (.lf (.int .i64 r5093)), .gd 4013 false, .both [.gd 4027 true, .both [.num p_e.fKids.length, .num p_e.fNames.length, .gd 4035 true] [.num p_e.fNames.length, .num p_e.fKids.length, .gd 4035 true]] [.both [.gd 4027 true, .both [.num p_e.fKids.length, .num p_e.fNames.length, .gd 4035 true] [.num p_e.fNames.length, .num p_e.fKids.length, .gd 4035 true]] [.gd 4027 true, .both [.num p_e.fKids.length, .num p_e.fNames.length, .gd 4035 true] [.num p_e.fNames.length, .num p_e.fKids.length, .gd 4035 true]]]] [1, 46] 1 [(1, .ptr 0 0), (46, .lf (.bool true))] [.box 44 (.dat (GExpr.lf1 p_e))]] (okc c5102 (okc (rfl : (some ⟨[(1, .ptr 0 0), (46, .lf (.bool true))], [.box 44 (.dat (GExpr.lf1 p_e))]⟩ : Option St) = some ⟨[(1, .ptr 0 0), (46, .lf (.bool true))], [.box 44 (.dat (GExpr.lf1 p_e))]⟩) (okc (by simp : p_e.fNames.length = (p_e.fNames.map lfS).length) (okc (by simp : p_e.fKids.length = (p_e.fKids.map GExpr.lf).length) (okc c5102 (okc (rfl : (some ⟨[(1, .ptr 0 0), (46, .lf (.bool true))], [.box 44 (.dat (GExpr.lf1 p_e))]⟩ : Option St) = some ⟨[(1, .ptr 0 0), (46, .lf (.bool true))], [.box 44 (.dat (GExpr.lf1 p_e))]⟩) (okc c5101 (okc (by simp : p_e.fKids.length = (p_e.fKids.map GExpr.lf).length) (okc (by simp : p_e.fNames.length = (p_e.fNames.map lfS).length) (okc c5102 (okc (rfl : (some ⟨[(1, .ptr 0 0), (46, .lf (.bool true))], [.box 44 (.dat (GExpr.lf1 p_e))]⟩ : Option St) = some ⟨[(1, .ptr 0 0), (46, .lf (.bool true))], [.box 44 (.dat (GExpr.lf1 p_e))]⟩) (okc (by simp : p_e.fNames.length = (p_e.fNames.map lfS).length) (okc (by simp : p_e.fKids.length = (p_e.fKids.map GExpr.lf).length) (okc c5102 (okc (rfl : (some ⟨[(1, .ptr 0 0), (46, .lf (.bool true))], [.box 44 (.dat (GExpr.lf1 p_e))]⟩ : Option St) = some ⟨[(1, .ptr 0 0), (46, .lf (.bool true))], [.box 44 (.dat (GExpr.lf1 p_e))]⟩) (okc c5101 (okc (by simp : p_e.fKids.length = (p_e.fKids.map GExpr.lf).length) (okc (by simp : p_e.fNames.length = (p_e.fNames.map lfS).length) (okc c5102 (okc (rfl : (some ⟨[(1, .ptr 0 0), (46, .lf (.bool true))], [.box 44 (.dat (GExpr.lf1 p_e))]⟩ : Option St) = some ⟨[(1, .ptr 0 0), (46, .lf (.bool true))], [.box 44 (.dat (GExpr.lf1 p_e))]⟩) (okc (by simp : p_e.fNames.length = (p_e.fNames.map lfS).length) (okc (by simp : p_e.fKids.length = (p_e.fKids.map GExpr.lf).length) (okc c5102 (okc (rfl : (some ⟨[(1, .ptr 0 0), (46, .lf (.bool true))], [.box 44 (.dat (GExpr.lf1 p_e))]⟩ : Option St) = some ⟨[(1, .ptr 0 0), (46, .lf (.bool true))], [.box 44 (.dat (GExpr.lf1 p_e))]⟩) ok0)))))))))))))))))))))))) <|
 .ret ⟨[], [1, 46], [], 1⟩ (true)) fun c5102 =>
 .say [.orderT (.q 0 (.q 1 (.q 2 (.q 3 (.q 4 (.q 5 (.q 6 (.q 7 (.q 8 (.q 9 (.q 10 (.l 11 (.q 12 (.q 13 (.q 14 (.q 17 (.alt 15 (.q 16 (.l 18 (.l 19 (.q 20 (.q 21 (.q 22 (.q 23 (.q 24 (.l 25 (.q 26 (.q 27 (.q 28 (.q 31 (.alt 29 (.q 30 (.l 32 (.q 33 (.q 34 (.q 35 (.q 36 (.l 37 (.q 38 (.q 39 (.q 40 (.q 41 (.q 42 .fin)))))))))))) (.l 32 (.q 33 (.l 29 (.q 30 (.q 34 (.q 35 (.q 36 (.l 37 (.q 38 (.q 39 (.q 40 (.q 41 (.q 42 .fin))))))))))))))))))))))))))) (.l 18 (.alt 15 (.q 16 (.l 19 (.q 20 (.q 21 (.q 22 (.q 23 (.q 24 (.l 25 (.q 26 (.q 27 (.q 28 (.q 31 (.alt 29 (.q 30 (.l 32 (.q 33 (.q 34 (.q 35 (.q 36 (.l 37 (.q 38 (.q 39 (.q 40 (.q 41 (.q 42 .fin)))))))))))) (.l 32 (.q 33 (.l 29 (.q 30 (.q 34 (.q 35 (.q 36 (.l 37 (.q 38 (.q 39 (.q 40 (.q 41 (.q 42 .fin)))))))))))))))))))))))))) (.l 19 (.l 15 (.q 16 (.q 20 (.q 21 (.q 22 (.q 23 (.q 24 (.l 25 (.q 26 (.q 27 (.q 28 (.q 31 (.alt 29 (.q 30 (.l 32 (.q 33 (.q 34 (.q 35 (.q 36 (.l 37 (.q 38 (.q 39 (.q 40 (.q 41 (.q 42 .fin)))))))))))) (.l 32 (.q 33 (.l 29 (.q 30 (.q 34 (.q 35 (.q 36 (.l 37 (.q 38 (.q 39 (.q 40 (.q 41 (.q 42 .fin)))))))))))))))))))))))))))))))))))))))))))))) (some 11) [] [.gd 4003 false, .gd 4008 false, .res (.lf (.int .i64 r5093)), .gd 4013 false, .both [.gd 4027 true, .both [.num p_e.fKids.length, .num p_e.fNames.length, .gd 4035 false, .num p_e.fKids.length] [.num p_e.fNames.length, .num p_e.fKids.length, .gd 4035 false, .num p_e.fKids.length]] [.both [.gd 4027 true, .both [.num p_e.fKids.length, .num p_e.fNames.length, .gd 4035 false, .num p_e.fKids.length] [.num p_e.fNames.length, .num p_e.fKids.length, .gd 4035 false, .num p_e.fKids.length]] [.gd 4027 true, .both [.num p_e.fKids.length, .num p_e.fNames.length, .gd 4035 false, .num p_e.fKids.length] [.num p_e.fNames.length, .num p_e.fKids.length, .gd 4035 false, .num p_e.fKids.length]]]] [1, 46] 1 [(1, .ptr 0 0), (46, .lf (.bool ((p_e.fKids.length : Int) == 0)))] [.box 44 (.dat (GExpr.lf1 p_e))]] (okc c5102 (okc (by simp : p_e.fKids.length = (p_e.fKids.map GExpr.lf).length) (okc (rfl : (some ⟨[(1, .ptr 0 0), (46, .lf (.bool ((p_e.fKids.length : Int) == 0)))], [.box 44 (.dat (GExpr.lf1 p_e))]⟩ : Option St) = some ⟨[(1, .ptr 0 0), (46, .lf (.bool ((p_e.fKids.length : Int) == 0)))], [.box 44 (.dat (GExpr.lf1 p_e))]⟩) (okc (by simp : p_e.fNames.length = (p_e.fNames.map lfS).length) (okc (by simp : p_e.fKids.length = (p_e.fKids.map GExpr.lf).length) (okc c5102 (okc (by simp : p_e.fKids.length = (p_e.fKids.map GExpr.lf).length) (okc (rfl : (some ⟨[(1, .ptr 0 0), (46, .lf (.bool ((p_e.fKids.length : Int) == 0)))], [.box 44 (.dat (GExpr.lf1 p_e))]⟩ : Option St) = some ⟨[(1, .ptr 0 0), (46, .lf (.bool ((p_e.fKids.length : Int) == 0)))], [.box 44 (.dat (GExpr.lf1 p_e))]⟩) (okc c5101 (okc (by simp : p_e.fKids.length = (p_e.fKids.map GExpr.lf).length) (okc (by simp : p_e.fNames.length = (p_e.fNames.map lfS).length) (okc c5102 (okc (by simp : p_e.fKids.length = (p_e.fKids.map GExpr.lf).length) (okc (rfl : (some ⟨[(1, .ptr 0 0), (46, .lf (.bool ((p_e.fKids.length : Int) == 0)))], [.box 44 (.dat (GExpr.lf1 p_e))]⟩ : Option St) = some ⟨[(1, .ptr 0 0), (46, .lf (.bool ((p_e.fKids.length : Int) == 0)))], [.box 44 (.dat (GExpr.lf1 p_e))]⟩) (okc (by simp : p_e.fNames.length = (p_e.fNames.map lfS).length) (okc (by simp : p_e.fKids.length = (p_e.fKids.map GExpr.lf).length) (okc c5102 (okc (by simp : p_e.fKids.length = (p_e.fKids.map GExpr.lf).length) (okc (rfl : (some ⟨[(1, .ptr 0 0), (46, .lf (.bool ((p_e.fKids.length : Int) == 0)))], [.box 44 (.dat (GExpr.lf1 p_e))]⟩ : Option St) = some ⟨[(1, .ptr 0 0), (46, .lf (.bool ((p_e.fKids.length : Int) == 0)))], [.box 44 (.dat (GExpr.lf1 p_e))]⟩) (okc c5101 (okc (by simp : p_e.fKids.length = (p_e.fKids.map GExpr.lf).length) (okc (by simp : p_e.fNames.length = (p_e.fNames.map lfS).length) (okc c5102 (okc (by simp : p_e.fKids.length = (p_e.fKids.map GExpr.lf).length) (okc (rfl : (some ⟨[(1, .ptr 0 0), (46, .lf (.bool ((p_e.fKids.length : Int) == 0)))], [.box 44 (.dat (GExpr.lf1 p_e))]⟩ : Option St) = some ⟨[(1, .ptr 0 0), (46, .lf (.bool ((p_e.fKids.length : Int) == 0)))], [.box 44 (.dat (GExpr.lf1 p_e))]⟩) (okc (by simp : p_e.fNames.length = (p_e.fNames.map lfS).length) (okc (by simp : p_e.fKids.length = (p_e.fKids.map GExpr.lf).length) (okc c5102 (okc (by simp : p_e.fKids.length = (p_e.fKids.map GExpr.lf).length) (okc (rfl : (some ⟨[(1, .ptr 0 0), (46, .lf (.bool ((p_e.fKids.length : Int) == 0)))], [.box 44 (.dat (GExpr.lf1 p_e))]⟩ : Option St) = some ⟨[(1, .ptr 0 0), (46, .lf (.bool ((p_e.fKids.length : Int) == 0)))], [.box 44 (.dat (GExpr.lf1 p_e))]⟩) ok0)))))))))))))))))))))))))))))) <|
 .ret ⟨[], [1, 46], [], 1⟩ ((p_e.fKids.length : Int) == 0)) fun c5101 =>
 .say [.orderT (.q 0 (.q 1 (.q 2 (.q 3 (.q 4 (.q 5 (.q 6 (.q 7 (.q 8 (.q 9 (.q 10 (.l 11 (.q 12 (.q 13 (.q 14 (.q 17 (.alt 15 (.q 16 (.l 18 (.l 19 (.q 20 (.q 21 (.q 22 (.q 23 (.q 24 (.l 25 (.q 26 (.q 27 (.q 28 (.q 31 (.alt 29 (.q 30 (.l 32 (.q 33 (.q 34 (.q 35 (.q 36 (.l 37 (.q 38 (.q 39 (.q 40 (.q 41 (.q 42 .fin)))))))))))) (.l 32 (.q 33 (.l 29 (.q 30 (.q 34 (.q 35 (.q 36 (.l 37 (.q 38 (.q 39 (.q 40 (.q 41 (.q 42 .fin))))))))))))))))))))))))))) (.l 18 (.alt 15 (.q 16 (.l 19 (.q 20 (.q 21 (.q 22 (.q 23 (.q 24 (.l 25 (.q 26 (.q 27 (.q 28 (.q 31 (.alt 29 (.q 30 (.l 32 (.q 33 (.q 34 (.q 35 (.q 36 (.l 37 (.q 38 (.q 39 (.q 40 (.q 41 (.q 42 .fin)))))))))))) (.l 32 (.q 33 (.l 29 (.q 30 (.q 34 (.q 35 (.q 36 (.l 37 (.q 38 (.q 39 (.q 40 (.q 41 (.q 42 .fin)))))))))))))))))))))))))) (.l 19 (.l 15 (.q 16 (.q 20 (.q 21 (.q 22 (.q 23 (.q 24 (.l 25 (.q 26 (.q 27 (.q 28 (.q 31 (.alt 29 (.q 30 (.l 32 (.q 33 (.q 34 (.q 35 (.q 36 (.l 37 (.q 38 (.q 39 (.q 40 (.q 41 (.q 42 .fin)))))))))))) (.l 32 (.q 33 (.l 29 (.q 30 (.q 34 (.q 35 (.q 36 (.l 37 (.q 38 (.q 39 (.q 40 (.q 41 (.q 42 .fin)))))))))))))))))))))))))))))))))))))))))))))) (some 11) [] [.gd 4003 false, .gd 4008 false, .res (.lf (.int .i64 r5093)), .gd 4013 false, .both [.gd 4027 false, .both [] []] [.both [.gd 4027 false, .both [] []] [.gd 4027 false, .both [] []]]] [1, 46] 1 [(1, .ptr 0 0), (46, .lf (.bool false))] [.box 44 (.dat (GExpr.lf1 p_e))]] (okc c5101 (okc (rfl : (some ⟨[(1, .ptr 0 0), (46, .lf (.bool false))], [.box 44 (.dat (GExpr.lf1 p_e))]⟩ : Option St) = some ⟨[(1, .ptr 0 0), (46, .lf (.bool false))], [.box 44 (.dat (GExpr.lf1 p_e))]⟩) (okc (rfl : (some ⟨[(1, .ptr 0 0), (46, .lf (.bool false))], [.box 44 (.dat (GExpr.lf1 p_e))]⟩ : Option St) = some ⟨[(1, .ptr 0 0), (46, .lf (.bool false))], [.box 44 (.dat (GExpr.lf1 p_e))]⟩) (okc c5101 (okc (rfl : (some ⟨[(1, .ptr 0 0), (46, .lf (.bool false))], [.box 44 (.dat (GExpr.lf1 p_e))]⟩ : Option St) = some ⟨[(1, .ptr 0 0), (46, .lf (.bool false))], [.box 44 (.dat (GExpr.lf1 p_e))]⟩) (okc (rfl : (some ⟨[(1, .ptr 0 0), (46, .lf (.bool false))], [.box 44 (.dat (GExpr.lf1 p_e))]⟩ : Option St) = some ⟨[(1, .ptr 0 0), (46, .lf (.bool false))], [.box 44 (.dat (GExpr.lf1 p_e))]⟩) (okc c5101 (okc (rfl : (some ⟨[(1, .ptr 0 0), (46, .lf (.bool false))], [.box 44 (.dat (GExpr.lf1 p_e))]⟩ : Option St) = some ⟨[(1, .ptr 0 0), (46, .lf (.bool false))], [.box 44 (.dat (GExpr.lf1 p_e))]⟩) (okc (rfl : (some ⟨[(1, .ptr 0 0), (46, .lf (.bool false))], [.box 44 (.dat (GExpr.lf1 p_e))]⟩ : Option St) = some ⟨[(1, .ptr 0 0), (46, .lf (.bool false))], [.box 44 (.dat (GExpr.lf1 p_e))]⟩) ok0))))))))) <|
 .ret ⟨[], [1, 46], [], 1⟩ (false)
def Q4_J0 (p_e : GExpr) : Option (Bool) := Mo.den (Q4_J0_T p_e)
def Q4_J0_S (p_e : GExpr) (r_ : Bool) : St := ⟨[(1, .ptr 0 0), (46, .lf (.bool r_))], [.box 44 (.dat (GExpr.lf1 p_e))]⟩
theorem Q4_J0_W {p_e : GExpr} {r_ : Bool} (h : Q4_J0 p_e = some r_) : AWa_ Tryz.f116 0 [1, 0, 0] (.normal) (Q4_J0_S p_e r_) ⟨[(1, .ptr 0 0)], [.box 44 (.dat (GExpr.lf1 p_e))]⟩ :=
 part_T BaseK (Q4_J0_T p_e) (fun _ => .normal) (Q4_J0_S p_e) (by kernel_rfl) h
def Q4_J5_T (p_e : GExpr) : Mo (Bool) :=
 .ite (p_e.fOp == 2) (fun c5122 =>
 .say [.gd 8003 true] (ok1 c5122) <|
 .ask (Q38 p_e.fPath) fun r5123 h5124 =>
 .say [.res (.lf (.bool r5123))] (ok1 (Q38_ok _ _ h5124)) <|
 .ret ⟨[], [1, 55], [], 1⟩ (!r5123)) fun c5122 =>
 .say [.gd 8003 false] (ok1 c5122) <|
 .ret ⟨[], [1, 55], [], 1⟩ (false)
def Q4_J5 (p_e : GExpr) : Option (Bool) := Mo.den (Q4_J5_T p_e)
def Q4_J5_S (p_e : GExpr) (r_ : Bool) : St := ⟨[(1, .ptr 0 0), (55, .lf (.bool r_))], [.box 44 (.dat (GExpr.lf1 p_e))]⟩
theorem Q4_J5_W {p_e : GExpr} {r_ : Bool} (h : Q4_J5 p_e = some r_) : AWoa_ Tryz.f116 0 [1, 1, 0, 0] [0, 1, 2, 3, 4, 5, 6, 7, 8] (Q4_J5_S p_e r_) ⟨[(1, .ptr 0 0)], [.box 44 (.dat (GExpr.lf1 p_e))]⟩ :=
 seg_T BaseK (Q4_J5_T p_e) (Q4_J5_S p_e) (by kernel_rfl) h
def Q4_J10_T (p_e : GExpr) (r5126 : Bool) : Mo (Bool) :=
 .ite (r5126) (fun c5128 =>
 .say [.gd 8009 true] (ok1 c5128) <|
 .ret ⟨[], [1, 72], [], 1⟩ (true)) fun c5128 =>
 .say [.gd 8009 false] (ok1 c5128) <|
 .ite (p_e.fOp == 3) (fun c5129 =>
 .say [.gd 8013 true, .num p_e.fPath.length] (okc c5129 (okc (by simp : p_e.fPath.length = (p_e.fPath.map lfS).length) ok0)) <|
 .ite (decide ((0 : Int) < (p_e.fPath.length : Int))) (fun c5130 =>
 .say [.gd 8019 true] (ok1 c5130) <|
 .ask (Q38 p_e.fPath) fun r5131 h5132 =>
 .say [.res (.lf (.bool r5131))] (ok1 (Q38_ok _ _ h5132)) <|
 .ret ⟨[], [1, 72], [], 1⟩ (!r5131)) fun c5130 =>
 .say [.gd 8019 false] (ok1 c5130) <|
 .ret ⟨[], [1, 72], [], 1⟩ (false)) fun c5129 =>
 .say [.gd 8013 false] (ok1 c5129) <|
 .ret ⟨[], [1, 72], [], 1⟩ (false)
def Q4_J10 (p_e : GExpr) (r5126 : Bool) : Option (Bool) := Mo.den (Q4_J10_T p_e r5126)
def Q4_J10_S (p_e : GExpr) (r_ : Bool) : St := ⟨[(1, .ptr 0 0), (72, .lf (.bool r_))], [.box 44 (.dat (GExpr.lf1 p_e))]⟩
theorem Q4_J10_W {p_e : GExpr} {r5126 : Bool} {r_ : Bool} (h : Q4_J10 p_e r5126 = some r_) : AWoa_ Tryz.f116 0 [1, 1, 0, 0] [9, 10, 11, 12, 13, 14, 15, 16, 17, 18, 19, 20, 21, 22, 23, 24, 25] (Q4_J10_S p_e r_) ⟨[(1, .ptr 0 0), (55, .lf (.bool r5126))], [.box 44 (.dat (GExpr.lf1 p_e))]⟩ :=
 seg_T BaseK (Q4_J10_T p_e r5126) (Q4_J10_S p_e) (by kernel_rfl) h
def Q4_J15_T (p_e : GExpr) : Mo (Bool) :=
 .ite (p_e.fOp == 3) (fun c5148 =>
 .say [.gd 12003 true] (ok1 c5148) <|
 .ret ⟨[], [1, 80], [], 1⟩ (true)) fun c5148 =>
 .say [.gd 12003 false] (ok1 c5148) <|
 .ret ⟨[], [1, 80], [], 1⟩ (p_e.fOp == 32)
def Q4_J15 (p_e : GExpr) : Option (Bool) := Mo.den (Q4_J15_T p_e)
def Q4_J15_S (p_e : GExpr) (r_ : Bool) : St := ⟨[(1, .ptr 0 0), (80, .lf (.bool r_))], [.box 44 (.dat (GExpr.lf1 p_e))]⟩
theorem Q4_J15_W {p_e : GExpr} {r_ : Bool} (h : Q4_J15 p_e = some r_) : AWoa_ Tryz.f116 0 [1, 1, 1, 0] [0, 1, 2, 3, 4, 5, 6, 7] (Q4_J15_S p_e r_) ⟨[(1, .ptr 0 0)], [.box 44 (.dat (GExpr.lf1 p_e))]⟩ :=
 seg_T BaseK (Q4_J15_T p_e) (Q4_J15_S p_e) (by kernel_rfl) h
def Q4_J20_T (p_e : GExpr) (r5150 : Bool) : Mo (Bool) :=
 .ite (r5150) (fun c5152 =>
 .say [.gd 12008 true] (ok1 c5152) <|
 .ret ⟨[], [1, 85], [], 1⟩ (true)) fun c5152 =>
 .say [.gd 12008 false] (ok1 c5152) <|
 .ret ⟨[], [1, 85], [], 1⟩ (p_e.fOp == 33)
def Q4_J20 (p_e : GExpr) (r5150 : Bool) : Option (Bool) := Mo.den (Q4_J20_T p_e r5150)
def Q4_J20_S (p_e : GExpr) (r_ : Bool) : St := ⟨[(1, .ptr 0 0), (85, .lf (.bool r_))], [.box 44 (.dat (GExpr.lf1 p_e))]⟩
theorem Q4_J20_W {p_e : GExpr} {r5150 : Bool} {r_ : Bool} (h : Q4_J20 p_e r5150 = some r_) : AWoa_ Tryz.f116 0 [1, 1, 1, 0] [8, 9, 10, 11, 12] (Q4_J20_S p_e r_) ⟨[(1, .ptr 0 0), (80, .lf (.bool r5150))], [.box 44 (.dat (GExpr.lf1 p_e))]⟩ :=
 seg_T BaseK (Q4_J20_T p_e r5150) (Q4_J20_S p_e) (by kernel_rfl) h
def Q4_J25_T (p_e : GExpr) (r5154 : Bool) : Mo (Unit) :=
 .ret ⟨[], [1, 3], [], 1⟩ ()
def Q4_J25 (p_e : GExpr) (r5154 : Bool) : Option (Unit) := Mo.den (Q4_J25_T p_e r5154)
def Q4_J25_S (p_e : GExpr) (r5154 : Bool) (r_ : Unit) : St := ⟨[(1, .ptr 0 0), (3, .lf (.bool r5154))], [.box 44 (.dat (GExpr.lf1 p_e))]⟩
theorem Q4_J25_W {p_e : GExpr} {r5154 : Bool} {r_ : Unit} (h : Q4_J25 p_e r5154 = some r_) : AWoa_ Tryz.f116 0 [1, 1, 1, 0] [13] (Q4_J25_S p_e r5154 r_) ⟨[(1, .ptr 0 0), (85, .lf (.bool r5154))], [.box 44 (.dat (GExpr.lf1 p_e))]⟩ :=
 seg_T BaseK (Q4_J25_T p_e r5154) (Q4_J25_S p_e r5154) (by kernel_rfl) h
def Q4_J30_T (p_e : GExpr) (r5154 : Bool) : Mo (Bool) :=
 .ite (r5154) (fun c5329 =>
 .say [.gd 14001 true] (ok1 c5329) <|
 .ask (Q20 p_e.fName) fun r5330 h5331 =>
 .say [.res (.lf (.bool r5330))] (ok1 (Q20_ok _ _ h5331)) <|
 .ret ⟨[], [1, 3, 92], [], 1⟩ (!r5330)) fun c5329 =>
 .say [.gd 14001 false] (ok1 c5329) <|
 .ret ⟨[], [1, 3, 92], [], 1⟩ (false)
def Q4_J30 (p_e : GExpr) (r5154 : Bool) : Option (Bool) := Mo.den (Q4_J30_T p_e r5154)
def Q4_J30_S (p_e : GExpr) (r5154 : Bool) (r_ : Bool) : St := ⟨[(1, .ptr 0 0), (3, .lf (.bool r5154)), (92, .lf (.bool r_))], [.box 44 (.dat (GExpr.lf1 p_e))]⟩
theorem Q4_J30_W {p_e : GExpr} {r5154 : Bool} {r_ : Bool} (h : Q4_J30 p_e r5154 = some r_) : AWoa_ Tryz.f116 0 [1, 1, 1, 1, 0, 0] [0, 1, 2, 3, 4, 5, 6] (Q4_J30_S p_e r5154 r_) ⟨[(1, .ptr 0 0), (3, .lf (.bool r5154))], [.box 44 (.dat (GExpr.lf1 p_e))]⟩ :=
 seg_T BaseK (Q4_J30_T p_e r5154) (Q4_J30_S p_e r5154) (by kernel_rfl) h
def Q4_J35_T (p_e : GExpr) (r5154 : Bool) (r5333 : Bool) : Mo (Bool) :=
 .ite (r5333) (fun c5335 =>
 .say [.gd 14007 true] (ok1 c5335) <|
 .ret ⟨[], [1, 3, 103], [], 1⟩ (true)) fun c5335 =>
 .say [.gd 14007 false] (ok1 c5335) <|
 .ite (p_e.fOp == 34) (fun c5336 =>
 .say [.gd 14011 true] (ok1 c5336) <|
 .ask (Q37 p_e.fNames) fun r5337 h5338 =>
 .say [.res (.lf (.bool r5337))] (ok1 (Q37_ok _ _ h5338)) <|
 .ret ⟨[], [1, 3, 103], [], 1⟩ (!r5337)) fun c5336 =>
 .say [.gd 14011 false] (ok1 c5336) <|
 .ret ⟨[], [1, 3, 103], [], 1⟩ (false)
def Q4_J35 (p_e : GExpr) (r5154 : Bool) (r5333 : Bool) : Option (Bool) := Mo.den (Q4_J35_T p_e r5154 r5333)
def Q4_J35_S (p_e : GExpr) (r5154 : Bool) (r_ : Bool) : St := ⟨[(1, .ptr 0 0), (3, .lf (.bool r5154)), (103, .lf (.bool r_))], [.box 44 (.dat (GExpr.lf1 p_e))]⟩
theorem Q4_J35_W {p_e : GExpr} {r5154 : Bool} {r5333 : Bool} {r_ : Bool} (h : Q4_J35 p_e r5154 r5333 = some r_) : AWoa_ Tryz.f116 0 [1, 1, 1, 1, 0, 0] [7, 8, 9, 10, 11, 12, 13, 14, 15, 16, 17] (Q4_J35_S p_e r5154 r_) ⟨[(1, .ptr 0 0), (3, .lf (.bool r5154)), (92, .lf (.bool r5333))], [.box 44 (.dat (GExpr.lf1 p_e))]⟩ :=
 seg_T BaseK (Q4_J35_T p_e r5154 r5333) (Q4_J35_S p_e r5154) (by kernel_rfl) h
def Q4_J40_T (p_e : GExpr) (r5154 : Bool) : Mo (Bool) :=
 .ite (p_e.fOp == 1) (fun c5347 =>
 .say [.gd 18003 true] (ok1 c5347) <|
 .ask (Q71 p_e.fArg) fun r5348 h5349 =>
 .say [.res (.lf (.bool r5348))] (ok1 (Q71_ok _ _ h5349)) <|
 .ret ⟨[], [1, 3, 112], [], 1⟩ (!r5348)) fun c5347 =>
 .say [.gd 18003 false] (ok1 c5347) <|
 .ret ⟨[], [1, 3, 112], [], 1⟩ (false)
def Q4_J40 (p_e : GExpr) (r5154 : Bool) : Option (Bool) := Mo.den (Q4_J40_T p_e r5154)
def Q4_J40_S (p_e : GExpr) (r5154 : Bool) (r_ : Bool) : St := ⟨[(1, .ptr 0 0), (3, .lf (.bool r5154)), (112, .lf (.bool r_))], [.box 44 (.dat (GExpr.lf1 p_e))]⟩
theorem Q4_J40_W {p_e : GExpr} {r5154 : Bool} {r_ : Bool} (h : Q4_J40 p_e r5154 = some r_) : AWa_ Tryz.f116 0 [1, 1, 1, 1, 1, 0, 0] (.normal) (Q4_J40_S p_e r5154 r_) ⟨[(1, .ptr 0 0), (3, .lf (.bool r5154))], [.box 44 (.dat (GExpr.lf1 p_e))]⟩ :=
 part_T BaseK (Q4_J40_T p_e r5154) (fun _ => .normal) (Q4_J40_S p_e r5154) (by kernel_rfl) h
def Q4_J45_T (p_e : GExpr) (r5154 : Bool) : Mo (Bool) :=
 .ite (p_e.fOp != 2) (fun c5579 =>
 .say [.gd 22003 true] (ok1 c5579) <|
 .ret ⟨[], [1, 3, 120], [], 1⟩ (p_e.fOp != 3)) fun c5579 =>
 .say [.gd 22003 false] (ok1 c5579) <|
 .ret ⟨[], [1, 3, 120], [], 1⟩ (false)
def Q4_J45 (p_e : GExpr) (r5154 : Bool) : Option (Bool) := Mo.den (Q4_J45_T p_e r5154)
def Q4_J45_S (p_e : GExpr) (r5154 : Bool) (r_ : Bool) : St := ⟨[(1, .ptr 0 0), (3, .lf (.bool r5154)), (120, .lf (.bool r_))], [.box 44 (.dat (GExpr.lf1 p_e))]⟩
theorem Q4_J45_W {p_e : GExpr} {r5154 : Bool} {r_ : Bool} (h : Q4_J45 p_e r5154 = some r_) : AWoa_ Tryz.f116 0 [1, 1, 1, 1, 1, 1, 0, 0] [0, 1, 2, 3, 4, 5, 6, 7] (Q4_J45_S p_e r5154 r_) ⟨[(1, .ptr 0 0), (3, .lf (.bool r5154))], [.box 44 (.dat (GExpr.lf1 p_e))]⟩ :=
 seg_T BaseK (Q4_J45_T p_e r5154) (Q4_J45_S p_e r5154) (by kernel_rfl) h
def Q4_J50_T (p_e : GExpr) (r5154 : Bool) (r5581 : Bool) : Mo (Bool) :=
 .ite (r5581) (fun c5583 =>
 .say [.gd 22008 true, .num p_e.fPath.length] (okc c5583 (okc (by simp : p_e.fPath.length = (p_e.fPath.map lfS).length) ok0)) <|
 .ret ⟨[], [1, 3, 126], [], 1⟩ (decide ((0 : Int) < (p_e.fPath.length : Int)))) fun c5583 =>
 .say [.gd 22008 false] (ok1 c5583) <|
 .ret ⟨[], [1, 3, 126], [], 1⟩ (false)
def Q4_J50 (p_e : GExpr) (r5154 : Bool) (r5581 : Bool) : Option (Bool) := Mo.den (Q4_J50_T p_e r5154 r5581)
def Q4_J50_S (p_e : GExpr) (r5154 : Bool) (r_ : Bool) : St := ⟨[(1, .ptr 0 0), (3, .lf (.bool r5154)), (126, .lf (.bool r_))], [.box 44 (.dat (GExpr.lf1 p_e))]⟩
theorem Q4_J50_W {p_e : GExpr} {r5154 : Bool} {r5581 : Bool} {r_ : Bool} (h : Q4_J50 p_e r5154 r5581 = some r_) : AWoa_ Tryz.f116 0 [1, 1, 1, 1, 1, 1, 0, 0] [8, 9, 10, 11, 12, 13] (Q4_J50_S p_e r5154 r_) ⟨[(1, .ptr 0 0), (3, .lf (.bool r5154)), (120, .lf (.bool r5581))], [.box 44 (.dat (GExpr.lf1 p_e))]⟩ :=
 seg_T BaseK (Q4_J50_T p_e r5154 r5581) (Q4_J50_S p_e r5154) (by kernel_rfl) h
def Q4_J55_T (p_e : GExpr) (r5154 : Bool) (r5585 : Bool) : Mo (Bool) :=
 .ite (r5585) (fun c5587 =>
 .say [.gd 22014 true] (ok1 c5587) <|
 .ret ⟨[], [1, 135], [], 1⟩ (true)) fun c5587 =>
 .say [.gd 22014 false] (ok1 c5587) <|
 .ite (!r5154) (fun c5588 =>
 .say [.gd 22017 true] (ok1 c5588) <|
 .ret ⟨[], [1, 135], [], 1⟩ (!decide ((p_e.fName : ByteArray) = (⟨#[]⟩ : ByteArray)))) fun c5588 =>
 .say [.gd 22017 false] (ok1 c5588) <|
 .ret ⟨[], [1, 135], [], 1⟩ (false)
def Q4_J55 (p_e : GExpr) (r5154 : Bool) (r5585 : Bool) : Option (Bool) := Mo.den (Q4_J55_T p_e r5154 r5585)
def Q4_J55_S (p_e : GExpr) (r_ : Bool) : St := ⟨[(1, .ptr 0 0), (135, .lf (.bool r_))], [.box 44 (.dat (GExpr.lf1 p_e))]⟩
theorem Q4_J55_W {p_e : GExpr} {r5154 : Bool} {r5585 : Bool} {r_ : Bool} (h : Q4_J55 p_e r5154 r5585 = some r_) : AWoa_ Tryz.f116 0 [1, 1, 1, 1, 1, 1, 0, 0] [14, 15, 16, 17, 18, 19, 20, 21, 22] (Q4_J55_S p_e r_) ⟨[(1, .ptr 0 0), (3, .lf (.bool r5154)), (126, .lf (.bool r5585))], [.box 44 (.dat (GExpr.lf1 p_e))]⟩ :=
 seg_T BaseK (Q4_J55_T p_e r5154 r5585) (Q4_J55_S p_e) (by kernel_rfl) h
def Q4_J60_T (p_e : GExpr) (r5590 : Bool) : Mo (Bool) :=
 .ite (r5590) (fun c5592 =>
 .say [.gd 22023 true] (ok1 c5592) <|
 .ret ⟨[], [1, 146], [], 1⟩ (true)) fun c5592 =>
 .say [.gd 22023 false] (ok1 c5592) <|
 .ite (p_e.fOp != 34) (fun c5593 =>
 .say [.gd 22027 true, .num p_e.fNames.length] (okc c5593 (okc (by simp : p_e.fNames.length = (p_e.fNames.map lfS).length) ok0)) <|
 .ret ⟨[], [1, 146], [], 1⟩ (decide ((0 : Int) < (p_e.fNames.length : Int)))) fun c5593 =>
 .say [.gd 22027 false] (ok1 c5593) <|
 .ret ⟨[], [1, 146], [], 1⟩ (false)
def Q4_J60 (p_e : GExpr) (r5590 : Bool) : Option (Bool) := Mo.den (Q4_J60_T p_e r5590)
def Q4_J60_S (p_e : GExpr) (r_ : Bool) : St := ⟨[(1, .ptr 0 0), (146, .lf (.bool r_))], [.box 44 (.dat (GExpr.lf1 p_e))]⟩
theorem Q4_J60_W {p_e : GExpr} {r5590 : Bool} {r_ : Bool} (h : Q4_J60 p_e r5590 = some r_) : AWoa_ Tryz.f116 0 [1, 1, 1, 1, 1, 1, 0, 0] [23, 24, 25, 26, 27, 28, 29, 30, 31, 32, 33] (Q4_J60_S p_e r_) ⟨[(1, .ptr 0 0), (135, .lf (.bool r5590))], [.box 44 (.dat (GExpr.lf1 p_e))]⟩ :=
 seg_T BaseK (Q4_J60_T p_e r5590) (Q4_J60_S p_e) (by kernel_rfl) h
def Q4_J65_T (p_e : GExpr) (r5595 : Bool) : Mo (Bool) :=
 .ite (r5595) (fun c5597 =>
 .say [.gd 22034 true] (ok1 c5597) <|
 .ret ⟨[], [1, 158], [], 1⟩ (true)) fun c5597 =>
 .say [.gd 22034 false] (ok1 c5597) <|
 .ite (p_e.fOp != 1) (fun c5598 =>
 .say [.gd 22038 true] (ok1 c5598) <|
 .ask (Q12 p_e.fArg (GValue.mk 0 0 ⟨#[]⟩ [] [])) fun r5599 h5600 =>
 .say [.res (.lf (.bool r5599))] (ok1 (Q12_ok _ _ _ h5600)) <|
 .ret ⟨[], [1, 158], [], 1⟩ (!r5599)) fun c5598 =>
 .say [.gd 22038 false] (ok1 c5598) <|
 .ret ⟨[], [1, 158], [], 1⟩ (false)
def Q4_J65 (p_e : GExpr) (r5595 : Bool) : Option (Bool) := Mo.den (Q4_J65_T p_e r5595)
def Q4_J65_S (p_e : GExpr) (r_ : Bool) : St := ⟨[(1, .ptr 0 0), (158, .lf (.bool r_))], [.box 44 (.dat (GExpr.lf1 p_e))]⟩
theorem Q4_J65_W {p_e : GExpr} {r5595 : Bool} {r_ : Bool} (h : Q4_J65 p_e r5595 = some r_) : AWoa_ Tryz.f116 0 [1, 1, 1, 1, 1, 1, 0, 0] [34, 35, 36, 37, 38, 39, 40, 41, 42, 43, 44, 45] (Q4_J65_S p_e r_) ⟨[(1, .ptr 0 0), (146, .lf (.bool r5595))], [.box 44 (.dat (GExpr.lf1 p_e))]⟩ :=
 seg_T BaseK (Q4_J65_T p_e r5595) (Q4_J65_S p_e) (by kernel_rfl) h
def Q4_J70_T (p_e : GExpr) (r5602 : Bool) : Mo (Bool) :=
 .ite (r5602) (fun c5604 =>
 .say [.gd 22046 true] (ok1 c5604) <|
 .ret ⟨[.kill 0], [163], [], 1⟩ (true)) fun c5604 =>
 .say [.gd 22046 false] (ok1 c5604) <|
 .ret ⟨[.kill 0], [163], [], 1⟩ (p_e.fN != 0)
def Q4_J70 (p_e : GExpr) (r5602 : Bool) : Option (Bool) := Mo.den (Q4_J70_T p_e r5602)
def Q4_J70_S  (r_ : Bool) : St := ⟨[(163, .lf (.bool r_))], [.dead]⟩
theorem Q4_J70_W {p_e : GExpr} {r5602 : Bool} {r_ : Bool} (h : Q4_J70 p_e r5602 = some r_) : AWoa_ Tryz.f116 0 [1, 1, 1, 1, 1, 1, 0, 0] [46, 47, 48, 49, 50] (Q4_J70_S r_) ⟨[(1, .ptr 0 0), (158, .lf (.bool r5602))], [.box 44 (.dat (GExpr.lf1 p_e))]⟩ :=
 seg_T BaseK (Q4_J70_T p_e r5602) Q4_J70_S (by kernel_rfl) h
def Q4_T (p_e : GExpr) : Mo (Int) :=
 .ask (Q4_J0 p_e) fun r5104 h5105 =>
 .say [.pt_ 9 [1] 1 (.normal) (Q4_J0_S p_e r5104)] (ok1 (Q4_J0_W h5105)) <|
 .ite (r5104) (fun c5107 =>
 .say [.br true] (ok1 c5107) <|
 .ret (fitN 1) (11)) fun c5107 =>
 .say [.br false] (ok1 c5107) <|
 .ask (Q4_J5 p_e) fun r5126 h5127 =>
 .say [.sg_ 3 9 [1] 1 (Q4_J5_S p_e r5126)] (ok1 (Q4_J5_W h5127)) <|
 .ask (Q4_J10 p_e r5126) fun r5134 h5135 =>
 .say [.sg_ 3 17 [1, 55] 1 (Q4_J10_S p_e r5134)] (ok1 (Q4_J10_W h5135)) <|
 .ite (r5134) (fun c5137 =>
 .say [.br true] (ok1 c5137) <|
 .ret (fitN 1) (10)) fun c5137 =>
 .say [.br false] (ok1 c5137) <|
 .ask (Q4_J15 p_e) fun r5150 h5151 =>
 .say [.sg_ 5 8 [1] 1 (Q4_J15_S p_e r5150)] (ok1 (Q4_J15_W h5151)) <|
 .ask (Q4_J20 p_e r5150) fun r5154 h5155 =>
 .say [.sg_ 5 5 [1, 80] 1 (Q4_J20_S p_e r5154)] (ok1 (Q4_J20_W h5155)) <|
 .ask (Q4_J25 p_e r5154) fun r5156 h5157 =>
 .say [.sg_ 5 1 [1, 85] 1 (Q4_J25_S p_e r5154 r5156)] (ok1 (Q4_J25_W h5157)) <|
 .ask (Q4_J30 p_e r5154) fun r5333 h5334 =>
 .say [.sg_ 6 7 [1, 3] 1 (Q4_J30_S p_e r5154 r5333)] (ok1 (Q4_J30_W h5334)) <|
 .ask (Q4_J35 p_e r5154 r5333) fun r5340 h5341 =>
 .say [.sg_ 6 11 [1, 3, 92] 1 (Q4_J35_S p_e r5154 r5340)] (ok1 (Q4_J35_W h5341)) <|
 .ite (r5340) (fun c5343 =>
 .say [.br true] (ok1 c5343) <|
 .ret (fitN 1) (9)) fun c5343 =>
 .say [.br false] (ok1 c5343) <|
 .ask (Q4_J40 p_e r5154) fun r5351 h5352 =>
 .say [.pt_ 23 [1, 3] 1 (.normal) (Q4_J40_S p_e r5154 r5351)] (ok1 (Q4_J40_W h5352)) <|
 .ite (r5351) (fun c5354 =>
 .say [.br true] (ok1 c5354) <|
 .ret (fitN 1) (8)) fun c5354 =>
 .say [.br false] (ok1 c5354) <|
 .ask (Q4_J45 p_e r5154) fun r5581 h5582 =>
 .say [.sg_ 10 8 [1, 3] 1 (Q4_J45_S p_e r5154 r5581)] (ok1 (Q4_J45_W h5582)) <|
 .ask (Q4_J50 p_e r5154 r5581) fun r5585 h5586 =>
 .say [.sg_ 10 6 [1, 3, 120] 1 (Q4_J50_S p_e r5154 r5585)] (ok1 (Q4_J50_W h5586)) <|
 .ask (Q4_J55 p_e r5154 r5585) fun r5590 h5591 =>
 .say [.sg_ 10 9 [1, 3, 126] 1 (Q4_J55_S p_e r5590)] (ok1 (Q4_J55_W h5591)) <|
 .ask (Q4_J60 p_e r5590) fun r5595 h5596 =>
 .say [.sg_ 10 11 [1, 135] 1 (Q4_J60_S p_e r5595)] (ok1 (Q4_J60_W h5596)) <|
 .ask (Q4_J65 p_e r5595) fun r5602 h5603 =>
 .say [.sg_ 10 12 [1, 146] 1 (Q4_J65_S p_e r5602)] (ok1 (Q4_J65_W h5603)) <|
 .ask (Q4_J70 p_e r5602) fun r5608 h5609 =>
 .say [.sg_ 10 5 [1, 158] 1 (Q4_J70_S r5608)] (ok1 (Q4_J70_W h5609)) <|
 .ite (r5608) (fun c5611 =>
 .say [.br true] (ok1 c5611) <|
 .ret (fitN 1) (4)) fun c5611 =>
 .say [.br false] (ok1 c5611) <|
 .ret (fitN 1) (0)
def Q4 (p_e : GExpr) : Option (Int) := Mo.den (Q4_T p_e)
theorem Q4_ok (p_e : GExpr) (r : Int) (h : Q4 p_e = some r) : Fn Tryz.prog GI 116 [.dat (GExpr.lf1 p_e)] (.lf (.int .i64 r)) :=
 fn_T BaseK Tryz.func116 (by kernel_rfl) (by kernel_rfl) (by kernel_rfl) (Q4_T p_e) (fun r => [.lf (.int .i64 r)]) (by kernel_rfl) h
end
end Go.Proofs.YtplokbmdcfakbaaGreatDoor
