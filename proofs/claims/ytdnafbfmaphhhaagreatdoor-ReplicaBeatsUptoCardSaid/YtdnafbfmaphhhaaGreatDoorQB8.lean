/- Printed by dec.py. -/
import Derived.Test.YtdnafbfmaphhhaaGreatDoorQB7
set_option linter.unusedSimpArgs false
set_option linter.unusedVariables false
namespace Go.Proofs.YtdnafbfmaphhhaaGreatDoor
open Go.RowKit
set_option maxRecDepth 20000
set_option maxHeartbeats 4000000
noncomputable section
structure RB14 where
 m1 : (p_v : GValue) → (p_most : Int) → Option (Int)
 ok1 : ∀ (p_v : GValue) (p_most : Int) (r : Int), m1 p_v p_most = some r → Fn Tryz.prog GI 238 [.dat (GValue.lf1 p_v), .lf (.int .i64 p_most)] (.lf (.int .i64 r))
def Q35_J0_T (R_ : RB14) (p_most : Int) (r3383 : List GValue) (v3427 : Int) (v3428 : Int) : Mo (Bool) :=
 .say [.num r3383.length] (okc (by simp : r3383.length = (r3383.map GValue.lf).length) ok0) <|
 .ite (decide ((v3428 : Int) < (r3383.length : Int))) (fun c3429 =>
 .say [.gd 10004 true] (ok1 c3429) <|
 .ret ⟨[], [1, 5, 6, 7, 18], [], 1⟩ (decide ((v3427 : Int) < p_most))) fun c3429 =>
 .say [.gd 10004 false] (ok1 c3429) <|
 .ret ⟨[], [1, 5, 6, 7, 18], [], 1⟩ (false)
def Q35_J0 (R_ : RB14) (p_most : Int) (r3383 : List GValue) (v3427 : Int) (v3428 : Int) : Option (Bool) := Mo.den (Q35_J0_T R_ p_most r3383 v3427 v3428)
def Q35_J0_S (p_most : Int) (r3383 : List GValue) (v3427 : Int) (v3428 : Int) (r_ : Bool) : St := ⟨[(1, .lf (.int .i64 p_most)), (5, .lf (.int .i64 v3427)), (6, .lf (.rows 5 (r3383.map GValue.lf))), (7, .lf (.int .i64 v3428)), (18, .lf (.bool r_))], [.dead]⟩
theorem Q35_J0_W {R_ : RB14} {p_most : Int} {r3383 : List GValue} {v3427 : Int} {v3428 : Int} {r_ : Bool} (h : Q35_J0 R_ p_most r3383 v3427 v3428 = some r_) : AWa_ Tryz.f238 0 [1, 1, 1, 0, 1, 0, 0, 0, 0] (.normal) (Q35_J0_S p_most r3383 v3427 v3428 r_) ⟨[(1, .lf (.int .i64 p_most)), (5, .lf (.int .i64 v3427)), (6, .lf (.rows 5 (r3383.map GValue.lf))), (7, .lf (.int .i64 v3428))], [.dead]⟩ :=
 part_T BaseK (Q35_J0_T R_ p_most r3383 v3427 v3428) (fun _ => .normal) (Q35_J0_S p_most r3383 v3427 v3428) (by kernel_rfl) h
def Q35_L5_T (R_ : RB14) (p_most : Int) (r3383 : List GValue) : (Int × Int) → Mo ((Int × Int) ⊕ (Int)) := fun (v3427, v3428) =>
 .ask (Q35_J0 R_ p_most r3383 v3427 v3428) fun r3431 h3432 =>
 .say [.pt_ 15 [1, 5, 6, 7] 1 (.normal) (Q35_J0_S p_most r3383 v3427 v3428 r3431)] (ok1 (Q35_J0_W h3432)) <|
 .ite (r3431) (fun c3433 =>
 .say [.br true] (ok1 c3433) <|
 .ask (gidx r3383 v3428) fun x3434 h3435 =>
 .say [.row (GValue.lf1 x3434)] (okc (gidx_ok GValue.lf_eq h3435 : (0 : Int) ≤ v3428 ∧ (r3383.map GValue.lf)[v3428.toNat]? = some (GValue.lf1 x3434)) ok0) <|
 .ask (R_.m1 x3434 (IntKind.wrap .i64 (p_most - v3427))) fun r3436 h3437 =>
 .say [.res (.lf (.int .i64 r3436))] (ok1 (R_.ok1 _ _ _ h3437)) <|
 .ret ⟨[], [1, 5, 6, 7], [], 1⟩ (.inl (IntKind.wrap .i64 (v3427 + r3436), IntKind.wrap .i64 (v3428 + 1)))) fun c3433 =>
 .say [.br false] (ok1 c3433) <|
 .ret ⟨[], [5], [], 1⟩ (.inr (v3427))
def Q35_L5 (R_ : RB14) (p_most : Int) (r3383 : List GValue) (v3427 : Int) (v3428 : Int) : Option (Int) := loopM (fun v_ => (Q35_L5_T R_ p_most r3383 v_).den) FU (v3427, v3428)
def Q35_L5_H (R_ : RB14) (p_most : Int) (r3383 : List GValue) : (Int × Int) → St := fun (v3427, v3428) => ⟨[(1, .lf (.int .i64 p_most)), (5, .lf (.int .i64 v3427)), (6, .lf (.rows 5 (r3383.map GValue.lf))), (7, .lf (.int .i64 v3428))], [.dead]⟩
def Q35_L5_S  (r_ : Int) : St := ⟨[(5, .lf (.int .i64 r_))], [.dead]⟩
theorem Q35_L5_W {R_ : RB14} {p_most : Int} {r3383 : List GValue} {v3427 : Int} {v3428 : Int} {r_ : Int} (h : Q35_L5 R_ p_most r3383 v3427 v3428 = some r_) : AWa_ Tryz.f238 0 [1, 1, 1, 0, 1, 0] (.exit 0) (Q35_L5_S r_) (Q35_L5_H R_ p_most r3383 (v3427, v3428)) :=
 loop_T BaseK (body := (Code.sub (bodyC Tryz.f238) [1, 1, 1, 0, 1, 0, 0])) (by kernel_rfl) (Q35_L5_T R_ p_most r3383) (Q35_L5_H R_ p_most r3383) (fun _ => .exit 0) Q35_L5_S (fun r_ => rfl) (fun v_ => by kernel_rfl) h
def Q35_T (R_ : RB14) (p_v : GValue) (p_most : Int) : Mo (Int) :=
 .ask (Q14 p_v) fun r3383 h3384 =>
 .say [.res (.lf (.rows 5 (r3383.map GValue.lf)))] (ok1 (Q14_ok _ _ h3384)) <|
 .ask (Q35_L5 R_ p_most r3383 1 0) fun r3439 h3440 =>
 .say [.part [.kill 0] 0 [1, 5, 6, 7] 1 (.exit 0) (Q35_L5_S r3439).T (Q35_L5_S r3439).H] (ok1 (Q35_L5_W h3440)) <|
 .ret (fitN 1) (r3439)
theorem Q35_okT (R_ : RB14) (p_v : GValue) (p_most : Int) (r : Int) (h : Mo.den (Q35_T R_ p_v p_most) = some r) : Fn Tryz.prog GI 238 [.dat (GValue.lf1 p_v), .lf (.int .i64 p_most)] (.lf (.int .i64 r)) :=
 fn_T BaseK Tryz.func238 (by kernel_rfl) (by kernel_rfl) (by kernel_rfl) (Q35_T R_ p_v p_most) (fun r => [.lf (.int .i64 r)]) (by kernel_rfl) h
def RB14_F : Nat → RB14
 | 0 => { m1 := fun p_v p_most => none, ok1 := fun _ _ _ h => (by cases h) }
 | n_ + 1 => { m1 := fun p_v p_most => Mo.den (Q35_T (RB14_F n_) p_v p_most), ok1 := fun p_v p_most r h => Q35_okT (RB14_F n_) p_v p_most r h }
def Q35 (p_v : GValue) (p_most : Int) : Option (Int) := (RB14_F FU).m1 p_v p_most
theorem Q35_ok (p_v : GValue) (p_most : Int) (r : Int) (h : Q35 p_v p_most = some r) : Fn Tryz.prog GI 238 [.dat (GValue.lf1 p_v), .lf (.int .i64 p_most)] (.lf (.int .i64 r)) := (RB14_F FU).ok1 p_v p_most r h
def Q119_T (p_v : GValue) : Mo (Int) :=
 .ask (Q35 p_v 1025) fun r3441 h3442 =>
 .say [.res (.lf (.int .i64 r3441))] (ok1 (Q35_ok _ _ _ h3442)) <|
 .ret (fitN 1) (r3441)
def Q119 (p_v : GValue) : Option (Int) := Mo.den (Q119_T p_v)
theorem Q119_ok (p_v : GValue) (r : Int) (h : Q119 p_v = some r) : Fn Tryz.prog GI 197 [.dat (GValue.lf1 p_v)] (.lf (.int .i64 r)) :=
 fn_T BaseK Tryz.func197 (by kernel_rfl) (by kernel_rfl) (by kernel_rfl) (Q119_T p_v) (fun r => [.lf (.int .i64 r)]) (by kernel_rfl) h
def Q30_J0_T (p_i : Int) (p_n : Int) (p_s : ByteArray) (v3645 : Int) : Mo (Bool) :=
 .ask (sidx p_s (IntKind.wrap .i64 (p_i + v3645))) fun b3647 h3648 =>
 .say [.byt b3647] (okc (sidx_ok h3648 : (0 : Int) ≤ (IntKind.wrap .i64 (p_i + v3645)) ∧ p_s[(IntKind.wrap .i64 (p_i + v3645)).toNat]? = some b3647) ok0) <|
 .ite (decide (((b3647.toNat : Int) : Int) < 128)) (fun c3649 =>
 .say [.gd 14006 true] (ok1 c3649) <|
 .ret ⟨[], [0, 1, 2, 7, 32], [], 0⟩ (true)) fun c3649 =>
 .say [.gd 14006 false] (ok1 c3649) <|
 .ask (sidx p_s (IntKind.wrap .i64 (p_i + v3645))) fun b3650 h3651 =>
 .say [.byt b3650] (okc (sidx_ok h3651 : (0 : Int) ≤ (IntKind.wrap .i64 (p_i + v3645)) ∧ p_s[(IntKind.wrap .i64 (p_i + v3645)).toNat]? = some b3650) ok0) <|
 .ret ⟨[], [0, 1, 2, 7, 32], [], 0⟩ (decide ((191 : Int) < (b3650.toNat : Int)))
def Q30_J0 (p_i : Int) (p_n : Int) (p_s : ByteArray) (v3645 : Int) : Option (Bool) := Mo.den (Q30_J0_T p_i p_n p_s v3645)
def Q30_J0_S (p_i : Int) (p_n : Int) (p_s : ByteArray) (v3645 : Int) (r_ : Bool) : St := ⟨[(0, .lf (.str p_s)), (1, .lf (.int .i64 p_i)), (2, .lf (.int .i64 p_n)), (7, .lf (.int .i64 v3645)), (32, .lf (.bool r_))], []⟩
theorem Q30_J0_W {p_i : Int} {p_n : Int} {p_s : ByteArray} {v3645 : Int} {r_ : Bool} (h : Q30_J0 p_i p_n p_s v3645 = some r_) : AWa_ Tryz.f289 0 [1, 1, 0, 1, 0, 0, 1, 0, 0, 0] (.normal) (Q30_J0_S p_i p_n p_s v3645 r_) ⟨[(0, .lf (.str p_s)), (1, .lf (.int .i64 p_i)), (2, .lf (.int .i64 p_n)), (7, .lf (.int .i64 v3645))], []⟩ :=
 part_T BaseK (Q30_J0_T p_i p_n p_s v3645) (fun _ => .normal) (Q30_J0_S p_i p_n p_s v3645) (by kernel_rfl) h
def Q30_L5_T (p_i : Int) (p_n : Int) (p_s : ByteArray) : (Int) → Mo ((Int) ⊕ (Unit ⊕ Unit)) := fun (v3645) =>
 .ite (decide ((v3645 : Int) < p_n)) (fun c3646 =>
 .say [.br true] (ok1 c3646) <|
 .ask (Q30_J0 p_i p_n p_s v3645) fun r3653 h3654 =>
 .say [.pt_ 19 [0, 1, 2, 7] 0 (.normal) (Q30_J0_S p_i p_n p_s v3645 r3653)] (ok1 (Q30_J0_W h3654)) <|
 .ite (r3653) (fun c3655 =>
 .say [.br true] (ok1 c3655) <|
 .ret ⟨[], [6], [], 0⟩ (.inr (.inl ()))) fun c3655 =>
 .say [.br false] (ok1 c3655) <|
 .ret ⟨[], [0, 1, 2, 7], [], 0⟩ (.inl (IntKind.wrap .i64 (v3645 + 1)))) fun c3646 =>
 .say [.br false] (ok1 c3646) <|
 .ret ⟨[], [], [], 0⟩ (.inr (.inr (())))
def Q30_L5 (p_i : Int) (p_n : Int) (p_s : ByteArray) (v3645 : Int) : Option (Unit ⊕ Unit) := loopM (fun v_ => (Q30_L5_T p_i p_n p_s v_).den) FU (v3645)
def Q30_L5_H (p_i : Int) (p_n : Int) (p_s : ByteArray) : (Int) → St := fun (v3645) => ⟨[(0, .lf (.str p_s)), (1, .lf (.int .i64 p_i)), (2, .lf (.int .i64 p_n)), (7, .lf (.int .i64 v3645))], []⟩
def Q30_L5_X (r_ : Unit ⊕ Unit) : Exit := match r_ with
 | .inl o_ => .ret
 | .inr (o_) => .exit 0
def Q30_L5_S  (r_ : Unit ⊕ Unit) : St := match r_ with
 | .inl o_ => ⟨[(6, .lf (.bool false))], []⟩
 | .inr (o_) => ⟨[], []⟩
theorem Q30_L5_W {p_i : Int} {p_n : Int} {p_s : ByteArray} {v3645 : Int} {r_ : Unit ⊕ Unit} (h : Q30_L5 p_i p_n p_s v3645 = some r_) : AWa_ Tryz.f289 0 [1, 1, 0, 1, 0] (Q30_L5_X r_) (Q30_L5_S r_) (Q30_L5_H p_i p_n p_s (v3645)) :=
 loop_T BaseK (body := (Code.sub (bodyC Tryz.f289) [1, 1, 0, 1, 0, 0])) (by kernel_rfl) (Q30_L5_T p_i p_n p_s) (Q30_L5_H p_i p_n p_s) Q30_L5_X Q30_L5_S (fun r_ => by rcases r_ with _ | _ <;> rfl) (fun v_ => by kernel_rfl) h
def Q30_T (p_s : ByteArray) (p_i : Int) (p_n : Int) : Mo (Bool) :=
 .ite (decide (((p_s.size : Int) : Int) < (IntKind.wrap .i64 (p_i + p_n)))) (fun c3593 =>
 .say [.br true] (ok1 c3593) <|
 .ret (fitN 1) (false)) fun c3593 =>
 .say [.br false] (ok1 c3593) <|
 .ask2 (Q30_L5 p_i p_n p_s 0) (fun o3658 h3657 =>
 .say [.pt_ 0 [0, 1, 2, 7] 0 (Q30_L5_X (.inl o3658)) (Q30_L5_S (.inl o3658))] (ok1 (Q30_L5_W h3657)) <|
 .ret (fitN 1) (false)) fun o3659 h3657 =>
 .say [.pt_ 0 [0, 1, 2, 7] 0 (Q30_L5_X (.inr (o3659))) (Q30_L5_S (.inr (o3659)))] (ok1 (Q30_L5_W h3657)) <|
 .ret (fitN 1) (true)
def Q30 (p_s : ByteArray) (p_i : Int) (p_n : Int) : Option (Bool) := Mo.den (Q30_T p_s p_i p_n)
theorem Q30_ok (p_s : ByteArray) (p_i : Int) (p_n : Int) (r : Bool) (h : Q30 p_s p_i p_n = some r) : Fn Tryz.prog GI 289 [.lf (.str p_s), .lf (.int .i64 p_i), .lf (.int .i64 p_n)] (.lf (.bool r)) :=
 fn_T BaseK Tryz.func289 (by kernel_rfl) (by kernel_rfl) (by kernel_rfl) (Q30_T p_s p_i p_n) (fun r => [.lf (.bool r)]) (by kernel_rfl) h
def Q5_J0_T (b3894 : UInt8) (p_s : ByteArray) (v3892 : Int) : Mo (Bool) :=
 .ite (decide ((194 : Int) ≤ (b3894.toNat : Int))) (fun c3897 =>
 .say [.gd 16002 true] (ok1 c3897) <|
 .ret ⟨[], [0, 3, 4, 16], [], 0⟩ (decide (((b3894.toNat : Int) : Int) ≤ 223))) fun c3897 =>
 .say [.gd 16002 false] (ok1 c3897) <|
 .ret ⟨[], [0, 3, 4, 16], [], 0⟩ (false)
def Q5_J0 (b3894 : UInt8) (p_s : ByteArray) (v3892 : Int) : Option (Bool) := Mo.den (Q5_J0_T b3894 p_s v3892)
def Q5_J0_S (b3894 : UInt8) (p_s : ByteArray) (v3892 : Int) (r_ : Bool) : St := ⟨[(0, .lf (.str p_s)), (3, .lf (.int .i64 v3892)), (4, .lf (.int .u8 (b3894.toNat : Int))), (16, .lf (.bool r_))], []⟩
theorem Q5_J0_W {b3894 : UInt8} {p_s : ByteArray} {v3892 : Int} {r_ : Bool} (h : Q5_J0 b3894 p_s v3892 = some r_) : AWa_ Tryz.f239 0 [1, 0, 1, 0, 0, 1, 0, 1, 1, 0, 0, 1, 1, 0] (.normal) (Q5_J0_S b3894 p_s v3892 r_) ⟨[(0, .lf (.str p_s)), (3, .lf (.int .i64 v3892)), (4, .lf (.int .u8 (b3894.toNat : Int)))], []⟩ :=
 part_T BaseK (Q5_J0_T b3894 p_s v3892) (fun _ => .normal) (Q5_J0_S b3894 p_s v3892) (by kernel_rfl) h
def Q5_J5_T (b3894 : UInt8) (p_s : ByteArray) (v3892 : Int) : Mo (Bool) :=
 .ite (decide ((224 : Int) ≤ (b3894.toNat : Int))) (fun c3902 =>
 .say [.gd 20002 true] (ok1 c3902) <|
 .ret ⟨[], [0, 3, 4, 23], [], 0⟩ (decide (((b3894.toNat : Int) : Int) ≤ 239))) fun c3902 =>
 .say [.gd 20002 false] (ok1 c3902) <|
 .ret ⟨[], [0, 3, 4, 23], [], 0⟩ (false)
def Q5_J5 (b3894 : UInt8) (p_s : ByteArray) (v3892 : Int) : Option (Bool) := Mo.den (Q5_J5_T b3894 p_s v3892)
def Q5_J5_S (b3894 : UInt8) (p_s : ByteArray) (v3892 : Int) (r_ : Bool) : St := ⟨[(0, .lf (.str p_s)), (3, .lf (.int .i64 v3892)), (4, .lf (.int .u8 (b3894.toNat : Int))), (23, .lf (.bool r_))], []⟩
theorem Q5_J5_W {b3894 : UInt8} {p_s : ByteArray} {v3892 : Int} {r_ : Bool} (h : Q5_J5 b3894 p_s v3892 = some r_) : AWa_ Tryz.f239 0 [1, 0, 1, 0, 0, 1, 0, 1, 1, 0, 0, 1, 1, 1, 1, 0] (.normal) (Q5_J5_S b3894 p_s v3892 r_) ⟨[(0, .lf (.str p_s)), (3, .lf (.int .i64 v3892)), (4, .lf (.int .u8 (b3894.toNat : Int)))], []⟩ :=
 part_T BaseK (Q5_J5_T b3894 p_s v3892) (fun _ => .normal) (Q5_J5_S b3894 p_s v3892) (by kernel_rfl) h
def Q5_J10_T (b3894 : UInt8) (p_s : ByteArray) (v3892 : Int) : Mo (Bool) :=
 .ite (decide ((240 : Int) ≤ (b3894.toNat : Int))) (fun c3907 =>
 .say [.gd 24002 true] (ok1 c3907) <|
 .ret ⟨[], [0, 3, 4, 30], [], 0⟩ (decide (((b3894.toNat : Int) : Int) ≤ 244))) fun c3907 =>
 .say [.gd 24002 false] (ok1 c3907) <|
 .ret ⟨[], [0, 3, 4, 30], [], 0⟩ (false)
def Q5_J10 (b3894 : UInt8) (p_s : ByteArray) (v3892 : Int) : Option (Bool) := Mo.den (Q5_J10_T b3894 p_s v3892)
def Q5_J10_S (b3894 : UInt8) (p_s : ByteArray) (v3892 : Int) (r_ : Bool) : St := ⟨[(0, .lf (.str p_s)), (3, .lf (.int .i64 v3892)), (4, .lf (.int .u8 (b3894.toNat : Int))), (30, .lf (.bool r_))], []⟩
theorem Q5_J10_W {b3894 : UInt8} {p_s : ByteArray} {v3892 : Int} {r_ : Bool} (h : Q5_J10 b3894 p_s v3892 = some r_) : AWa_ Tryz.f239 0 [1, 0, 1, 0, 0, 1, 0, 1, 1, 0, 0, 1, 1, 1, 1, 1, 1, 0] (.normal) (Q5_J10_S b3894 p_s v3892 r_) ⟨[(0, .lf (.str p_s)), (3, .lf (.int .i64 v3892)), (4, .lf (.int .u8 (b3894.toNat : Int)))], []⟩ :=
 part_T BaseK (Q5_J10_T b3894 p_s v3892) (fun _ => .normal) (Q5_J10_S b3894 p_s v3892) (by kernel_rfl) h
def Q5_J15_T (b3894 : UInt8) (p_s : ByteArray) (v3892 : Int) : Mo ((Int) ⊕ Unit) :=
 .ite (decide (((b3894.toNat : Int) : Int) < 128)) (fun c3896 =>
 .say [.br true] (ok1 c3896) <|
 .ret ⟨[], [0, 3, 4, 5], [], 0⟩ (.inl (0))) fun c3896 =>
 .say [.br false] (ok1 c3896) <|
 .ask (Q5_J0 b3894 p_s v3892) fun r3899 h3900 =>
 .say [.pt_ 21 [0, 3, 4] 0 (.normal) (Q5_J0_S b3894 p_s v3892 r3899)] (ok1 (Q5_J0_W h3900)) <|
 .ite (r3899) (fun c3901 =>
 .say [.br true] (ok1 c3901) <|
 .ret ⟨[], [0, 3, 4, 5], [], 0⟩ (.inl (1))) fun c3901 =>
 .say [.br false] (ok1 c3901) <|
 .ask (Q5_J5 b3894 p_s v3892) fun r3904 h3905 =>
 .say [.pt_ 25 [0, 3, 4] 0 (.normal) (Q5_J5_S b3894 p_s v3892 r3904)] (ok1 (Q5_J5_W h3905)) <|
 .ite (r3904) (fun c3906 =>
 .say [.br true] (ok1 c3906) <|
 .ret ⟨[], [0, 3, 4, 5], [], 0⟩ (.inl (2))) fun c3906 =>
 .say [.br false] (ok1 c3906) <|
 .ask (Q5_J10 b3894 p_s v3892) fun r3909 h3910 =>
 .say [.pt_ 29 [0, 3, 4] 0 (.normal) (Q5_J10_S b3894 p_s v3892 r3909)] (ok1 (Q5_J10_W h3910)) <|
 .ite (r3909) (fun c3911 =>
 .say [.br true] (ok1 c3911) <|
 .ret ⟨[], [0, 3, 4, 5], [], 0⟩ (.inl (3))) fun c3911 =>
 .say [.br false] (ok1 c3911) <|
 .ret ⟨[], [2], [], 0⟩ (.inr (()))
def Q5_J15 (b3894 : UInt8) (p_s : ByteArray) (v3892 : Int) : Option ((Int) ⊕ Unit) := Mo.den (Q5_J15_T b3894 p_s v3892)
def Q5_J15_X (r_ : (Int) ⊕ Unit) : Exit := match r_ with
 | .inl o_ => .normal
 | .inr (o_) => .ret
def Q5_J15_S (b3894 : UInt8) (p_s : ByteArray) (v3892 : Int) (r_ : (Int) ⊕ Unit) : St := match r_ with
 | .inl o_ => ⟨[(0, .lf (.str p_s)), (3, .lf (.int .i64 v3892)), (4, .lf (.int .u8 (b3894.toNat : Int))), (5, .lf (.int .i64 o_))], []⟩
 | .inr (o_) => ⟨[(2, .lf (.bool false))], []⟩
theorem Q5_J15_W {b3894 : UInt8} {p_s : ByteArray} {v3892 : Int} {r_ : (Int) ⊕ Unit} (h : Q5_J15 b3894 p_s v3892 = some r_) : AWa_ Tryz.f239 0 [1, 0, 1, 0, 0, 1, 0, 1, 1, 0] (Q5_J15_X r_) (Q5_J15_S b3894 p_s v3892 r_) ⟨[(0, .lf (.str p_s)), (3, .lf (.int .i64 v3892)), (4, .lf (.int .u8 (b3894.toNat : Int))), (5, .lf (.int .i64 0))], []⟩ :=
 part_T BaseK (Q5_J15_T b3894 p_s v3892) Q5_J15_X (Q5_J15_S b3894 p_s v3892) (by kernel_rfl) h
def Q5_J20_T (b3894 : UInt8) (o3915 : Int) (p_s : ByteArray) (v3892 : Int) : Mo (Bool) :=
 .ite ((b3894.toNat : Int) == 224) (fun c3919 =>
 .say [.gd 32002 true] (ok1 c3919) <|
 .ask (sidx p_s (IntKind.wrap .i64 (v3892 + 1))) fun b3920 h3921 =>
 .say [.byt b3920] (okc (sidx_ok h3921 : (0 : Int) ≤ (IntKind.wrap .i64 (v3892 + 1)) ∧ p_s[(IntKind.wrap .i64 (v3892 + 1)).toNat]? = some b3920) ok0) <|
 .ret ⟨[], [0, 3, 4, 5, 51], [], 0⟩ (decide (((b3920.toNat : Int) : Int) < 160))) fun c3919 =>
 .say [.gd 32002 false] (ok1 c3919) <|
 .ret ⟨[], [0, 3, 4, 5, 51], [], 0⟩ (false)
def Q5_J20 (b3894 : UInt8) (o3915 : Int) (p_s : ByteArray) (v3892 : Int) : Option (Bool) := Mo.den (Q5_J20_T b3894 o3915 p_s v3892)
def Q5_J20_S (b3894 : UInt8) (o3915 : Int) (p_s : ByteArray) (v3892 : Int) (r_ : Bool) : St := ⟨[(0, .lf (.str p_s)), (3, .lf (.int .i64 v3892)), (4, .lf (.int .u8 (b3894.toNat : Int))), (5, .lf (.int .i64 o3915)), (51, .lf (.bool r_))], []⟩
theorem Q5_J20_W {b3894 : UInt8} {o3915 : Int} {p_s : ByteArray} {v3892 : Int} {r_ : Bool} (h : Q5_J20 b3894 o3915 p_s v3892 = some r_) : AWoa_ Tryz.f239 0 [1, 0, 1, 0, 0, 1, 0, 1, 1, 1, 1, 0, 0] [0, 1, 2, 3, 4, 5, 6, 7, 8] (Q5_J20_S b3894 o3915 p_s v3892 r_) ⟨[(0, .lf (.str p_s)), (3, .lf (.int .i64 v3892)), (4, .lf (.int .u8 (b3894.toNat : Int))), (5, .lf (.int .i64 o3915))], []⟩ :=
 seg_T BaseK (Q5_J20_T b3894 o3915 p_s v3892) (Q5_J20_S b3894 o3915 p_s v3892) (by kernel_rfl) h
def Q5_J25_T (b3894 : UInt8) (o3915 : Int) (p_s : ByteArray) (r3923 : Bool) (v3892 : Int) : Mo (Bool) :=
 .ite (r3923) (fun c3925 =>
 .say [.gd 32009 true] (ok1 c3925) <|
 .ret ⟨[], [0, 3, 4, 5, 62], [], 0⟩ (true)) fun c3925 =>
 .say [.gd 32009 false] (ok1 c3925) <|
 .ite ((b3894.toNat : Int) == 237) (fun c3926 =>
 .say [.gd 32012 true] (ok1 c3926) <|
 .ask (sidx p_s (IntKind.wrap .i64 (v3892 + 1))) fun b3927 h3928 =>
 .say [.byt b3927] (okc (sidx_ok h3928 : (0 : Int) ≤ (IntKind.wrap .i64 (v3892 + 1)) ∧ p_s[(IntKind.wrap .i64 (v3892 + 1)).toNat]? = some b3927) ok0) <|
 .ret ⟨[], [0, 3, 4, 5, 62], [], 0⟩ (decide ((159 : Int) < (b3927.toNat : Int)))) fun c3926 =>
 .say [.gd 32012 false] (ok1 c3926) <|
 .ret ⟨[], [0, 3, 4, 5, 62], [], 0⟩ (false)
def Q5_J25 (b3894 : UInt8) (o3915 : Int) (p_s : ByteArray) (r3923 : Bool) (v3892 : Int) : Option (Bool) := Mo.den (Q5_J25_T b3894 o3915 p_s r3923 v3892)
def Q5_J25_S (b3894 : UInt8) (o3915 : Int) (p_s : ByteArray) (v3892 : Int) (r_ : Bool) : St := ⟨[(0, .lf (.str p_s)), (3, .lf (.int .i64 v3892)), (4, .lf (.int .u8 (b3894.toNat : Int))), (5, .lf (.int .i64 o3915)), (62, .lf (.bool r_))], []⟩
theorem Q5_J25_W {b3894 : UInt8} {o3915 : Int} {p_s : ByteArray} {r3923 : Bool} {v3892 : Int} {r_ : Bool} (h : Q5_J25 b3894 o3915 p_s r3923 v3892 = some r_) : AWoa_ Tryz.f239 0 [1, 0, 1, 0, 0, 1, 0, 1, 1, 1, 1, 0, 0] [9, 10, 11, 12, 13, 14, 15, 16, 17, 18, 19] (Q5_J25_S b3894 o3915 p_s v3892 r_) ⟨[(0, .lf (.str p_s)), (3, .lf (.int .i64 v3892)), (4, .lf (.int .u8 (b3894.toNat : Int))), (5, .lf (.int .i64 o3915)), (51, .lf (.bool r3923))], []⟩ :=
 seg_T BaseK (Q5_J25_T b3894 o3915 p_s r3923 v3892) (Q5_J25_S b3894 o3915 p_s v3892) (by kernel_rfl) h
def Q5_J30_T (b3894 : UInt8) (o3915 : Int) (p_s : ByteArray) (r3930 : Bool) (v3892 : Int) : Mo (Bool) :=
 .ite (r3930) (fun c3932 =>
 .say [.gd 32020 true] (ok1 c3932) <|
 .ret ⟨[], [0, 3, 4, 5, 73], [], 0⟩ (true)) fun c3932 =>
 .say [.gd 32020 false] (ok1 c3932) <|
 .ite ((b3894.toNat : Int) == 240) (fun c3933 =>
 .say [.gd 32023 true] (ok1 c3933) <|
 .ask (sidx p_s (IntKind.wrap .i64 (v3892 + 1))) fun b3934 h3935 =>
 .say [.byt b3934] (okc (sidx_ok h3935 : (0 : Int) ≤ (IntKind.wrap .i64 (v3892 + 1)) ∧ p_s[(IntKind.wrap .i64 (v3892 + 1)).toNat]? = some b3934) ok0) <|
 .ret ⟨[], [0, 3, 4, 5, 73], [], 0⟩ (decide (((b3934.toNat : Int) : Int) < 144))) fun c3933 =>
 .say [.gd 32023 false] (ok1 c3933) <|
 .ret ⟨[], [0, 3, 4, 5, 73], [], 0⟩ (false)
def Q5_J30 (b3894 : UInt8) (o3915 : Int) (p_s : ByteArray) (r3930 : Bool) (v3892 : Int) : Option (Bool) := Mo.den (Q5_J30_T b3894 o3915 p_s r3930 v3892)
def Q5_J30_S (b3894 : UInt8) (o3915 : Int) (p_s : ByteArray) (v3892 : Int) (r_ : Bool) : St := ⟨[(0, .lf (.str p_s)), (3, .lf (.int .i64 v3892)), (4, .lf (.int .u8 (b3894.toNat : Int))), (5, .lf (.int .i64 o3915)), (73, .lf (.bool r_))], []⟩
theorem Q5_J30_W {b3894 : UInt8} {o3915 : Int} {p_s : ByteArray} {r3930 : Bool} {v3892 : Int} {r_ : Bool} (h : Q5_J30 b3894 o3915 p_s r3930 v3892 = some r_) : AWoa_ Tryz.f239 0 [1, 0, 1, 0, 0, 1, 0, 1, 1, 1, 1, 0, 0] [20, 21, 22, 23, 24, 25, 26, 27, 28, 29, 30] (Q5_J30_S b3894 o3915 p_s v3892 r_) ⟨[(0, .lf (.str p_s)), (3, .lf (.int .i64 v3892)), (4, .lf (.int .u8 (b3894.toNat : Int))), (5, .lf (.int .i64 o3915)), (62, .lf (.bool r3930))], []⟩ :=
 seg_T BaseK (Q5_J30_T b3894 o3915 p_s r3930 v3892) (Q5_J30_S b3894 o3915 p_s v3892) (by kernel_rfl) h
def Q5_J35_T (b3894 : UInt8) (o3915 : Int) (p_s : ByteArray) (r3937 : Bool) (v3892 : Int) : Mo (Bool) :=
 .ite (r3937) (fun c3939 =>
 .say [.gd 32031 true] (ok1 c3939) <|
 .ret ⟨[], [0, 3, 5, 84], [], 0⟩ (true)) fun c3939 =>
 .say [.gd 32031 false] (ok1 c3939) <|
 .ite ((b3894.toNat : Int) == 244) (fun c3940 =>
 .say [.gd 32034 true] (ok1 c3940) <|
 .ask (sidx p_s (IntKind.wrap .i64 (v3892 + 1))) fun b3941 h3942 =>
 .say [.byt b3941] (okc (sidx_ok h3942 : (0 : Int) ≤ (IntKind.wrap .i64 (v3892 + 1)) ∧ p_s[(IntKind.wrap .i64 (v3892 + 1)).toNat]? = some b3941) ok0) <|
 .ret ⟨[], [0, 3, 5, 84], [], 0⟩ (decide ((143 : Int) < (b3941.toNat : Int)))) fun c3940 =>
 .say [.gd 32034 false] (ok1 c3940) <|
 .ret ⟨[], [0, 3, 5, 84], [], 0⟩ (false)
def Q5_J35 (b3894 : UInt8) (o3915 : Int) (p_s : ByteArray) (r3937 : Bool) (v3892 : Int) : Option (Bool) := Mo.den (Q5_J35_T b3894 o3915 p_s r3937 v3892)
def Q5_J35_S (o3915 : Int) (p_s : ByteArray) (v3892 : Int) (r_ : Bool) : St := ⟨[(0, .lf (.str p_s)), (3, .lf (.int .i64 v3892)), (5, .lf (.int .i64 o3915)), (84, .lf (.bool r_))], []⟩
theorem Q5_J35_W {b3894 : UInt8} {o3915 : Int} {p_s : ByteArray} {r3937 : Bool} {v3892 : Int} {r_ : Bool} (h : Q5_J35 b3894 o3915 p_s r3937 v3892 = some r_) : AWoa_ Tryz.f239 0 [1, 0, 1, 0, 0, 1, 0, 1, 1, 1, 1, 0, 0] [31, 32, 33, 34, 35, 36, 37, 38, 39, 40, 41] (Q5_J35_S o3915 p_s v3892 r_) ⟨[(0, .lf (.str p_s)), (3, .lf (.int .i64 v3892)), (4, .lf (.int .u8 (b3894.toNat : Int))), (5, .lf (.int .i64 o3915)), (73, .lf (.bool r3937))], []⟩ :=
 seg_T BaseK (Q5_J35_T b3894 o3915 p_s r3937 v3892) (Q5_J35_S o3915 p_s v3892) (by kernel_rfl) h
def Q5_L40_T (p_s : ByteArray) : (Int) → Mo ((Int) ⊕ (Unit ⊕ Unit)) := fun (v3892) =>
 .ite (decide ((v3892 : Int) < (p_s.size : Int))) (fun c3893 =>
 .say [.br true] (ok1 c3893) <|
 .ask (sidx p_s v3892) fun b3894 h3895 =>
 .say [.byt b3894] (okc (sidx_ok h3895 : (0 : Int) ≤ v3892 ∧ p_s[v3892.toNat]? = some b3894) ok0) <|
 .ask2 (Q5_J15 b3894 p_s v3892) (fun o3915 h3914 =>
 .say [.pt_ 10 [0, 3, 4, 5] 0 (Q5_J15_X (.inl o3915)) (Q5_J15_S b3894 p_s v3892 (.inl o3915))] (ok1 (Q5_J15_W h3914)) <|
 .ask (Q30 p_s (IntKind.wrap .i64 (v3892 + 1)) o3915) fun r3916 h3917 =>
 .say [.res (.lf (.bool r3916))] (ok1 (Q30_ok _ _ _ _ h3917)) <|
 .ite (!r3916) (fun c3918 =>
 .say [.br true] (ok1 c3918) <|
 .ret ⟨[], [2], [], 0⟩ (.inr (.inl ()))) fun c3918 =>
 .say [.br false] (ok1 c3918) <|
 .ask (Q5_J20 b3894 o3915 p_s v3892) fun r3923 h3924 =>
 .say [.sg_ 15 9 [0, 3, 4, 5] 0 (Q5_J20_S b3894 o3915 p_s v3892 r3923)] (ok1 (Q5_J20_W h3924)) <|
 .ask (Q5_J25 b3894 o3915 p_s r3923 v3892) fun r3930 h3931 =>
 .say [.sg_ 15 11 [0, 3, 4, 5, 51] 0 (Q5_J25_S b3894 o3915 p_s v3892 r3930)] (ok1 (Q5_J25_W h3931)) <|
 .ask (Q5_J30 b3894 o3915 p_s r3930 v3892) fun r3937 h3938 =>
 .say [.sg_ 15 11 [0, 3, 4, 5, 62] 0 (Q5_J30_S b3894 o3915 p_s v3892 r3937)] (ok1 (Q5_J30_W h3938)) <|
 .ask (Q5_J35 b3894 o3915 p_s r3937 v3892) fun r3944 h3945 =>
 .say [.sg_ 15 11 [0, 3, 4, 5, 73] 0 (Q5_J35_S o3915 p_s v3892 r3944)] (ok1 (Q5_J35_W h3945)) <|
 .ite (r3944) (fun c3946 =>
 .say [.br true] (ok1 c3946) <|
 .ret ⟨[], [2], [], 0⟩ (.inr (.inl ()))) fun c3946 =>
 .say [.br false] (ok1 c3946) <|
 .ret ⟨[], [0, 3], [], 0⟩ (.inl (IntKind.wrap .i64 ((IntKind.wrap .i64 (v3892 + o3915)) + 1)))) fun o3947 h3914 =>
 .say [.pt_ 10 [0, 3, 4, 5] 0 (Q5_J15_X (.inr (o3947))) (Q5_J15_S b3894 p_s v3892 (.inr (o3947)))] (ok1 (Q5_J15_W h3914)) <|
 .ret ⟨[], [2], [], 0⟩ (.inr (.inl ()))) fun c3893 =>
 .say [.br false] (ok1 c3893) <|
 .ret ⟨[], [], [], 0⟩ (.inr (.inr (())))
def Q5_L40 (p_s : ByteArray) (v3892 : Int) : Option (Unit ⊕ Unit) := loopM (fun v_ => (Q5_L40_T p_s v_).den) FU (v3892)
def Q5_L40_H (p_s : ByteArray) : (Int) → St := fun (v3892) => ⟨[(0, .lf (.str p_s)), (3, .lf (.int .i64 v3892))], []⟩
def Q5_L40_X (r_ : Unit ⊕ Unit) : Exit := match r_ with
 | .inl o_ => .ret
 | .inr (o_) => .exit 0
def Q5_L40_S  (r_ : Unit ⊕ Unit) : St := match r_ with
 | .inl o_ => ⟨[(2, .lf (.bool false))], []⟩
 | .inr (o_) => ⟨[], []⟩
theorem Q5_L40_W {p_s : ByteArray} {v3892 : Int} {r_ : Unit ⊕ Unit} (h : Q5_L40 p_s v3892 = some r_) : AWa_ Tryz.f239 0 [1, 0, 1, 0] (Q5_L40_X r_) (Q5_L40_S r_) (Q5_L40_H p_s (v3892)) :=
 loop_T BaseK (body := (Code.sub (bodyC Tryz.f239) [1, 0, 1, 0, 0])) (by kernel_rfl) (Q5_L40_T p_s) (Q5_L40_H p_s) Q5_L40_X Q5_L40_S (fun r_ => by rcases r_ with _ | _ <;> rfl) (fun v_ => by kernel_rfl) h
def Q5_T (p_s : ByteArray) : Mo (Bool) :=
 .ask2 (Q5_L40 p_s 0) (fun o3950 h3949 =>
 .say [.pt_ 0 [0, 3] 0 (Q5_L40_X (.inl o3950)) (Q5_L40_S (.inl o3950))] (ok1 (Q5_L40_W h3949)) <|
 .ret (fitN 1) (false)) fun o3951 h3949 =>
 .say [.pt_ 0 [0, 3] 0 (Q5_L40_X (.inr (o3951))) (Q5_L40_S (.inr (o3951)))] (ok1 (Q5_L40_W h3949)) <|
 .ret (fitN 1) (true)
def Q5 (p_s : ByteArray) : Option (Bool) := Mo.den (Q5_T p_s)
theorem Q5_ok (p_s : ByteArray) (r : Bool) (h : Q5 p_s = some r) : Fn Tryz.prog GI 239 [.lf (.str p_s)] (.lf (.bool r)) :=
 fn_T BaseK Tryz.func239 (by kernel_rfl) (by kernel_rfl) (by kernel_rfl) (Q5_T p_s) (fun r => [.lf (.bool r)]) (by kernel_rfl) h
def Q12_J0_T (p_s : ByteArray) : Mo (Bool) :=
 .ite (decide (((p_s.size : Int) : Int) < 1)) (fun c4068 =>
 .say [.gd 4003 true] (ok1 c4068) <|
 .ret ⟨[], [0, 11], [], 0⟩ (true)) fun c4068 =>
 .say [.gd 4003 false] (ok1 c4068) <|
 .ret ⟨[], [0, 11], [], 0⟩ (decide ((32 : Int) < (p_s.size : Int)))
def Q12_J0 (p_s : ByteArray) : Option (Bool) := Mo.den (Q12_J0_T p_s)
def Q12_J0_S (p_s : ByteArray) (r_ : Bool) : St := ⟨[(0, .lf (.str p_s)), (11, .lf (.bool r_))], []⟩
theorem Q12_J0_W {p_s : ByteArray} {r_ : Bool} (h : Q12_J0 p_s = some r_) : AWoa_ Tryz.f150 0 [1, 0, 0] [0, 1, 2, 3, 4, 5, 6, 7] (Q12_J0_S p_s r_) ⟨[(0, .lf (.str p_s))], []⟩ :=
 seg_T BaseK (Q12_J0_T p_s) (Q12_J0_S p_s) (by kernel_rfl) h
def Q12_J5_T (p_s : ByteArray) (r4070 : Bool) : Mo (Bool) :=
 .ite (r4070) (fun c4072 =>
 .say [.gd 4008 true] (ok1 c4072) <|
 .ret ⟨[], [0, 16], [], 0⟩ (true)) fun c4072 =>
 .say [.gd 4008 false] (ok1 c4072) <|
 .ask (sidx p_s 0) fun b4073 h4074 =>
 .say [.byt b4073] (okc (sidx_ok h4074 : (0 : Int) ≤ 0 ∧ p_s[(0 : Int).toNat]? = some b4073) ok0) <|
 .ret ⟨[], [0, 16], [], 0⟩ ((b4073.toNat : Int) == 36)
def Q12_J5 (p_s : ByteArray) (r4070 : Bool) : Option (Bool) := Mo.den (Q12_J5_T p_s r4070)
def Q12_J5_S (p_s : ByteArray) (r_ : Bool) : St := ⟨[(0, .lf (.str p_s)), (16, .lf (.bool r_))], []⟩
theorem Q12_J5_W {p_s : ByteArray} {r4070 : Bool} {r_ : Bool} (h : Q12_J5 p_s r4070 = some r_) : AWoa_ Tryz.f150 0 [1, 0, 0] [8, 9, 10, 11, 12] (Q12_J5_S p_s r_) ⟨[(0, .lf (.str p_s)), (11, .lf (.bool r4070))], []⟩ :=
 seg_T BaseK (Q12_J5_T p_s r4070) (Q12_J5_S p_s) (by kernel_rfl) h
def Q12_J10_T (p_s : ByteArray) (v4164 : Int) : Mo (Bool) :=
 .ask (sidx p_s v4164) fun b4166 h4167 =>
 .say [.byt b4166] (okc (sidx_ok h4167 : (0 : Int) ≤ v4164 ∧ p_s[v4164.toNat]? = some b4166) ok0) <|
 .ite (decide (((b4166.toNat : Int) : Int) < 33)) (fun c4168 =>
 .say [.gd 14004 true] (ok1 c4168) <|
 .ret ⟨[], [0, 3, 32], [], 0⟩ (true)) fun c4168 =>
 .say [.gd 14004 false] (ok1 c4168) <|
 .ask (sidx p_s v4164) fun b4169 h4170 =>
 .say [.byt b4169] (okc (sidx_ok h4170 : (0 : Int) ≤ v4164 ∧ p_s[v4164.toNat]? = some b4169) ok0) <|
 .ret ⟨[], [0, 3, 32], [], 0⟩ (decide ((126 : Int) < (b4169.toNat : Int)))
def Q12_J10 (p_s : ByteArray) (v4164 : Int) : Option (Bool) := Mo.den (Q12_J10_T p_s v4164)
def Q12_J10_S (p_s : ByteArray) (v4164 : Int) (r_ : Bool) : St := ⟨[(0, .lf (.str p_s)), (3, .lf (.int .i64 v4164)), (32, .lf (.bool r_))], []⟩
theorem Q12_J10_W {p_s : ByteArray} {v4164 : Int} {r_ : Bool} (h : Q12_J10 p_s v4164 = some r_) : AWoa_ Tryz.f150 0 [1, 1, 0, 1, 0, 0, 1, 0, 0, 0] [0, 1, 2, 3, 4, 5, 6, 7, 8, 9] (Q12_J10_S p_s v4164 r_) ⟨[(0, .lf (.str p_s)), (3, .lf (.int .i64 v4164))], []⟩ :=
 seg_T BaseK (Q12_J10_T p_s v4164) (Q12_J10_S p_s v4164) (by kernel_rfl) h
def Q12_J15_T (p_s : ByteArray) (r4172 : Bool) (v4164 : Int) : Mo (Bool) :=
 .ite (r4172) (fun c4174 =>
 .say [.gd 14010 true] (ok1 c4174) <|
 .ret ⟨[], [0, 3, 38], [], 0⟩ (true)) fun c4174 =>
 .say [.gd 14010 false] (ok1 c4174) <|
 .ask (sidx p_s v4164) fun b4175 h4176 =>
 .say [.byt b4175] (okc (sidx_ok h4176 : (0 : Int) ≤ v4164 ∧ p_s[v4164.toNat]? = some b4175) ok0) <|
 .ret ⟨[], [0, 3, 38], [], 0⟩ ((b4175.toNat : Int) == 46)
def Q12_J15 (p_s : ByteArray) (r4172 : Bool) (v4164 : Int) : Option (Bool) := Mo.den (Q12_J15_T p_s r4172 v4164)
def Q12_J15_S (p_s : ByteArray) (v4164 : Int) (r_ : Bool) : St := ⟨[(0, .lf (.str p_s)), (3, .lf (.int .i64 v4164)), (38, .lf (.bool r_))], []⟩
theorem Q12_J15_W {p_s : ByteArray} {r4172 : Bool} {v4164 : Int} {r_ : Bool} (h : Q12_J15 p_s r4172 v4164 = some r_) : AWoa_ Tryz.f150 0 [1, 1, 0, 1, 0, 0, 1, 0, 0, 0] [10, 11, 12, 13, 14, 15] (Q12_J15_S p_s v4164 r_) ⟨[(0, .lf (.str p_s)), (3, .lf (.int .i64 v4164)), (32, .lf (.bool r4172))], []⟩ :=
 seg_T BaseK (Q12_J15_T p_s r4172 v4164) (Q12_J15_S p_s v4164) (by kernel_rfl) h
def Q12_L20_T (p_s : ByteArray) : (Int) → Mo ((Int) ⊕ (Unit ⊕ Unit)) := fun (v4164) =>
 .ite (decide ((v4164 : Int) < (p_s.size : Int))) (fun c4165 =>
 .say [.br true] (ok1 c4165) <|
 .ask (Q12_J10 p_s v4164) fun r4172 h4173 =>
 .say [.sg_ 6 10 [0, 3] 0 (Q12_J10_S p_s v4164 r4172)] (ok1 (Q12_J10_W h4173)) <|
 .ask (Q12_J15 p_s r4172 v4164) fun r4178 h4179 =>
 .say [.sg_ 6 6 [0, 3, 32] 0 (Q12_J15_S p_s v4164 r4178)] (ok1 (Q12_J15_W h4179)) <|
 .ite (r4178) (fun c4180 =>
 .say [.br true] (ok1 c4180) <|
 .ret ⟨[], [2], [], 0⟩ (.inr (.inl ()))) fun c4180 =>
 .say [.br false] (ok1 c4180) <|
 .ret ⟨[], [0, 3], [], 0⟩ (.inl (IntKind.wrap .i64 (v4164 + 1)))) fun c4165 =>
 .say [.br false] (ok1 c4165) <|
 .ret ⟨[], [], [], 0⟩ (.inr (.inr (())))
def Q12_L20 (p_s : ByteArray) (v4164 : Int) : Option (Unit ⊕ Unit) := loopM (fun v_ => (Q12_L20_T p_s v_).den) FU (v4164)
def Q12_L20_H (p_s : ByteArray) : (Int) → St := fun (v4164) => ⟨[(0, .lf (.str p_s)), (3, .lf (.int .i64 v4164))], []⟩
def Q12_L20_X (r_ : Unit ⊕ Unit) : Exit := match r_ with
 | .inl o_ => .ret
 | .inr (o_) => .exit 0
def Q12_L20_S  (r_ : Unit ⊕ Unit) : St := match r_ with
 | .inl o_ => ⟨[(2, .lf (.bool false))], []⟩
 | .inr (o_) => ⟨[], []⟩
theorem Q12_L20_W {p_s : ByteArray} {v4164 : Int} {r_ : Unit ⊕ Unit} (h : Q12_L20 p_s v4164 = some r_) : AWa_ Tryz.f150 0 [1, 1, 0, 1, 0] (Q12_L20_X r_) (Q12_L20_S r_) (Q12_L20_H p_s (v4164)) :=
 loop_T BaseK (body := (Code.sub (bodyC Tryz.f150) [1, 1, 0, 1, 0, 0])) (by kernel_rfl) (Q12_L20_T p_s) (Q12_L20_H p_s) Q12_L20_X Q12_L20_S (fun r_ => by rcases r_ with _ | _ <;> rfl) (fun v_ => by kernel_rfl) h
def Q12_T (p_s : ByteArray) : Mo (Bool) :=
 .ask (Q12_J0 p_s) fun r4070 h4071 =>
 .say [.sg_ 1 8 [0] 0 (Q12_J0_S p_s r4070)] (ok1 (Q12_J0_W h4071)) <|
 .ask (Q12_J5 p_s r4070) fun r4076 h4077 =>
 .say [.sg_ 1 5 [0, 11] 0 (Q12_J5_S p_s r4076)] (ok1 (Q12_J5_W h4077)) <|
 .ite (r4076) (fun c4079 =>
 .say [.br true] (ok1 c4079) <|
 .ret (fitN 1) (false)) fun c4079 =>
 .say [.br false] (ok1 c4079) <|
 .ask2 (Q12_L20 p_s 0) (fun o4183 h4182 =>
 .say [.pt_ 0 [0, 3] 0 (Q12_L20_X (.inl o4183)) (Q12_L20_S (.inl o4183))] (ok1 (Q12_L20_W h4182)) <|
 .ret (fitN 1) (false)) fun o4184 h4182 =>
 .say [.pt_ 0 [0, 3] 0 (Q12_L20_X (.inr (o4184))) (Q12_L20_S (.inr (o4184)))] (ok1 (Q12_L20_W h4182)) <|
 .ret (fitN 1) (true)
def Q12 (p_s : ByteArray) : Option (Bool) := Mo.den (Q12_T p_s)
theorem Q12_ok (p_s : ByteArray) (r : Bool) (h : Q12 p_s = some r) : Fn Tryz.prog GI 150 [.lf (.str p_s)] (.lf (.bool r)) :=
 fn_T BaseK Tryz.func150 (by kernel_rfl) (by kernel_rfl) (by kernel_rfl) (Q12_T p_s) (fun r => [.lf (.bool r)]) (by kernel_rfl) h
def Q22_J0_T (p_s : ByteArray) : Mo (Bool) :=
 .ite (decide (((p_s.size : Int) : Int) < 1)) (fun c4193 =>
 .say [.gd 4003 true] (ok1 c4193) <|
 .ret ⟨[], [0, 11], [], 0⟩ (true)) fun c4193 =>
 .say [.gd 4003 false] (ok1 c4193) <|
 .ret ⟨[], [0, 11], [], 0⟩ (decide ((128 : Int) < (p_s.size : Int)))
def Q22_J0 (p_s : ByteArray) : Option (Bool) := Mo.den (Q22_J0_T p_s)
def Q22_J0_S (p_s : ByteArray) (r_ : Bool) : St := ⟨[(0, .lf (.str p_s)), (11, .lf (.bool r_))], []⟩
theorem Q22_J0_W {p_s : ByteArray} {r_ : Bool} (h : Q22_J0 p_s = some r_) : AWa_ Tryz.f290 0 [1, 0, 0] (.normal) (Q22_J0_S p_s r_) ⟨[(0, .lf (.str p_s))], []⟩ :=
 part_T BaseK (Q22_J0_T p_s) (fun _ => .normal) (Q22_J0_S p_s) (by kernel_rfl) h
def Q22_J5_T (p_s : ByteArray) (v4250 : Int) : Mo (Bool) :=
 .ask (sidx p_s v4250) fun b4252 h4253 =>
 .say [.byt b4252] (okc (sidx_ok h4253 : (0 : Int) ≤ v4250 ∧ p_s[v4250.toNat]? = some b4252) ok0) <|
 .ite (decide (((b4252.toNat : Int) : Int) < 32)) (fun c4254 =>
 .say [.gd 14004 true] (ok1 c4254) <|
 .ret ⟨[], [0, 3, 27], [], 0⟩ (true)) fun c4254 =>
 .say [.gd 14004 false] (ok1 c4254) <|
 .ask (sidx p_s v4250) fun b4255 h4256 =>
 .say [.byt b4255] (okc (sidx_ok h4256 : (0 : Int) ≤ v4250 ∧ p_s[v4250.toNat]? = some b4255) ok0) <|
 .ret ⟨[], [0, 3, 27], [], 0⟩ (decide ((126 : Int) < (b4255.toNat : Int)))
def Q22_J5 (p_s : ByteArray) (v4250 : Int) : Option (Bool) := Mo.den (Q22_J5_T p_s v4250)
def Q22_J5_S (p_s : ByteArray) (v4250 : Int) (r_ : Bool) : St := ⟨[(0, .lf (.str p_s)), (3, .lf (.int .i64 v4250)), (27, .lf (.bool r_))], []⟩
theorem Q22_J5_W {p_s : ByteArray} {v4250 : Int} {r_ : Bool} (h : Q22_J5 p_s v4250 = some r_) : AWa_ Tryz.f290 0 [1, 1, 0, 1, 0, 0, 1, 0, 0, 0] (.normal) (Q22_J5_S p_s v4250 r_) ⟨[(0, .lf (.str p_s)), (3, .lf (.int .i64 v4250))], []⟩ :=
 part_T BaseK (Q22_J5_T p_s v4250) (fun _ => .normal) (Q22_J5_S p_s v4250) (by kernel_rfl) h
def Q22_L10_T (p_s : ByteArray) : (Int) → Mo ((Int) ⊕ (Unit ⊕ Unit)) := fun (v4250) =>
 .ite (decide ((v4250 : Int) < (p_s.size : Int))) (fun c4251 =>
 .say [.br true] (ok1 c4251) <|
 .ask (Q22_J5 p_s v4250) fun r4258 h4259 =>
 .say [.pt_ 19 [0, 3] 0 (.normal) (Q22_J5_S p_s v4250 r4258)] (ok1 (Q22_J5_W h4259)) <|
 .ite (r4258) (fun c4260 =>
 .say [.br true] (ok1 c4260) <|
 .ret ⟨[], [2], [], 0⟩ (.inr (.inl ()))) fun c4260 =>
 .say [.br false] (ok1 c4260) <|
 .ret ⟨[], [0, 3], [], 0⟩ (.inl (IntKind.wrap .i64 (v4250 + 1)))) fun c4251 =>
 .say [.br false] (ok1 c4251) <|
 .ret ⟨[], [], [], 0⟩ (.inr (.inr (())))
def Q22_L10 (p_s : ByteArray) (v4250 : Int) : Option (Unit ⊕ Unit) := loopM (fun v_ => (Q22_L10_T p_s v_).den) FU (v4250)
def Q22_L10_H (p_s : ByteArray) : (Int) → St := fun (v4250) => ⟨[(0, .lf (.str p_s)), (3, .lf (.int .i64 v4250))], []⟩
def Q22_L10_X (r_ : Unit ⊕ Unit) : Exit := match r_ with
 | .inl o_ => .ret
 | .inr (o_) => .exit 0
def Q22_L10_S  (r_ : Unit ⊕ Unit) : St := match r_ with
 | .inl o_ => ⟨[(2, .lf (.bool false))], []⟩
 | .inr (o_) => ⟨[], []⟩
theorem Q22_L10_W {p_s : ByteArray} {v4250 : Int} {r_ : Unit ⊕ Unit} (h : Q22_L10 p_s v4250 = some r_) : AWa_ Tryz.f290 0 [1, 1, 0, 1, 0] (Q22_L10_X r_) (Q22_L10_S r_) (Q22_L10_H p_s (v4250)) :=
 loop_T BaseK (body := (Code.sub (bodyC Tryz.f290) [1, 1, 0, 1, 0, 0])) (by kernel_rfl) (Q22_L10_T p_s) (Q22_L10_H p_s) Q22_L10_X Q22_L10_S (fun r_ => by rcases r_ with _ | _ <;> rfl) (fun v_ => by kernel_rfl) h
def Q22_T (p_s : ByteArray) : Mo (Bool) :=
 .ask (Q22_J0 p_s) fun r4195 h4196 =>
 .say [.pt_ 9 [0] 0 (.normal) (Q22_J0_S p_s r4195)] (ok1 (Q22_J0_W h4196)) <|
 .ite (r4195) (fun c4198 =>
 .say [.br true] (ok1 c4198) <|
 .ret (fitN 1) (false)) fun c4198 =>
 .say [.br false] (ok1 c4198) <|
 .ask2 (Q22_L10 p_s 0) (fun o4263 h4262 =>
 .say [.pt_ 0 [0, 3] 0 (Q22_L10_X (.inl o4263)) (Q22_L10_S (.inl o4263))] (ok1 (Q22_L10_W h4262)) <|
 .ret (fitN 1) (false)) fun o4264 h4262 =>
 .say [.pt_ 0 [0, 3] 0 (Q22_L10_X (.inr (o4264))) (Q22_L10_S (.inr (o4264)))] (ok1 (Q22_L10_W h4262)) <|
 .ret (fitN 1) (true)
def Q22 (p_s : ByteArray) : Option (Bool) := Mo.den (Q22_T p_s)
theorem Q22_ok (p_s : ByteArray) (r : Bool) (h : Q22 p_s = some r) : Fn Tryz.prog GI 290 [.lf (.str p_s)] (.lf (.bool r)) :=
 fn_T BaseK Tryz.func290 (by kernel_rfl) (by kernel_rfl) (by kernel_rfl) (Q22_T p_s) (fun r => [.lf (.bool r)]) (by kernel_rfl) h
structure RB15 where
 m1 : (p_v : GValue) → (p_names : Bool) → Option (Bool)
 ok1 : ∀ (p_v : GValue) (p_names : Bool) (r : Bool), m1 p_v p_names = some r → Fn Tryz.prog GI 198 [.dat (GValue.lf1 p_v), .lf (.bool p_names)] (.lf (.bool r))
 m2 : (p_v : GValue) → (p_names : Bool) → Option (Bool)
 ok2 : ∀ (p_v : GValue) (p_names : Bool) (r : Bool), m2 p_v p_names = some r → Fn Tryz.prog GI 240 [.dat (GValue.lf1 p_v), .lf (.bool p_names)] (.lf (.bool r))
def Q3_J0_T (R_ : RB15) (p_names : Bool) (p_v : GValue) : Mo (Bool) :=
 .ite (p_v.fKind != 6) (fun c3455 =>
 .say [.gd 4003 true, .num p_v.fList.length] (okc c3455 (okc (by simp : p_v.fList.length = (p_v.fList.map GValue.lf).length) ok0)) <|
 .ret ⟨[], [1, 2, 16], [], 1⟩ (decide ((0 : Int) < (p_v.fList.length : Int)))) fun c3455 =>
 .say [.gd 4003 false] (ok1 c3455) <|
 .ret ⟨[], [1, 2, 16], [], 1⟩ (false)
def Q3_J0 (R_ : RB15) (p_names : Bool) (p_v : GValue) : Option (Bool) := Mo.den (Q3_J0_T R_ p_names p_v)
def Q3_J0_S (p_names : Bool) (p_v : GValue) (r_ : Bool) : St := ⟨[(1, .lf (.bool p_names)), (2, .ptr 0 0), (16, .lf (.bool r_))], [.box 29 (.dat (GValue.lf1 p_v))]⟩
theorem Q3_J0_W {R_ : RB15} {p_names : Bool} {p_v : GValue} {r_ : Bool} (h : Q3_J0 R_ p_names p_v = some r_) : AWoa_ Tryz.f198 0 [1, 0, 0] [0, 1, 2, 3, 4, 5, 6, 7, 8] (Q3_J0_S p_names p_v r_) ⟨[(1, .lf (.bool p_names)), (2, .ptr 0 0)], [.box 29 (.dat (GValue.lf1 p_v))]⟩ :=
 seg_T BaseK (Q3_J0_T R_ p_names p_v) (Q3_J0_S p_names p_v) (by kernel_rfl) h
def Q3_J5_T (R_ : RB15) (p_names : Bool) (p_v : GValue) (r3457 : Bool) : Mo (Bool) :=
 .ite (r3457) (fun c3459 =>
 .say [.gd 4009 true] (ok1 c3459) <|
 .ret ⟨[], [1, 2, 27], [], 1⟩ (true)) fun c3459 =>
 .say [.gd 4009 false] (ok1 c3459) <|
 .ite (p_v.fKind != 5) (fun c3460 =>
 .say [.gd 4013 true, .num p_v.fDoc.length] (okc c3460 (okc (by simp : p_v.fDoc.length = (p_v.fDoc.map GField.lf).length) ok0)) <|
 .ret ⟨[], [1, 2, 27], [], 1⟩ (decide ((0 : Int) < (p_v.fDoc.length : Int)))) fun c3460 =>
 .say [.gd 4013 false] (ok1 c3460) <|
 .ret ⟨[], [1, 2, 27], [], 1⟩ (false)
def Q3_J5 (R_ : RB15) (p_names : Bool) (p_v : GValue) (r3457 : Bool) : Option (Bool) := Mo.den (Q3_J5_T R_ p_names p_v r3457)
def Q3_J5_S (p_names : Bool) (p_v : GValue) (r_ : Bool) : St := ⟨[(1, .lf (.bool p_names)), (2, .ptr 0 0), (27, .lf (.bool r_))], [.box 29 (.dat (GValue.lf1 p_v))]⟩
theorem Q3_J5_W {R_ : RB15} {p_names : Bool} {p_v : GValue} {r3457 : Bool} {r_ : Bool} (h : Q3_J5 R_ p_names p_v r3457 = some r_) : AWoa_ Tryz.f198 0 [1, 0, 0] [9, 10, 11, 12, 13, 14, 15, 16, 17, 18, 19] (Q3_J5_S p_names p_v r_) ⟨[(1, .lf (.bool p_names)), (2, .ptr 0 0), (16, .lf (.bool r3457))], [.box 29 (.dat (GValue.lf1 p_v))]⟩ :=
 seg_T BaseK (Q3_J5_T R_ p_names p_v r3457) (Q3_J5_S p_names p_v) (by kernel_rfl) h
def Q3_J10_T (R_ : RB15) (p_names : Bool) (p_v : GValue) : Mo (Bool) :=
 .ite (p_v.fKind == 4) (fun c3476 =>
 .say [.gd 8003 true] (ok1 c3476) <|
 .ret ⟨[], [1, 2, 35], [], 1⟩ (true)) fun c3476 =>
 .say [.gd 8003 false] (ok1 c3476) <|
 .ret ⟨[], [1, 2, 35], [], 1⟩ (p_v.fKind == 7)
def Q3_J10 (R_ : RB15) (p_names : Bool) (p_v : GValue) : Option (Bool) := Mo.den (Q3_J10_T R_ p_names p_v)
def Q3_J10_S (p_names : Bool) (p_v : GValue) (r_ : Bool) : St := ⟨[(1, .lf (.bool p_names)), (2, .ptr 0 0), (35, .lf (.bool r_))], [.box 29 (.dat (GValue.lf1 p_v))]⟩
theorem Q3_J10_W {R_ : RB15} {p_names : Bool} {p_v : GValue} {r_ : Bool} (h : Q3_J10 R_ p_names p_v = some r_) : AWoa_ Tryz.f198 0 [1, 1, 0] [0, 1, 2, 3, 4, 5, 6, 7] (Q3_J10_S p_names p_v r_) ⟨[(1, .lf (.bool p_names)), (2, .ptr 0 0)], [.box 29 (.dat (GValue.lf1 p_v))]⟩ :=
 seg_T BaseK (Q3_J10_T R_ p_names p_v) (Q3_J10_S p_names p_v) (by kernel_rfl) h
def Q3_J15_T (R_ : RB15) (p_names : Bool) (p_v : GValue) (r3478 : Bool) : Mo (Bool) :=
 .ite (r3478) (fun c3480 =>
 .say [.gd 8008 true] (ok1 c3480) <|
 .ret ⟨[], [1, 2, 40], [], 1⟩ (true)) fun c3480 =>
 .say [.gd 8008 false] (ok1 c3480) <|
 .ret ⟨[], [1, 2, 40], [], 1⟩ (p_v.fKind == 8)
def Q3_J15 (R_ : RB15) (p_names : Bool) (p_v : GValue) (r3478 : Bool) : Option (Bool) := Mo.den (Q3_J15_T R_ p_names p_v r3478)
def Q3_J15_S (p_names : Bool) (p_v : GValue) (r_ : Bool) : St := ⟨[(1, .lf (.bool p_names)), (2, .ptr 0 0), (40, .lf (.bool r_))], [.box 29 (.dat (GValue.lf1 p_v))]⟩
theorem Q3_J15_W {R_ : RB15} {p_names : Bool} {p_v : GValue} {r3478 : Bool} {r_ : Bool} (h : Q3_J15 R_ p_names p_v r3478 = some r_) : AWoa_ Tryz.f198 0 [1, 1, 0] [8, 9, 10, 11, 12] (Q3_J15_S p_names p_v r_) ⟨[(1, .lf (.bool p_names)), (2, .ptr 0 0), (35, .lf (.bool r3478))], [.box 29 (.dat (GValue.lf1 p_v))]⟩ :=
 seg_T BaseK (Q3_J15_T R_ p_names p_v r3478) (Q3_J15_S p_names p_v) (by kernel_rfl) h
def Q3_J20_T (R_ : RB15) (p_names : Bool) (p_v : GValue) (r3482 : Bool) : Mo (Unit) :=
 .ret ⟨[], [1, 2, 5], [], 1⟩ ()
def Q3_J20 (R_ : RB15) (p_names : Bool) (p_v : GValue) (r3482 : Bool) : Option (Unit) := Mo.den (Q3_J20_T R_ p_names p_v r3482)
def Q3_J20_S (p_names : Bool) (p_v : GValue) (r3482 : Bool) (r_ : Unit) : St := ⟨[(1, .lf (.bool p_names)), (2, .ptr 0 0), (5, .lf (.bool r3482))], [.box 29 (.dat (GValue.lf1 p_v))]⟩
theorem Q3_J20_W {R_ : RB15} {p_names : Bool} {p_v : GValue} {r3482 : Bool} {r_ : Unit} (h : Q3_J20 R_ p_names p_v r3482 = some r_) : AWoa_ Tryz.f198 0 [1, 1, 0] [13] (Q3_J20_S p_names p_v r3482 r_) ⟨[(1, .lf (.bool p_names)), (2, .ptr 0 0), (40, .lf (.bool r3482))], [.box 29 (.dat (GValue.lf1 p_v))]⟩ :=
 seg_T BaseK (Q3_J20_T R_ p_names p_v r3482) (Q3_J20_S p_names p_v r3482) (by kernel_rfl) h
def Q3_J25_T (R_ : RB15) (p_names : Bool) (p_v : GValue) (r3482 : Bool) : Mo (Bool) :=
 .ite (p_v.fKind == 3) (fun c3496 =>
 .say [.gd 10003 true] (ok1 c3496) <|
 .ret ⟨[], [1, 2, 5, 48], [], 1⟩ (true)) fun c3496 =>
 .say [.gd 10003 false] (ok1 c3496) <|
 .ret ⟨[], [1, 2, 5, 48], [], 1⟩ (p_v.fKind == 9)
def Q3_J25 (R_ : RB15) (p_names : Bool) (p_v : GValue) (r3482 : Bool) : Option (Bool) := Mo.den (Q3_J25_T R_ p_names p_v r3482)
def Q3_J25_S (p_names : Bool) (p_v : GValue) (r3482 : Bool) (r_ : Bool) : St := ⟨[(1, .lf (.bool p_names)), (2, .ptr 0 0), (5, .lf (.bool r3482)), (48, .lf (.bool r_))], [.box 29 (.dat (GValue.lf1 p_v))]⟩
theorem Q3_J25_W {R_ : RB15} {p_names : Bool} {p_v : GValue} {r3482 : Bool} {r_ : Bool} (h : Q3_J25 R_ p_names p_v r3482 = some r_) : AWoa_ Tryz.f198 0 [1, 1, 1, 0] [0, 1, 2, 3, 4, 5, 6, 7] (Q3_J25_S p_names p_v r3482 r_) ⟨[(1, .lf (.bool p_names)), (2, .ptr 0 0), (5, .lf (.bool r3482))], [.box 29 (.dat (GValue.lf1 p_v))]⟩ :=
 seg_T BaseK (Q3_J25_T R_ p_names p_v r3482) (Q3_J25_S p_names p_v r3482) (by kernel_rfl) h
def Q3_J30_T (R_ : RB15) (p_names : Bool) (p_v : GValue) (r3482 : Bool) (r3498 : Bool) : Mo (Bool) :=
 .ite (r3498) (fun c3500 =>
 .say [.gd 10008 true] (ok1 c3500) <|
 .ret ⟨[], [1, 2, 5, 53], [], 1⟩ (true)) fun c3500 =>
 .say [.gd 10008 false] (ok1 c3500) <|
 .ret ⟨[], [1, 2, 5, 53], [], 1⟩ (p_v.fKind == 10)
def Q3_J30 (R_ : RB15) (p_names : Bool) (p_v : GValue) (r3482 : Bool) (r3498 : Bool) : Option (Bool) := Mo.den (Q3_J30_T R_ p_names p_v r3482 r3498)
def Q3_J30_S (p_names : Bool) (p_v : GValue) (r3482 : Bool) (r_ : Bool) : St := ⟨[(1, .lf (.bool p_names)), (2, .ptr 0 0), (5, .lf (.bool r3482)), (53, .lf (.bool r_))], [.box 29 (.dat (GValue.lf1 p_v))]⟩
theorem Q3_J30_W {R_ : RB15} {p_names : Bool} {p_v : GValue} {r3482 : Bool} {r3498 : Bool} {r_ : Bool} (h : Q3_J30 R_ p_names p_v r3482 r3498 = some r_) : AWoa_ Tryz.f198 0 [1, 1, 1, 0] [8, 9, 10, 11, 12] (Q3_J30_S p_names p_v r3482 r_) ⟨[(1, .lf (.bool p_names)), (2, .ptr 0 0), (5, .lf (.bool r3482)), (48, .lf (.bool r3498))], [.box 29 (.dat (GValue.lf1 p_v))]⟩ :=
 seg_T BaseK (Q3_J30_T R_ p_names p_v r3482 r3498) (Q3_J30_S p_names p_v r3482) (by kernel_rfl) h
def Q3_J35_T (R_ : RB15) (p_names : Bool) (p_v : GValue) (r3482 : Bool) (r3502 : Bool) : Mo (Unit) :=
 .ret ⟨[], [1, 2, 5, 6], [], 1⟩ ()
def Q3_J35 (R_ : RB15) (p_names : Bool) (p_v : GValue) (r3482 : Bool) (r3502 : Bool) : Option (Unit) := Mo.den (Q3_J35_T R_ p_names p_v r3482 r3502)
def Q3_J35_S (p_names : Bool) (p_v : GValue) (r3482 : Bool) (r3502 : Bool) (r_ : Unit) : St := ⟨[(1, .lf (.bool p_names)), (2, .ptr 0 0), (5, .lf (.bool r3482)), (6, .lf (.bool r3502))], [.box 29 (.dat (GValue.lf1 p_v))]⟩
theorem Q3_J35_W {R_ : RB15} {p_names : Bool} {p_v : GValue} {r3482 : Bool} {r3502 : Bool} {r_ : Unit} (h : Q3_J35 R_ p_names p_v r3482 r3502 = some r_) : AWoa_ Tryz.f198 0 [1, 1, 1, 0] [13] (Q3_J35_S p_names p_v r3482 r3502 r_) ⟨[(1, .lf (.bool p_names)), (2, .ptr 0 0), (5, .lf (.bool r3482)), (53, .lf (.bool r3502))], [.box 29 (.dat (GValue.lf1 p_v))]⟩ :=
 seg_T BaseK (Q3_J35_T R_ p_names p_v r3482 r3502) (Q3_J35_S p_names p_v r3482 r3502) (by kernel_rfl) h
def Q3_J40_T (R_ : RB15) (p_names : Bool) (p_v : GValue) (r3482 : Bool) (r3502 : Bool) : Mo (Bool) :=
 .ite (!r3482) (fun c3523 =>
 .say [.gd 12002 true] (ok1 c3523) <|
 .ret ⟨[], [1, 2, 6, 60], [], 1⟩ (!decide ((p_v.fText : ByteArray) = (⟨#[]⟩ : ByteArray)))) fun c3523 =>
 .say [.gd 12002 false] (ok1 c3523) <|
 .ret ⟨[], [1, 2, 6, 60], [], 1⟩ (false)
def Q3_J40 (R_ : RB15) (p_names : Bool) (p_v : GValue) (r3482 : Bool) (r3502 : Bool) : Option (Bool) := Mo.den (Q3_J40_T R_ p_names p_v r3482 r3502)
def Q3_J40_S (p_names : Bool) (p_v : GValue) (r3502 : Bool) (r_ : Bool) : St := ⟨[(1, .lf (.bool p_names)), (2, .ptr 0 0), (6, .lf (.bool r3502)), (60, .lf (.bool r_))], [.box 29 (.dat (GValue.lf1 p_v))]⟩
theorem Q3_J40_W {R_ : RB15} {p_names : Bool} {p_v : GValue} {r3482 : Bool} {r3502 : Bool} {r_ : Bool} (h : Q3_J40 R_ p_names p_v r3482 r3502 = some r_) : AWoa_ Tryz.f198 0 [1, 1, 1, 1, 0, 0] [0, 1, 2, 3, 4, 5, 6] (Q3_J40_S p_names p_v r3502 r_) ⟨[(1, .lf (.bool p_names)), (2, .ptr 0 0), (5, .lf (.bool r3482)), (6, .lf (.bool r3502))], [.box 29 (.dat (GValue.lf1 p_v))]⟩ :=
 seg_T BaseK (Q3_J40_T R_ p_names p_v r3482 r3502) (Q3_J40_S p_names p_v r3502) (by kernel_rfl) h
def Q3_J45_T (R_ : RB15) (p_names : Bool) (p_v : GValue) (r3502 : Bool) (r3525 : Bool) : Mo (Bool) :=
 .ite (r3525) (fun c3527 =>
 .say [.gd 12007 true] (ok1 c3527) <|
 .ret ⟨[], [1, 2, 69], [], 1⟩ (true)) fun c3527 =>
 .say [.gd 12007 false] (ok1 c3527) <|
 .ite (!r3502) (fun c3528 =>
 .say [.gd 12010 true] (ok1 c3528) <|
 .ret ⟨[], [1, 2, 69], [], 1⟩ (p_v.fInt != 0)) fun c3528 =>
 .say [.gd 12010 false] (ok1 c3528) <|
 .ret ⟨[], [1, 2, 69], [], 1⟩ (false)
def Q3_J45 (R_ : RB15) (p_names : Bool) (p_v : GValue) (r3502 : Bool) (r3525 : Bool) : Option (Bool) := Mo.den (Q3_J45_T R_ p_names p_v r3502 r3525)
def Q3_J45_S (p_names : Bool) (p_v : GValue) (r_ : Bool) : St := ⟨[(1, .lf (.bool p_names)), (2, .ptr 0 0), (69, .lf (.bool r_))], [.box 29 (.dat (GValue.lf1 p_v))]⟩
theorem Q3_J45_W {R_ : RB15} {p_names : Bool} {p_v : GValue} {r3502 : Bool} {r3525 : Bool} {r_ : Bool} (h : Q3_J45 R_ p_names p_v r3502 r3525 = some r_) : AWoa_ Tryz.f198 0 [1, 1, 1, 1, 0, 0] [7, 8, 9, 10, 11, 12, 13, 14, 15] (Q3_J45_S p_names p_v r_) ⟨[(1, .lf (.bool p_names)), (2, .ptr 0 0), (6, .lf (.bool r3502)), (60, .lf (.bool r3525))], [.box 29 (.dat (GValue.lf1 p_v))]⟩ :=
 seg_T BaseK (Q3_J45_T R_ p_names p_v r3502 r3525) (Q3_J45_S p_names p_v) (by kernel_rfl) h
def Q3_J50_T (R_ : RB15) (p_names : Bool) (p_v : GValue) (r3530 : Bool) : Mo (Bool) :=
 .ite (r3530) (fun c3532 =>
 .say [.gd 12016 true] (ok1 c3532) <|
 .ret ⟨[], [1, 2, 74], [], 1⟩ (true)) fun c3532 =>
 .say [.gd 12016 false] (ok1 c3532) <|
 .ret ⟨[], [1, 2, 74], [], 1⟩ (decide ((p_v.fKind : Int) < 1))
def Q3_J50 (R_ : RB15) (p_names : Bool) (p_v : GValue) (r3530 : Bool) : Option (Bool) := Mo.den (Q3_J50_T R_ p_names p_v r3530)
def Q3_J50_S (p_names : Bool) (p_v : GValue) (r_ : Bool) : St := ⟨[(1, .lf (.bool p_names)), (2, .ptr 0 0), (74, .lf (.bool r_))], [.box 29 (.dat (GValue.lf1 p_v))]⟩
theorem Q3_J50_W {R_ : RB15} {p_names : Bool} {p_v : GValue} {r3530 : Bool} {r_ : Bool} (h : Q3_J50 R_ p_names p_v r3530 = some r_) : AWoa_ Tryz.f198 0 [1, 1, 1, 1, 0, 0] [16, 17, 18, 19, 20] (Q3_J50_S p_names p_v r_) ⟨[(1, .lf (.bool p_names)), (2, .ptr 0 0), (69, .lf (.bool r3530))], [.box 29 (.dat (GValue.lf1 p_v))]⟩ :=
 seg_T BaseK (Q3_J50_T R_ p_names p_v r3530) (Q3_J50_S p_names p_v) (by kernel_rfl) h
def Q3_J55_T (R_ : RB15) (p_names : Bool) (p_v : GValue) (r3534 : Bool) : Mo (Bool) :=
 .ite (r3534) (fun c3536 =>
 .say [.gd 12021 true] (ok1 c3536) <|
 .ret ⟨[], [1, 2, 79], [], 1⟩ (true)) fun c3536 =>
 .say [.gd 12021 false] (ok1 c3536) <|
 .ret ⟨[], [1, 2, 79], [], 1⟩ (decide ((11 : Int) < p_v.fKind))
def Q3_J55 (R_ : RB15) (p_names : Bool) (p_v : GValue) (r3534 : Bool) : Option (Bool) := Mo.den (Q3_J55_T R_ p_names p_v r3534)
def Q3_J55_S (p_names : Bool) (p_v : GValue) (r_ : Bool) : St := ⟨[(1, .lf (.bool p_names)), (2, .ptr 0 0), (79, .lf (.bool r_))], [.box 29 (.dat (GValue.lf1 p_v))]⟩
theorem Q3_J55_W {R_ : RB15} {p_names : Bool} {p_v : GValue} {r3534 : Bool} {r_ : Bool} (h : Q3_J55 R_ p_names p_v r3534 = some r_) : AWoa_ Tryz.f198 0 [1, 1, 1, 1, 0, 0] [21, 22, 23, 24, 25] (Q3_J55_S p_names p_v r_) ⟨[(1, .lf (.bool p_names)), (2, .ptr 0 0), (74, .lf (.bool r3534))], [.box 29 (.dat (GValue.lf1 p_v))]⟩ :=
 seg_T BaseK (Q3_J55_T R_ p_names p_v r3534) (Q3_J55_S p_names p_v) (by kernel_rfl) h
def Q3_J60_T (R_ : RB15) (p_v : GValue) : Mo (Bool) :=
 .ite (p_v.fInt == 0) (fun c3967 =>
 .say [.gd 20003 true] (ok1 c3967) <|
 .ret ⟨[.kill 0], [4], [], 1⟩ (true)) fun c3967 =>
 .say [.gd 20003 false] (ok1 c3967) <|
 .ret ⟨[.kill 0], [4], [], 1⟩ (p_v.fInt == 1)
def Q3_J60 (R_ : RB15) (p_v : GValue) : Option (Bool) := Mo.den (Q3_J60_T R_ p_v)
def Q3_J60_S  (r_ : Bool) : St := ⟨[(4, .lf (.bool r_))], [.dead]⟩
theorem Q3_J60_W {R_ : RB15} {p_v : GValue} {r_ : Bool} (h : Q3_J60 R_ p_v = some r_) : AWa_ Tryz.f198 0 [1, 1, 1, 1, 1, 0, 1, 0, 1, 0, 0] (.normal) (Q3_J60_S r_) ⟨[(2, .ptr 0 0)], [.box 29 (.dat (GValue.lf1 p_v))]⟩ :=
 part_T BaseK (Q3_J60_T R_ p_v) (fun _ => .normal) Q3_J60_S (by kernel_rfl) h
def Q3_J65_T (R_ : RB15) (p_v : GValue) : Mo (Bool) :=
 .ite (decide (((p_v.fText.size : Int) : Int) ≤ 4096)) (fun c3991 =>
 .say [.gd 28004 true] (ok1 c3991) <|
 .ask (Q5 p_v.fText) fun r3992 h3993 =>
 .say [.res (.lf (.bool r3992))] (ok1 (Q5_ok _ _ h3993)) <|
 .ret ⟨[.kill 0], [4], [], 1⟩ (r3992)) fun c3991 =>
 .say [.gd 28004 false] (ok1 c3991) <|
 .ret ⟨[.kill 0], [4], [], 1⟩ (false)
def Q3_J65 (R_ : RB15) (p_v : GValue) : Option (Bool) := Mo.den (Q3_J65_T R_ p_v)
def Q3_J65_S  (r_ : Bool) : St := ⟨[(4, .lf (.bool r_))], [.dead]⟩
theorem Q3_J65_W {R_ : RB15} {p_v : GValue} {r_ : Bool} (h : Q3_J65 R_ p_v = some r_) : AWa_ Tryz.f198 0 [1, 1, 1, 1, 1, 0, 1, 0, 1, 1, 1, 1, 1, 0, 0] (.normal) (Q3_J65_S r_) ⟨[(2, .ptr 0 0)], [.box 29 (.dat (GValue.lf1 p_v))]⟩ :=
 part_T BaseK (Q3_J65_T R_ p_v) (fun _ => .normal) Q3_J65_S (by kernel_rfl) h
def Q3_L70_T (R_ : RB15) (p_names : Bool) (p_v : GValue) : (Int) → Mo ((Int) ⊕ (Unit ⊕ Unit)) := fun (v4038) =>
 .say [.num p_v.fList.length] (okc (by simp : p_v.fList.length = (p_v.fList.map GValue.lf).length) ok0) <|
 .ite (decide ((v4038 : Int) < (p_v.fList.length : Int))) (fun c4039 =>
 .say [.br true] (ok1 c4039) <|
 .ask (gidx p_v.fList v4038) fun x4040 h4041 =>
 .say [.row (GValue.lf1 x4040)] (okc (gidx_ok GValue.lf_eq h4041 : (0 : Int) ≤ v4038 ∧ (p_v.fList.map GValue.lf)[v4038.toNat]? = some (GValue.lf1 x4040)) ok0) <|
 .ask (R_.m1 x4040 p_names) fun r4042 h4043 =>
 .say [.res (.lf (.bool r4042))] (ok1 (R_.ok1 _ _ _ h4043)) <|
 .ite (!r4042) (fun c4044 =>
 .say [.br true] (ok1 c4044) <|
 .ret ⟨[.kill 0], [4], [], 1⟩ (.inr (.inl ()))) fun c4044 =>
 .say [.br false] (ok1 c4044) <|
 .ret ⟨[], [1, 2, 7], [], 1⟩ (.inl (IntKind.wrap .i64 (v4038 + 1)))) fun c4039 =>
 .say [.br false] (ok1 c4039) <|
 .ret ⟨[], [1, 2], [], 1⟩ (.inr (.inr (())))
def Q3_L70 (R_ : RB15) (p_names : Bool) (p_v : GValue) (v4038 : Int) : Option (Unit ⊕ Unit) := loopM (fun v_ => (Q3_L70_T R_ p_names p_v v_).den) FU (v4038)
def Q3_L70_H (R_ : RB15) (p_names : Bool) (p_v : GValue) : (Int) → St := fun (v4038) => ⟨[(1, .lf (.bool p_names)), (2, .ptr 0 0), (7, .lf (.int .i64 v4038))], [.box 29 (.dat (GValue.lf1 p_v))]⟩
def Q3_L70_X (r_ : Unit ⊕ Unit) : Exit := match r_ with
 | .inl o_ => .ret
 | .inr (o_) => .exit 1
def Q3_L70_S (p_names : Bool) (p_v : GValue) (r_ : Unit ⊕ Unit) : St := match r_ with
 | .inl o_ => ⟨[(4, .lf (.bool false))], [.dead]⟩
 | .inr (o_) => ⟨[(1, .lf (.bool p_names)), (2, .ptr 0 0)], [.box 29 (.dat (GValue.lf1 p_v))]⟩
theorem Q3_L70_W {R_ : RB15} {p_names : Bool} {p_v : GValue} {v4038 : Int} {r_ : Unit ⊕ Unit} (h : Q3_L70 R_ p_names p_v v4038 = some r_) : AWa_ Tryz.f198 0 [1, 1, 1, 1, 1, 1, 0, 1, 0] (Q3_L70_X r_) (Q3_L70_S p_names p_v r_) (Q3_L70_H R_ p_names p_v (v4038)) :=
 loop_T BaseK (body := (Code.sub (bodyC Tryz.f198) [1, 1, 1, 1, 1, 1, 0, 1, 0, 0])) (by kernel_rfl) (Q3_L70_T R_ p_names p_v) (Q3_L70_H R_ p_names p_v) Q3_L70_X (Q3_L70_S p_names p_v) (fun r_ => by rcases r_ with _ | _ <;> rfl) (fun v_ => by kernel_rfl) h
def Q3_T (R_ : RB15) (p_v : GValue) (p_names : Bool) : Mo (Bool) :=
 .ask (Q3_J0 R_ p_names p_v) fun r3457 h3458 =>
 .say [.sg_ 1 9 [1, 2] 1 (Q3_J0_S p_names p_v r3457)] (ok1 (Q3_J0_W h3458)) <|
 .ask (Q3_J5 R_ p_names p_v r3457) fun r3462 h3463 =>
 .say [.sg_ 1 11 [1, 2, 16] 1 (Q3_J5_S p_names p_v r3462)] (ok1 (Q3_J5_W h3463)) <|
 .ite (r3462) (fun c3465 =>
 .say [.br true] (ok1 c3465) <|
 .ret (fitN 1) (false)) fun c3465 =>
 .say [.br false] (ok1 c3465) <|
 .ask (Q3_J10 R_ p_names p_v) fun r3478 h3479 =>
 .say [.sg_ 3 8 [1, 2] 1 (Q3_J10_S p_names p_v r3478)] (ok1 (Q3_J10_W h3479)) <|
 .ask (Q3_J15 R_ p_names p_v r3478) fun r3482 h3483 =>
 .say [.sg_ 3 5 [1, 2, 35] 1 (Q3_J15_S p_names p_v r3482)] (ok1 (Q3_J15_W h3483)) <|
 .ask (Q3_J20 R_ p_names p_v r3482) fun r3484 h3485 =>
 .say [.sg_ 3 1 [1, 2, 40] 1 (Q3_J20_S p_names p_v r3482 r3484)] (ok1 (Q3_J20_W h3485)) <|
 .ask (Q3_J25 R_ p_names p_v r3482) fun r3498 h3499 =>
 .say [.sg_ 4 8 [1, 2, 5] 1 (Q3_J25_S p_names p_v r3482 r3498)] (ok1 (Q3_J25_W h3499)) <|
 .ask (Q3_J30 R_ p_names p_v r3482 r3498) fun r3502 h3503 =>
 .say [.sg_ 4 5 [1, 2, 5, 48] 1 (Q3_J30_S p_names p_v r3482 r3502)] (ok1 (Q3_J30_W h3503)) <|
 .ask (Q3_J35 R_ p_names p_v r3482 r3502) fun r3504 h3505 =>
 .say [.sg_ 4 1 [1, 2, 5, 53] 1 (Q3_J35_S p_names p_v r3482 r3502 r3504)] (ok1 (Q3_J35_W h3505)) <|
 .ask (Q3_J40 R_ p_names p_v r3482 r3502) fun r3525 h3526 =>
 .say [.sg_ 5 7 [1, 2, 5, 6] 1 (Q3_J40_S p_names p_v r3502 r3525)] (ok1 (Q3_J40_W h3526)) <|
 .ask (Q3_J45 R_ p_names p_v r3502 r3525) fun r3530 h3531 =>
 .say [.sg_ 5 9 [1, 2, 6, 60] 1 (Q3_J45_S p_names p_v r3530)] (ok1 (Q3_J45_W h3531)) <|
 .ask (Q3_J50 R_ p_names p_v r3530) fun r3534 h3535 =>
 .say [.sg_ 5 5 [1, 2, 69] 1 (Q3_J50_S p_names p_v r3534)] (ok1 (Q3_J50_W h3535)) <|
 .ask (Q3_J55 R_ p_names p_v r3534) fun r3538 h3539 =>
 .say [.sg_ 5 5 [1, 2, 74] 1 (Q3_J55_S p_names p_v r3538)] (ok1 (Q3_J55_W h3539)) <|
 .ite (r3538) (fun c3541 =>
 .say [.br true] (ok1 c3541) <|
 .ret (fitN 1) (false)) fun c3541 =>
 .say [.br false] (ok1 c3541) <|
 .ite (p_v.fKind == 9) (fun c3965 =>
 .say [.br true] (ok1 c3965) <|
 .ask (Q3_J60 R_ p_v) fun r3971 h3972 =>
 .say [.pt_ 25 [2] 1 (.normal) (Q3_J60_S r3971)] (ok1 (Q3_J60_W h3972)) <|
 .ret (fitN 1) (r3971)) fun c3965 =>
 .say [.br false] (ok1 c3965) <|
 .ite (p_v.fKind == 10) (fun c3980 =>
 .say [.br true] (ok1 c3980) <|
 .ret (fitN 1) (decide ((0 : Int) ≤ p_v.fInt))) fun c3980 =>
 .say [.br false] (ok1 c3980) <|
 .ite (p_v.fKind == 4) (fun c3987 =>
 .say [.br true] (ok1 c3987) <|
 .ask (Q3_J65 R_ p_v) fun r3997 h3998 =>
 .say [.pt_ 33 [2] 1 (.normal) (Q3_J65_S r3997)] (ok1 (Q3_J65_W h3998)) <|
 .ret (fitN 1) (r3997)) fun c3987 =>
 .say [.br false] (ok1 c3987) <|
 .ite (p_v.fKind == 7) (fun c4001 =>
 .say [.br true] (ok1 c4001) <|
 .ret (fitN 1) (decide (((p_v.fText.size : Int) : Int) ≤ 4096))) fun c4001 =>
 .say [.br false] (ok1 c4001) <|
 .ite (p_v.fKind == 8) (fun c4003 =>
 .say [.br true] (ok1 c4003) <|
 .ret (fitN 1) ((p_v.fText.size : Int) == 12)) fun c4003 =>
 .say [.br false] (ok1 c4003) <|
 .ask2 (Q3_L70 R_ p_names p_v 0) (fun o4047 h4046 =>
 .say [.pt_ 0 [1, 2, 7] 1 (Q3_L70_X (.inl o4047)) (Q3_L70_S p_names p_v (.inl o4047))] (ok1 (Q3_L70_W h4046)) <|
 .ret (fitN 1) (false)) fun o4048 h4046 =>
 .say [.pt_ 0 [1, 2, 7] 1 (Q3_L70_X (.inr (o4048))) (Q3_L70_S p_names p_v (.inr (o4048)))] (ok1 (Q3_L70_W h4046)) <|
 .ask (R_.m2 p_v p_names) fun r4049 h4050 =>
 .say [.res (.lf (.bool r4049))] (ok1 (R_.ok2 _ _ _ h4050)) <|
 .ret (fitN 1) (r4049)
theorem Q3_okT (R_ : RB15) (p_v : GValue) (p_names : Bool) (r : Bool) (h : Mo.den (Q3_T R_ p_v p_names) = some r) : Fn Tryz.prog GI 198 [.dat (GValue.lf1 p_v), .lf (.bool p_names)] (.lf (.bool r)) :=
 fn_T BaseK Tryz.func198 (by kernel_rfl) (by kernel_rfl) (by kernel_rfl) (Q3_T R_ p_v p_names) (fun r => [.lf (.bool r)]) (by kernel_rfl) h
def Q8_J0_T (R_ : RB15) (p_names : Bool) (p_v : GValue) (v4442 : Int) (x4444 : GField) : Mo (Bool) :=
 .ite (p_names) (fun c4446 =>
 .say [.gd 12001 true] (ok1 c4446) <|
 .ask (Q12 x4444.fName) fun r4447 h4448 =>
 .say [.res (.lf (.bool r4447))] (ok1 (Q12_ok _ _ h4448)) <|
 .ret ⟨[], [1, 2, 5, 6, 26], [], 2⟩ (!r4447)) fun c4446 =>
 .say [.gd 12001 false] (ok1 c4446) <|
 .ret ⟨[], [1, 2, 5, 6, 26], [], 2⟩ (false)
def Q8_J0 (R_ : RB15) (p_names : Bool) (p_v : GValue) (v4442 : Int) (x4444 : GField) : Option (Bool) := Mo.den (Q8_J0_T R_ p_names p_v v4442 x4444)
def Q8_J0_S (p_names : Bool) (p_v : GValue) (v4442 : Int) (x4444 : GField) (r_ : Bool) : St := ⟨[(1, .lf (.bool p_names)), (2, .ptr 0 0), (5, .lf (.int .i64 v4442)), (6, .ptr 1 0), (26, .lf (.bool r_))], [.box 29 (.dat (GValue.lf1 p_v)), .box 174 (.agg ((GField.lf1 x4444).map AV.lf))]⟩
theorem Q8_J0_W {R_ : RB15} {p_names : Bool} {p_v : GValue} {v4442 : Int} {x4444 : GField} {r_ : Bool} (h : Q8_J0 R_ p_names p_v v4442 x4444 = some r_) : AWoa_ Tryz.f240 0 [1, 0, 1, 0, 0, 1, 0, 0, 1, 0, 0] [0, 1, 2, 3, 4, 5, 6] (Q8_J0_S p_names p_v v4442 x4444 r_) ⟨[(1, .lf (.bool p_names)), (2, .ptr 0 0), (5, .lf (.int .i64 v4442)), (6, .ptr 1 0)], [.box 29 (.dat (GValue.lf1 p_v)), .box 174 (.agg ((GField.lf1 x4444).map AV.lf))]⟩ :=
 seg_T BaseK (Q8_J0_T R_ p_names p_v v4442 x4444) (Q8_J0_S p_names p_v v4442 x4444) (by kernel_rfl) h
def Q8_J5_T (R_ : RB15) (p_names : Bool) (p_v : GValue) (r4450 : Bool) (v4442 : Int) (x4444 : GField) : Mo (Bool) :=
 .ite (r4450) (fun c4452 =>
 .say [.gd 12007 true] (ok1 c4452) <|
 .ret ⟨[], [1, 2, 5, 6, 36], [], 2⟩ (true)) fun c4452 =>
 .say [.gd 12007 false] (ok1 c4452) <|
 .ite (!p_names) (fun c4453 =>
 .say [.gd 12010 true] (ok1 c4453) <|
 .ask (Q22 x4444.fName) fun r4454 h4455 =>
 .say [.res (.lf (.bool r4454))] (ok1 (Q22_ok _ _ h4455)) <|
 .ret ⟨[], [1, 2, 5, 6, 36], [], 2⟩ (!r4454)) fun c4453 =>
 .say [.gd 12010 false] (ok1 c4453) <|
 .ret ⟨[], [1, 2, 5, 6, 36], [], 2⟩ (false)
def Q8_J5 (R_ : RB15) (p_names : Bool) (p_v : GValue) (r4450 : Bool) (v4442 : Int) (x4444 : GField) : Option (Bool) := Mo.den (Q8_J5_T R_ p_names p_v r4450 v4442 x4444)
def Q8_J5_S (p_names : Bool) (p_v : GValue) (v4442 : Int) (x4444 : GField) (r_ : Bool) : St := ⟨[(1, .lf (.bool p_names)), (2, .ptr 0 0), (5, .lf (.int .i64 v4442)), (6, .ptr 1 0), (36, .lf (.bool r_))], [.box 29 (.dat (GValue.lf1 p_v)), .box 174 (.agg ((GField.lf1 x4444).map AV.lf))]⟩
theorem Q8_J5_W {R_ : RB15} {p_names : Bool} {p_v : GValue} {r4450 : Bool} {v4442 : Int} {x4444 : GField} {r_ : Bool} (h : Q8_J5 R_ p_names p_v r4450 v4442 x4444 = some r_) : AWoa_ Tryz.f240 0 [1, 0, 1, 0, 0, 1, 0, 0, 1, 0, 0] [7, 8, 9, 10, 11, 12, 13, 14, 15, 16] (Q8_J5_S p_names p_v v4442 x4444 r_) ⟨[(1, .lf (.bool p_names)), (2, .ptr 0 0), (5, .lf (.int .i64 v4442)), (6, .ptr 1 0), (26, .lf (.bool r4450))], [.box 29 (.dat (GValue.lf1 p_v)), .box 174 (.agg ((GField.lf1 x4444).map AV.lf))]⟩ :=
 seg_T BaseK (Q8_J5_T R_ p_names p_v r4450 v4442 x4444) (Q8_J5_S p_names p_v v4442 x4444) (by kernel_rfl) h
def Q8_J10_T (R_ : RB15) (p_names : Bool) (p_v : GValue) (r4457 : Bool) (v4442 : Int) (x4444 : GField) : Mo (Bool) :=
 .ite (r4457) (fun c4459 =>
 .say [.gd 12017 true] (ok1 c4459) <|
 .ret ⟨[], [1, 2, 5, 6, 43], [], 2⟩ (true)) fun c4459 =>
 .say [.gd 12017 false] (ok1 c4459) <|
 .ask (R_.m1 x4444.fValue p_names) fun r4460 h4461 =>
 .say [.res (.lf (.bool r4460))] (ok1 (R_.ok1 _ _ _ h4461)) <|
 .ret ⟨[], [1, 2, 5, 6, 43], [], 2⟩ (!r4460)
def Q8_J10 (R_ : RB15) (p_names : Bool) (p_v : GValue) (r4457 : Bool) (v4442 : Int) (x4444 : GField) : Option (Bool) := Mo.den (Q8_J10_T R_ p_names p_v r4457 v4442 x4444)
def Q8_J10_S (p_names : Bool) (p_v : GValue) (v4442 : Int) (x4444 : GField) (r_ : Bool) : St := ⟨[(1, .lf (.bool p_names)), (2, .ptr 0 0), (5, .lf (.int .i64 v4442)), (6, .ptr 1 0), (43, .lf (.bool r_))], [.box 29 (.dat (GValue.lf1 p_v)), .box 174 (.agg ((GField.lf1 x4444).map AV.lf))]⟩
theorem Q8_J10_W {R_ : RB15} {p_names : Bool} {p_v : GValue} {r4457 : Bool} {v4442 : Int} {x4444 : GField} {r_ : Bool} (h : Q8_J10 R_ p_names p_v r4457 v4442 x4444 = some r_) : AWoa_ Tryz.f240 0 [1, 0, 1, 0, 0, 1, 0, 0, 1, 0, 0] [17, 18, 19, 20, 21, 22, 23] (Q8_J10_S p_names p_v v4442 x4444 r_) ⟨[(1, .lf (.bool p_names)), (2, .ptr 0 0), (5, .lf (.int .i64 v4442)), (6, .ptr 1 0), (36, .lf (.bool r4457))], [.box 29 (.dat (GValue.lf1 p_v)), .box 174 (.agg ((GField.lf1 x4444).map AV.lf))]⟩ :=
 seg_T BaseK (Q8_J10_T R_ p_names p_v r4457 v4442 x4444) (Q8_J10_S p_names p_v v4442 x4444) (by kernel_rfl) h
def Q8_L15_T (R_ : RB15) (p_names : Bool) (p_v : GValue) (v4442 : Int) (x4444 : GField) : (Int) → Mo ((Int) ⊕ (Unit ⊕ Unit)) := fun (v4470) =>
 .ite (decide ((v4470 : Int) < v4442)) (fun c4471 =>
 .say [.br true, .order [(true, 0), (true, 1), (true, 2), (true, 3), (true, 4), (true, 5), (true, 6), (true, 7), (true, 8)] none []] (ok1 c4471) <|
 .ask (gidx p_v.fDoc v4470) fun x4472 h4473 =>
 .say [.row (GField.lf1 x4472)] (okc (gidx_ok GField.lf_eq h4473 : (0 : Int) ≤ v4470 ∧ (p_v.fDoc.map GField.lf)[v4470.toNat]? = some (GField.lf1 x4472)) ok0) <|
 .ite (decide ((x4472.fName : ByteArray) = (x4444.fName : ByteArray))) (fun c4474 =>
 .say [.br true] (ok1 c4474) <|
 .ret ⟨[.kill 0, .kill 1], [4], [], 2⟩ (.inr (.inl ()))) fun c4474 =>
 .say [.br false] (ok1 c4474) <|
 .ret ⟨[], [1, 2, 5, 6, 7], [], 2⟩ (.inl (IntKind.wrap .i64 (v4470 + 1)))) fun c4471 =>
 .say [.br false] (ok1 c4471) <|
 .ret ⟨[.kill 1], [1, 2, 5], [], 2⟩ (.inr (.inr (())))
def Q8_L15 (R_ : RB15) (p_names : Bool) (p_v : GValue) (v4442 : Int) (x4444 : GField) (v4470 : Int) : Option (Unit ⊕ Unit) := loopM (fun v_ => (Q8_L15_T R_ p_names p_v v4442 x4444 v_).den) FU (v4470)
def Q8_L15_H (R_ : RB15) (p_names : Bool) (p_v : GValue) (v4442 : Int) (x4444 : GField) : (Int) → St := fun (v4470) => ⟨[(1, .lf (.bool p_names)), (2, .ptr 0 0), (5, .lf (.int .i64 v4442)), (6, .ptr 1 0), (7, .lf (.int .i64 v4470))], [.box 29 (.dat (GValue.lf1 p_v)), .box 174 (.agg ((GField.lf1 x4444).map AV.lf))]⟩
def Q8_L15_X (r_ : Unit ⊕ Unit) : Exit := match r_ with
 | .inl o_ => .ret
 | .inr (o_) => .exit 2
def Q8_L15_S (p_names : Bool) (p_v : GValue) (v4442 : Int) (r_ : Unit ⊕ Unit) : St := match r_ with
 | .inl o_ => ⟨[(4, .lf (.bool false))], [.dead, .dead]⟩
 | .inr (o_) => ⟨[(1, .lf (.bool p_names)), (2, .ptr 0 0), (5, .lf (.int .i64 v4442))], [.box 29 (.dat (GValue.lf1 p_v)), .dead]⟩
theorem Q8_L15_W {R_ : RB15} {p_names : Bool} {p_v : GValue} {v4442 : Int} {x4444 : GField} {v4470 : Int} {r_ : Unit ⊕ Unit} (h : Q8_L15 R_ p_names p_v v4442 x4444 v4470 = some r_) : AWa_ Tryz.f240 0 [1, 0, 1, 0, 0, 1, 0, 0, 1, 1, 1, 0] (Q8_L15_X r_) (Q8_L15_S p_names p_v v4442 r_) (Q8_L15_H R_ p_names p_v v4442 x4444 (v4470)) :=
 loop_T BaseK (body := (Code.sub (bodyC Tryz.f240) [1, 0, 1, 0, 0, 1, 0, 0, 1, 1, 1, 0, 0])) (by kernel_rfl) (Q8_L15_T R_ p_names p_v v4442 x4444) (Q8_L15_H R_ p_names p_v v4442 x4444) Q8_L15_X (Q8_L15_S p_names p_v v4442) (fun r_ => by rcases r_ with _ | _ <;> rfl) (fun v_ => by kernel_rfl) h
def Q8_L21_T (R_ : RB15) (p_names : Bool) (p_v : GValue) : (Int) → Mo ((Int) ⊕ (Unit ⊕ Unit)) := fun (v4442) =>
 .say [.num p_v.fDoc.length] (okc (by simp : p_v.fDoc.length = (p_v.fDoc.map GField.lf).length) ok0) <|
 .ite (decide ((v4442 : Int) < (p_v.fDoc.length : Int))) (fun c4443 =>
 .say [.br true] (ok1 c4443) <|
 .ask (gidx p_v.fDoc v4442) fun x4444 h4445 =>
 .say [.row (GField.lf1 x4444)] (okc (gidx_ok GField.lf_eq h4445 : (0 : Int) ≤ v4442 ∧ (p_v.fDoc.map GField.lf)[v4442.toNat]? = some (GField.lf1 x4444)) ok0) <|
 .ask (Q8_J0 R_ p_names p_v v4442 x4444) fun r4450 h4451 =>
 .say [.sg_ 5 7 [1, 2, 5, 6] 2 (Q8_J0_S p_names p_v v4442 x4444 r4450)] (ok1 (Q8_J0_W h4451)) <|
 .ask (Q8_J5 R_ p_names p_v r4450 v4442 x4444) fun r4457 h4458 =>
 .say [.sg_ 5 10 [1, 2, 5, 6, 26] 2 (Q8_J5_S p_names p_v v4442 x4444 r4457)] (ok1 (Q8_J5_W h4458)) <|
 .ask (Q8_J10 R_ p_names p_v r4457 v4442 x4444) fun r4463 h4464 =>
 .say [.sg_ 5 7 [1, 2, 5, 6, 36] 2 (Q8_J10_S p_names p_v v4442 x4444 r4463)] (ok1 (Q8_J10_W h4464)) <|
 .ite (r4463) (fun c4465 =>
 .say [.br true] (ok1 c4465) <|
 .ret ⟨[.kill 0], [4], [], 1⟩ (.inr (.inl ()))) fun c4465 =>
 .say [.br false] (ok1 c4465) <|
 .ask2 (Q8_L15 R_ p_names p_v v4442 x4444 0) (fun o4477 h4476 =>
 .say [.pt_ 0 [1, 2, 5, 6, 7] 2 (Q8_L15_X (.inl o4477)) (Q8_L15_S p_names p_v v4442 (.inl o4477))] (ok1 (Q8_L15_W h4476)) <|
 .ret ⟨[], [4], [], 1⟩ (.inr (.inl ()))) fun o4478 h4476 =>
 .say [.pt_ 0 [1, 2, 5, 6, 7] 2 (Q8_L15_X (.inr (o4478))) (Q8_L15_S p_names p_v v4442 (.inr (o4478)))] (ok1 (Q8_L15_W h4476)) <|
 .ret ⟨[], [1, 2, 5], [], 1⟩ (.inl (IntKind.wrap .i64 (v4442 + 1)))) fun c4443 =>
 .say [.br false] (ok1 c4443) <|
 .ret ⟨[.kill 0], [], [], 1⟩ (.inr (.inr (())))
def Q8_L21 (R_ : RB15) (p_names : Bool) (p_v : GValue) (v4442 : Int) : Option (Unit ⊕ Unit) := loopM (fun v_ => (Q8_L21_T R_ p_names p_v v_).den) FU (v4442)
def Q8_L21_H (R_ : RB15) (p_names : Bool) (p_v : GValue) : (Int) → St := fun (v4442) => ⟨[(1, .lf (.bool p_names)), (2, .ptr 0 0), (5, .lf (.int .i64 v4442))], [.box 29 (.dat (GValue.lf1 p_v))]⟩
def Q8_L21_X (r_ : Unit ⊕ Unit) : Exit := match r_ with
 | .inl o_ => .ret
 | .inr (o_) => .exit 0
def Q8_L21_S  (r_ : Unit ⊕ Unit) : St := match r_ with
 | .inl o_ => ⟨[(4, .lf (.bool false))], [.dead]⟩
 | .inr (o_) => ⟨[], [.dead]⟩
theorem Q8_L21_W {R_ : RB15} {p_names : Bool} {p_v : GValue} {v4442 : Int} {r_ : Unit ⊕ Unit} (h : Q8_L21 R_ p_names p_v v4442 = some r_) : AWa_ Tryz.f240 0 [1, 0, 1, 0] (Q8_L21_X r_) (Q8_L21_S r_) (Q8_L21_H R_ p_names p_v (v4442)) :=
 loop_T BaseK (body := (Code.sub (bodyC Tryz.f240) [1, 0, 1, 0, 0])) (by kernel_rfl) (Q8_L21_T R_ p_names p_v) (Q8_L21_H R_ p_names p_v) Q8_L21_X Q8_L21_S (fun r_ => by rcases r_ with _ | _ <;> rfl) (fun v_ => by kernel_rfl) h
def Q8_T (R_ : RB15) (p_v : GValue) (p_names : Bool) : Mo (Bool) :=
 .ask2 (Q8_L21 R_ p_names p_v 0) (fun o4481 h4480 =>
 .say [.pt_ 0 [1, 2, 5] 1 (Q8_L21_X (.inl o4481)) (Q8_L21_S (.inl o4481))] (ok1 (Q8_L21_W h4480)) <|
 .ret (fitN 1) (false)) fun o4482 h4480 =>
 .say [.pt_ 0 [1, 2, 5] 1 (Q8_L21_X (.inr (o4482))) (Q8_L21_S (.inr (o4482)))] (ok1 (Q8_L21_W h4480)) <|
 .ret (fitN 1) (true)
theorem Q8_okT (R_ : RB15) (p_v : GValue) (p_names : Bool) (r : Bool) (h : Mo.den (Q8_T R_ p_v p_names) = some r) : Fn Tryz.prog GI 240 [.dat (GValue.lf1 p_v), .lf (.bool p_names)] (.lf (.bool r)) :=
 fn_T BaseK Tryz.func240 (by kernel_rfl) (by kernel_rfl) (by kernel_rfl) (Q8_T R_ p_v p_names) (fun r => [.lf (.bool r)]) (by kernel_rfl) h
def RB15_F : Nat → RB15
 | 0 => { m1 := fun p_v p_names => none, ok1 := fun _ _ _ h => (by cases h), m2 := fun p_v p_names => none, ok2 := fun _ _ _ h => (by cases h) }
 | n_ + 1 => { m1 := fun p_v p_names => Mo.den (Q3_T (RB15_F n_) p_v p_names), ok1 := fun p_v p_names r h => Q3_okT (RB15_F n_) p_v p_names r h, m2 := fun p_v p_names => Mo.den (Q8_T (RB15_F n_) p_v p_names), ok2 := fun p_v p_names r h => Q8_okT (RB15_F n_) p_v p_names r h }
def Q3 (p_v : GValue) (p_names : Bool) : Option (Bool) := (RB15_F FU).m1 p_v p_names
theorem Q3_ok (p_v : GValue) (p_names : Bool) (r : Bool) (h : Q3 p_v p_names = some r) : Fn Tryz.prog GI 198 [.dat (GValue.lf1 p_v), .lf (.bool p_names)] (.lf (.bool r)) := (RB15_F FU).ok1 p_v p_names r h
def Q120_T (p_v : GValue) : Mo (Bool) :=
 .ask (Q118 p_v) fun r3378 h3379 =>
 .say [.res (.lf (.int .i64 r3378))] (ok1 (Q118_ok _ _ h3379)) <|
 .ite (decide ((r3378 : Int) ≤ 16)) (fun c3380 =>
 .say [.gd 4003 true] (ok1 c3380) <|
 .ask (Q119 p_v) fun r3443 h3444 =>
 .say [.res (.lf (.int .i64 r3443))] (ok1 (Q119_ok _ _ h3444)) <|
 .ite (decide ((r3443 : Int) ≤ 1024)) (fun c3445 =>
 .say [.gd 4008 true] (ok1 c3445) <|
 .ask (Q3 p_v true) fun r4483 h4484 =>
 .say [.res (.lf (.bool r4483))] (ok1 (Q3_ok _ _ _ h4484)) <|
 .ret (fitN 1) (r4483)) fun c3445 =>
 .say [.gd 4008 false] (ok1 c3445) <|
 .ret (fitN 1) (false)) fun c3380 =>
 .say [.gd 4003 false] (ok1 c3380) <|
 .ret (fitN 1) (false)
def Q120 (p_v : GValue) : Option (Bool) := Mo.den (Q120_T p_v)
theorem Q120_ok (p_v : GValue) (r : Bool) (h : Q120 p_v = some r) : Fn Tryz.prog GI 154 [.dat (GValue.lf1 p_v)] (.lf (.bool r)) :=
 fn_T BaseK Tryz.func154 (by kernel_rfl) (by kernel_rfl) (by kernel_rfl) (Q120_T p_v) (fun r => [.lf (.bool r)]) (by kernel_rfl) h
structure RB16 where
 m1 : (p_v : GValue) → Option (ByteArray)
 ok1 : ∀ (p_v : GValue) (r : ByteArray), m1 p_v = some r → Fn Tryz.prog GI 260 [.dat (GValue.lf1 p_v)] (.lf (.str r))
def Q11_J0_T (R_ : RB16) (p_v : GValue) : Mo (Bool) :=
 .ite (p_v.fKind == 3) (fun c4618 =>
 .say [.br true] (ok1 c4618) <|
 .ret ⟨[], [1, 3, 12, 13], [], 2⟩ (p_v.fKind == 3)) fun c4618 =>
 .say [.br false] (ok1 c4618) <|
 .ret ⟨[], [1, 3, 12, 13], [], 2⟩ (p_v.fKind == 10)
def Q11_J0 (R_ : RB16) (p_v : GValue) : Option (Bool) := Mo.den (Q11_J0_T R_ p_v)
def Q11_J0_S (p_v : GValue) (r_ : Bool) : St := ⟨[(1, .ptr 0 0), (3, .lf (.str (strOfNums [IntKind.wrap .u8 p_v.fKind]))), (12, .lf (.int .i64 p_v.fKind)), (13, .lf (.bool r_))], [.box 29 (.dat (GValue.lf1 p_v)), .dead]⟩
theorem Q11_J0_W {R_ : RB16} {p_v : GValue} {r_ : Bool} (h : Q11_J0 R_ p_v = some r_) : AWa_ Tryz.f260 0 [1, 1, 0, 1, 0, 0, 1] (.normal) (Q11_J0_S p_v r_) ⟨[(1, .ptr 0 0), (3, .lf (.str (strOfNums [IntKind.wrap .u8 p_v.fKind]))), (12, .lf (.int .i64 p_v.fKind)), (13, .lf (.bool (p_v.fKind == 3)))], [.box 29 (.dat (GValue.lf1 p_v)), .dead]⟩ :=
 part_T BaseK (Q11_J0_T R_ p_v) (fun _ => .normal) (Q11_J0_S p_v) (by kernel_rfl) h
def Q11_J5_T (R_ : RB16) (p_v : GValue) : Mo (Bool) :=
 .ite (p_v.fKind == 4) (fun c4628 =>
 .say [.br true] (ok1 c4628) <|
 .ret ⟨[], [1, 3, 12, 30], [], 2⟩ (p_v.fKind == 4)) fun c4628 =>
 .say [.br false] (ok1 c4628) <|
 .ret ⟨[], [1, 3, 12, 30], [], 2⟩ (p_v.fKind == 7)
def Q11_J5 (R_ : RB16) (p_v : GValue) : Option (Bool) := Mo.den (Q11_J5_T R_ p_v)
def Q11_J5_S (p_v : GValue) (r_ : Bool) : St := ⟨[(1, .ptr 0 0), (3, .lf (.str (strOfNums [IntKind.wrap .u8 p_v.fKind]))), (12, .lf (.int .i64 p_v.fKind)), (30, .lf (.bool r_))], [.box 29 (.dat (GValue.lf1 p_v)), .dead]⟩
theorem Q11_J5_W {R_ : RB16} {p_v : GValue} {r_ : Bool} (h : Q11_J5 R_ p_v = some r_) : AWa_ Tryz.f260 0 [1, 1, 0, 1, 0, 1, 1, 1, 1, 0, 1] (.normal) (Q11_J5_S p_v r_) ⟨[(1, .ptr 0 0), (3, .lf (.str (strOfNums [IntKind.wrap .u8 p_v.fKind]))), (12, .lf (.int .i64 p_v.fKind)), (30, .lf (.bool (p_v.fKind == 4)))], [.box 29 (.dat (GValue.lf1 p_v)), .dead]⟩ :=
 part_T BaseK (Q11_J5_T R_ p_v) (fun _ => .normal) (Q11_J5_S p_v) (by kernel_rfl) h
def Q11_L10_T (R_ : RB16) (p_v : GValue) : (ByteArray × Int) → Mo ((ByteArray × Int) ⊕ (ByteArray)) := fun (v4649, v4650) =>
 .say [.num p_v.fList.length] (okc (by simp : p_v.fList.length = (p_v.fList.map GValue.lf).length) ok0) <|
 .ite (decide ((v4650 : Int) < (p_v.fList.length : Int))) (fun c4651 =>
 .say [.br true] (ok1 c4651) <|
 .ask (gidx p_v.fList v4650) fun x4652 h4653 =>
 .say [.row (GValue.lf1 x4652)] (okc (gidx_ok GValue.lf_eq h4653 : (0 : Int) ≤ v4650 ∧ (p_v.fList.map GValue.lf)[v4650.toNat]? = some (GValue.lf1 x4652)) ok0) <|
 .ask (R_.m1 x4652) fun r4654 h4655 =>
 .say [.res (.lf (.str r4654))] (ok1 (R_.ok1 _ _ h4655)) <|
 .grd (v4649.size + r4654.size ≤ 9223372036854775807) fun h4656 =>
 .say [] (ok1 h4656) <|
 .ret ⟨[], [1, 3, 4], [], 2⟩ (.inl (v4649 ++ r4654, IntKind.wrap .i64 (v4650 + 1)))) fun c4651 =>
 .say [.br false] (ok1 c4651) <|
 .ret ⟨[.kill 0], [3], [], 2⟩ (.inr (v4649))
def Q11_L10 (R_ : RB16) (p_v : GValue) (v4649 : ByteArray) (v4650 : Int) : Option (ByteArray) := loopM (fun v_ => (Q11_L10_T R_ p_v v_).den) FU (v4649, v4650)
def Q11_L10_H (R_ : RB16) (p_v : GValue) : (ByteArray × Int) → St := fun (v4649, v4650) => ⟨[(1, .ptr 0 0), (3, .lf (.str v4649)), (4, .lf (.int .i64 v4650))], [.box 29 (.dat (GValue.lf1 p_v)), .dead]⟩
def Q11_L10_S  (r_ : ByteArray) : St := ⟨[(3, .lf (.str r_))], [.dead, .dead]⟩
theorem Q11_L10_W {R_ : RB16} {p_v : GValue} {v4649 : ByteArray} {v4650 : Int} {r_ : ByteArray} (h : Q11_L10 R_ p_v v4649 v4650 = some r_) : AWa_ Tryz.f260 0 [1, 1, 0, 1, 0, 1, 1, 1, 1, 1, 1, 1, 1, 1, 0, 1, 1, 0] (.exit 1) (Q11_L10_S r_) (Q11_L10_H R_ p_v (v4649, v4650)) :=
 loop_T BaseK (body := (Code.sub (bodyC Tryz.f260) [1, 1, 0, 1, 0, 1, 1, 1, 1, 1, 1, 1, 1, 1, 0, 1, 1, 0, 0])) (by kernel_rfl) (Q11_L10_T R_ p_v) (Q11_L10_H R_ p_v) (fun _ => .exit 1) Q11_L10_S (fun r_ => rfl) (fun v_ => by kernel_rfl) h
def Q11_L16_T (R_ : RB16) (p_v : GValue) : (ByteArray × Int) → Mo ((ByteArray × Int) ⊕ (ByteArray)) := fun (v4679, v4680) =>
 .say [.num p_v.fDoc.length] (okc (by simp : p_v.fDoc.length = (p_v.fDoc.map GField.lf).length) ok0) <|
 .ite (decide ((v4680 : Int) < (p_v.fDoc.length : Int))) (fun c4681 =>
 .say [.br true, .order [(true, 0), (true, 1), (true, 2), (true, 3), (true, 4), (true, 5), (true, 6), (true, 7), (true, 10), (true, 11), (true, 12), (true, 13), (true, 14), (true, 15), (true, 17), (true, 18), (true, 19), (true, 20), (true, 21), (true, 22), (false, 8), (true, 9), (true, 16), (false, 23), (true, 24), (true, 25)] none []] (ok1 c4681) <|
 .ask (gidx p_v.fDoc v4680) fun x4682 h4683 =>
 .say [.row (GField.lf1 x4682)] (okc (gidx_ok GField.lf_eq h4683 : (0 : Int) ≤ v4680 ∧ (p_v.fDoc.map GField.lf)[v4680.toNat]? = some (GField.lf1 x4682)) ok0) <|
 .ask (gidx p_v.fDoc v4680) fun x4684 h4685 =>
 .say [.row (GField.lf1 x4684)] (okc (gidx_ok GField.lf_eq h4685 : (0 : Int) ≤ v4680 ∧ (p_v.fDoc.map GField.lf)[v4680.toNat]? = some (GField.lf1 x4684)) ok0) <|
 .ask (gidx p_v.fDoc v4680) fun x4686 h4687 =>
 .say [.row (GField.lf1 x4686)] (okc (gidx_ok GField.lf_eq h4687 : (0 : Int) ≤ v4680 ∧ (p_v.fDoc.map GField.lf)[v4680.toNat]? = some (GField.lf1 x4686)) ok0) <|
 .ask (Q17 (x4682.fName.size : Int)) fun r4688 h4689 =>
 .say [.res (.lf (.str r4688))] (ok1 (Q17_ok _ _ h4689)) <|
 .grd (v4679.size + r4688.size ≤ 9223372036854775807) fun h4690 =>
 .say [] (ok1 h4690) <|
 .grd ((v4679 ++ r4688).size + x4684.fName.size ≤ 9223372036854775807) fun h4691 =>
 .say [] (ok1 h4691) <|
 .ask (R_.m1 x4686.fValue) fun r4692 h4693 =>
 .say [.res (.lf (.str r4692))] (ok1 (R_.ok1 _ _ h4693)) <|
 .grd (((v4679 ++ r4688) ++ x4684.fName).size + r4692.size ≤ 9223372036854775807) fun h4694 =>
 .say [] (ok1 h4694) <|
 .ret ⟨[], [1, 3, 5], [], 2⟩ (.inl (((v4679 ++ r4688) ++ x4684.fName) ++ r4692, IntKind.wrap .i64 (v4680 + 1)))) fun c4681 =>
 .say [.br false] (ok1 c4681) <|
 .ret ⟨[.kill 0], [3], [], 2⟩ (.inr (v4679))
def Q11_L16 (R_ : RB16) (p_v : GValue) (v4679 : ByteArray) (v4680 : Int) : Option (ByteArray) := loopM (fun v_ => (Q11_L16_T R_ p_v v_).den) FU (v4679, v4680)
def Q11_L16_H (R_ : RB16) (p_v : GValue) : (ByteArray × Int) → St := fun (v4679, v4680) => ⟨[(1, .ptr 0 0), (3, .lf (.str v4679)), (5, .lf (.int .i64 v4680))], [.box 29 (.dat (GValue.lf1 p_v)), .dead]⟩
def Q11_L16_S  (r_ : ByteArray) : St := ⟨[(3, .lf (.str r_))], [.dead, .dead]⟩
theorem Q11_L16_W {R_ : RB16} {p_v : GValue} {v4679 : ByteArray} {v4680 : Int} {r_ : ByteArray} (h : Q11_L16 R_ p_v v4679 v4680 = some r_) : AWa_ Tryz.f260 0 [1, 1, 0, 1, 0, 1, 1, 1, 1, 1, 1, 1, 1, 1, 1, 1, 0, 1, 1, 0] (.exit 3) (Q11_L16_S r_) (Q11_L16_H R_ p_v (v4679, v4680)) :=
 loop_T BaseK (body := (Code.sub (bodyC Tryz.f260) [1, 1, 0, 1, 0, 1, 1, 1, 1, 1, 1, 1, 1, 1, 1, 1, 0, 1, 1, 0, 0])) (by kernel_rfl) (Q11_L16_T R_ p_v) (Q11_L16_H R_ p_v) (fun _ => .exit 3) Q11_L16_S (fun r_ => rfl) (fun v_ => by kernel_rfl) h
def Q11_J22_T (R_ : RB16) (p_v : GValue) : Mo (ByteArray) :=
 .ask (Q11_J0 R_ p_v) fun r4620 h4621 =>
 .say [.pt_ 1 [1, 3, 12, 13] 2 (.normal) (Q11_J0_S p_v r4620)] (ok1 (Q11_J0_W h4621)) <|
 .ite (r4620) (fun c4622 =>
 .say [.br true] (ok1 c4622) <|
 .ask (Q17 p_v.fInt) fun r4623 h4624 =>
 .say [.res (.lf (.str r4623))] (ok1 (Q17_ok _ _ h4624)) <|
 .grd ((strOfNums [IntKind.wrap .u8 p_v.fKind]).size + r4623.size ≤ 9223372036854775807) fun h4625 =>
 .say [] (ok1 h4625) <|
 .ret ⟨[.kill 0], [3], [], 2⟩ ((strOfNums [IntKind.wrap .u8 p_v.fKind]) ++ r4623)) fun c4622 =>
 .say [.br false] (ok1 c4622) <|
 .ite (p_v.fKind == 9) (fun c4626 =>
 .say [.br true, .nums [IntKind.wrap .u8 p_v.fInt]] (okc c4626 (okc (by simp [lfI, lfK] : [(lfK .u8 (IntKind.wrap .u8 p_v.fInt))] = [IntKind.wrap .u8 p_v.fInt].map fun n => [Lf.int .u8 n]) ok0)) <|
 .grd ((strOfNums [IntKind.wrap .u8 p_v.fKind]).size + (strOfNums [IntKind.wrap .u8 p_v.fInt]).size ≤ 9223372036854775807) fun h4627 =>
 .say [] (ok1 h4627) <|
 .ret ⟨[.kill 0], [3], [], 2⟩ ((strOfNums [IntKind.wrap .u8 p_v.fKind]) ++ (strOfNums [IntKind.wrap .u8 p_v.fInt]))) fun c4626 =>
 .say [.br false] (ok1 c4626) <|
 .ask (Q11_J5 R_ p_v) fun r4630 h4631 =>
 .say [.pt_ 1 [1, 3, 12, 30] 2 (.normal) (Q11_J5_S p_v r4630)] (ok1 (Q11_J5_W h4631)) <|
 .ite (r4630) (fun c4632 =>
 .say [.br true, .order [(true, 0), (true, 1), (true, 2), (true, 3), (true, 6), (true, 7), (false, 4), (true, 5), (true, 8), (true, 9)] none []] (ok1 c4632) <|
 .ask (Q17 (p_v.fText.size : Int)) fun r4633 h4634 =>
 .say [.res (.lf (.str r4633))] (ok1 (Q17_ok _ _ h4634)) <|
 .grd ((strOfNums [IntKind.wrap .u8 p_v.fKind]).size + r4633.size ≤ 9223372036854775807) fun h4635 =>
 .say [] (ok1 h4635) <|
 .grd (((strOfNums [IntKind.wrap .u8 p_v.fKind]) ++ r4633).size + p_v.fText.size ≤ 9223372036854775807) fun h4636 =>
 .say [] (ok1 h4636) <|
 .ret ⟨[.kill 0], [3], [], 2⟩ (((strOfNums [IntKind.wrap .u8 p_v.fKind]) ++ r4633) ++ p_v.fText)) fun c4632 =>
 .say [.br false] (ok1 c4632) <|
 .ite (p_v.fKind == 8) (fun c4637 =>
 .say [.br true] (ok1 c4637) <|
 .grd ((strOfNums [IntKind.wrap .u8 p_v.fKind]).size + p_v.fText.size ≤ 9223372036854775807) fun h4638 =>
 .say [] (ok1 h4638) <|
 .ret ⟨[.kill 0], [3], [], 2⟩ ((strOfNums [IntKind.wrap .u8 p_v.fKind]) ++ p_v.fText)) fun c4637 =>
 .say [.br false] (ok1 c4637) <|
 .ite (p_v.fKind == 6) (fun c4639 =>
 .say [.br true, .num p_v.fList.length] (okc c4639 (okc (by simp : p_v.fList.length = (p_v.fList.map GValue.lf).length) ok0)) <|
 .ask (Q17 (p_v.fList.length : Int)) fun r4640 h4641 =>
 .say [.res (.lf (.str r4640))] (ok1 (Q17_ok _ _ h4641)) <|
 .grd ((strOfNums [IntKind.wrap .u8 p_v.fKind]).size + r4640.size ≤ 9223372036854775807) fun h4642 =>
 .say [] (ok1 h4642) <|
 .ask (Q11_L10 R_ p_v ((strOfNums [IntKind.wrap .u8 p_v.fKind]) ++ r4640) 0) fun r4659 h4660 =>
 .say [.pt_ 0 [1, 3, 4] 2 (.exit 1) (Q11_L10_S r4659)] (ok1 (Q11_L10_W h4660)) <|
 .ret ⟨[], [3], [], 2⟩ (r4659)) fun c4639 =>
 .say [.br false] (ok1 c4639) <|
 .ite (p_v.fKind == 5) (fun c4661 =>
 .say [.br true, .num p_v.fDoc.length] (okc c4661 (okc (by simp : p_v.fDoc.length = (p_v.fDoc.map GField.lf).length) ok0)) <|
 .ask (Q17 (p_v.fDoc.length : Int)) fun r4662 h4663 =>
 .say [.res (.lf (.str r4662))] (ok1 (Q17_ok _ _ h4663)) <|
 .grd ((strOfNums [IntKind.wrap .u8 p_v.fKind]).size + r4662.size ≤ 9223372036854775807) fun h4664 =>
 .say [] (ok1 h4664) <|
 .ask (Q11_L16 R_ p_v ((strOfNums [IntKind.wrap .u8 p_v.fKind]) ++ r4662) 0) fun r4697 h4698 =>
 .say [.pt_ 0 [1, 3, 5] 2 (.exit 3) (Q11_L16_S r4697)] (ok1 (Q11_L16_W h4698)) <|
 .ret ⟨[], [3], [], 2⟩ (r4697)) fun c4661 =>
 .say [.br false] (ok1 c4661) <|
 .ret ⟨[.kill 0], [3], [], 2⟩ (strOfNums [IntKind.wrap .u8 p_v.fKind])
def Q11_J22 (R_ : RB16) (p_v : GValue) : Option (ByteArray) := Mo.den (Q11_J22_T R_ p_v)
def Q11_J22_S  (r_ : ByteArray) : St := ⟨[(3, .lf (.str r_))], [.dead, .dead]⟩
theorem Q11_J22_W {R_ : RB16} {p_v : GValue} {r_ : ByteArray} (h : Q11_J22 R_ p_v = some r_) : AWa_ Tryz.f260 0 [1, 1, 0, 1] (.normal) (Q11_J22_S r_) ⟨[(1, .ptr 0 0), (3, .lf (.str (strOfNums [IntKind.wrap .u8 p_v.fKind]))), (12, .lf (.int .i64 p_v.fKind))], [.box 29 (.dat (GValue.lf1 p_v)), .dead]⟩ :=
 part_T BaseK (Q11_J22_T R_ p_v) (fun _ => .normal) Q11_J22_S (by kernel_rfl) h
def Q11_T (R_ : RB16) (p_v : GValue) : Mo (ByteArray) :=
 .say [.nums [IntKind.wrap .u8 p_v.fKind]] (okc (by simp [lfI, lfK] : [(lfK .u8 (IntKind.wrap .u8 p_v.fKind))] = [IntKind.wrap .u8 p_v.fKind].map fun n => [Lf.int .u8 n]) ok0) <|
 .ask (Q11_J22 R_ p_v) fun r4705 h4706 =>
 .say [.part [.kill 1] 6 [1, 3, 12] 2 (.normal) (Q11_J22_S r4705).T (Q11_J22_S r4705).H] (ok1 (Q11_J22_W h4706)) <|
 .ret (fitN 1) (r4705)
theorem Q11_okT (R_ : RB16) (p_v : GValue) (r : ByteArray) (h : Mo.den (Q11_T R_ p_v) = some r) : Fn Tryz.prog GI 260 [.dat (GValue.lf1 p_v)] (.lf (.str r)) :=
 fn_T BaseK Tryz.func260 (by kernel_rfl) (by kernel_rfl) (by kernel_rfl) (Q11_T R_ p_v) (fun r => [.lf (.str r)]) (by kernel_rfl) h
def RB16_F : Nat → RB16
 | 0 => { m1 := fun p_v => none, ok1 := fun _ _ h => (by cases h) }
 | n_ + 1 => { m1 := fun p_v => Mo.den (Q11_T (RB16_F n_) p_v), ok1 := fun p_v r h => Q11_okT (RB16_F n_) p_v r h }
def Q11 (p_v : GValue) : Option (ByteArray) := (RB16_F FU).m1 p_v
theorem Q11_ok (p_v : GValue) (r : ByteArray) (h : Q11 p_v = some r) : Fn Tryz.prog GI 260 [.dat (GValue.lf1 p_v)] (.lf (.str r)) := (RB16_F FU).ok1 p_v r h
def Q115_T (p_v : GValue) : Mo (ByteArray × Int) :=
 .ask (Q120 p_v) fun r4487 h4488 =>
 .say [.res (.lf (.bool r4487))] (ok1 (Q120_ok _ _ h4488)) <|
 .ite (!r4487) (fun c4490 =>
 .say [.br true] (ok1 c4490) <|
 .ret (fitN 2) (⟨#[]⟩, 8)) fun c4490 =>
 .say [.br false] (ok1 c4490) <|
 .ask (Q11 p_v) fun r4707 h4708 =>
 .say [.res (.lf (.str r4707))] (ok1 (Q11_ok _ _ h4708)) <|
 .ret (fitN 2) (r4707, 0)
def Q115 (p_v : GValue) : Option (ByteArray × Int) := Mo.den (Q115_T p_v)
theorem Q115_ok (p_v : GValue) (r : ByteArray × Int) (h : Q115 p_v = some r) : Fn Tryz.prog GI 214 [.dat (GValue.lf1 p_v)] (.tup [.lf (.str r.1), .lf (.int .i64 r.2)]) :=
 fn_T BaseK Tryz.func214 (by kernel_rfl) (by kernel_rfl) (by kernel_rfl) (Q115_T p_v) (fun r => [.lf (.str r.1), .lf (.int .i64 r.2)]) (by kernel_rfl) h
structure RB12 where
 m1 : (p_v : GValue) → (p_b0 : GRef40Out) → Option (GRef40Out)
 ok1 : ∀ (p_v : GValue) (p_b0 : GRef40Out) (r : GRef40Out), m1 p_v p_b0 = some r → FnH Tryz.prog GI 167 [.ptr 0 0, .dat (GValue.lf1 p_v)] [.box 124 (.dat (GRef40Out.lf1 p_b0))] (.tup []) [.box 124 (.dat (GRef40Out.lf1 r))]
 m2 : (p_l : List GValue) → (p_b0 : GRef40Out) → Option (GRef40Out)
 ok2 : ∀ (p_l : List GValue) (p_b0 : GRef40Out) (r : GRef40Out), m2 p_l p_b0 = some r → FnH Tryz.prog GI 213 [.ptr 0 0, .lf (.rows 5 (p_l.map GValue.lf))] [.box 124 (.dat (GRef40Out.lf1 p_b0))] (.tup []) [.box 124 (.dat (GRef40Out.lf1 r))]
def Q15_L0_T (R_ : RB12) (p_v : GValue) : (Int × GRef40Out) → Mo ((Int × GRef40Out) ⊕ (GRef40Out)) := fun (v3166, s3167) =>
 .say [.num p_v.fDoc.length] (okc (by simp : p_v.fDoc.length = (p_v.fDoc.map GField.lf).length) ok0) <|
 .ite (decide ((v3166 : Int) < (p_v.fDoc.length : Int))) (fun c3168 =>
 .say [.br true] (ok1 c3168) <|
 .ask (gidx p_v.fDoc v3166) fun x3169 h3170 =>
 .say [.row (GField.lf1 x3169)] (okc (gidx_ok GField.lf_eq h3170 : (0 : Int) ≤ v3166 ∧ (p_v.fDoc.map GField.lf)[v3166.toNat]? = some (GField.lf1 x3169)) ok0) <|
 .ask (Q55 x3169.fName s3167) fun r3171 h3172 =>
 .say [.resH [0] (.tup []) [.box 124 (.dat (GRef40Out.lf1 r3171))]] (ok1 (Q55_ok _ _ _ h3172)) <|
 .ask (gidx p_v.fDoc v3166) fun x3173 h3174 =>
 .say [.row (GField.lf1 x3173)] (okc (gidx_ok GField.lf_eq h3174 : (0 : Int) ≤ v3166 ∧ (p_v.fDoc.map GField.lf)[v3166.toNat]? = some (GField.lf1 x3173)) ok0) <|
 .ask (R_.m1 x3173.fValue r3171) fun r3175 h3176 =>
 .say [.resH [0] (.tup []) [.box 124 (.dat (GRef40Out.lf1 r3175))]] (ok1 (R_.ok1 _ _ _ h3176)) <|
 .ret ⟨[], [0, 3, 4], [], 2⟩ (.inl (IntKind.wrap .i64 (v3166 + 1), r3175))) fun c3168 =>
 .say [.br false] (ok1 c3168) <|
 .ret ⟨[.kill 1], [], [], 2⟩ (.inr (s3167))
def Q15_L0 (R_ : RB12) (p_v : GValue) (v3166 : Int) (s3167 : GRef40Out) : Option (GRef40Out) := loopM (fun v_ => (Q15_L0_T R_ p_v v_).den) FU (v3166, s3167)
def Q15_L0_H (R_ : RB12) (p_v : GValue) : (Int × GRef40Out) → St := fun (v3166, s3167) => ⟨[(0, .ptr 0 0), (3, .ptr 1 0), (4, .lf (.int .i64 v3166))], [.box 124 (.dat (GRef40Out.lf1 s3167)), .box 29 (.dat (GValue.lf1 p_v))]⟩
def Q15_L0_S  (r_ : GRef40Out) : St := ⟨[], [.box 124 (.dat (GRef40Out.lf1 r_)), .dead]⟩
theorem Q15_L0_W {R_ : RB12} {p_v : GValue} {v3166 : Int} {s3167 : GRef40Out} {r_ : GRef40Out} (h : Q15_L0 R_ p_v v3166 s3167 = some r_) : AWa_ Tryz.f167 1 [1, 0, 1, 0, 1, 1, 1, 1, 1, 0, 1, 0] (.exit 0) (Q15_L0_S r_) (Q15_L0_H R_ p_v (v3166, s3167)) :=
 loop_T BaseK (body := (Code.sub (bodyC Tryz.f167) [1, 0, 1, 0, 1, 1, 1, 1, 1, 0, 1, 0, 0])) (by kernel_rfl) (Q15_L0_T R_ p_v) (Q15_L0_H R_ p_v) (fun _ => .exit 0) Q15_L0_S (fun r_ => rfl) (fun v_ => by kernel_rfl) h
def Q15_J6_T (R_ : RB12) (p_b0 : GRef40Out) (r4711 : ByteArray × Int) : Mo (GRef40Out) :=
 .ite (p_b0.fBad) (fun c4714 =>
 .say [.gd 32005 true] (ok1 c4714) <|
 .ret ⟨[], [0, 5], [], 2⟩ (GRef40Out.mk p_b0.fS true p_b0.fRaw)) fun c4714 =>
 .say [.gd 32005 false] (ok1 c4714) <|
 .ret ⟨[], [0, 5], [], 2⟩ (GRef40Out.mk p_b0.fS (r4711.2 != 0) p_b0.fRaw)
def Q15_J6 (R_ : RB12) (p_b0 : GRef40Out) (r4711 : ByteArray × Int) : Option (GRef40Out) := Mo.den (Q15_J6_T R_ p_b0 r4711)
def Q15_J6_S (r4711 : ByteArray × Int) (r_ : GRef40Out) : St := ⟨[(0, .ptr 0 0), (5, .lf (.str r4711.1))], [.box 124 (.dat (GRef40Out.lf1 r_)), .dead]⟩
theorem Q15_J6_W {R_ : RB12} {p_b0 : GRef40Out} {r4711 : ByteArray × Int} {r_ : GRef40Out} (h : Q15_J6 R_ p_b0 r4711 = some r_) : AWa_ Tryz.f167 1 [1, 1, 1, 1, 0] (.normal) (Q15_J6_S r4711 r_) ⟨[(0, .ptr 0 0), (5, .lf (.str r4711.1)), (6, .lf (.int .i64 r4711.2))], [.box 124 (.dat (GRef40Out.lf1 p_b0)), .dead]⟩ :=
 part_T BaseK (Q15_J6_T R_ p_b0 r4711) (fun _ => .normal) (Q15_J6_S r4711) (by kernel_rfl) h
def Q15_T (R_ : RB12) (p_v : GValue) (p_b0 : GRef40Out) : Mo (GRef40Out) :=
 .ite (p_b0.fRaw) (fun c3122 =>
 .say [.br true] (ok1 c3122) <|
 .ask (Q10 p_v.fKind p_b0) fun r3123 h3124 =>
 .say [.resH [0] (.tup []) [.box 124 (.dat (GRef40Out.lf1 r3123))]] (ok1 (Q10_ok _ _ _ h3124)) <|
 .ask (Q10 p_v.fInt r3123) fun r3125 h3126 =>
 .say [.resH [0] (.tup []) [.box 124 (.dat (GRef40Out.lf1 r3125))]] (ok1 (Q10_ok _ _ _ h3126)) <|
 .ask (Q55 p_v.fText r3125) fun r3127 h3128 =>
 .say [.resH [0] (.tup []) [.box 124 (.dat (GRef40Out.lf1 r3127))]] (ok1 (Q55_ok _ _ _ h3128)) <|
 .ask (R_.m2 p_v.fList r3127) fun r3129 h3130 =>
 .say [.resH [0] (.tup []) [.box 124 (.dat (GRef40Out.lf1 r3129))], .num p_v.fDoc.length] (okc (R_.ok2 _ _ _ h3130) (okc (by simp : p_v.fDoc.length = (p_v.fDoc.map GField.lf).length) ok0)) <|
 .ask (Q10 (p_v.fDoc.length : Int) r3129) fun r3131 h3132 =>
 .say [.resH [0] (.tup []) [.box 124 (.dat (GRef40Out.lf1 r3131))]] (ok1 (Q10_ok _ _ _ h3132)) <|
 .ask (Q15_L0 R_ p_v 0 r3131) fun r3179 h3180 =>
 .say [.pt_ 0 [0, 3, 4] 2 (.exit 0) (Q15_L0_S r3179)] (ok1 (Q15_L0_W h3180)) <|
 .ret ⟨[], [], [], 1⟩ (r3179)) fun c3122 =>
 .say [.br false] (ok1 c3122) <|
 .ask (Q13 p_v) fun r3203 h3204 =>
 .say [.res (.lf (.bool r3203))] (ok1 (Q13_ok _ _ h3204)) <|
 .ite (r3203) (fun c3207 =>
 .say [.br true] (ok1 c3207) <|
 .grd (p_b0.fS.size + (⟨#[0]⟩ : ByteArray).size ≤ 9223372036854775807) fun h3209 =>
 .say [] (ok1 h3209) <|
 .ret ⟨[.kill 1], [], [], 1⟩ (GRef40Out.mk (p_b0.fS ++ ⟨#[0]⟩) p_b0.fBad p_b0.fRaw)) fun c3207 =>
 .say [.br false] (ok1 c3207) <|
 .ask (Q115 p_v) fun r4711 h4712 =>
 .say [.res (.tup [.lf (.str r4711.1), .lf (.int .i64 r4711.2)])] (ok1 (Q115_ok _ _ h4712)) <|
 .ask (Q15_J6 R_ p_b0 r4711) fun r4716 h4717 =>
 .say [.part [.kill 1] 37 [0, 5, 6] 2 (.normal) (Q15_J6_S r4711 r4716).T (Q15_J6_S r4711 r4716).H] (ok1 (Q15_J6_W h4717)) <|
 .grd ((⟨#[1]⟩ : ByteArray).size + r4711.1.size ≤ 9223372036854775807) fun h4718 =>
 .say [] (ok1 h4718) <|
 .grd (r4716.fS.size + ((⟨#[1]⟩ : ByteArray) ++ r4711.1).size ≤ 9223372036854775807) fun h4719 =>
 .say [] (ok1 h4719) <|
 .ret ⟨[], [], [], 1⟩ (GRef40Out.mk (r4716.fS ++ ((⟨#[1]⟩ : ByteArray) ++ r4711.1)) r4716.fBad r4716.fRaw)
theorem Q15_okT (R_ : RB12) (p_v : GValue) (p_b0 : GRef40Out) (r : GRef40Out) (h : Mo.den (Q15_T R_ p_v p_b0) = some r) : FnH Tryz.prog GI 167 [.ptr 0 0, .dat (GValue.lf1 p_v)] [.box 124 (.dat (GRef40Out.lf1 p_b0))] (.tup []) [.box 124 (.dat (GRef40Out.lf1 r))] :=
 fn_TH BaseK Tryz.func167 (by kernel_rfl) (by kernel_rfl) (by kernel_rfl) (Q15_T R_ p_v p_b0) (fun r => []) (fun r => [.box 124 (.dat (GRef40Out.lf1 r))]) (by kernel_rfl) h
def Q34_L0_T (R_ : RB12) (p_l : List GValue) : (Int × GRef40Out) → Mo ((Int × GRef40Out) ⊕ (GRef40Out)) := fun (v4738, s4739) =>
 .say [.num p_l.length] (okc (by simp : p_l.length = (p_l.map GValue.lf).length) ok0) <|
 .ite (decide ((v4738 : Int) < (p_l.length : Int))) (fun c4740 =>
 .say [.br true] (ok1 c4740) <|
 .ask (gidx p_l v4738) fun x4741 h4742 =>
 .say [.row (GValue.lf1 x4741)] (okc (gidx_ok GValue.lf_eq h4742 : (0 : Int) ≤ v4738 ∧ (p_l.map GValue.lf)[v4738.toNat]? = some (GValue.lf1 x4741)) ok0) <|
 .ask (R_.m1 x4741 s4739) fun r4743 h4744 =>
 .say [.resH [0] (.tup []) [.box 124 (.dat (GRef40Out.lf1 r4743))]] (ok1 (R_.ok1 _ _ _ h4744)) <|
 .ret ⟨[], [0, 1, 4], [], 1⟩ (.inl (IntKind.wrap .i64 (v4738 + 1), r4743))) fun c4740 =>
 .say [.br false] (ok1 c4740) <|
 .ret ⟨[], [], [], 1⟩ (.inr (s4739))
def Q34_L0 (R_ : RB12) (p_l : List GValue) (v4738 : Int) (s4739 : GRef40Out) : Option (GRef40Out) := loopM (fun v_ => (Q34_L0_T R_ p_l v_).den) FU (v4738, s4739)
def Q34_L0_H (R_ : RB12) (p_l : List GValue) : (Int × GRef40Out) → St := fun (v4738, s4739) => ⟨[(0, .ptr 0 0), (1, .lf (.rows 5 (p_l.map GValue.lf))), (4, .lf (.int .i64 v4738))], [.box 124 (.dat (GRef40Out.lf1 s4739))]⟩
def Q34_L0_S  (r_ : GRef40Out) : St := ⟨[], [.box 124 (.dat (GRef40Out.lf1 r_))]⟩
theorem Q34_L0_W {R_ : RB12} {p_l : List GValue} {v4738 : Int} {s4739 : GRef40Out} {r_ : GRef40Out} (h : Q34_L0 R_ p_l v4738 s4739 = some r_) : AWa_ Tryz.f213 1 [1, 1, 0] (.exit 0) (Q34_L0_S r_) (Q34_L0_H R_ p_l (v4738, s4739)) :=
 loop_T BaseK (body := (Code.sub (bodyC Tryz.f213) [1, 1, 0, 0])) (by kernel_rfl) (Q34_L0_T R_ p_l) (Q34_L0_H R_ p_l) (fun _ => .exit 0) Q34_L0_S (fun r_ => rfl) (fun v_ => by kernel_rfl) h
def Q34_T (R_ : RB12) (p_l : List GValue) (p_b0 : GRef40Out) : Mo (GRef40Out) :=
 .say [.num p_l.length] (okc (by simp : p_l.length = (p_l.map GValue.lf).length) ok0) <|
 .ask (Q10 (p_l.length : Int) p_b0) fun r4722 h4723 =>
 .say [.resH [0] (.tup []) [.box 124 (.dat (GRef40Out.lf1 r4722))]] (ok1 (Q10_ok _ _ _ h4723)) <|
 .ask (Q34_L0 R_ p_l 0 r4722) fun r4746 h4747 =>
 .say [.pt_ 0 [0, 1, 4] 1 (.exit 0) (Q34_L0_S r4746)] (ok1 (Q34_L0_W h4747)) <|
 .ret ⟨[], [], [], 1⟩ (r4746)
theorem Q34_okT (R_ : RB12) (p_l : List GValue) (p_b0 : GRef40Out) (r : GRef40Out) (h : Mo.den (Q34_T R_ p_l p_b0) = some r) : FnH Tryz.prog GI 213 [.ptr 0 0, .lf (.rows 5 (p_l.map GValue.lf))] [.box 124 (.dat (GRef40Out.lf1 p_b0))] (.tup []) [.box 124 (.dat (GRef40Out.lf1 r))] :=
 fn_TH BaseK Tryz.func213 (by kernel_rfl) (by kernel_rfl) (by kernel_rfl) (Q34_T R_ p_l p_b0) (fun r => []) (fun r => [.box 124 (.dat (GRef40Out.lf1 r))]) (by kernel_rfl) h
def RB12_F : Nat → RB12
 | 0 => { m1 := fun p_v p_b0 => none, ok1 := fun _ _ _ h => (by cases h), m2 := fun p_l p_b0 => none, ok2 := fun _ _ _ h => (by cases h) }
 | n_ + 1 => { m1 := fun p_v p_b0 => Mo.den (Q15_T (RB12_F n_) p_v p_b0), ok1 := fun p_v p_b0 r h => Q15_okT (RB12_F n_) p_v p_b0 r h, m2 := fun p_l p_b0 => Mo.den (Q34_T (RB12_F n_) p_l p_b0), ok2 := fun p_l p_b0 r h => Q34_okT (RB12_F n_) p_l p_b0 r h }
def Q15 (p_v : GValue) (p_b0 : GRef40Out) : Option (GRef40Out) := (RB12_F FU).m1 p_v p_b0
theorem Q15_ok (p_v : GValue) (p_b0 : GRef40Out) (r : GRef40Out) (h : Q15 p_v p_b0 = some r) : FnH Tryz.prog GI 167 [.ptr 0 0, .dat (GValue.lf1 p_v)] [.box 124 (.dat (GRef40Out.lf1 p_b0))] (.tup []) [.box 124 (.dat (GRef40Out.lf1 r))] := (RB12_F FU).ok1 p_v p_b0 r h
def Q34 (p_l : List GValue) (p_b0 : GRef40Out) : Option (GRef40Out) := (RB12_F FU).m2 p_l p_b0
theorem Q34_ok (p_l : List GValue) (p_b0 : GRef40Out) (r : GRef40Out) (h : Q34 p_l p_b0 = some r) : FnH Tryz.prog GI 213 [.ptr 0 0, .lf (.rows 5 (p_l.map GValue.lf))] [.box 124 (.dat (GRef40Out.lf1 p_b0))] (.tup []) [.box 124 (.dat (GRef40Out.lf1 r))] := (RB12_F FU).ok2 p_l p_b0 r h
def Q28_L0_T (p_l : List ByteArray) : (Int × GRef40Out) → Mo ((Int × GRef40Out) ⊕ (GRef40Out)) := fun (v4806, s4807) =>
 .say [.num p_l.length] (okc (by simp : p_l.length = (p_l.map lfS).length) ok0) <|
 .ite (decide ((v4806 : Int) < (p_l.length : Int))) (fun c4808 =>
 .say [.br true] (ok1 c4808) <|
 .ask (gidx p_l v4806) fun x4809 h4810 =>
 .say [.row (lfS x4809)] (okc (gidx_ok (fun _ => rfl) h4810 : (0 : Int) ≤ v4806 ∧ (p_l.map lfS)[v4806.toNat]? = some (lfS x4809)) ok0) <|
 .ask (Q55 x4809 s4807) fun r4811 h4812 =>
 .say [.resH [0] (.tup []) [.box 124 (.dat (GRef40Out.lf1 r4811))]] (ok1 (Q55_ok _ _ _ h4812)) <|
 .ret ⟨[], [0, 1, 4], [], 1⟩ (.inl (IntKind.wrap .i64 (v4806 + 1), r4811))) fun c4808 =>
 .say [.br false] (ok1 c4808) <|
 .ret ⟨[], [], [], 1⟩ (.inr (s4807))
def Q28_L0 (p_l : List ByteArray) (v4806 : Int) (s4807 : GRef40Out) : Option (GRef40Out) := loopM (fun v_ => (Q28_L0_T p_l v_).den) FU (v4806, s4807)
def Q28_L0_H (p_l : List ByteArray) : (Int × GRef40Out) → St := fun (v4806, s4807) => ⟨[(0, .ptr 0 0), (1, .lf (.rows 1 (p_l.map lfS))), (4, .lf (.int .i64 v4806))], [.box 124 (.dat (GRef40Out.lf1 s4807))]⟩
def Q28_L0_S  (r_ : GRef40Out) : St := ⟨[], [.box 124 (.dat (GRef40Out.lf1 r_))]⟩
theorem Q28_L0_W {p_l : List ByteArray} {v4806 : Int} {s4807 : GRef40Out} {r_ : GRef40Out} (h : Q28_L0 p_l v4806 s4807 = some r_) : AWa_ Tryz.f216 1 [1, 1, 0] (.exit 0) (Q28_L0_S r_) (Q28_L0_H p_l (v4806, s4807)) :=
 loop_T BaseK (body := (Code.sub (bodyC Tryz.f216) [1, 1, 0, 0])) (by kernel_rfl) (Q28_L0_T p_l) (Q28_L0_H p_l) (fun _ => .exit 0) Q28_L0_S (fun r_ => rfl) (fun v_ => by kernel_rfl) h
def Q28_T (p_l : List ByteArray) (p_b0 : GRef40Out) : Mo (GRef40Out) :=
 .say [.num p_l.length] (okc (by simp : p_l.length = (p_l.map lfS).length) ok0) <|
 .ask (Q10 (p_l.length : Int) p_b0) fun r4790 h4791 =>
 .say [.resH [0] (.tup []) [.box 124 (.dat (GRef40Out.lf1 r4790))]] (ok1 (Q10_ok _ _ _ h4791)) <|
 .ask (Q28_L0 p_l 0 r4790) fun r4814 h4815 =>
 .say [.pt_ 0 [0, 1, 4] 1 (.exit 0) (Q28_L0_S r4814)] (ok1 (Q28_L0_W h4815)) <|
 .ret ⟨[], [], [], 1⟩ (r4814)
def Q28 (p_l : List ByteArray) (p_b0 : GRef40Out) : Option (GRef40Out) := Mo.den (Q28_T p_l p_b0)
theorem Q28_ok (p_l : List ByteArray) (p_b0 : GRef40Out) (r : GRef40Out) (h : Q28 p_l p_b0 = some r) : FnH Tryz.prog GI 216 [.ptr 0 0, .lf (.rows 1 (p_l.map lfS))] [.box 124 (.dat (GRef40Out.lf1 p_b0))] (.tup []) [.box 124 (.dat (GRef40Out.lf1 r))] :=
 fn_TH BaseK Tryz.func216 (by kernel_rfl) (by kernel_rfl) (by kernel_rfl) (Q28_T p_l p_b0) (fun r => []) (fun r => [.box 124 (.dat (GRef40Out.lf1 r))]) (by kernel_rfl) h
def Q68_T (p_b : Bool) (p_b0 : GRef40Out) : Mo (GRef40Out) :=
 .ite (p_b) (fun c4824 =>
 .say [.br true] (ok1 c4824) <|
 .grd (p_b0.fS.size + (⟨#[1]⟩ : ByteArray).size ≤ 9223372036854775807) fun h4825 =>
 .say [] (ok1 h4825) <|
 .ret ⟨[], [], [], 1⟩ (GRef40Out.mk (p_b0.fS ++ ⟨#[1]⟩) p_b0.fBad p_b0.fRaw)) fun c4824 =>
 .say [.br false] (ok1 c4824) <|
 .grd (p_b0.fS.size + (⟨#[0]⟩ : ByteArray).size ≤ 9223372036854775807) fun h4826 =>
 .say [] (ok1 h4826) <|
 .ret ⟨[], [], [], 1⟩ (GRef40Out.mk (p_b0.fS ++ ⟨#[0]⟩) p_b0.fBad p_b0.fRaw)
def Q68 (p_b : Bool) (p_b0 : GRef40Out) : Option (GRef40Out) := Mo.den (Q68_T p_b p_b0)
theorem Q68_ok (p_b : Bool) (p_b0 : GRef40Out) (r : GRef40Out) (h : Q68 p_b p_b0 = some r) : FnH Tryz.prog GI 170 [.ptr 0 0, .lf (.bool p_b)] [.box 124 (.dat (GRef40Out.lf1 p_b0))] (.tup []) [.box 124 (.dat (GRef40Out.lf1 r))] :=
 fn_TH BaseK Tryz.func170 (by kernel_rfl) (by kernel_rfl) (by kernel_rfl) (Q68_T p_b p_b0) (fun r => []) (fun r => [.box 124 (.dat (GRef40Out.lf1 r))]) (by kernel_rfl) h
def Q50_L0_T (p_s : GShape) : (Int × GRef40Out) → Mo ((Int × GRef40Out) ⊕ (GRef40Out)) := fun (v4971, s4972) =>
 .say [.num p_s.fPoints.length] (okc (by simp : p_s.fPoints.length = (p_s.fPoints.map GPoint.lf).length) ok0) <|
 .ite (decide ((v4971 : Int) < (p_s.fPoints.length : Int))) (fun c4973 =>
 .say [.br true] (ok1 c4973) <|
 .ask (gidx p_s.fPoints v4971) fun x4974 h4975 =>
 .say [.row (GPoint.lf1 x4974)] (okc (gidx_ok GPoint.lf_eq h4975 : (0 : Int) ≤ v4971 ∧ (p_s.fPoints.map GPoint.lf)[v4971.toNat]? = some (GPoint.lf1 x4974)) ok0) <|
 .ask (Q10 x4974.fX s4972) fun r4976 h4977 =>
 .say [.resH [0] (.tup []) [.box 124 (.dat (GRef40Out.lf1 r4976))]] (ok1 (Q10_ok _ _ _ h4977)) <|
 .ask (gidx p_s.fPoints v4971) fun x4978 h4979 =>
 .say [.row (GPoint.lf1 x4978)] (okc (gidx_ok GPoint.lf_eq h4979 : (0 : Int) ≤ v4971 ∧ (p_s.fPoints.map GPoint.lf)[v4971.toNat]? = some (GPoint.lf1 x4978)) ok0) <|
 .ask (Q10 x4978.fY r4976) fun r4980 h4981 =>
 .say [.resH [0] (.tup []) [.box 124 (.dat (GRef40Out.lf1 r4980))]] (ok1 (Q10_ok _ _ _ h4981)) <|
 .ret ⟨[], [0, 3, 4], [], 2⟩ (.inl (IntKind.wrap .i64 (v4971 + 1), r4980))) fun c4973 =>
 .say [.br false] (ok1 c4973) <|
 .ret ⟨[], [0, 3], [], 2⟩ (.inr (s4972))
def Q50_L0 (p_s : GShape) (v4971 : Int) (s4972 : GRef40Out) : Option (GRef40Out) := loopM (fun v_ => (Q50_L0_T p_s v_).den) FU (v4971, s4972)
def Q50_L0_H (p_s : GShape) : (Int × GRef40Out) → St := fun (v4971, s4972) => ⟨[(0, .ptr 0 0), (3, .ptr 1 0), (4, .lf (.int .i64 v4971))], [.box 124 (.dat (GRef40Out.lf1 s4972)), .box 41 (.dat (GShape.lf1 p_s))]⟩
def Q50_L0_S (p_s : GShape) (r_ : GRef40Out) : St := ⟨[(0, .ptr 0 0), (3, .ptr 1 0)], [.box 124 (.dat (GRef40Out.lf1 r_)), .box 41 (.dat (GShape.lf1 p_s))]⟩
theorem Q50_L0_W {p_s : GShape} {v4971 : Int} {s4972 : GRef40Out} {r_ : GRef40Out} (h : Q50_L0 p_s v4971 s4972 = some r_) : AWa_ Tryz.f261 1 [1, 1, 1, 0, 1, 0] (.exit 0) (Q50_L0_S p_s r_) (Q50_L0_H p_s (v4971, s4972)) :=
 loop_T BaseK (body := (Code.sub (bodyC Tryz.f261) [1, 1, 1, 0, 1, 0, 0])) (by kernel_rfl) (Q50_L0_T p_s) (Q50_L0_H p_s) (fun _ => .exit 0) (Q50_L0_S p_s) (fun r_ => rfl) (fun v_ => by kernel_rfl) h
def Q50_T (p_s : GShape) (p_b0 : GRef40Out) : Mo (GRef40Out) :=
 .ask (Q10 p_s.fKind p_b0) fun r4916 h4917 =>
 .say [.resH [0] (.tup []) [.box 124 (.dat (GRef40Out.lf1 r4916))], .num p_s.fPoints.length] (okc (Q10_ok _ _ _ h4917) (okc (by simp : p_s.fPoints.length = (p_s.fPoints.map GPoint.lf).length) ok0)) <|
 .ask (Q10 (p_s.fPoints.length : Int) r4916) fun r4920 h4921 =>
 .say [.resH [0] (.tup []) [.box 124 (.dat (GRef40Out.lf1 r4920))]] (ok1 (Q10_ok _ _ _ h4921)) <|
 .ask (Q50_L0 p_s 0 r4920) fun r4983 h4984 =>
 .say [.pt_ 0 [0, 3, 4] 2 (.exit 0) (Q50_L0_S p_s r4983)] (ok1 (Q50_L0_W h4984)) <|
 .ask (Q10 p_s.fR r4983) fun r4985 h4986 =>
 .say [.resH [0] (.tup []) [.box 124 (.dat (GRef40Out.lf1 r4985))]] (ok1 (Q10_ok _ _ _ h4986)) <|
 .ret ⟨[.kill 1], [], [], 1⟩ (r4985)
def Q50 (p_s : GShape) (p_b0 : GRef40Out) : Option (GRef40Out) := Mo.den (Q50_T p_s p_b0)
theorem Q50_ok (p_s : GShape) (p_b0 : GRef40Out) (r : GRef40Out) (h : Q50 p_s p_b0 = some r) : FnH Tryz.prog GI 261 [.ptr 0 0, .dat (GShape.lf1 p_s)] [.box 124 (.dat (GRef40Out.lf1 p_b0))] (.tup []) [.box 124 (.dat (GRef40Out.lf1 r))] :=
 fn_TH BaseK Tryz.func261 (by kernel_rfl) (by kernel_rfl) (by kernel_rfl) (Q50_T p_s p_b0) (fun r => []) (fun r => [.box 124 (.dat (GRef40Out.lf1 r))]) (by kernel_rfl) h
structure RB18 where
 m1 : (p_e : GExpr) → (p_b0 : GRef40Out) → Option (GRef40Out)
 ok1 : ∀ (p_e : GExpr) (p_b0 : GRef40Out) (r : GRef40Out), m1 p_e p_b0 = some r → FnH Tryz.prog GI 262 [.ptr 0 0, .dat (GExpr.lf1 p_e)] [.box 124 (.dat (GRef40Out.lf1 p_b0))] (.tup []) [.box 124 (.dat (GRef40Out.lf1 r))]
def Q42_L0_T (R_ : RB18) (p_e : GExpr) : (Int × GRef40Out) → Mo ((Int × GRef40Out) ⊕ (GRef40Out)) := fun (v5033, s5034) =>
 .say [.num p_e.fKids.length] (okc (by simp : p_e.fKids.length = (p_e.fKids.map GExpr.lf).length) ok0) <|
 .ite (decide ((v5033 : Int) < (p_e.fKids.length : Int))) (fun c5035 =>
 .say [.br true] (ok1 c5035) <|
 .ask (gidx p_e.fKids v5033) fun x5036 h5037 =>
 .say [.row (GExpr.lf1 x5036)] (okc (gidx_ok GExpr.lf_eq h5037 : (0 : Int) ≤ v5033 ∧ (p_e.fKids.map GExpr.lf)[v5033.toNat]? = some (GExpr.lf1 x5036)) ok0) <|
 .ask (R_.m1 x5036 s5034) fun r5038 h5039 =>
 .say [.resH [0] (.tup []) [.box 124 (.dat (GRef40Out.lf1 r5038))]] (ok1 (R_.ok1 _ _ _ h5039)) <|
 .ret ⟨[], [0, 3, 4], [], 2⟩ (.inl (IntKind.wrap .i64 (v5033 + 1), r5038))) fun c5035 =>
 .say [.br false] (ok1 c5035) <|
 .ret ⟨[.kill 1], [], [], 2⟩ (.inr (s5034))
def Q42_L0 (R_ : RB18) (p_e : GExpr) (v5033 : Int) (s5034 : GRef40Out) : Option (GRef40Out) := loopM (fun v_ => (Q42_L0_T R_ p_e v_).den) FU (v5033, s5034)
def Q42_L0_H (R_ : RB18) (p_e : GExpr) : (Int × GRef40Out) → St := fun (v5033, s5034) => ⟨[(0, .ptr 0 0), (3, .ptr 1 0), (4, .lf (.int .i64 v5033))], [.box 124 (.dat (GRef40Out.lf1 s5034)), .box 44 (.dat (GExpr.lf1 p_e))]⟩
def Q42_L0_S  (r_ : GRef40Out) : St := ⟨[], [.box 124 (.dat (GRef40Out.lf1 r_)), .dead]⟩
theorem Q42_L0_W {R_ : RB18} {p_e : GExpr} {v5033 : Int} {s5034 : GRef40Out} {r_ : GRef40Out} (h : Q42_L0 R_ p_e v5033 s5034 = some r_) : AWa_ Tryz.f262 1 [1, 1, 1, 1, 1, 1, 1, 1, 1, 0] (.exit 0) (Q42_L0_S r_) (Q42_L0_H R_ p_e (v5033, s5034)) :=
 loop_T BaseK (body := (Code.sub (bodyC Tryz.f262) [1, 1, 1, 1, 1, 1, 1, 1, 1, 0, 0])) (by kernel_rfl) (Q42_L0_T R_ p_e) (Q42_L0_H R_ p_e) (fun _ => .exit 0) Q42_L0_S (fun r_ => rfl) (fun v_ => by kernel_rfl) h
def Q42_T (R_ : RB18) (p_e : GExpr) (p_b0 : GRef40Out) : Mo (GRef40Out) :=
 .ask (Q10 p_e.fOp p_b0) fun r4993 h4994 =>
 .say [.resH [0] (.tup []) [.box 124 (.dat (GRef40Out.lf1 r4993))]] (ok1 (Q10_ok _ _ _ h4994)) <|
 .ask (Q28 p_e.fPath r4993) fun r4997 h4998 =>
 .say [.resH [0] (.tup []) [.box 124 (.dat (GRef40Out.lf1 r4997))]] (ok1 (Q28_ok _ _ _ h4998)) <|
 .ask (Q55 p_e.fName r4997) fun r5001 h5002 =>
 .say [.resH [0] (.tup []) [.box 124 (.dat (GRef40Out.lf1 r5001))]] (ok1 (Q55_ok _ _ _ h5002)) <|
 .ask (Q28 p_e.fNames r5001) fun r5005 h5006 =>
 .say [.resH [0] (.tup []) [.box 124 (.dat (GRef40Out.lf1 r5005))]] (ok1 (Q28_ok _ _ _ h5006)) <|
 .ask (Q15 p_e.fArg r5005) fun r5009 h5010 =>
 .say [.resH [0] (.tup []) [.box 124 (.dat (GRef40Out.lf1 r5009))]] (ok1 (Q15_ok _ _ _ h5010)) <|
 .ask (Q10 p_e.fN r5009) fun r5013 h5014 =>
 .say [.resH [0] (.tup []) [.box 124 (.dat (GRef40Out.lf1 r5013))], .num p_e.fKids.length] (okc (Q10_ok _ _ _ h5014) (okc (by simp : p_e.fKids.length = (p_e.fKids.map GExpr.lf).length) ok0)) <|
 .ask (Q10 (p_e.fKids.length : Int) r5013) fun r5017 h5018 =>
 .say [.resH [0] (.tup []) [.box 124 (.dat (GRef40Out.lf1 r5017))]] (ok1 (Q10_ok _ _ _ h5018)) <|
 .ask (Q42_L0 R_ p_e 0 r5017) fun r5042 h5043 =>
 .say [.pt_ 0 [0, 3, 4] 2 (.exit 0) (Q42_L0_S r5042)] (ok1 (Q42_L0_W h5043)) <|
 .ret ⟨[], [], [], 1⟩ (r5042)
theorem Q42_okT (R_ : RB18) (p_e : GExpr) (p_b0 : GRef40Out) (r : GRef40Out) (h : Mo.den (Q42_T R_ p_e p_b0) = some r) : FnH Tryz.prog GI 262 [.ptr 0 0, .dat (GExpr.lf1 p_e)] [.box 124 (.dat (GRef40Out.lf1 p_b0))] (.tup []) [.box 124 (.dat (GRef40Out.lf1 r))] :=
 fn_TH BaseK Tryz.func262 (by kernel_rfl) (by kernel_rfl) (by kernel_rfl) (Q42_T R_ p_e p_b0) (fun r => []) (fun r => [.box 124 (.dat (GRef40Out.lf1 r))]) (by kernel_rfl) h
def RB18_F : Nat → RB18
 | 0 => { m1 := fun p_e p_b0 => none, ok1 := fun _ _ _ h => (by cases h) }
 | n_ + 1 => { m1 := fun p_e p_b0 => Mo.den (Q42_T (RB18_F n_) p_e p_b0), ok1 := fun p_e p_b0 r h => Q42_okT (RB18_F n_) p_e p_b0 r h }
def Q42 (p_e : GExpr) (p_b0 : GRef40Out) : Option (GRef40Out) := (RB18_F FU).m1 p_e p_b0
theorem Q42_ok (p_e : GExpr) (p_b0 : GRef40Out) (r : GRef40Out) (h : Q42 p_e p_b0 = some r) : FnH Tryz.prog GI 262 [.ptr 0 0, .dat (GExpr.lf1 p_e)] [.box 124 (.dat (GRef40Out.lf1 p_b0))] (.tup []) [.box 124 (.dat (GRef40Out.lf1 r))] := (RB18_F FU).ok1 p_e p_b0 r h
structure RB17 where
 m1 : (p_p : GPred) → (p_b0 : GRef40Out) → Option (GRef40Out)
 ok1 : ∀ (p_p : GPred) (p_b0 : GRef40Out) (r : GRef40Out), m1 p_p p_b0 = some r → FnH Tryz.prog GI 217 [.ptr 0 0, .dat (GPred.lf1 p_p)] [.box 124 (.dat (GRef40Out.lf1 p_b0))] (.tup []) [.box 124 (.dat (GRef40Out.lf1 r))]
def Q43_L0_T (R_ : RB17) (p_p : GPred) : (Int × GRef40Out) → Mo ((Int × GRef40Out) ⊕ (GRef40Out)) := fun (v5066, s5067) =>
 .say [.num p_p.fKids.length] (okc (by simp : p_p.fKids.length = (p_p.fKids.map GPred.lf).length) ok0) <|
 .ite (decide ((v5066 : Int) < (p_p.fKids.length : Int))) (fun c5068 =>
 .say [.br true] (ok1 c5068) <|
 .ask (gidx p_p.fKids v5066) fun x5069 h5070 =>
 .say [.row (GPred.lf1 x5069)] (okc (gidx_ok GPred.lf_eq h5070 : (0 : Int) ≤ v5066 ∧ (p_p.fKids.map GPred.lf)[v5066.toNat]? = some (GPred.lf1 x5069)) ok0) <|
 .ask (R_.m1 x5069 s5067) fun r5071 h5072 =>
 .say [.resH [0] (.tup []) [.box 124 (.dat (GRef40Out.lf1 r5071))]] (ok1 (R_.ok1 _ _ _ h5072)) <|
 .ret ⟨[], [0, 3, 4], [], 2⟩ (.inl (IntKind.wrap .i64 (v5066 + 1), r5071))) fun c5068 =>
 .say [.br false] (ok1 c5068) <|
 .ret ⟨[.kill 1], [], [], 2⟩ (.inr (s5067))
def Q43_L0 (R_ : RB17) (p_p : GPred) (v5066 : Int) (s5067 : GRef40Out) : Option (GRef40Out) := loopM (fun v_ => (Q43_L0_T R_ p_p v_).den) FU (v5066, s5067)
def Q43_L0_H (R_ : RB17) (p_p : GPred) : (Int × GRef40Out) → St := fun (v5066, s5067) => ⟨[(0, .ptr 0 0), (3, .ptr 1 0), (4, .lf (.int .i64 v5066))], [.box 124 (.dat (GRef40Out.lf1 s5067)), .box 47 (.dat (GPred.lf1 p_p))]⟩
def Q43_L0_S  (r_ : GRef40Out) : St := ⟨[], [.box 124 (.dat (GRef40Out.lf1 r_)), .dead]⟩
theorem Q43_L0_W {R_ : RB17} {p_p : GPred} {v5066 : Int} {s5067 : GRef40Out} {r_ : GRef40Out} (h : Q43_L0 R_ p_p v5066 s5067 = some r_) : AWa_ Tryz.f217 1 [1, 1, 1, 1, 1, 1, 1, 1, 1, 1, 1, 0] (.exit 0) (Q43_L0_S r_) (Q43_L0_H R_ p_p (v5066, s5067)) :=
 loop_T BaseK (body := (Code.sub (bodyC Tryz.f217) [1, 1, 1, 1, 1, 1, 1, 1, 1, 1, 1, 0, 0])) (by kernel_rfl) (Q43_L0_T R_ p_p) (Q43_L0_H R_ p_p) (fun _ => .exit 0) Q43_L0_S (fun r_ => rfl) (fun v_ => by kernel_rfl) h
def Q43_T (R_ : RB17) (p_p : GPred) (p_b0 : GRef40Out) : Mo (GRef40Out) :=
 .ask (Q10 p_p.fOp p_b0) fun r4892 h4893 =>
 .say [.resH [0] (.tup []) [.box 124 (.dat (GRef40Out.lf1 r4892))]] (ok1 (Q10_ok _ _ _ h4893)) <|
 .ask (Q28 p_p.fPath r4892) fun r4896 h4897 =>
 .say [.resH [0] (.tup []) [.box 124 (.dat (GRef40Out.lf1 r4896))]] (ok1 (Q28_ok _ _ _ h4897)) <|
 .ask (Q15 p_p.fArg r4896) fun r4900 h4901 =>
 .say [.resH [0] (.tup []) [.box 124 (.dat (GRef40Out.lf1 r4900))]] (ok1 (Q15_ok _ _ _ h4901)) <|
 .ask (Q34 p_p.fArgs r4900) fun r4904 h4905 =>
 .say [.resH [0] (.tup []) [.box 124 (.dat (GRef40Out.lf1 r4904))]] (ok1 (Q34_ok _ _ _ h4905)) <|
 .ask (Q10 p_p.fN r4904) fun r4908 h4909 =>
 .say [.resH [0] (.tup []) [.box 124 (.dat (GRef40Out.lf1 r4908))]] (ok1 (Q10_ok _ _ _ h4909)) <|
 .ask (Q10 p_p.fM r4908) fun r4912 h4913 =>
 .say [.resH [0] (.tup []) [.box 124 (.dat (GRef40Out.lf1 r4912))]] (ok1 (Q10_ok _ _ _ h4913)) <|
 .ask (Q50 p_p.fShape r4912) fun r4989 h4990 =>
 .say [.resH [0] (.tup []) [.box 124 (.dat (GRef40Out.lf1 r4989))]] (ok1 (Q50_ok _ _ _ h4990)) <|
 .ask (Q42 p_p.fExpr r4989) fun r5046 h5047 =>
 .say [.resH [0] (.tup []) [.box 124 (.dat (GRef40Out.lf1 r5046))], .num p_p.fKids.length] (okc (Q42_ok _ _ _ h5047) (okc (by simp : p_p.fKids.length = (p_p.fKids.map GPred.lf).length) ok0)) <|
 .ask (Q10 (p_p.fKids.length : Int) r5046) fun r5050 h5051 =>
 .say [.resH [0] (.tup []) [.box 124 (.dat (GRef40Out.lf1 r5050))]] (ok1 (Q10_ok _ _ _ h5051)) <|
 .ask (Q43_L0 R_ p_p 0 r5050) fun r5075 h5076 =>
 .say [.pt_ 0 [0, 3, 4] 2 (.exit 0) (Q43_L0_S r5075)] (ok1 (Q43_L0_W h5076)) <|
 .ret ⟨[], [], [], 1⟩ (r5075)
theorem Q43_okT (R_ : RB17) (p_p : GPred) (p_b0 : GRef40Out) (r : GRef40Out) (h : Mo.den (Q43_T R_ p_p p_b0) = some r) : FnH Tryz.prog GI 217 [.ptr 0 0, .dat (GPred.lf1 p_p)] [.box 124 (.dat (GRef40Out.lf1 p_b0))] (.tup []) [.box 124 (.dat (GRef40Out.lf1 r))] :=
 fn_TH BaseK Tryz.func217 (by kernel_rfl) (by kernel_rfl) (by kernel_rfl) (Q43_T R_ p_p p_b0) (fun r => []) (fun r => [.box 124 (.dat (GRef40Out.lf1 r))]) (by kernel_rfl) h
def RB17_F : Nat → RB17
 | 0 => { m1 := fun p_p p_b0 => none, ok1 := fun _ _ _ h => (by cases h) }
 | n_ + 1 => { m1 := fun p_p p_b0 => Mo.den (Q43_T (RB17_F n_) p_p p_b0), ok1 := fun p_p p_b0 r h => Q43_okT (RB17_F n_) p_p p_b0 r h }
def Q43 (p_p : GPred) (p_b0 : GRef40Out) : Option (GRef40Out) := (RB17_F FU).m1 p_p p_b0
theorem Q43_ok (p_p : GPred) (p_b0 : GRef40Out) (r : GRef40Out) (h : Q43 p_p p_b0 = some r) : FnH Tryz.prog GI 217 [.ptr 0 0, .dat (GPred.lf1 p_p)] [.box 124 (.dat (GRef40Out.lf1 p_b0))] (.tup []) [.box 124 (.dat (GRef40Out.lf1 r))] := (RB17_F FU).ok1 p_p p_b0 r h
def Q41_L0_T (p_x : GIndex) : (Int × GRef40Out) → Mo ((Int × GRef40Out) ⊕ (GRef40Out)) := fun (v4864, s4865) =>
 .say [.num p_x.fKeys.length] (okc (by simp : p_x.fKeys.length = (p_x.fKeys.map GOrder.lf).length) ok0) <|
 .ite (decide ((v4864 : Int) < (p_x.fKeys.length : Int))) (fun c4866 =>
 .say [.br true] (ok1 c4866) <|
 .ask (gidx p_x.fKeys v4864) fun x4867 h4868 =>
 .say [.row (GOrder.lf1 x4867)] (okc (gidx_ok GOrder.lf_eq h4868 : (0 : Int) ≤ v4864 ∧ (p_x.fKeys.map GOrder.lf)[v4864.toNat]? = some (GOrder.lf1 x4867)) ok0) <|
 .ask (Q28 x4867.fPath s4865) fun r4869 h4870 =>
 .say [.resH [0] (.tup []) [.box 124 (.dat (GRef40Out.lf1 r4869))]] (ok1 (Q28_ok _ _ _ h4870)) <|
 .ask (gidx p_x.fKeys v4864) fun x4871 h4872 =>
 .say [.row (GOrder.lf1 x4871)] (okc (gidx_ok GOrder.lf_eq h4872 : (0 : Int) ≤ v4864 ∧ (p_x.fKeys.map GOrder.lf)[v4864.toNat]? = some (GOrder.lf1 x4871)) ok0) <|
 .ask (Q68 x4871.fDesc r4869) fun r4873 h4874 =>
 .say [.resH [0] (.tup []) [.box 124 (.dat (GRef40Out.lf1 r4873))]] (ok1 (Q68_ok _ _ _ h4874)) <|
 .ret ⟨[], [0, 3, 4], [], 2⟩ (.inl (IntKind.wrap .i64 (v4864 + 1), r4873))) fun c4866 =>
 .say [.br false] (ok1 c4866) <|
 .ret ⟨[], [0, 3], [], 2⟩ (.inr (s4865))
def Q41_L0 (p_x : GIndex) (v4864 : Int) (s4865 : GRef40Out) : Option (GRef40Out) := loopM (fun v_ => (Q41_L0_T p_x v_).den) FU (v4864, s4865)
def Q41_L0_H (p_x : GIndex) : (Int × GRef40Out) → St := fun (v4864, s4865) => ⟨[(0, .ptr 0 0), (3, .ptr 1 0), (4, .lf (.int .i64 v4864))], [.box 124 (.dat (GRef40Out.lf1 s4865)), .box 49 (.dat (GIndex.lf1 p_x))]⟩
def Q41_L0_S (p_x : GIndex) (r_ : GRef40Out) : St := ⟨[(0, .ptr 0 0), (3, .ptr 1 0)], [.box 124 (.dat (GRef40Out.lf1 r_)), .box 49 (.dat (GIndex.lf1 p_x))]⟩
theorem Q41_L0_W {p_x : GIndex} {v4864 : Int} {s4865 : GRef40Out} {r_ : GRef40Out} (h : Q41_L0 p_x v4864 s4865 = some r_) : AWa_ Tryz.f169 1 [1, 1, 1, 1, 0, 1, 0] (.exit 0) (Q41_L0_S p_x r_) (Q41_L0_H p_x (v4864, s4865)) :=
 loop_T BaseK (body := (Code.sub (bodyC Tryz.f169) [1, 1, 1, 1, 0, 1, 0, 0])) (by kernel_rfl) (Q41_L0_T p_x) (Q41_L0_H p_x) (fun _ => .exit 0) (Q41_L0_S p_x) (fun r_ => rfl) (fun v_ => by kernel_rfl) h
def Q41_T (p_x : GIndex) (p_b0 : GRef40Out) : Mo (GRef40Out) :=
 .ask (Q55 p_x.fName p_b0) fun r4774 h4775 =>
 .say [.resH [0] (.tup []) [.box 124 (.dat (GRef40Out.lf1 r4774))]] (ok1 (Q55_ok _ _ _ h4775)) <|
 .ask (Q10 p_x.fKind r4774) fun r4778 h4779 =>
 .say [.resH [0] (.tup []) [.box 124 (.dat (GRef40Out.lf1 r4778))], .num p_x.fKeys.length] (okc (Q10_ok _ _ _ h4779) (okc (by simp : p_x.fKeys.length = (p_x.fKeys.map GOrder.lf).length) ok0)) <|
 .ask (Q10 (p_x.fKeys.length : Int) r4778) fun r4782 h4783 =>
 .say [.resH [0] (.tup []) [.box 124 (.dat (GRef40Out.lf1 r4782))]] (ok1 (Q10_ok _ _ _ h4783)) <|
 .ask (Q41_L0 p_x 0 r4782) fun r4876 h4877 =>
 .say [.pt_ 0 [0, 3, 4] 2 (.exit 0) (Q41_L0_S p_x r4876)] (ok1 (Q41_L0_W h4877)) <|
 .ask (Q68 p_x.fUnique r4876) fun r4880 h4881 =>
 .say [.resH [0] (.tup []) [.box 124 (.dat (GRef40Out.lf1 r4880))]] (ok1 (Q68_ok _ _ _ h4881)) <|
 .ask (Q68 p_x.fSparse r4880) fun r4884 h4885 =>
 .say [.resH [0] (.tup []) [.box 124 (.dat (GRef40Out.lf1 r4884))]] (ok1 (Q68_ok _ _ _ h4885)) <|
 .ask (Q68 p_x.fPartial r4884) fun r4888 h4889 =>
 .say [.resH [0] (.tup []) [.box 124 (.dat (GRef40Out.lf1 r4888))]] (ok1 (Q68_ok _ _ _ h4889)) <|
 .ask (Q43 p_x.fWhere r4888) fun r5077 h5078 =>
 .say [.resH [0] (.tup []) [.box 124 (.dat (GRef40Out.lf1 r5077))]] (ok1 (Q43_ok _ _ _ h5078)) <|
 .ret ⟨[.kill 1], [], [], 1⟩ (r5077)
def Q41 (p_x : GIndex) (p_b0 : GRef40Out) : Option (GRef40Out) := Mo.den (Q41_T p_x p_b0)
theorem Q41_ok (p_x : GIndex) (p_b0 : GRef40Out) (r : GRef40Out) (h : Q41 p_x p_b0 = some r) : FnH Tryz.prog GI 169 [.ptr 0 0, .dat (GIndex.lf1 p_x)] [.box 124 (.dat (GRef40Out.lf1 p_b0))] (.tup []) [.box 124 (.dat (GRef40Out.lf1 r))] :=
 fn_TH BaseK Tryz.func169 (by kernel_rfl) (by kernel_rfl) (by kernel_rfl) (Q41_T p_x p_b0) (fun r => []) (fun r => [.box 124 (.dat (GRef40Out.lf1 r))]) (by kernel_rfl) h
structure RB19 where
 m1 : (p_s : GSchema) → (p_b0 : GRef40Out) → Option (GRef40Out)
 ok1 : ∀ (p_s : GSchema) (p_b0 : GRef40Out) (r : GRef40Out), m1 p_s p_b0 = some r → FnH Tryz.prog GI 215 [.ptr 0 0, .dat (GSchema.lf1 p_s)] [.box 124 (.dat (GRef40Out.lf1 p_b0))] (.tup []) [.box 124 (.dat (GRef40Out.lf1 r))]
def Q18_L0_T (R_ : RB19) (p_s : GSchema) : (Int × GRef40Out) → Mo ((Int × GRef40Out) ⊕ (GRef40Out)) := fun (v5203, s5204) =>
 .say [.num p_s.fProps.length] (okc (by simp : p_s.fProps.length = (p_s.fProps.map GProp.lf).length) ok0) <|
 .ite (decide ((v5203 : Int) < (p_s.fProps.length : Int))) (fun c5205 =>
 .say [.br true] (ok1 c5205) <|
 .ask (gidx p_s.fProps v5203) fun x5206 h5207 =>
 .say [.row (GProp.lf1 x5206)] (okc (gidx_ok GProp.lf_eq h5207 : (0 : Int) ≤ v5203 ∧ (p_s.fProps.map GProp.lf)[v5203.toNat]? = some (GProp.lf1 x5206)) ok0) <|
 .ask (Q55 x5206.fName s5204) fun r5208 h5209 =>
 .say [.resH [0] (.tup []) [.box 124 (.dat (GRef40Out.lf1 r5208))]] (ok1 (Q55_ok _ _ _ h5209)) <|
 .ask (gidx p_s.fProps v5203) fun x5210 h5211 =>
 .say [.row (GProp.lf1 x5210)] (okc (gidx_ok GProp.lf_eq h5211 : (0 : Int) ≤ v5203 ∧ (p_s.fProps.map GProp.lf)[v5203.toNat]? = some (GProp.lf1 x5210)) ok0) <|
 .ask (R_.m1 x5210.fSchema r5208) fun r5212 h5213 =>
 .say [.resH [0] (.tup []) [.box 124 (.dat (GRef40Out.lf1 r5212))]] (ok1 (R_.ok1 _ _ _ h5213)) <|
 .ret ⟨[], [0, 3, 4], [], 2⟩ (.inl (IntKind.wrap .i64 (v5203 + 1), r5212))) fun c5205 =>
 .say [.br false] (ok1 c5205) <|
 .ret ⟨[], [0, 3], [], 2⟩ (.inr (s5204))
def Q18_L0 (R_ : RB19) (p_s : GSchema) (v5203 : Int) (s5204 : GRef40Out) : Option (GRef40Out) := loopM (fun v_ => (Q18_L0_T R_ p_s v_).den) FU (v5203, s5204)
def Q18_L0_H (R_ : RB19) (p_s : GSchema) : (Int × GRef40Out) → St := fun (v5203, s5204) => ⟨[(0, .ptr 0 0), (3, .ptr 1 0), (4, .lf (.int .i64 v5203))], [.box 124 (.dat (GRef40Out.lf1 s5204)), .box 35 (.dat (GSchema.lf1 p_s))]⟩
def Q18_L0_S (p_s : GSchema) (r_ : GRef40Out) : St := ⟨[(0, .ptr 0 0), (3, .ptr 1 0)], [.box 124 (.dat (GRef40Out.lf1 r_)), .box 35 (.dat (GSchema.lf1 p_s))]⟩
theorem Q18_L0_W {R_ : RB19} {p_s : GSchema} {v5203 : Int} {s5204 : GRef40Out} {r_ : GRef40Out} (h : Q18_L0 R_ p_s v5203 s5204 = some r_) : AWa_ Tryz.f215 1 [1, 1, 1, 1, 1, 1, 1, 1, 1, 1, 1, 0, 1, 0] (.exit 0) (Q18_L0_S p_s r_) (Q18_L0_H R_ p_s (v5203, s5204)) :=
 loop_T BaseK (body := (Code.sub (bodyC Tryz.f215) [1, 1, 1, 1, 1, 1, 1, 1, 1, 1, 1, 0, 1, 0, 0])) (by kernel_rfl) (Q18_L0_T R_ p_s) (Q18_L0_H R_ p_s) (fun _ => .exit 0) (Q18_L0_S p_s) (fun r_ => rfl) (fun v_ => by kernel_rfl) h
def Q18_L6_T (R_ : RB19) (p_s : GSchema) : (Int × GRef40Out) → Mo ((Int × GRef40Out) ⊕ (GRef40Out)) := fun (v5254, s5255) =>
 .say [.num p_s.fItems.length] (okc (by simp : p_s.fItems.length = (p_s.fItems.map GSchema.lf).length) ok0) <|
 .ite (decide ((v5254 : Int) < (p_s.fItems.length : Int))) (fun c5256 =>
 .say [.br true] (ok1 c5256) <|
 .ask (gidx p_s.fItems v5254) fun x5257 h5258 =>
 .say [.row (GSchema.lf1 x5257)] (okc (gidx_ok GSchema.lf_eq h5258 : (0 : Int) ≤ v5254 ∧ (p_s.fItems.map GSchema.lf)[v5254.toNat]? = some (GSchema.lf1 x5257)) ok0) <|
 .ask (R_.m1 x5257 s5255) fun r5259 h5260 =>
 .say [.resH [0] (.tup []) [.box 124 (.dat (GRef40Out.lf1 r5259))]] (ok1 (R_.ok1 _ _ _ h5260)) <|
 .ret ⟨[], [0, 3, 5], [], 2⟩ (.inl (IntKind.wrap .i64 (v5254 + 1), r5259))) fun c5256 =>
 .say [.br false] (ok1 c5256) <|
 .ret ⟨[], [0, 3], [], 2⟩ (.inr (s5255))
def Q18_L6 (R_ : RB19) (p_s : GSchema) (v5254 : Int) (s5255 : GRef40Out) : Option (GRef40Out) := loopM (fun v_ => (Q18_L6_T R_ p_s v_).den) FU (v5254, s5255)
def Q18_L6_H (R_ : RB19) (p_s : GSchema) : (Int × GRef40Out) → St := fun (v5254, s5255) => ⟨[(0, .ptr 0 0), (3, .ptr 1 0), (5, .lf (.int .i64 v5254))], [.box 124 (.dat (GRef40Out.lf1 s5255)), .box 35 (.dat (GSchema.lf1 p_s))]⟩
def Q18_L6_S (p_s : GSchema) (r_ : GRef40Out) : St := ⟨[(0, .ptr 0 0), (3, .ptr 1 0)], [.box 124 (.dat (GRef40Out.lf1 r_)), .box 35 (.dat (GSchema.lf1 p_s))]⟩
theorem Q18_L6_W {R_ : RB19} {p_s : GSchema} {v5254 : Int} {s5255 : GRef40Out} {r_ : GRef40Out} (h : Q18_L6 R_ p_s v5254 s5255 = some r_) : AWa_ Tryz.f215 1 [1, 1, 1, 1, 1, 1, 1, 1, 1, 1, 1, 1, 1, 1, 0, 1, 0] (.exit 2) (Q18_L6_S p_s r_) (Q18_L6_H R_ p_s (v5254, s5255)) :=
 loop_T BaseK (body := (Code.sub (bodyC Tryz.f215) [1, 1, 1, 1, 1, 1, 1, 1, 1, 1, 1, 1, 1, 1, 0, 1, 0, 0])) (by kernel_rfl) (Q18_L6_T R_ p_s) (Q18_L6_H R_ p_s) (fun _ => .exit 2) (Q18_L6_S p_s) (fun r_ => rfl) (fun v_ => by kernel_rfl) h
def Q18_T (R_ : RB19) (p_s : GSchema) (p_b0 : GRef40Out) : Mo (GRef40Out) :=
 .ask (Q10 p_s.fKinds p_b0) fun r5116 h5117 =>
 .say [.resH [0] (.tup []) [.box 124 (.dat (GRef40Out.lf1 r5116))]] (ok1 (Q10_ok _ _ _ h5117)) <|
 .ask (Q68 p_s.fHasMin r5116) fun r5120 h5121 =>
 .say [.resH [0] (.tup []) [.box 124 (.dat (GRef40Out.lf1 r5120))]] (ok1 (Q68_ok _ _ _ h5121)) <|
 .ask (Q15 p_s.fMin r5120) fun r5124 h5125 =>
 .say [.resH [0] (.tup []) [.box 124 (.dat (GRef40Out.lf1 r5124))]] (ok1 (Q15_ok _ _ _ h5125)) <|
 .ask (Q68 p_s.fHasMax r5124) fun r5128 h5129 =>
 .say [.resH [0] (.tup []) [.box 124 (.dat (GRef40Out.lf1 r5128))]] (ok1 (Q68_ok _ _ _ h5129)) <|
 .ask (Q15 p_s.fMax r5128) fun r5132 h5133 =>
 .say [.resH [0] (.tup []) [.box 124 (.dat (GRef40Out.lf1 r5132))]] (ok1 (Q15_ok _ _ _ h5133)) <|
 .ask (Q34 p_s.fEnum r5132) fun r5136 h5137 =>
 .say [.resH [0] (.tup []) [.box 124 (.dat (GRef40Out.lf1 r5136))]] (ok1 (Q34_ok _ _ _ h5137)) <|
 .ask (Q10 p_s.fMinLen r5136) fun r5140 h5141 =>
 .say [.resH [0] (.tup []) [.box 124 (.dat (GRef40Out.lf1 r5140))]] (ok1 (Q10_ok _ _ _ h5141)) <|
 .ask (Q10 p_s.fMaxLen r5140) fun r5144 h5145 =>
 .say [.resH [0] (.tup []) [.box 124 (.dat (GRef40Out.lf1 r5144))]] (ok1 (Q10_ok _ _ _ h5145)) <|
 .ask (Q28 p_s.fRequired r5144) fun r5148 h5149 =>
 .say [.resH [0] (.tup []) [.box 124 (.dat (GRef40Out.lf1 r5148))], .num p_s.fProps.length] (okc (Q28_ok _ _ _ h5149) (okc (by simp : p_s.fProps.length = (p_s.fProps.map GProp.lf).length) ok0)) <|
 .ask (Q10 (p_s.fProps.length : Int) r5148) fun r5152 h5153 =>
 .say [.resH [0] (.tup []) [.box 124 (.dat (GRef40Out.lf1 r5152))]] (ok1 (Q10_ok _ _ _ h5153)) <|
 .ask (Q18_L0 R_ p_s 0 r5152) fun r5215 h5216 =>
 .say [.pt_ 0 [0, 3, 4] 2 (.exit 0) (Q18_L0_S p_s r5215)] (ok1 (Q18_L0_W h5216)) <|
 .ask (Q68 p_s.fClosed r5215) fun r5219 h5220 =>
 .say [.resH [0] (.tup []) [.box 124 (.dat (GRef40Out.lf1 r5219))], .num p_s.fItems.length] (okc (Q68_ok _ _ _ h5220) (okc (by simp : p_s.fItems.length = (p_s.fItems.map GSchema.lf).length) ok0)) <|
 .ask (Q10 (p_s.fItems.length : Int) r5219) fun r5223 h5224 =>
 .say [.resH [0] (.tup []) [.box 124 (.dat (GRef40Out.lf1 r5223))]] (ok1 (Q10_ok _ _ _ h5224)) <|
 .ask (Q18_L6 R_ p_s 0 r5223) fun r5262 h5263 =>
 .say [.pt_ 0 [0, 3, 5] 2 (.exit 2) (Q18_L6_S p_s r5262)] (ok1 (Q18_L6_W h5263)) <|
 .ask (Q68 p_s.fUnique r5262) fun r5264 h5265 =>
 .say [.resH [0] (.tup []) [.box 124 (.dat (GRef40Out.lf1 r5264))]] (ok1 (Q68_ok _ _ _ h5265)) <|
 .ret ⟨[.kill 1], [], [], 1⟩ (r5264)
theorem Q18_okT (R_ : RB19) (p_s : GSchema) (p_b0 : GRef40Out) (r : GRef40Out) (h : Mo.den (Q18_T R_ p_s p_b0) = some r) : FnH Tryz.prog GI 215 [.ptr 0 0, .dat (GSchema.lf1 p_s)] [.box 124 (.dat (GRef40Out.lf1 p_b0))] (.tup []) [.box 124 (.dat (GRef40Out.lf1 r))] :=
 fn_TH BaseK Tryz.func215 (by kernel_rfl) (by kernel_rfl) (by kernel_rfl) (Q18_T R_ p_s p_b0) (fun r => []) (fun r => [.box 124 (.dat (GRef40Out.lf1 r))]) (by kernel_rfl) h
def RB19_F : Nat → RB19
 | 0 => { m1 := fun p_s p_b0 => none, ok1 := fun _ _ _ h => (by cases h) }
 | n_ + 1 => { m1 := fun p_s p_b0 => Mo.den (Q18_T (RB19_F n_) p_s p_b0), ok1 := fun p_s p_b0 r h => Q18_okT (RB19_F n_) p_s p_b0 r h }
def Q18 (p_s : GSchema) (p_b0 : GRef40Out) : Option (GRef40Out) := (RB19_F FU).m1 p_s p_b0
theorem Q18_ok (p_s : GSchema) (p_b0 : GRef40Out) (r : GRef40Out) (h : Q18 p_s p_b0 = some r) : FnH Tryz.prog GI 215 [.ptr 0 0, .dat (GSchema.lf1 p_s)] [.box 124 (.dat (GRef40Out.lf1 p_b0))] (.tup []) [.box 124 (.dat (GRef40Out.lf1 r))] := (RB19_F FU).ok1 p_s p_b0 r h
def Q51_L0_T (p_d : GSpace) : (Int × GRef40Out) → Mo ((Int × GRef40Out) ⊕ (GRef40Out)) := fun (v5104, s5105) =>
 .say [.num p_d.fIndexes.length] (okc (by simp : p_d.fIndexes.length = (p_d.fIndexes.map GIndex.lf).length) ok0) <|
 .ite (decide ((v5104 : Int) < (p_d.fIndexes.length : Int))) (fun c5106 =>
 .say [.br true] (ok1 c5106) <|
 .ask (gidx p_d.fIndexes v5104) fun x5107 h5108 =>
 .say [.row (GIndex.lf1 x5107)] (okc (gidx_ok GIndex.lf_eq h5108 : (0 : Int) ≤ v5104 ∧ (p_d.fIndexes.map GIndex.lf)[v5104.toNat]? = some (GIndex.lf1 x5107)) ok0) <|
 .ask (Q41 x5107 s5105) fun r5109 h5110 =>
 .say [.resH [0] (.tup []) [.box 124 (.dat (GRef40Out.lf1 r5109))]] (ok1 (Q41_ok _ _ _ h5110)) <|
 .ret ⟨[], [0, 3, 4], [], 2⟩ (.inl (IntKind.wrap .i64 (v5104 + 1), r5109))) fun c5106 =>
 .say [.br false] (ok1 c5106) <|
 .ret ⟨[], [0, 3], [], 2⟩ (.inr (s5105))
def Q51_L0 (p_d : GSpace) (v5104 : Int) (s5105 : GRef40Out) : Option (GRef40Out) := loopM (fun v_ => (Q51_L0_T p_d v_).den) FU (v5104, s5105)
def Q51_L0_H (p_d : GSpace) : (Int × GRef40Out) → St := fun (v5104, s5105) => ⟨[(0, .ptr 0 0), (3, .ptr 1 0), (4, .lf (.int .i64 v5104))], [.box 124 (.dat (GRef40Out.lf1 s5105)), .box 37 (.dat (GSpace.lf1 p_d))]⟩
def Q51_L0_S (p_d : GSpace) (r_ : GRef40Out) : St := ⟨[(0, .ptr 0 0), (3, .ptr 1 0)], [.box 124 (.dat (GRef40Out.lf1 r_)), .box 37 (.dat (GSpace.lf1 p_d))]⟩
theorem Q51_L0_W {p_d : GSpace} {v5104 : Int} {s5105 : GRef40Out} {r_ : GRef40Out} (h : Q51_L0 p_d v5104 s5105 = some r_) : AWa_ Tryz.f168 1 [1, 1, 1, 0, 1, 0] (.exit 0) (Q51_L0_S p_d r_) (Q51_L0_H p_d (v5104, s5105)) :=
 loop_T BaseK (body := (Code.sub (bodyC Tryz.f168) [1, 1, 1, 0, 1, 0, 0])) (by kernel_rfl) (Q51_L0_T p_d) (Q51_L0_H p_d) (fun _ => .exit 0) (Q51_L0_S p_d) (fun r_ => rfl) (fun v_ => by kernel_rfl) h
def Q51_T (p_d : GSpace) (p_b0 : GRef40Out) : Mo (GRef40Out) :=
 .ask (Q55 p_d.fName p_b0) fun r4762 h4763 =>
 .say [.resH [0] (.tup []) [.box 124 (.dat (GRef40Out.lf1 r4762))], .num p_d.fIndexes.length] (okc (Q55_ok _ _ _ h4763) (okc (by simp : p_d.fIndexes.length = (p_d.fIndexes.map GIndex.lf).length) ok0)) <|
 .ask (Q10 (p_d.fIndexes.length : Int) r4762) fun r4766 h4767 =>
 .say [.resH [0] (.tup []) [.box 124 (.dat (GRef40Out.lf1 r4766))]] (ok1 (Q10_ok _ _ _ h4767)) <|
 .ask (Q51_L0 p_d 0 r4766) fun r5112 h5113 =>
 .say [.pt_ 0 [0, 3, 4] 2 (.exit 0) (Q51_L0_S p_d r5112)] (ok1 (Q51_L0_W h5113)) <|
 .ask (Q18 p_d.fSchema r5112) fun r5268 h5269 =>
 .say [.resH [0] (.tup []) [.box 124 (.dat (GRef40Out.lf1 r5268))]] (ok1 (Q18_ok _ _ _ h5269)) <|
 .ask (Q10 p_d.fLevel r5268) fun r5272 h5273 =>
 .say [.resH [0] (.tup []) [.box 124 (.dat (GRef40Out.lf1 r5272))]] (ok1 (Q10_ok _ _ _ h5273)) <|
 .ask (Q10 p_d.fAction r5272) fun r5274 h5275 =>
 .say [.resH [0] (.tup []) [.box 124 (.dat (GRef40Out.lf1 r5274))]] (ok1 (Q10_ok _ _ _ h5275)) <|
 .ret ⟨[.kill 1], [], [], 1⟩ (r5274)
def Q51 (p_d : GSpace) (p_b0 : GRef40Out) : Option (GRef40Out) := Mo.den (Q51_T p_d p_b0)
theorem Q51_ok (p_d : GSpace) (p_b0 : GRef40Out) (r : GRef40Out) (h : Q51 p_d p_b0 = some r) : FnH Tryz.prog GI 168 [.ptr 0 0, .dat (GSpace.lf1 p_d)] [.box 124 (.dat (GRef40Out.lf1 p_b0))] (.tup []) [.box 124 (.dat (GRef40Out.lf1 r))] :=
 fn_TH BaseK Tryz.func168 (by kernel_rfl) (by kernel_rfl) (by kernel_rfl) (Q51_T p_d p_b0) (fun r => []) (fun r => [.box 124 (.dat (GRef40Out.lf1 r))]) (by kernel_rfl) h
structure RB11 where
 m1 : (p_x : GWrite) → (p_b0 : GRef40Out) → Option (GRef40Out)
 ok1 : ∀ (p_x : GWrite) (p_b0 : GRef40Out) (r : GRef40Out), m1 p_x p_b0 = some r → FnH Tryz.prog GI 125 [.ptr 0 0, .dat (GWrite.lf1 p_x)] [.box 124 (.dat (GRef40Out.lf1 p_b0))] (.tup []) [.box 124 (.dat (GRef40Out.lf1 r))]
def Q19_L0_T (R_ : RB11) (p_x : GWrite) : (Int × GRef40Out) → Mo ((Int × GRef40Out) ⊕ (GRef40Out)) := fun (v5325, s5326) =>
 .say [.num p_x.fWrites.length] (okc (by simp : p_x.fWrites.length = (p_x.fWrites.map GWrite.lf).length) ok0) <|
 .ite (decide ((v5325 : Int) < (p_x.fWrites.length : Int))) (fun c5327 =>
 .say [.br true] (ok1 c5327) <|
 .ask (gidx p_x.fWrites v5325) fun x5328 h5329 =>
 .say [.row (GWrite.lf1 x5328)] (okc (gidx_ok GWrite.lf_eq h5329 : (0 : Int) ≤ v5325 ∧ (p_x.fWrites.map GWrite.lf)[v5325.toNat]? = some (GWrite.lf1 x5328)) ok0) <|
 .ask (R_.m1 x5328 s5326) fun r5330 h5331 =>
 .say [.resH [0] (.tup []) [.box 124 (.dat (GRef40Out.lf1 r5330))]] (ok1 (R_.ok1 _ _ _ h5331)) <|
 .ret ⟨[], [0, 3, 4], [], 2⟩ (.inl (IntKind.wrap .i64 (v5325 + 1), r5330))) fun c5327 =>
 .say [.br false] (ok1 c5327) <|
 .ret ⟨[], [0, 3], [], 2⟩ (.inr (s5326))
def Q19_L0 (R_ : RB11) (p_x : GWrite) (v5325 : Int) (s5326 : GRef40Out) : Option (GRef40Out) := loopM (fun v_ => (Q19_L0_T R_ p_x v_).den) FU (v5325, s5326)
def Q19_L0_H (R_ : RB11) (p_x : GWrite) : (Int × GRef40Out) → St := fun (v5325, s5326) => ⟨[(0, .ptr 0 0), (3, .ptr 1 0), (4, .lf (.int .i64 v5325))], [.box 124 (.dat (GRef40Out.lf1 s5326)), .box 52 (.dat (GWrite.lf1 p_x))]⟩
def Q19_L0_S (p_x : GWrite) (r_ : GRef40Out) : St := ⟨[(0, .ptr 0 0), (3, .ptr 1 0)], [.box 124 (.dat (GRef40Out.lf1 r_)), .box 52 (.dat (GWrite.lf1 p_x))]⟩
theorem Q19_L0_W {R_ : RB11} {p_x : GWrite} {v5325 : Int} {s5326 : GRef40Out} {r_ : GRef40Out} (h : Q19_L0 R_ p_x v5325 s5326 = some r_) : AWa_ Tryz.f125 1 [1, 1, 1, 1, 1, 1, 1, 1, 1, 1, 1, 0, 1, 0] (.exit 0) (Q19_L0_S p_x r_) (Q19_L0_H R_ p_x (v5325, s5326)) :=
 loop_T BaseK (body := (Code.sub (bodyC Tryz.f125) [1, 1, 1, 1, 1, 1, 1, 1, 1, 1, 1, 0, 1, 0, 0])) (by kernel_rfl) (Q19_L0_T R_ p_x) (Q19_L0_H R_ p_x) (fun _ => .exit 0) (Q19_L0_S p_x) (fun r_ => rfl) (fun v_ => by kernel_rfl) h
def Q19_L6_T (R_ : RB11) (p_x : GWrite) : (Int × GRef40Out) → Mo ((Int × GRef40Out) ⊕ (GRef40Out)) := fun (v5368, s5369) =>
 .say [.num p_x.fShards.length] (okc (by simp : p_x.fShards.length = (p_x.fShards.map lfI).length) ok0) <|
 .ite (decide ((v5368 : Int) < (p_x.fShards.length : Int))) (fun c5370 =>
 .say [.br true] (ok1 c5370) <|
 .ask (gidx p_x.fShards v5368) fun x5371 h5372 =>
 .say [.row (lfI x5371)] (okc (gidx_ok (fun _ => rfl) h5372 : (0 : Int) ≤ v5368 ∧ (p_x.fShards.map lfI)[v5368.toNat]? = some (lfI x5371)) ok0) <|
 .ask (Q10 x5371 s5369) fun r5373 h5374 =>
 .say [.resH [0] (.tup []) [.box 124 (.dat (GRef40Out.lf1 r5373))]] (ok1 (Q10_ok _ _ _ h5374)) <|
 .ret ⟨[], [0, 3, 5], [], 2⟩ (.inl (IntKind.wrap .i64 (v5368 + 1), r5373))) fun c5370 =>
 .say [.br false] (ok1 c5370) <|
 .ret ⟨[], [0, 3], [], 2⟩ (.inr (s5369))
def Q19_L6 (R_ : RB11) (p_x : GWrite) (v5368 : Int) (s5369 : GRef40Out) : Option (GRef40Out) := loopM (fun v_ => (Q19_L6_T R_ p_x v_).den) FU (v5368, s5369)
def Q19_L6_H (R_ : RB11) (p_x : GWrite) : (Int × GRef40Out) → St := fun (v5368, s5369) => ⟨[(0, .ptr 0 0), (3, .ptr 1 0), (5, .lf (.int .i64 v5368))], [.box 124 (.dat (GRef40Out.lf1 s5369)), .box 52 (.dat (GWrite.lf1 p_x))]⟩
def Q19_L6_S (p_x : GWrite) (r_ : GRef40Out) : St := ⟨[(0, .ptr 0 0), (3, .ptr 1 0)], [.box 124 (.dat (GRef40Out.lf1 r_)), .box 52 (.dat (GWrite.lf1 p_x))]⟩
theorem Q19_L6_W {R_ : RB11} {p_x : GWrite} {v5368 : Int} {s5369 : GRef40Out} {r_ : GRef40Out} (h : Q19_L6 R_ p_x v5368 s5369 = some r_) : AWa_ Tryz.f125 1 [1, 1, 1, 1, 1, 1, 1, 1, 1, 1, 1, 1, 1, 0, 1, 0] (.exit 2) (Q19_L6_S p_x r_) (Q19_L6_H R_ p_x (v5368, s5369)) :=
 loop_T BaseK (body := (Code.sub (bodyC Tryz.f125) [1, 1, 1, 1, 1, 1, 1, 1, 1, 1, 1, 1, 1, 0, 1, 0, 0])) (by kernel_rfl) (Q19_L6_T R_ p_x) (Q19_L6_H R_ p_x) (fun _ => .exit 2) (Q19_L6_S p_x) (fun r_ => rfl) (fun v_ => by kernel_rfl) h
def Q19_T (R_ : RB11) (p_x : GWrite) (p_b0 : GRef40Out) : Mo (GRef40Out) :=
 .ask (Q10 p_x.fKind p_b0) fun r3054 h3055 =>
 .say [.resH [0] (.tup []) [.box 124 (.dat (GRef40Out.lf1 r3054))]] (ok1 (Q10_ok _ _ _ h3055)) <|
 .ask (Q55 p_x.fSpace r3054) fun r3058 h3059 =>
 .say [.resH [0] (.tup []) [.box 124 (.dat (GRef40Out.lf1 r3058))]] (ok1 (Q55_ok _ _ _ h3059)) <|
 .ask (Q15 p_x.fKey r3058) fun r4750 h4751 =>
 .say [.resH [0] (.tup []) [.box 124 (.dat (GRef40Out.lf1 r4750))]] (ok1 (Q15_ok _ _ _ h4751)) <|
 .ask (Q15 p_x.fDoc r4750) fun r4754 h4755 =>
 .say [.resH [0] (.tup []) [.box 124 (.dat (GRef40Out.lf1 r4754))]] (ok1 (Q15_ok _ _ _ h4755)) <|
 .ask (Q15 p_x.fBefore r4754) fun r4758 h4759 =>
 .say [.resH [0] (.tup []) [.box 124 (.dat (GRef40Out.lf1 r4758))]] (ok1 (Q15_ok _ _ _ h4759)) <|
 .ask (Q51 p_x.fDef r4758) fun r5278 h5279 =>
 .say [.resH [0] (.tup []) [.box 124 (.dat (GRef40Out.lf1 r5278))]] (ok1 (Q51_ok _ _ _ h5279)) <|
 .ask (Q41 p_x.fIndex r5278) fun r5282 h5283 =>
 .say [.resH [0] (.tup []) [.box 124 (.dat (GRef40Out.lf1 r5282))]] (ok1 (Q41_ok _ _ _ h5283)) <|
 .ask (Q55 p_x.fTxn r5282) fun r5286 h5287 =>
 .say [.resH [0] (.tup []) [.box 124 (.dat (GRef40Out.lf1 r5286))]] (ok1 (Q55_ok _ _ _ h5287)) <|
 .ask (Q10 p_x.fStamp r5286) fun r5290 h5291 =>
 .say [.resH [0] (.tup []) [.box 124 (.dat (GRef40Out.lf1 r5290))], .num p_x.fWrites.length] (okc (Q10_ok _ _ _ h5291) (okc (by simp : p_x.fWrites.length = (p_x.fWrites.map GWrite.lf).length) ok0)) <|
 .ask (Q10 (p_x.fWrites.length : Int) r5290) fun r5294 h5295 =>
 .say [.resH [0] (.tup []) [.box 124 (.dat (GRef40Out.lf1 r5294))]] (ok1 (Q10_ok _ _ _ h5295)) <|
 .ask (Q19_L0 R_ p_x 0 r5294) fun r5333 h5334 =>
 .say [.pt_ 0 [0, 3, 4] 2 (.exit 0) (Q19_L0_S p_x r5333), .num p_x.fShards.length] (okc (Q19_L0_W h5334) (okc (by simp : p_x.fShards.length = (p_x.fShards.map lfI).length) ok0)) <|
 .ask (Q10 (p_x.fShards.length : Int) r5333) fun r5337 h5338 =>
 .say [.resH [0] (.tup []) [.box 124 (.dat (GRef40Out.lf1 r5337))]] (ok1 (Q10_ok _ _ _ h5338)) <|
 .ask (Q19_L6 R_ p_x 0 r5337) fun r5376 h5377 =>
 .say [.pt_ 0 [0, 3, 5] 2 (.exit 2) (Q19_L6_S p_x r5376)] (ok1 (Q19_L6_W h5377)) <|
 .ask (Q68 p_x.fSilent r5376) fun r5378 h5379 =>
 .say [.resH [0] (.tup []) [.box 124 (.dat (GRef40Out.lf1 r5378))]] (ok1 (Q68_ok _ _ _ h5379)) <|
 .ret ⟨[.kill 1], [], [], 1⟩ (r5378)
theorem Q19_okT (R_ : RB11) (p_x : GWrite) (p_b0 : GRef40Out) (r : GRef40Out) (h : Mo.den (Q19_T R_ p_x p_b0) = some r) : FnH Tryz.prog GI 125 [.ptr 0 0, .dat (GWrite.lf1 p_x)] [.box 124 (.dat (GRef40Out.lf1 p_b0))] (.tup []) [.box 124 (.dat (GRef40Out.lf1 r))] :=
 fn_TH BaseK Tryz.func125 (by kernel_rfl) (by kernel_rfl) (by kernel_rfl) (Q19_T R_ p_x p_b0) (fun r => []) (fun r => [.box 124 (.dat (GRef40Out.lf1 r))]) (by kernel_rfl) h
def RB11_F : Nat → RB11
 | 0 => { m1 := fun p_x p_b0 => none, ok1 := fun _ _ _ h => (by cases h) }
 | n_ + 1 => { m1 := fun p_x p_b0 => Mo.den (Q19_T (RB11_F n_) p_x p_b0), ok1 := fun p_x p_b0 r h => Q19_okT (RB11_F n_) p_x p_b0 r h }
def Q19 (p_x : GWrite) (p_b0 : GRef40Out) : Option (GRef40Out) := (RB11_F FU).m1 p_x p_b0
theorem Q19_ok (p_x : GWrite) (p_b0 : GRef40Out) (r : GRef40Out) (h : Q19 p_x p_b0 = some r) : FnH Tryz.prog GI 125 [.ptr 0 0, .dat (GWrite.lf1 p_x)] [.box 124 (.dat (GRef40Out.lf1 p_b0))] (.tup []) [.box 124 (.dat (GRef40Out.lf1 r))] := (RB11_F FU).ok1 p_x p_b0 r h
def Q92_T (p_e : GEntry) (p_b0 : GRef40Out) : Mo (GRef40Out) :=
 .ask (Q10 p_e.fTerm p_b0) fun r3033 h3034 =>
 .say [.resH [0] (.tup []) [.box 124 (.dat (GRef40Out.lf1 r3033))]] (ok1 (Q10_ok _ _ _ h3034)) <|
 .ask (Q10 p_e.fStamp r3033) fun r3037 h3038 =>
 .say [.resH [0] (.tup []) [.box 124 (.dat (GRef40Out.lf1 r3037))]] (ok1 (Q10_ok _ _ _ h3038)) <|
 .ask (Q55 p_e.fSession r3037) fun r3046 h3047 =>
 .say [.resH [0] (.tup []) [.box 124 (.dat (GRef40Out.lf1 r3046))]] (ok1 (Q55_ok _ _ _ h3047)) <|
 .ask (Q10 p_e.fNumber r3046) fun r3050 h3051 =>
 .say [.resH [0] (.tup []) [.box 124 (.dat (GRef40Out.lf1 r3050))]] (ok1 (Q10_ok _ _ _ h3051)) <|
 .ask (Q19 p_e.fWrite r3050) fun r5380 h5381 =>
 .say [.resH [0] (.tup []) [.box 124 (.dat (GRef40Out.lf1 r5380))]] (ok1 (Q19_ok _ _ _ h5381)) <|
 .ret ⟨[.kill 1], [], [], 1⟩ (r5380)
def Q92 (p_e : GEntry) (p_b0 : GRef40Out) : Option (GRef40Out) := Mo.den (Q92_T p_e p_b0)
theorem Q92_ok (p_e : GEntry) (p_b0 : GRef40Out) (r : GRef40Out) (h : Q92 p_e p_b0 = some r) : FnH Tryz.prog GI 92 [.ptr 0 0, .dat (GEntry.lf1 p_e)] [.box 124 (.dat (GRef40Out.lf1 p_b0))] (.tup []) [.box 124 (.dat (GRef40Out.lf1 r))] :=
 fn_TH BaseK Tryz.func92 (by kernel_rfl) (by kernel_rfl) (by kernel_rfl) (Q92_T p_e p_b0) (fun r => []) (fun r => [.box 124 (.dat (GRef40Out.lf1 r))]) (by kernel_rfl) h
def Q96_T (p_e : GEntry) : Mo (ByteArray) :=
 .say [.at_ 6 1, .norm 1] ok0 <|
 .ask (Q92 p_e (GRef40Out.mk ⟨#[]⟩ false true)) fun r5384 h5385 =>
 .say [.resH [1] (.tup []) [.box 124 (.dat (GRef40Out.lf1 r5384))]] (ok1 (Q92_ok _ _ _ h5385)) <|
 .ret (fitN 1) (r5384.fS)
def Q96 (p_e : GEntry) : Option (ByteArray) := Mo.den (Q96_T p_e)
theorem Q96_ok (p_e : GEntry) (r : ByteArray) (h : Q96 p_e = some r) : Fn Tryz.prog GI 61 [.dat (GEntry.lf1 p_e)] (.lf (.str r)) :=
 fn_T BaseK Tryz.func61 (by kernel_rfl) (by kernel_rfl) (by kernel_rfl) (Q96_T p_e) (fun r => [.lf (.str r)]) (by kernel_rfl) h
def Q24_L0_T (p_a : List GEntry) (p_b : List GEntry) : (Int) → Mo ((Int) ⊕ (Unit ⊕ Unit)) := fun (v5434) =>
 .say [.num p_a.length] (okc (by simp : p_a.length = (p_a.map GEntry.lf).length) ok0) <|
 .ite (decide ((v5434 : Int) < (p_a.length : Int))) (fun c5435 =>
 .say [.br true] (ok1 c5435) <|
 .ask (gidx p_a v5434) fun x5436 h5437 =>
 .say [] (okc (gidx_ok GEntry.lf_eq h5437 : (0 : Int) ≤ v5434 ∧ (p_a.map GEntry.lf)[v5434.toNat]? = some (GEntry.lf1 x5436)) ok0) <|
 .ask (gidx p_b v5434) fun x5438 h5439 =>
 .say [] (okc (gidx_ok GEntry.lf_eq h5439 : (0 : Int) ≤ v5434 ∧ (p_b.map GEntry.lf)[v5434.toNat]? = some (GEntry.lf1 x5438)) ok0) <|
 .ask (Q96 x5436) fun r5440 h5441 =>
 .say [] (ok1 (Q96_ok _ _ h5441)) <|
 .ask (Q96 x5438) fun r5442 h5443 =>
 .say [.orderT (.q 0 (.q 1 (.q 2 (.q 3 (.q 5 (.q 6 (.q 7 (.q 8 (.l 4 (.l 9 (.q 10 .fin))))))))))) (some 9) [] [.row (GEntry.lf1 x5436), .row (GEntry.lf1 x5438), .res (.lf (.str r5440)), .res (.lf (.str r5442))] [0, 1, 5, 27] 0 [(0, .lf (.rows 82 (p_a.map GEntry.lf))), (1, .lf (.rows 82 (p_b.map GEntry.lf))), (5, .lf (.int .i64 v5434)), (27, .lf (.bool (!decide ((r5440 : ByteArray) = (r5442 : ByteArray)))))] []] (okc (Q96_ok _ _ h5443) (okc (rfl : (some ⟨[(0, .lf (.rows 82 (p_a.map GEntry.lf))), (1, .lf (.rows 82 (p_b.map GEntry.lf))), (5, .lf (.int .i64 v5434)), (27, .lf (.bool (!decide ((r5440 : ByteArray) = (r5442 : ByteArray)))))], []⟩ : Option St) = some ⟨[(0, .lf (.rows 82 (p_a.map GEntry.lf))), (1, .lf (.rows 82 (p_b.map GEntry.lf))), (5, .lf (.int .i64 v5434)), (27, .lf (.bool (!decide ((r5440 : ByteArray) = (r5442 : ByteArray)))))], []⟩) ok0)) <|
 .ite (!decide ((r5440 : ByteArray) = (r5442 : ByteArray))) (fun c5444 =>
 .say [.br true] (ok1 c5444) <|
 .ret ⟨[], [4], [], 0⟩ (.inr (.inl ()))) fun c5444 =>
 .say [.br false] (ok1 c5444) <|
 .ret ⟨[], [0, 1, 5], [], 0⟩ (.inl (IntKind.wrap .i64 (v5434 + 1)))) fun c5435 =>
 .say [.br false] (ok1 c5435) <|
 .ret ⟨[], [], [], 0⟩ (.inr (.inr (())))
def Q24_L0 (p_a : List GEntry) (p_b : List GEntry) (v5434 : Int) : Option (Unit ⊕ Unit) := loopM (fun v_ => (Q24_L0_T p_a p_b v_).den) FU (v5434)
def Q24_L0_H (p_a : List GEntry) (p_b : List GEntry) : (Int) → St := fun (v5434) => ⟨[(0, .lf (.rows 82 (p_a.map GEntry.lf))), (1, .lf (.rows 82 (p_b.map GEntry.lf))), (5, .lf (.int .i64 v5434))], []⟩
def Q24_L0_X (r_ : Unit ⊕ Unit) : Exit := match r_ with
 | .inl o_ => .ret
 | .inr (o_) => .exit 0
def Q24_L0_S  (r_ : Unit ⊕ Unit) : St := match r_ with
 | .inl o_ => ⟨[(4, .lf (.bool false))], []⟩
 | .inr (o_) => ⟨[], []⟩
theorem Q24_L0_W {p_a : List GEntry} {p_b : List GEntry} {v5434 : Int} {r_ : Unit ⊕ Unit} (h : Q24_L0 p_a p_b v5434 = some r_) : AWa_ Tryz.f28 0 [1, 1, 0, 1, 0] (Q24_L0_X r_) (Q24_L0_S r_) (Q24_L0_H p_a p_b (v5434)) :=
 loop_T BaseK (body := (Code.sub (bodyC Tryz.f28) [1, 1, 0, 1, 0, 0])) (by kernel_rfl) (Q24_L0_T p_a p_b) (Q24_L0_H p_a p_b) Q24_L0_X Q24_L0_S (fun r_ => by rcases r_ with _ | _ <;> rfl) (fun v_ => by kernel_rfl) h
def Q24_T (p_a : List GEntry) (p_b : List GEntry) : Mo (Bool) :=
 .say [.num p_a.length, .num p_b.length] (okc (by simp : p_a.length = (p_a.map GEntry.lf).length) (okc (by simp : p_b.length = (p_b.map GEntry.lf).length) ok0)) <|
 .ite ((p_a.length : Int) != (p_b.length : Int)) (fun c2973 =>
 .say [.br true] (ok1 c2973) <|
 .ret (fitN 1) (false)) fun c2973 =>
 .say [.br false] (ok1 c2973) <|
 .ask2 (Q24_L0 p_a p_b 0) (fun o5447 h5446 =>
 .say [.pt_ 0 [0, 1, 5] 0 (Q24_L0_X (.inl o5447)) (Q24_L0_S (.inl o5447))] (ok1 (Q24_L0_W h5446)) <|
 .ret (fitN 1) (false)) fun o5448 h5446 =>
 .say [.pt_ 0 [0, 1, 5] 0 (Q24_L0_X (.inr (o5448))) (Q24_L0_S (.inr (o5448)))] (ok1 (Q24_L0_W h5446)) <|
 .ret (fitN 1) (true)
def Q24 (p_a : List GEntry) (p_b : List GEntry) : Option (Bool) := Mo.den (Q24_T p_a p_b)
theorem Q24_ok (p_a : List GEntry) (p_b : List GEntry) (r : Bool) (h : Q24 p_a p_b = some r) : Fn Tryz.prog GI 28 [.lf (.rows 82 (p_a.map GEntry.lf)), .lf (.rows 82 (p_b.map GEntry.lf))] (.lf (.bool r)) :=
 fn_T BaseK Tryz.func28 (by kernel_rfl) (by kernel_rfl) (by kernel_rfl) (Q24_T p_a p_b) (fun r => [.lf (.bool r)]) (by kernel_rfl) h
def Q2_J0_T (p_a : List GMessage) (p_b : List GMessage) (v5634 : Int) (x5636 : GMessage) (x5638 : GMessage) : Mo (Bool) :=
 .ite (x5636.fFrom != x5638.fFrom) (fun c5640 =>
 .say [.gd 16005 true] (ok1 c5640) <|
 .ret ⟨[], [0, 1, 5, 6, 7, 38], [], 2⟩ (true)) fun c5640 =>
 .say [.gd 16005 false] (ok1 c5640) <|
 .ret ⟨[], [0, 1, 5, 6, 7, 38], [], 2⟩ (x5636.fTo != x5638.fTo)
def Q2_J0 (p_a : List GMessage) (p_b : List GMessage) (v5634 : Int) (x5636 : GMessage) (x5638 : GMessage) : Option (Bool) := Mo.den (Q2_J0_T p_a p_b v5634 x5636 x5638)
def Q2_J0_S (p_a : List GMessage) (p_b : List GMessage) (v5634 : Int) (x5636 : GMessage) (x5638 : GMessage) (r_ : Bool) : St := ⟨[(0, .lf (.rows 9 (p_a.map GMessage.lf))), (1, .lf (.rows 9 (p_b.map GMessage.lf))), (5, .lf (.int .i64 v5634)), (6, .ptr 0 0), (7, .ptr 1 0), (38, .lf (.bool r_))], [.box 63 (.agg ((GMessage.lf1 x5636).map AV.lf)), .box 63 (.agg ((GMessage.lf1 x5638).map AV.lf))]⟩
theorem Q2_J0_W {p_a : List GMessage} {p_b : List GMessage} {v5634 : Int} {x5636 : GMessage} {x5638 : GMessage} {r_ : Bool} (h : Q2_J0 p_a p_b v5634 x5636 x5638 = some r_) : AWoa_ Tryz.f18 0 [1, 1, 0, 1, 0, 0, 1, 0, 0, 1, 0] [0, 1, 2, 3, 4, 5, 6, 7, 8, 9, 10, 11] (Q2_J0_S p_a p_b v5634 x5636 x5638 r_) ⟨[(0, .lf (.rows 9 (p_a.map GMessage.lf))), (1, .lf (.rows 9 (p_b.map GMessage.lf))), (5, .lf (.int .i64 v5634)), (6, .ptr 0 0), (7, .ptr 1 0)], [.box 63 (.agg ((GMessage.lf1 x5636).map AV.lf)), .box 63 (.agg ((GMessage.lf1 x5638).map AV.lf))]⟩ :=
 seg_T BaseK (Q2_J0_T p_a p_b v5634 x5636 x5638) (Q2_J0_S p_a p_b v5634 x5636 x5638) (by kernel_rfl) h
def Q2_J5_T (p_a : List GMessage) (p_b : List GMessage) (r5642 : Bool) (v5634 : Int) (x5636 : GMessage) (x5638 : GMessage) : Mo (Bool) :=
 .ite (r5642) (fun c5644 =>
 .say [.gd 16012 true] (ok1 c5644) <|
 .ret ⟨[], [0, 1, 5, 6, 7, 45], [], 2⟩ (true)) fun c5644 =>
 .say [.gd 16012 false] (ok1 c5644) <|
 .ret ⟨[], [0, 1, 5, 6, 7, 45], [], 2⟩ (x5636.fKind != x5638.fKind)
def Q2_J5 (p_a : List GMessage) (p_b : List GMessage) (r5642 : Bool) (v5634 : Int) (x5636 : GMessage) (x5638 : GMessage) : Option (Bool) := Mo.den (Q2_J5_T p_a p_b r5642 v5634 x5636 x5638)
def Q2_J5_S (p_a : List GMessage) (p_b : List GMessage) (v5634 : Int) (x5636 : GMessage) (x5638 : GMessage) (r_ : Bool) : St := ⟨[(0, .lf (.rows 9 (p_a.map GMessage.lf))), (1, .lf (.rows 9 (p_b.map GMessage.lf))), (5, .lf (.int .i64 v5634)), (6, .ptr 0 0), (7, .ptr 1 0), (45, .lf (.bool r_))], [.box 63 (.agg ((GMessage.lf1 x5636).map AV.lf)), .box 63 (.agg ((GMessage.lf1 x5638).map AV.lf))]⟩
theorem Q2_J5_W {p_a : List GMessage} {p_b : List GMessage} {r5642 : Bool} {v5634 : Int} {x5636 : GMessage} {x5638 : GMessage} {r_ : Bool} (h : Q2_J5 p_a p_b r5642 v5634 x5636 x5638 = some r_) : AWoa_ Tryz.f18 0 [1, 1, 0, 1, 0, 0, 1, 0, 0, 1, 0] [12, 13, 14, 15, 16, 17, 18] (Q2_J5_S p_a p_b v5634 x5636 x5638 r_) ⟨[(0, .lf (.rows 9 (p_a.map GMessage.lf))), (1, .lf (.rows 9 (p_b.map GMessage.lf))), (5, .lf (.int .i64 v5634)), (6, .ptr 0 0), (7, .ptr 1 0), (38, .lf (.bool r5642))], [.box 63 (.agg ((GMessage.lf1 x5636).map AV.lf)), .box 63 (.agg ((GMessage.lf1 x5638).map AV.lf))]⟩ :=
 seg_T BaseK (Q2_J5_T p_a p_b r5642 v5634 x5636 x5638) (Q2_J5_S p_a p_b v5634 x5636 x5638) (by kernel_rfl) h
def Q2_J10_T (p_a : List GMessage) (p_b : List GMessage) (r5646 : Bool) (v5634 : Int) (x5636 : GMessage) (x5638 : GMessage) : Mo (Bool) :=
 .ite (r5646) (fun c5648 =>
 .say [.gd 16019 true] (ok1 c5648) <|
 .ret ⟨[], [0, 1, 5, 6, 7, 52], [], 2⟩ (true)) fun c5648 =>
 .say [.gd 16019 false] (ok1 c5648) <|
 .ret ⟨[], [0, 1, 5, 6, 7, 52], [], 2⟩ (x5636.fTerm != x5638.fTerm)
def Q2_J10 (p_a : List GMessage) (p_b : List GMessage) (r5646 : Bool) (v5634 : Int) (x5636 : GMessage) (x5638 : GMessage) : Option (Bool) := Mo.den (Q2_J10_T p_a p_b r5646 v5634 x5636 x5638)
def Q2_J10_S (p_a : List GMessage) (p_b : List GMessage) (v5634 : Int) (x5636 : GMessage) (x5638 : GMessage) (r_ : Bool) : St := ⟨[(0, .lf (.rows 9 (p_a.map GMessage.lf))), (1, .lf (.rows 9 (p_b.map GMessage.lf))), (5, .lf (.int .i64 v5634)), (6, .ptr 0 0), (7, .ptr 1 0), (52, .lf (.bool r_))], [.box 63 (.agg ((GMessage.lf1 x5636).map AV.lf)), .box 63 (.agg ((GMessage.lf1 x5638).map AV.lf))]⟩
theorem Q2_J10_W {p_a : List GMessage} {p_b : List GMessage} {r5646 : Bool} {v5634 : Int} {x5636 : GMessage} {x5638 : GMessage} {r_ : Bool} (h : Q2_J10 p_a p_b r5646 v5634 x5636 x5638 = some r_) : AWoa_ Tryz.f18 0 [1, 1, 0, 1, 0, 0, 1, 0, 0, 1, 0] [19, 20, 21, 22, 23, 24, 25] (Q2_J10_S p_a p_b v5634 x5636 x5638 r_) ⟨[(0, .lf (.rows 9 (p_a.map GMessage.lf))), (1, .lf (.rows 9 (p_b.map GMessage.lf))), (5, .lf (.int .i64 v5634)), (6, .ptr 0 0), (7, .ptr 1 0), (45, .lf (.bool r5646))], [.box 63 (.agg ((GMessage.lf1 x5636).map AV.lf)), .box 63 (.agg ((GMessage.lf1 x5638).map AV.lf))]⟩ :=
 seg_T BaseK (Q2_J10_T p_a p_b r5646 v5634 x5636 x5638) (Q2_J10_S p_a p_b v5634 x5636 x5638) (by kernel_rfl) h
def Q2_J15_T (p_a : List GMessage) (p_b : List GMessage) (r5650 : Bool) (v5634 : Int) (x5636 : GMessage) (x5638 : GMessage) : Mo (Bool) :=
 .ite (r5650) (fun c5652 =>
 .say [.gd 16026 true] (ok1 c5652) <|
 .ret ⟨[], [0, 1, 5, 6, 7, 59], [], 2⟩ (true)) fun c5652 =>
 .say [.gd 16026 false] (ok1 c5652) <|
 .ret ⟨[], [0, 1, 5, 6, 7, 59], [], 2⟩ (x5636.fIndex != x5638.fIndex)
def Q2_J15 (p_a : List GMessage) (p_b : List GMessage) (r5650 : Bool) (v5634 : Int) (x5636 : GMessage) (x5638 : GMessage) : Option (Bool) := Mo.den (Q2_J15_T p_a p_b r5650 v5634 x5636 x5638)
def Q2_J15_S (p_a : List GMessage) (p_b : List GMessage) (v5634 : Int) (x5636 : GMessage) (x5638 : GMessage) (r_ : Bool) : St := ⟨[(0, .lf (.rows 9 (p_a.map GMessage.lf))), (1, .lf (.rows 9 (p_b.map GMessage.lf))), (5, .lf (.int .i64 v5634)), (6, .ptr 0 0), (7, .ptr 1 0), (59, .lf (.bool r_))], [.box 63 (.agg ((GMessage.lf1 x5636).map AV.lf)), .box 63 (.agg ((GMessage.lf1 x5638).map AV.lf))]⟩
theorem Q2_J15_W {p_a : List GMessage} {p_b : List GMessage} {r5650 : Bool} {v5634 : Int} {x5636 : GMessage} {x5638 : GMessage} {r_ : Bool} (h : Q2_J15 p_a p_b r5650 v5634 x5636 x5638 = some r_) : AWoa_ Tryz.f18 0 [1, 1, 0, 1, 0, 0, 1, 0, 0, 1, 0] [26, 27, 28, 29, 30, 31, 32] (Q2_J15_S p_a p_b v5634 x5636 x5638 r_) ⟨[(0, .lf (.rows 9 (p_a.map GMessage.lf))), (1, .lf (.rows 9 (p_b.map GMessage.lf))), (5, .lf (.int .i64 v5634)), (6, .ptr 0 0), (7, .ptr 1 0), (52, .lf (.bool r5650))], [.box 63 (.agg ((GMessage.lf1 x5636).map AV.lf)), .box 63 (.agg ((GMessage.lf1 x5638).map AV.lf))]⟩ :=
 seg_T BaseK (Q2_J15_T p_a p_b r5650 v5634 x5636 x5638) (Q2_J15_S p_a p_b v5634 x5636 x5638) (by kernel_rfl) h
def Q2_J20_T (p_a : List GMessage) (p_b : List GMessage) (r5654 : Bool) (v5634 : Int) (x5636 : GMessage) (x5638 : GMessage) : Mo (Bool) :=
 .ite (r5654) (fun c5656 =>
 .say [.gd 16033 true] (ok1 c5656) <|
 .ret ⟨[], [0, 1, 5, 6, 7, 66], [], 2⟩ (true)) fun c5656 =>
 .say [.gd 16033 false] (ok1 c5656) <|
 .ret ⟨[], [0, 1, 5, 6, 7, 66], [], 2⟩ (x5636.fLast != x5638.fLast)
def Q2_J20 (p_a : List GMessage) (p_b : List GMessage) (r5654 : Bool) (v5634 : Int) (x5636 : GMessage) (x5638 : GMessage) : Option (Bool) := Mo.den (Q2_J20_T p_a p_b r5654 v5634 x5636 x5638)
def Q2_J20_S (p_a : List GMessage) (p_b : List GMessage) (v5634 : Int) (x5636 : GMessage) (x5638 : GMessage) (r_ : Bool) : St := ⟨[(0, .lf (.rows 9 (p_a.map GMessage.lf))), (1, .lf (.rows 9 (p_b.map GMessage.lf))), (5, .lf (.int .i64 v5634)), (6, .ptr 0 0), (7, .ptr 1 0), (66, .lf (.bool r_))], [.box 63 (.agg ((GMessage.lf1 x5636).map AV.lf)), .box 63 (.agg ((GMessage.lf1 x5638).map AV.lf))]⟩
theorem Q2_J20_W {p_a : List GMessage} {p_b : List GMessage} {r5654 : Bool} {v5634 : Int} {x5636 : GMessage} {x5638 : GMessage} {r_ : Bool} (h : Q2_J20 p_a p_b r5654 v5634 x5636 x5638 = some r_) : AWoa_ Tryz.f18 0 [1, 1, 0, 1, 0, 0, 1, 0, 0, 1, 0] [33, 34, 35, 36, 37, 38, 39] (Q2_J20_S p_a p_b v5634 x5636 x5638 r_) ⟨[(0, .lf (.rows 9 (p_a.map GMessage.lf))), (1, .lf (.rows 9 (p_b.map GMessage.lf))), (5, .lf (.int .i64 v5634)), (6, .ptr 0 0), (7, .ptr 1 0), (59, .lf (.bool r5654))], [.box 63 (.agg ((GMessage.lf1 x5636).map AV.lf)), .box 63 (.agg ((GMessage.lf1 x5638).map AV.lf))]⟩ :=
 seg_T BaseK (Q2_J20_T p_a p_b r5654 v5634 x5636 x5638) (Q2_J20_S p_a p_b v5634 x5636 x5638) (by kernel_rfl) h
def Q2_J25_T (p_a : List GMessage) (p_b : List GMessage) (r5658 : Bool) (v5634 : Int) (x5636 : GMessage) (x5638 : GMessage) : Mo (Bool) :=
 .ite (r5658) (fun c5660 =>
 .say [.gd 16040 true] (ok1 c5660) <|
 .ret ⟨[], [0, 1, 5, 6, 7, 73], [], 2⟩ (true)) fun c5660 =>
 .say [.gd 16040 false] (ok1 c5660) <|
 .ret ⟨[], [0, 1, 5, 6, 7, 73], [], 2⟩ (x5636.fCommit != x5638.fCommit)
def Q2_J25 (p_a : List GMessage) (p_b : List GMessage) (r5658 : Bool) (v5634 : Int) (x5636 : GMessage) (x5638 : GMessage) : Option (Bool) := Mo.den (Q2_J25_T p_a p_b r5658 v5634 x5636 x5638)
def Q2_J25_S (p_a : List GMessage) (p_b : List GMessage) (v5634 : Int) (x5636 : GMessage) (x5638 : GMessage) (r_ : Bool) : St := ⟨[(0, .lf (.rows 9 (p_a.map GMessage.lf))), (1, .lf (.rows 9 (p_b.map GMessage.lf))), (5, .lf (.int .i64 v5634)), (6, .ptr 0 0), (7, .ptr 1 0), (73, .lf (.bool r_))], [.box 63 (.agg ((GMessage.lf1 x5636).map AV.lf)), .box 63 (.agg ((GMessage.lf1 x5638).map AV.lf))]⟩
theorem Q2_J25_W {p_a : List GMessage} {p_b : List GMessage} {r5658 : Bool} {v5634 : Int} {x5636 : GMessage} {x5638 : GMessage} {r_ : Bool} (h : Q2_J25 p_a p_b r5658 v5634 x5636 x5638 = some r_) : AWoa_ Tryz.f18 0 [1, 1, 0, 1, 0, 0, 1, 0, 0, 1, 0] [40, 41, 42, 43, 44, 45, 46] (Q2_J25_S p_a p_b v5634 x5636 x5638 r_) ⟨[(0, .lf (.rows 9 (p_a.map GMessage.lf))), (1, .lf (.rows 9 (p_b.map GMessage.lf))), (5, .lf (.int .i64 v5634)), (6, .ptr 0 0), (7, .ptr 1 0), (66, .lf (.bool r5658))], [.box 63 (.agg ((GMessage.lf1 x5636).map AV.lf)), .box 63 (.agg ((GMessage.lf1 x5638).map AV.lf))]⟩ :=
 seg_T BaseK (Q2_J25_T p_a p_b r5658 v5634 x5636 x5638) (Q2_J25_S p_a p_b v5634 x5636 x5638) (by kernel_rfl) h
def Q2_J30_T (p_a : List GMessage) (p_b : List GMessage) (r5662 : Bool) (v5634 : Int) (x5636 : GMessage) (x5638 : GMessage) : Mo (Bool) :=
 .ite (r5662) (fun c5664 =>
 .say [.gd 16047 true] (ok1 c5664) <|
 .ret ⟨[], [0, 1, 5, 6, 7, 80], [], 2⟩ (true)) fun c5664 =>
 .say [.gd 16047 false] (ok1 c5664) <|
 .ret ⟨[], [0, 1, 5, 6, 7, 80], [], 2⟩ (!(x5636.fOK == x5638.fOK))
def Q2_J30 (p_a : List GMessage) (p_b : List GMessage) (r5662 : Bool) (v5634 : Int) (x5636 : GMessage) (x5638 : GMessage) : Option (Bool) := Mo.den (Q2_J30_T p_a p_b r5662 v5634 x5636 x5638)
def Q2_J30_S (p_a : List GMessage) (p_b : List GMessage) (v5634 : Int) (x5636 : GMessage) (x5638 : GMessage) (r_ : Bool) : St := ⟨[(0, .lf (.rows 9 (p_a.map GMessage.lf))), (1, .lf (.rows 9 (p_b.map GMessage.lf))), (5, .lf (.int .i64 v5634)), (6, .ptr 0 0), (7, .ptr 1 0), (80, .lf (.bool r_))], [.box 63 (.agg ((GMessage.lf1 x5636).map AV.lf)), .box 63 (.agg ((GMessage.lf1 x5638).map AV.lf))]⟩
theorem Q2_J30_W {p_a : List GMessage} {p_b : List GMessage} {r5662 : Bool} {v5634 : Int} {x5636 : GMessage} {x5638 : GMessage} {r_ : Bool} (h : Q2_J30 p_a p_b r5662 v5634 x5636 x5638 = some r_) : AWoa_ Tryz.f18 0 [1, 1, 0, 1, 0, 0, 1, 0, 0, 1, 0] [47, 48, 49, 50, 51, 52, 53] (Q2_J30_S p_a p_b v5634 x5636 x5638 r_) ⟨[(0, .lf (.rows 9 (p_a.map GMessage.lf))), (1, .lf (.rows 9 (p_b.map GMessage.lf))), (5, .lf (.int .i64 v5634)), (6, .ptr 0 0), (7, .ptr 1 0), (73, .lf (.bool r5662))], [.box 63 (.agg ((GMessage.lf1 x5636).map AV.lf)), .box 63 (.agg ((GMessage.lf1 x5638).map AV.lf))]⟩ :=
 seg_T BaseK (Q2_J30_T p_a p_b r5662 v5634 x5636 x5638) (Q2_J30_S p_a p_b v5634 x5636 x5638) (by kernel_rfl) h
def Q2_J35_T (p_a : List GMessage) (p_b : List GMessage) (r5666 : Bool) (v5634 : Int) (x5636 : GMessage) (x5638 : GMessage) : Mo (Bool) :=
 .ite (r5666) (fun c5668 =>
 .say [.gd 16054 true] (ok1 c5668) <|
 .ret ⟨[.kill 0, .kill 1], [0, 1, 5, 88], [], 2⟩ (true)) fun c5668 =>
 .say [.gd 16054 false] (ok1 c5668) <|
 .ask (Q24 x5636.fEntries x5638.fEntries) fun r5669 h5670 =>
 .say [.res (.lf (.bool r5669))] (ok1 (Q24_ok _ _ _ h5670)) <|
 .ret ⟨[.kill 0, .kill 1], [0, 1, 5, 88], [], 2⟩ (!r5669)
def Q2_J35 (p_a : List GMessage) (p_b : List GMessage) (r5666 : Bool) (v5634 : Int) (x5636 : GMessage) (x5638 : GMessage) : Option (Bool) := Mo.den (Q2_J35_T p_a p_b r5666 v5634 x5636 x5638)
def Q2_J35_S (p_a : List GMessage) (p_b : List GMessage) (v5634 : Int) (r_ : Bool) : St := ⟨[(0, .lf (.rows 9 (p_a.map GMessage.lf))), (1, .lf (.rows 9 (p_b.map GMessage.lf))), (5, .lf (.int .i64 v5634)), (88, .lf (.bool r_))], [.dead, .dead]⟩
theorem Q2_J35_W {p_a : List GMessage} {p_b : List GMessage} {r5666 : Bool} {v5634 : Int} {x5636 : GMessage} {x5638 : GMessage} {r_ : Bool} (h : Q2_J35 p_a p_b r5666 v5634 x5636 x5638 = some r_) : AWoa_ Tryz.f18 0 [1, 1, 0, 1, 0, 0, 1, 0, 0, 1, 0] [54, 55, 56, 57, 58, 59, 60, 61] (Q2_J35_S p_a p_b v5634 r_) ⟨[(0, .lf (.rows 9 (p_a.map GMessage.lf))), (1, .lf (.rows 9 (p_b.map GMessage.lf))), (5, .lf (.int .i64 v5634)), (6, .ptr 0 0), (7, .ptr 1 0), (80, .lf (.bool r5666))], [.box 63 (.agg ((GMessage.lf1 x5636).map AV.lf)), .box 63 (.agg ((GMessage.lf1 x5638).map AV.lf))]⟩ :=
 seg_T BaseK (Q2_J35_T p_a p_b r5666 v5634 x5636 x5638) (Q2_J35_S p_a p_b v5634) (by kernel_rfl) h
def Q2_L40_T (p_a : List GMessage) (p_b : List GMessage) : (Int) → Mo ((Int) ⊕ (Unit ⊕ Unit)) := fun (v5634) =>
 .say [.num p_a.length] (okc (by simp : p_a.length = (p_a.map GMessage.lf).length) ok0) <|
 .ite (decide ((v5634 : Int) < (p_a.length : Int))) (fun c5635 =>
 .say [.br true] (ok1 c5635) <|
 .ask (gidx p_a v5634) fun x5636 h5637 =>
 .say [] (okc (gidx_ok GMessage.lf_eq h5637 : (0 : Int) ≤ v5634 ∧ (p_a.map GMessage.lf)[v5634.toNat]? = some (GMessage.lf1 x5636)) ok0) <|
 .ask (gidx p_b v5634) fun x5638 h5639 =>
 .say [.orderT (.q 0 (.q 1 (.q 2 (.q 3 (.q 4 (.q 5 (.q 6 (.q 7 (.alt 8 (.l 9 (.l 10 (.l 11 .fin))) (.l 9 (.l 8 (.l 10 (.l 11 .fin))))))))))))) (some 11) [0, 1] [.row (GMessage.lf1 x5636), .row (GMessage.lf1 x5638), .both [.at_ 14 8, .resv 2, .slot 0, .slot 1] [.at_ 14 9, .resv 2, .slot 1, .slot 0]] [0, 1, 5, 6, 7] 2 [(0, .lf (.rows 9 (p_a.map GMessage.lf))), (1, .lf (.rows 9 (p_b.map GMessage.lf))), (5, .lf (.int .i64 v5634)), (6, .ptr 0 0), (7, .ptr 1 0)] [.box 63 (.agg ((GMessage.lf1 x5636).map AV.lf)), .box 63 (.agg ((GMessage.lf1 x5638).map AV.lf))]] (okc (gidx_ok GMessage.lf_eq h5639 : (0 : Int) ≤ v5634 ∧ (p_b.map GMessage.lf)[v5634.toNat]? = some (GMessage.lf1 x5638)) (okc (rfl : (some ⟨[(0, .lf (.rows 9 (p_a.map GMessage.lf))), (1, .lf (.rows 9 (p_b.map GMessage.lf))), (5, .lf (.int .i64 v5634)), (6, .ptr 0 0), (7, .ptr 1 0)], [.box 63 (.agg ((GMessage.lf1 x5636).map AV.lf)), .box 63 (.agg ((GMessage.lf1 x5638).map AV.lf))]⟩ : Option St) = some ⟨[(0, .lf (.rows 9 (p_a.map GMessage.lf))), (1, .lf (.rows 9 (p_b.map GMessage.lf))), (5, .lf (.int .i64 v5634)), (6, .ptr 0 0), (7, .ptr 1 0)], [.box 63 (.agg ((GMessage.lf1 x5636).map AV.lf)), .box 63 (.agg ((GMessage.lf1 x5638).map AV.lf))]⟩) (okc (rfl : (some ⟨[(0, .lf (.rows 9 (p_a.map GMessage.lf))), (1, .lf (.rows 9 (p_b.map GMessage.lf))), (5, .lf (.int .i64 v5634)), (6, .ptr 0 0), (7, .ptr 1 0)], [.box 63 (.agg ((GMessage.lf1 x5636).map AV.lf)), .box 63 (.agg ((GMessage.lf1 x5638).map AV.lf))]⟩ : Option St) = some ⟨[(0, .lf (.rows 9 (p_a.map GMessage.lf))), (1, .lf (.rows 9 (p_b.map GMessage.lf))), (5, .lf (.int .i64 v5634)), (6, .ptr 0 0), (7, .ptr 1 0)], [.box 63 (.agg ((GMessage.lf1 x5636).map AV.lf)), .box 63 (.agg ((GMessage.lf1 x5638).map AV.lf))]⟩) ok0))) <|
 .ask (Q2_J0 p_a p_b v5634 x5636 x5638) fun r5642 h5643 =>
 .say [.sg_ 7 12 [0, 1, 5, 6, 7] 2 (Q2_J0_S p_a p_b v5634 x5636 x5638 r5642)] (ok1 (Q2_J0_W h5643)) <|
 .ask (Q2_J5 p_a p_b r5642 v5634 x5636 x5638) fun r5646 h5647 =>
 .say [.sg_ 7 7 [0, 1, 5, 6, 7, 38] 2 (Q2_J5_S p_a p_b v5634 x5636 x5638 r5646)] (ok1 (Q2_J5_W h5647)) <|
 .ask (Q2_J10 p_a p_b r5646 v5634 x5636 x5638) fun r5650 h5651 =>
 .say [.sg_ 7 7 [0, 1, 5, 6, 7, 45] 2 (Q2_J10_S p_a p_b v5634 x5636 x5638 r5650)] (ok1 (Q2_J10_W h5651)) <|
 .ask (Q2_J15 p_a p_b r5650 v5634 x5636 x5638) fun r5654 h5655 =>
 .say [.sg_ 7 7 [0, 1, 5, 6, 7, 52] 2 (Q2_J15_S p_a p_b v5634 x5636 x5638 r5654)] (ok1 (Q2_J15_W h5655)) <|
 .ask (Q2_J20 p_a p_b r5654 v5634 x5636 x5638) fun r5658 h5659 =>
 .say [.sg_ 7 7 [0, 1, 5, 6, 7, 59] 2 (Q2_J20_S p_a p_b v5634 x5636 x5638 r5658)] (ok1 (Q2_J20_W h5659)) <|
 .ask (Q2_J25 p_a p_b r5658 v5634 x5636 x5638) fun r5662 h5663 =>
 .say [.sg_ 7 7 [0, 1, 5, 6, 7, 66] 2 (Q2_J25_S p_a p_b v5634 x5636 x5638 r5662)] (ok1 (Q2_J25_W h5663)) <|
 .ask (Q2_J30 p_a p_b r5662 v5634 x5636 x5638) fun r5666 h5667 =>
 .say [.sg_ 7 7 [0, 1, 5, 6, 7, 73] 2 (Q2_J30_S p_a p_b v5634 x5636 x5638 r5666)] (ok1 (Q2_J30_W h5667)) <|
 .ask (Q2_J35 p_a p_b r5666 v5634 x5636 x5638) fun r5676 h5677 =>
 .say [.sg_ 7 8 [0, 1, 5, 6, 7, 80] 2 (Q2_J35_S p_a p_b v5634 r5676)] (ok1 (Q2_J35_W h5677)) <|
 .ite (r5676) (fun c5678 =>
 .say [.br true] (ok1 c5678) <|
 .ret ⟨[], [4], [], 0⟩ (.inr (.inl ()))) fun c5678 =>
 .say [.br false] (ok1 c5678) <|
 .ret ⟨[], [0, 1, 5], [], 0⟩ (.inl (IntKind.wrap .i64 (v5634 + 1)))) fun c5635 =>
 .say [.br false] (ok1 c5635) <|
 .ret ⟨[], [], [], 0⟩ (.inr (.inr (())))
def Q2_L40 (p_a : List GMessage) (p_b : List GMessage) (v5634 : Int) : Option (Unit ⊕ Unit) := loopM (fun v_ => (Q2_L40_T p_a p_b v_).den) FU (v5634)
def Q2_L40_H (p_a : List GMessage) (p_b : List GMessage) : (Int) → St := fun (v5634) => ⟨[(0, .lf (.rows 9 (p_a.map GMessage.lf))), (1, .lf (.rows 9 (p_b.map GMessage.lf))), (5, .lf (.int .i64 v5634))], []⟩
def Q2_L40_X (r_ : Unit ⊕ Unit) : Exit := match r_ with
 | .inl o_ => .ret
 | .inr (o_) => .exit 0
def Q2_L40_S  (r_ : Unit ⊕ Unit) : St := match r_ with
 | .inl o_ => ⟨[(4, .lf (.bool false))], []⟩
 | .inr (o_) => ⟨[], []⟩
theorem Q2_L40_W {p_a : List GMessage} {p_b : List GMessage} {v5634 : Int} {r_ : Unit ⊕ Unit} (h : Q2_L40 p_a p_b v5634 = some r_) : AWa_ Tryz.f18 0 [1, 1, 0, 1, 0] (Q2_L40_X r_) (Q2_L40_S r_) (Q2_L40_H p_a p_b (v5634)) :=
 loop_T BaseK (body := (Code.sub (bodyC Tryz.f18) [1, 1, 0, 1, 0, 0])) (by kernel_rfl) (Q2_L40_T p_a p_b) (Q2_L40_H p_a p_b) Q2_L40_X Q2_L40_S (fun r_ => by rcases r_ with _ | _ <;> rfl) (fun v_ => by kernel_rfl) h
def Q2_T (p_a : List GMessage) (p_b : List GMessage) : Mo (Bool) :=
 .say [.num p_a.length, .num p_b.length] (okc (by simp : p_a.length = (p_a.map GMessage.lf).length) (okc (by simp : p_b.length = (p_b.map GMessage.lf).length) ok0)) <|
 .ite ((p_a.length : Int) != (p_b.length : Int)) (fun c2932 =>
 .say [.br true] (ok1 c2932) <|
 .ret (fitN 1) (false)) fun c2932 =>
 .say [.br false] (ok1 c2932) <|
 .ask2 (Q2_L40 p_a p_b 0) (fun o5681 h5680 =>
 .say [.pt_ 0 [0, 1, 5] 0 (Q2_L40_X (.inl o5681)) (Q2_L40_S (.inl o5681))] (ok1 (Q2_L40_W h5680)) <|
 .ret (fitN 1) (false)) fun o5682 h5680 =>
 .say [.pt_ 0 [0, 1, 5] 0 (Q2_L40_X (.inr (o5682))) (Q2_L40_S (.inr (o5682)))] (ok1 (Q2_L40_W h5680)) <|
 .ret (fitN 1) (true)
def Q2 (p_a : List GMessage) (p_b : List GMessage) : Option (Bool) := Mo.den (Q2_T p_a p_b)
theorem Q2_ok (p_a : List GMessage) (p_b : List GMessage) (r : Bool) (h : Q2 p_a p_b = some r) : Fn Tryz.prog GI 18 [.lf (.rows 9 (p_a.map GMessage.lf)), .lf (.rows 9 (p_b.map GMessage.lf))] (.lf (.bool r)) :=
 fn_T BaseK Tryz.func18 (by kernel_rfl) (by kernel_rfl) (by kernel_rfl) (Q2_T p_a p_b) (fun r => [.lf (.bool r)]) (by kernel_rfl) h
def Q78_J0_T (p_size : Int) : Mo (Bool) :=
 .ite (decide ((p_size : Int) < 1)) (fun c5689 =>
 .say [.gd 4002 true] (ok1 c5689) <|
 .ret ⟨[], [0, 8], [], 0⟩ (true)) fun c5689 =>
 .say [.gd 4002 false] (ok1 c5689) <|
 .ret ⟨[], [0, 8], [], 0⟩ (decide ((7 : Int) < p_size))
def Q78_J0 (p_size : Int) : Option (Bool) := Mo.den (Q78_J0_T p_size)
def Q78_J0_S (p_size : Int) (r_ : Bool) : St := ⟨[(0, .lf (.int .i64 p_size)), (8, .lf (.bool r_))], []⟩
theorem Q78_J0_W {p_size : Int} {r_ : Bool} (h : Q78_J0 p_size = some r_) : AWa_ Tryz.f74 0 [1, 0, 0] (.normal) (Q78_J0_S p_size r_) ⟨[(0, .lf (.int .i64 p_size))], []⟩ :=
 part_T BaseK (Q78_J0_T p_size) (fun _ => .normal) (Q78_J0_S p_size) (by kernel_rfl) h
def Q78_T (p_size : Int) : Mo (Int) :=
 .ask (Q78_J0 p_size) fun r5691 h5692 =>
 .say [.pt_ 9 [0] 0 (.normal) (Q78_J0_S p_size r5691)] (ok1 (Q78_J0_W h5692)) <|
 .ite (r5691) (fun c5694 =>
 .say [.br true] (ok1 c5694) <|
 .ret (fitN 1) (0)) fun c5694 =>
 .say [.br false] (okc c5694 (okc (by decide : (2 : Int) ≠ 0) ok0)) <|
 .ret (fitN 1) (IntKind.wrap .i64 ((IntKind.wrap .i64 (Int.tdiv p_size 2)) + 1))
def Q78 (p_size : Int) : Option (Int) := Mo.den (Q78_T p_size)
theorem Q78_ok (p_size : Int) (r : Int) (h : Q78 p_size = some r) : Fn Tryz.prog GI 74 [.lf (.int .i64 p_size)] (.lf (.int .i64 r)) :=
 fn_T BaseK Tryz.func74 (by kernel_rfl) (by kernel_rfl) (by kernel_rfl) (Q78_T p_size) (fun r => [.lf (.int .i64 r)]) (by kernel_rfl) h
def Q40_J0_T (p_x : Int) : Mo ((Int × Int)) :=
 .ite (decide ((4294967296 : Int) ≤ p_x)) (fun c5722 =>
 .say [.br true] (okc c5722 (okc (by decide : (0 : Int) ≤ 32) ok0)) <|
 .ret ⟨[], [0, 2], [], 0⟩ (ishr .u64 p_x 32, 32)) fun c5722 =>
 .say [.br false] (ok1 c5722) <|
 .ret ⟨[], [0, 2], [], 0⟩ (p_x, 0)
def Q40_J0 (p_x : Int) : Option ((Int × Int)) := Mo.den (Q40_J0_T p_x)
def Q40_J0_S  (r_ : (Int × Int)) : St := ⟨[(0, .lf (.int .u64 r_.1)), (2, .lf (.int .i64 r_.2))], []⟩
theorem Q40_J0_W {p_x : Int} {r_ : (Int × Int)} (h : Q40_J0 p_x = some r_) : AWa_ Tryz.f149 0 [1, 0, 1] (.normal) (Q40_J0_S r_) ⟨[(0, .lf (.int .u64 p_x)), (2, .lf (.int .i64 0)), (4, .lf (.bool (decide ((4294967296 : Int) ≤ p_x))))], []⟩ :=
 part_T BaseK (Q40_J0_T p_x) (fun _ => .normal) Q40_J0_S (by kernel_rfl) h
def Q40_J5_T (r5725 : (Int × Int)) : Mo ((Int × Int)) :=
 .ite (decide ((65536 : Int) ≤ r5725.1)) (fun c5728 =>
 .say [.br true] (okc c5728 (okc (by decide : (0 : Int) ≤ 16) ok0)) <|
 .ret ⟨[], [0, 2], [], 0⟩ (ishr .u64 r5725.1 16, IntKind.wrap .i64 (r5725.2 + 16))) fun c5728 =>
 .say [.br false] (ok1 c5728) <|
 .ret ⟨[], [0, 2], [], 0⟩ (r5725.1, r5725.2)
def Q40_J5 (r5725 : (Int × Int)) : Option ((Int × Int)) := Mo.den (Q40_J5_T r5725)
def Q40_J5_S  (r_ : (Int × Int)) : St := ⟨[(0, .lf (.int .u64 r_.1)), (2, .lf (.int .i64 r_.2))], []⟩
theorem Q40_J5_W {r5725 : (Int × Int)} {r_ : (Int × Int)} (h : Q40_J5 r5725 = some r_) : AWa_ Tryz.f149 0 [1, 1, 0, 1] (.normal) (Q40_J5_S r_) ⟨[(0, .lf (.int .u64 r5725.1)), (2, .lf (.int .i64 r5725.2)), (8, .lf (.bool (decide ((65536 : Int) ≤ r5725.1))))], []⟩ :=
 part_T BaseK (Q40_J5_T r5725) (fun _ => .normal) Q40_J5_S (by kernel_rfl) h
def Q40_J10_T (r5731 : (Int × Int)) : Mo ((Int × Int)) :=
 .ite (decide ((256 : Int) ≤ r5731.1)) (fun c5734 =>
 .say [.br true] (okc c5734 (okc (by decide : (0 : Int) ≤ 8) ok0)) <|
 .ret ⟨[], [0, 2], [], 0⟩ (ishr .u64 r5731.1 8, IntKind.wrap .i64 (r5731.2 + 8))) fun c5734 =>
 .say [.br false] (ok1 c5734) <|
 .ret ⟨[], [0, 2], [], 0⟩ (r5731.1, r5731.2)
def Q40_J10 (r5731 : (Int × Int)) : Option ((Int × Int)) := Mo.den (Q40_J10_T r5731)
def Q40_J10_S  (r_ : (Int × Int)) : St := ⟨[(0, .lf (.int .u64 r_.1)), (2, .lf (.int .i64 r_.2))], []⟩
theorem Q40_J10_W {r5731 : (Int × Int)} {r_ : (Int × Int)} (h : Q40_J10 r5731 = some r_) : AWa_ Tryz.f149 0 [1, 1, 1, 0, 1] (.normal) (Q40_J10_S r_) ⟨[(0, .lf (.int .u64 r5731.1)), (2, .lf (.int .i64 r5731.2)), (14, .lf (.bool (decide ((256 : Int) ≤ r5731.1))))], []⟩ :=
 part_T BaseK (Q40_J10_T r5731) (fun _ => .normal) Q40_J10_S (by kernel_rfl) h
def Q40_T (p_x : Int) : Mo (Int) :=
 .ask (Q40_J0 p_x) fun r5725 h5726 =>
 .say [.pt_ 1 [0, 2, 4] 0 (.normal) (Q40_J0_S r5725)] (ok1 (Q40_J0_W h5726)) <|
 .ask (Q40_J5 r5725) fun r5731 h5732 =>
 .say [.pt_ 1 [0, 2, 8] 0 (.normal) (Q40_J5_S r5731)] (ok1 (Q40_J5_W h5732)) <|
 .ask (Q40_J10 r5731) fun r5737 h5738 =>
 .say [.pt_ 1 [0, 2, 14] 0 (.normal) (Q40_J10_S r5737)] (ok1 (Q40_J10_W h5738)) <|
 .ask (sidx ⟨#[0, 1, 2, 2, 3, 3, 3, 3, 4, 4, 4, 4, 4, 4, 4, 4, 5, 5, 5, 5, 5, 5, 5, 5, 5, 5, 5, 5, 5, 5, 5, 5, 6, 6, 6, 6, 6, 6, 6, 6, 6, 6, 6, 6, 6, 6, 6, 6, 6, 6, 6, 6, 6, 6, 6, 6, 6, 6, 6, 6, 6, 6, 6, 6, 7, 7, 7, 7, 7, 7, 7, 7, 7, 7, 7, 7, 7, 7, 7, 7, 7, 7, 7, 7, 7, 7, 7, 7, 7, 7, 7, 7, 7, 7, 7, 7, 7, 7, 7, 7, 7, 7, 7, 7, 7, 7, 7, 7, 7, 7, 7, 7, 7, 7, 7, 7, 7, 7, 7, 7, 7, 7, 7, 7, 7, 7, 7, 7, 8, 8, 8, 8, 8, 8, 8, 8, 8, 8, 8, 8, 8, 8, 8, 8, 8, 8, 8, 8, 8, 8, 8, 8, 8, 8, 8, 8, 8, 8, 8, 8, 8, 8, 8, 8, 8, 8, 8, 8, 8, 8, 8, 8, 8, 8, 8, 8, 8, 8, 8, 8, 8, 8, 8, 8, 8, 8, 8, 8, 8, 8, 8, 8, 8, 8, 8, 8, 8, 8, 8, 8, 8, 8, 8, 8, 8, 8, 8, 8, 8, 8, 8, 8, 8, 8, 8, 8, 8, 8, 8, 8, 8, 8, 8, 8, 8, 8, 8, 8, 8, 8, 8, 8, 8, 8, 8, 8, 8, 8, 8, 8, 8, 8, 8, 8, 8, 8, 8, 8, 8, 8, 8, 8, 8, 8, 8, 8]⟩ (IntKind.wrap .u8 r5737.1)) fun b5739 h5740 =>
 .say [.byt b5739] (okc (sidx_ok h5740 : (0 : Int) ≤ (IntKind.wrap .u8 r5737.1) ∧ ⟨#[0, 1, 2, 2, 3, 3, 3, 3, 4, 4, 4, 4, 4, 4, 4, 4, 5, 5, 5, 5, 5, 5, 5, 5, 5, 5, 5, 5, 5, 5, 5, 5, 6, 6, 6, 6, 6, 6, 6, 6, 6, 6, 6, 6, 6, 6, 6, 6, 6, 6, 6, 6, 6, 6, 6, 6, 6, 6, 6, 6, 6, 6, 6, 6, 7, 7, 7, 7, 7, 7, 7, 7, 7, 7, 7, 7, 7, 7, 7, 7, 7, 7, 7, 7, 7, 7, 7, 7, 7, 7, 7, 7, 7, 7, 7, 7, 7, 7, 7, 7, 7, 7, 7, 7, 7, 7, 7, 7, 7, 7, 7, 7, 7, 7, 7, 7, 7, 7, 7, 7, 7, 7, 7, 7, 7, 7, 7, 7, 8, 8, 8, 8, 8, 8, 8, 8, 8, 8, 8, 8, 8, 8, 8, 8, 8, 8, 8, 8, 8, 8, 8, 8, 8, 8, 8, 8, 8, 8, 8, 8, 8, 8, 8, 8, 8, 8, 8, 8, 8, 8, 8, 8, 8, 8, 8, 8, 8, 8, 8, 8, 8, 8, 8, 8, 8, 8, 8, 8, 8, 8, 8, 8, 8, 8, 8, 8, 8, 8, 8, 8, 8, 8, 8, 8, 8, 8, 8, 8, 8, 8, 8, 8, 8, 8, 8, 8, 8, 8, 8, 8, 8, 8, 8, 8, 8, 8, 8, 8, 8, 8, 8, 8, 8, 8, 8, 8, 8, 8, 8, 8, 8, 8, 8, 8, 8, 8, 8, 8, 8, 8, 8, 8, 8, 8, 8, 8]⟩[(IntKind.wrap .u8 r5737.1).toNat]? = some b5739) ok0) <|
 .ret (fitN 1) (IntKind.wrap .i64 (r5737.2 + (IntKind.wrap .i64 (b5739.toNat : Int))))
def Q40 (p_x : Int) : Option (Int) := Mo.den (Q40_T p_x)
theorem Q40_ok (p_x : Int) (r : Int) (h : Q40 p_x = some r) : Fn Tryz.prog GI 149 [.lf (.int .u64 p_x)] (.lf (.int .i64 r)) :=
 fn_T BaseK Tryz.func149 (by kernel_rfl) (by kernel_rfl) (by kernel_rfl) (Q40_T p_x) (fun r => [.lf (.int .i64 r)]) (by kernel_rfl) h
def Q128_T (p_x : Int) : Mo (Int) :=
 .say [.br false] (ok1 (rfl : false = false)) <|
 .ask (Q40 p_x) fun r5741 h5742 =>
 .say [.res (.lf (.int .i64 r5741))] (ok1 (Q40_ok _ _ h5742)) <|
 .ret (fitN 1) (r5741)
def Q128 (p_x : Int) : Option (Int) := Mo.den (Q128_T p_x)
theorem Q128_ok (p_x : Int) (r : Int) (h : Q128 p_x = some r) : Fn Tryz.prog GI 105 [.lf (.int .u64 p_x)] (.lf (.int .i64 r)) :=
 fn_T BaseK Tryz.func105 (by kernel_rfl) (by kernel_rfl) (by kernel_rfl) (Q128_T p_x) (fun r => [.lf (.int .i64 r)]) (by kernel_rfl) h
def Q114_T (p_x : Int) : Mo (Bool) :=
 .ret (fitN 1) (p_x != p_x)
def Q114 (p_x : Int) : Option (Bool) := Mo.den (Q114_T p_x)
theorem Q114_ok (p_x : Int) (r : Bool) (h : Q114 p_x = some r) : Fn Tryz.prog GI 195 [.lf (.int .i64 p_x)] (.lf (.bool r)) :=
 fn_T BaseK Tryz.func195 (by kernel_rfl) (by kernel_rfl) (by kernel_rfl) (Q114_T p_x) (fun r => [.lf (.bool r)]) (by kernel_rfl) h
def Q37_J0_T (p_x : Int) (p_y : Int) : Mo (Bool) :=
 .ask (Q114 p_x) fun r5753 h5754 =>
 .say [.res (.lf (.bool r5753))] (ok1 (Q114_ok _ _ h5754)) <|
 .ite (r5753) (fun c5755 =>
 .say [.gd 4002 true] (ok1 c5755) <|
 .ask (Q114 p_y) fun r5756 h5757 =>
 .say [.res (.lf (.bool r5756))] (ok1 (Q114_ok _ _ h5757)) <|
 .ret ⟨[], [0, 1, 4, 11], [], 0⟩ (!r5756)) fun c5755 =>
 .say [.gd 4002 false] (ok1 c5755) <|
 .ret ⟨[], [0, 1, 4, 11], [], 0⟩ (false)
def Q37_J0 (p_x : Int) (p_y : Int) : Option (Bool) := Mo.den (Q37_J0_T p_x p_y)
def Q37_J0_S (p_x : Int) (p_y : Int) (r_ : Bool) : St := ⟨[(0, .lf (.int .i64 p_x)), (1, .lf (.int .i64 p_y)), (4, .lf (.bool false)), (11, .lf (.bool r_))], []⟩
theorem Q37_J0_W {p_x : Int} {p_y : Int} {r_ : Bool} (h : Q37_J0 p_x p_y = some r_) : AWoa_ Tryz.f145 0 [1, 0] [0, 1, 2, 3, 4, 5, 6] (Q37_J0_S p_x p_y r_) ⟨[(0, .lf (.int .i64 p_x)), (1, .lf (.int .i64 p_y)), (4, .lf (.bool false))], []⟩ :=
 seg_T BaseK (Q37_J0_T p_x p_y) (Q37_J0_S p_x p_y) (by kernel_rfl) h
def Q37_J5_T (p_x : Int) (p_y : Int) (r5759 : Bool) : Mo (Bool) :=
 .ite (r5759) (fun c5761 =>
 .say [.gd 4007 true] (ok1 c5761) <|
 .ret ⟨[], [4, 16], [], 0⟩ (true)) fun c5761 =>
 .say [.gd 4007 false] (ok1 c5761) <|
 .ret ⟨[], [4, 16], [], 0⟩ (decide ((p_x : Int) < p_y))
def Q37_J5 (p_x : Int) (p_y : Int) (r5759 : Bool) : Option (Bool) := Mo.den (Q37_J5_T p_x p_y r5759)
def Q37_J5_S  (r_ : Bool) : St := ⟨[(4, .lf (.bool false)), (16, .lf (.bool r_))], []⟩
theorem Q37_J5_W {p_x : Int} {p_y : Int} {r5759 : Bool} {r_ : Bool} (h : Q37_J5 p_x p_y r5759 = some r_) : AWoa_ Tryz.f145 0 [1, 0] [7, 8, 9, 10, 11] (Q37_J5_S r_) ⟨[(0, .lf (.int .i64 p_x)), (1, .lf (.int .i64 p_y)), (4, .lf (.bool false)), (11, .lf (.bool r5759))], []⟩ :=
 seg_T BaseK (Q37_J5_T p_x p_y r5759) Q37_J5_S (by kernel_rfl) h
def Q37_J10_T (r5763 : Bool) : Mo (Unit) :=
 .ret ⟨[], [4], [], 0⟩ ()
def Q37_J10 (r5763 : Bool) : Option (Unit) := Mo.den (Q37_J10_T r5763)
def Q37_J10_S (r5763 : Bool) (r_ : Unit) : St := ⟨[(4, .lf (.bool r5763))], []⟩
theorem Q37_J10_W {r5763 : Bool} {r_ : Unit} (h : Q37_J10 r5763 = some r_) : AWoa_ Tryz.f145 0 [1, 0] [12] (Q37_J10_S r5763 r_) ⟨[(4, .lf (.bool false)), (16, .lf (.bool r5763))], []⟩ :=
 seg_T BaseK (Q37_J10_T r5763) (Q37_J10_S r5763) (by kernel_rfl) h
def Q37_T (p_x : Int) (p_y : Int) : Mo (Bool) :=
 .ask (Q37_J0 p_x p_y) fun r5759 h5760 =>
 .say [.sg_ 1 7 [0, 1, 4] 0 (Q37_J0_S p_x p_y r5759)] (ok1 (Q37_J0_W h5760)) <|
 .ask (Q37_J5 p_x p_y r5759) fun r5763 h5764 =>
 .say [.sg_ 1 5 [0, 1, 4, 11] 0 (Q37_J5_S r5763)] (ok1 (Q37_J5_W h5764)) <|
 .ask (Q37_J10 r5763) fun r5765 h5766 =>
 .say [.sg_ 1 1 [4, 16] 0 (Q37_J10_S r5763 r5765)] (ok1 (Q37_J10_W h5766)) <|
 .ret (fitN 1) (r5763)
def Q37 (p_x : Int) (p_y : Int) : Option (Bool) := Mo.den (Q37_T p_x p_y)
theorem Q37_ok (p_x : Int) (p_y : Int) (r : Bool) (h : Q37 p_x p_y = some r) : Fn Tryz.prog GI 145 [.lf (.int .i64 p_x), .lf (.int .i64 p_y)] (.lf (.bool r)) :=
 fn_T BaseK Tryz.func145 (by kernel_rfl) (by kernel_rfl) (by kernel_rfl) (Q37_T p_x p_y) (fun r => [.lf (.bool r)]) (by kernel_rfl) h
end
end Go.Proofs.YtdnafbfmaphhhaaGreatDoor
