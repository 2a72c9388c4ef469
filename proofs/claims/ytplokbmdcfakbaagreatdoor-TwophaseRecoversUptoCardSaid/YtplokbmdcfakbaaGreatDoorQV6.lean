/- Printed by dec.py. -/
import Derived.Test.YtplokbmdcfakbaaGreatDoorQVManT
set_option linter.unusedSimpArgs false
set_option linter.unusedVariables false
namespace Go.Proofs.YtplokbmdcfakbaaGreatDoor
open Go.RowKit
set_option maxRecDepth 20000
set_option maxHeartbeats 4000000
noncomputable section
def Q20_J0_T (p_s : ByteArray) : Mo (Bool) :=
 .ite (decide (((p_s.size : Int) : Int) < 1)) (fun c45 =>
 .say [.gd 4003 true] (ok1 c45) <|
 .ret ⟨[], [0, 11], [], 0⟩ (true)) fun c45 =>
 .say [.gd 4003 false] (ok1 c45) <|
 .ret ⟨[], [0, 11], [], 0⟩ (decide ((32 : Int) < (p_s.size : Int)))
def Q20_J0 (p_s : ByteArray) : Option (Bool) := Mo.den (Q20_J0_T p_s)
def Q20_J0_S (p_s : ByteArray) (r_ : Bool) : St := ⟨[(0, .lf (.str p_s)), (11, .lf (.bool r_))], []⟩
theorem Q20_J0_W {p_s : ByteArray} {r_ : Bool} (h : Q20_J0 p_s = some r_) : AWoa_ Tryz.f38 0 [1, 0, 0] [0, 1, 2, 3, 4, 5, 6, 7] (Q20_J0_S p_s r_) ⟨[(0, .lf (.str p_s))], []⟩ :=
 seg_T BaseK (Q20_J0_T p_s) (Q20_J0_S p_s) (by kernel_rfl) h
def Q20_J5_T (p_s : ByteArray) (r47 : Bool) : Mo (Bool) :=
 .ite (r47) (fun c49 =>
 .say [.gd 4008 true] (ok1 c49) <|
 .ret ⟨[], [0, 16], [], 0⟩ (true)) fun c49 =>
 .say [.gd 4008 false] (ok1 c49) <|
 .ask (sidx p_s 0) fun b50 h51 =>
 .say [.byt b50] (okc (sidx_ok h51 : (0 : Int) ≤ 0 ∧ p_s[(0 : Int).toNat]? = some b50) ok0) <|
 .ret ⟨[], [0, 16], [], 0⟩ ((b50.toNat : Int) == 36)
def Q20_J5 (p_s : ByteArray) (r47 : Bool) : Option (Bool) := Mo.den (Q20_J5_T p_s r47)
def Q20_J5_S (p_s : ByteArray) (r_ : Bool) : St := ⟨[(0, .lf (.str p_s)), (16, .lf (.bool r_))], []⟩
theorem Q20_J5_W {p_s : ByteArray} {r47 : Bool} {r_ : Bool} (h : Q20_J5 p_s r47 = some r_) : AWoa_ Tryz.f38 0 [1, 0, 0] [8, 9, 10, 11, 12] (Q20_J5_S p_s r_) ⟨[(0, .lf (.str p_s)), (11, .lf (.bool r47))], []⟩ :=
 seg_T BaseK (Q20_J5_T p_s r47) (Q20_J5_S p_s) (by kernel_rfl) h
def Q20_J10_T (p_s : ByteArray) (v141 : Int) : Mo (Bool) :=
 .ask (sidx p_s v141) fun b143 h144 =>
 .say [.byt b143] (okc (sidx_ok h144 : (0 : Int) ≤ v141 ∧ p_s[v141.toNat]? = some b143) ok0) <|
 .ite (decide (((b143.toNat : Int) : Int) < 33)) (fun c145 =>
 .say [.gd 14004 true] (ok1 c145) <|
 .ret ⟨[], [0, 3, 32], [], 0⟩ (true)) fun c145 =>
 .say [.gd 14004 false] (ok1 c145) <|
 .ask (sidx p_s v141) fun b146 h147 =>
 .say [.byt b146] (okc (sidx_ok h147 : (0 : Int) ≤ v141 ∧ p_s[v141.toNat]? = some b146) ok0) <|
 .ret ⟨[], [0, 3, 32], [], 0⟩ (decide ((126 : Int) < (b146.toNat : Int)))
def Q20_J10 (p_s : ByteArray) (v141 : Int) : Option (Bool) := Mo.den (Q20_J10_T p_s v141)
def Q20_J10_S (p_s : ByteArray) (v141 : Int) (r_ : Bool) : St := ⟨[(0, .lf (.str p_s)), (3, .lf (.int .i64 v141)), (32, .lf (.bool r_))], []⟩
theorem Q20_J10_W {p_s : ByteArray} {v141 : Int} {r_ : Bool} (h : Q20_J10 p_s v141 = some r_) : AWoa_ Tryz.f38 0 [1, 1, 0, 1, 0, 0, 1, 0, 0, 0] [0, 1, 2, 3, 4, 5, 6, 7, 8, 9] (Q20_J10_S p_s v141 r_) ⟨[(0, .lf (.str p_s)), (3, .lf (.int .i64 v141))], []⟩ :=
 seg_T BaseK (Q20_J10_T p_s v141) (Q20_J10_S p_s v141) (by kernel_rfl) h
def Q20_J15_T (p_s : ByteArray) (r149 : Bool) (v141 : Int) : Mo (Bool) :=
 .ite (r149) (fun c151 =>
 .say [.gd 14010 true] (ok1 c151) <|
 .ret ⟨[], [0, 3, 38], [], 0⟩ (true)) fun c151 =>
 .say [.gd 14010 false] (ok1 c151) <|
 .ask (sidx p_s v141) fun b152 h153 =>
 .say [.byt b152] (okc (sidx_ok h153 : (0 : Int) ≤ v141 ∧ p_s[v141.toNat]? = some b152) ok0) <|
 .ret ⟨[], [0, 3, 38], [], 0⟩ ((b152.toNat : Int) == 46)
def Q20_J15 (p_s : ByteArray) (r149 : Bool) (v141 : Int) : Option (Bool) := Mo.den (Q20_J15_T p_s r149 v141)
def Q20_J15_S (p_s : ByteArray) (v141 : Int) (r_ : Bool) : St := ⟨[(0, .lf (.str p_s)), (3, .lf (.int .i64 v141)), (38, .lf (.bool r_))], []⟩
theorem Q20_J15_W {p_s : ByteArray} {r149 : Bool} {v141 : Int} {r_ : Bool} (h : Q20_J15 p_s r149 v141 = some r_) : AWoa_ Tryz.f38 0 [1, 1, 0, 1, 0, 0, 1, 0, 0, 0] [10, 11, 12, 13, 14, 15] (Q20_J15_S p_s v141 r_) ⟨[(0, .lf (.str p_s)), (3, .lf (.int .i64 v141)), (32, .lf (.bool r149))], []⟩ :=
 seg_T BaseK (Q20_J15_T p_s r149 v141) (Q20_J15_S p_s v141) (by kernel_rfl) h
def Q20_L20_T (p_s : ByteArray) : (Int) → Mo ((Int) ⊕ (Unit ⊕ Unit)) := fun (v141) =>
 .ite (decide ((v141 : Int) < (p_s.size : Int))) (fun c142 =>
 .say [.br true] (ok1 c142) <|
 .ask (Q20_J10 p_s v141) fun r149 h150 =>
 .say [.sg_ 6 10 [0, 3] 0 (Q20_J10_S p_s v141 r149)] (ok1 (Q20_J10_W h150)) <|
 .ask (Q20_J15 p_s r149 v141) fun r155 h156 =>
 .say [.sg_ 6 6 [0, 3, 32] 0 (Q20_J15_S p_s v141 r155)] (ok1 (Q20_J15_W h156)) <|
 .ite (r155) (fun c157 =>
 .say [.br true] (ok1 c157) <|
 .ret ⟨[], [2], [], 0⟩ (.inr (.inl ()))) fun c157 =>
 .say [.br false] (ok1 c157) <|
 .ret ⟨[], [0, 3], [], 0⟩ (.inl (IntKind.wrap .i64 (v141 + 1)))) fun c142 =>
 .say [.br false] (ok1 c142) <|
 .ret ⟨[], [], [], 0⟩ (.inr (.inr (())))
def Q20_L20 (p_s : ByteArray) (v141 : Int) : Option (Unit ⊕ Unit) := loopM (fun v_ => (Q20_L20_T p_s v_).den) FU (v141)
def Q20_L20_H (p_s : ByteArray) : (Int) → St := fun (v141) => ⟨[(0, .lf (.str p_s)), (3, .lf (.int .i64 v141))], []⟩
def Q20_L20_X (r_ : Unit ⊕ Unit) : Exit := match r_ with
 | .inl o_ => .ret
 | .inr (o_) => .exit 0
def Q20_L20_S  (r_ : Unit ⊕ Unit) : St := match r_ with
 | .inl o_ => ⟨[(2, .lf (.bool false))], []⟩
 | .inr (o_) => ⟨[], []⟩
theorem Q20_L20_W {p_s : ByteArray} {v141 : Int} {r_ : Unit ⊕ Unit} (h : Q20_L20 p_s v141 = some r_) : AWa_ Tryz.f38 0 [1, 1, 0, 1, 0] (Q20_L20_X r_) (Q20_L20_S r_) (Q20_L20_H p_s (v141)) :=
 loop_T BaseK (body := (Code.sub (bodyC Tryz.f38) [1, 1, 0, 1, 0, 0])) (by kernel_rfl) (Q20_L20_T p_s) (Q20_L20_H p_s) Q20_L20_X Q20_L20_S (fun r_ => by rcases r_ with _ | _ <;> rfl) (fun v_ => by kernel_rfl) h
def Q20_T (p_s : ByteArray) : Mo (Bool) :=
 .ask (Q20_J0 p_s) fun r47 h48 =>
 .say [.sg_ 1 8 [0] 0 (Q20_J0_S p_s r47)] (ok1 (Q20_J0_W h48)) <|
 .ask (Q20_J5 p_s r47) fun r53 h54 =>
 .say [.sg_ 1 5 [0, 11] 0 (Q20_J5_S p_s r53)] (ok1 (Q20_J5_W h54)) <|
 .ite (r53) (fun c56 =>
 .say [.br true] (ok1 c56) <|
 .ret (fitN 1) (false)) fun c56 =>
 .say [.br false] (ok1 c56) <|
 .ask2 (Q20_L20 p_s 0) (fun o160 h159 =>
 .say [.pt_ 0 [0, 3] 0 (Q20_L20_X (.inl o160)) (Q20_L20_S (.inl o160))] (ok1 (Q20_L20_W h159)) <|
 .ret (fitN 1) (false)) fun o161 h159 =>
 .say [.pt_ 0 [0, 3] 0 (Q20_L20_X (.inr (o161))) (Q20_L20_S (.inr (o161)))] (ok1 (Q20_L20_W h159)) <|
 .ret (fitN 1) (true)
def Q20 (p_s : ByteArray) : Option (Bool) := Mo.den (Q20_T p_s)
theorem Q20_ok (p_s : ByteArray) (r : Bool) (h : Q20 p_s = some r) : Fn Tryz.prog GI 38 [.lf (.str p_s)] (.lf (.bool r)) :=
 fn_T BaseK Tryz.func38 (by kernel_rfl) (by kernel_rfl) (by kernel_rfl) (Q20_T p_s) (fun r => [.lf (.bool r)]) (by kernel_rfl) h
def Q38_J0_T (p_p : List ByteArray) : Mo (Bool) :=
 .say [.num p_p.length] (okc (by simp : p_p.length = (p_p.map lfS).length) ok0) <|
 .ite (decide (((p_p.length : Int) : Int) < 1)) (fun c25 =>
 .say [.gd 4003 true] (ok1 c25) <|
 .ret ⟨[], [0, 11], [], 0⟩ (true)) fun c25 =>
 .say [.gd 4003 false, .num p_p.length] (okc c25 (okc (by simp : p_p.length = (p_p.map lfS).length) ok0)) <|
 .ret ⟨[], [0, 11], [], 0⟩ (decide ((16 : Int) < (p_p.length : Int)))
def Q38_J0 (p_p : List ByteArray) : Option (Bool) := Mo.den (Q38_J0_T p_p)
def Q38_J0_S (p_p : List ByteArray) (r_ : Bool) : St := ⟨[(0, .lf (.rows 1 (p_p.map lfS))), (11, .lf (.bool r_))], []⟩
theorem Q38_J0_W {p_p : List ByteArray} {r_ : Bool} (h : Q38_J0 p_p = some r_) : AWa_ Tryz.f23 0 [1, 0, 0] (.normal) (Q38_J0_S p_p r_) ⟨[(0, .lf (.rows 1 (p_p.map lfS)))], []⟩ :=
 part_T BaseK (Q38_J0_T p_p) (fun _ => .normal) (Q38_J0_S p_p) (by kernel_rfl) h
def Q38_L5_T (p_p : List ByteArray) : (Int) → Mo ((Int) ⊕ (Unit ⊕ Unit)) := fun (v192) =>
 .say [.num p_p.length] (okc (by simp : p_p.length = (p_p.map lfS).length) ok0) <|
 .ite (decide ((v192 : Int) < (p_p.length : Int))) (fun c193 =>
 .say [.br true] (ok1 c193) <|
 .ask (gidx p_p v192) fun x194 h195 =>
 .say [.row (lfS x194)] (okc (gidx_ok (fun _ => rfl) h195 : (0 : Int) ≤ v192 ∧ (p_p.map lfS)[v192.toNat]? = some (lfS x194)) ok0) <|
 .ask (Q20 x194) fun r196 h197 =>
 .say [.res (.lf (.bool r196))] (ok1 (Q20_ok _ _ h197)) <|
 .ite (!r196) (fun c198 =>
 .say [.br true] (ok1 c198) <|
 .ret ⟨[], [2], [], 0⟩ (.inr (.inl ()))) fun c198 =>
 .say [.br false] (ok1 c198) <|
 .ret ⟨[], [0, 3], [], 0⟩ (.inl (IntKind.wrap .i64 (v192 + 1)))) fun c193 =>
 .say [.br false] (ok1 c193) <|
 .ret ⟨[], [], [], 0⟩ (.inr (.inr (())))
def Q38_L5 (p_p : List ByteArray) (v192 : Int) : Option (Unit ⊕ Unit) := loopM (fun v_ => (Q38_L5_T p_p v_).den) FU (v192)
def Q38_L5_H (p_p : List ByteArray) : (Int) → St := fun (v192) => ⟨[(0, .lf (.rows 1 (p_p.map lfS))), (3, .lf (.int .i64 v192))], []⟩
def Q38_L5_X (r_ : Unit ⊕ Unit) : Exit := match r_ with
 | .inl o_ => .ret
 | .inr (o_) => .exit 0
def Q38_L5_S  (r_ : Unit ⊕ Unit) : St := match r_ with
 | .inl o_ => ⟨[(2, .lf (.bool false))], []⟩
 | .inr (o_) => ⟨[], []⟩
theorem Q38_L5_W {p_p : List ByteArray} {v192 : Int} {r_ : Unit ⊕ Unit} (h : Q38_L5 p_p v192 = some r_) : AWa_ Tryz.f23 0 [1, 1, 0, 1, 0] (Q38_L5_X r_) (Q38_L5_S r_) (Q38_L5_H p_p (v192)) :=
 loop_T BaseK (body := (Code.sub (bodyC Tryz.f23) [1, 1, 0, 1, 0, 0])) (by kernel_rfl) (Q38_L5_T p_p) (Q38_L5_H p_p) Q38_L5_X Q38_L5_S (fun r_ => by rcases r_ with _ | _ <;> rfl) (fun v_ => by kernel_rfl) h
def Q38_T (p_p : List ByteArray) : Mo (Bool) :=
 .ask (Q38_J0 p_p) fun r27 h28 =>
 .say [.pt_ 9 [0] 0 (.normal) (Q38_J0_S p_p r27)] (ok1 (Q38_J0_W h28)) <|
 .ite (r27) (fun c30 =>
 .say [.br true] (ok1 c30) <|
 .ret (fitN 1) (false)) fun c30 =>
 .say [.br false] (ok1 c30) <|
 .ask2 (Q38_L5 p_p 0) (fun o201 h200 =>
 .say [.pt_ 0 [0, 3] 0 (Q38_L5_X (.inl o201)) (Q38_L5_S (.inl o201))] (ok1 (Q38_L5_W h200)) <|
 .ret (fitN 1) (false)) fun o202 h200 =>
 .say [.pt_ 0 [0, 3] 0 (Q38_L5_X (.inr (o202))) (Q38_L5_S (.inr (o202)))] (ok1 (Q38_L5_W h200)) <|
 .ret (fitN 1) (true)
def Q38 (p_p : List ByteArray) : Option (Bool) := Mo.den (Q38_T p_p)
theorem Q38_ok (p_p : List ByteArray) (r : Bool) (h : Q38 p_p = some r) : Fn Tryz.prog GI 23 [.lf (.rows 1 (p_p.map lfS))] (.lf (.bool r)) :=
 fn_T BaseK Tryz.func23 (by kernel_rfl) (by kernel_rfl) (by kernel_rfl) (Q38_T p_p) (fun r => [.lf (.bool r)]) (by kernel_rfl) h
def Q74_T (p_s : ByteArray) : Mo (Bool) :=
 .say [.at_ 4 2, .frzr 0 ([p_s].map lfS)] (okc (by simp [lfS] : [p_s].map lfS = [(lfS p_s)]) ok0) <|
 .ask (Q38 [p_s]) fun r203 h204 =>
 .say [.res (.lf (.bool r203))] (ok1 (Q38_ok _ _ h204)) <|
 .ret (fitN 1) (r203)
def Q74 (p_s : ByteArray) : Option (Bool) := Mo.den (Q74_T p_s)
theorem Q74_ok (p_s : ByteArray) (r : Bool) (h : Q74 p_s = some r) : Fn Tryz.prog GI 14 [.lf (.str p_s)] (.lf (.bool r)) :=
 fn_T BaseK Tryz.func14 (by kernel_rfl) (by kernel_rfl) (by kernel_rfl) (Q74_T p_s) (fun r => [.lf (.bool r)]) (by kernel_rfl) h
def Q92_T (p_kind : Int) : Mo (Bool) :=
 .ite (decide ((2 : Int) ≤ p_kind)) (fun c271 =>
 .say [.gd 4002 true] (ok1 c271) <|
 .ret (fitN 1) (decide ((p_kind : Int) ≤ 7))) fun c271 =>
 .say [.gd 4002 false] (ok1 c271) <|
 .ret (fitN 1) (false)
def Q92 (p_kind : Int) : Option (Bool) := Mo.den (Q92_T p_kind)
theorem Q92_ok (p_kind : Int) (r : Bool) (h : Q92 p_kind = some r) : Fn Tryz.prog GI 41 [.lf (.int .i64 p_kind)] (.lf (.bool r)) :=
 fn_T BaseK Tryz.func41 (by kernel_rfl) (by kernel_rfl) (by kernel_rfl) (Q92_T p_kind) (fun r => [.lf (.bool r)]) (by kernel_rfl) h
def Q81_T (p_kind : Int) : Mo (Bool) :=
 .ask (Q92 p_kind) fun r272 h273 =>
 .say [.res (.lf (.bool r272))] (ok1 (Q92_ok _ _ h273)) <|
 .ite (r272) (fun c274 =>
 .say [.gd 4002 true] (ok1 c274) <|
 .ret (fitN 1) (p_kind != 4)) fun c274 =>
 .say [.gd 4002 false] (ok1 c274) <|
 .ret (fitN 1) (false)
def Q81 (p_kind : Int) : Option (Bool) := Mo.den (Q81_T p_kind)
theorem Q81_ok (p_kind : Int) (r : Bool) (h : Q81 p_kind = some r) : Fn Tryz.prog GI 26 [.lf (.int .i64 p_kind)] (.lf (.bool r)) :=
 fn_T BaseK Tryz.func26 (by kernel_rfl) (by kernel_rfl) (by kernel_rfl) (Q81_T p_kind) (fun r => [.lf (.bool r)]) (by kernel_rfl) h
def Q79_T (p_kind : Int) : Mo (Bool) :=
 .ite (p_kind == 2) (fun c282 =>
 .say [.gd 4002 true] (ok1 c282) <|
 .ret (fitN 1) (true)) fun c282 =>
 .say [.gd 4002 false] (ok1 c282) <|
 .ret (fitN 1) (p_kind == 3)
def Q79 (p_kind : Int) : Option (Bool) := Mo.den (Q79_T p_kind)
theorem Q79_ok (p_kind : Int) (r : Bool) (h : Q79 p_kind = some r) : Fn Tryz.prog GI 29 [.lf (.int .i64 p_kind)] (.lf (.bool r)) :=
 fn_T BaseK Tryz.func29 (by kernel_rfl) (by kernel_rfl) (by kernel_rfl) (Q79_T p_kind) (fun r => [.lf (.bool r)]) (by kernel_rfl) h
def Q17_J0_T (p_v : GValue) : Mo (Bool) :=
 .ite (p_v.fKind == 0) (fun c286 =>
 .say [.gd 4003 true] (ok1 c286) <|
 .ret ⟨[], [1, 2, 10], [], 1⟩ (p_v.fInt == 0)) fun c286 =>
 .say [.gd 4003 false] (ok1 c286) <|
 .ret ⟨[], [1, 2, 10], [], 1⟩ (false)
def Q17_J0 (p_v : GValue) : Option (Bool) := Mo.den (Q17_J0_T p_v)
def Q17_J0_S (p_v : GValue) (r_ : Bool) : St := ⟨[(1, .ptr 0 0), (2, .lf (.bool false)), (10, .lf (.bool r_))], [.box 29 (.dat (GValue.lf1 p_v))]⟩
theorem Q17_J0_W {p_v : GValue} {r_ : Bool} (h : Q17_J0 p_v = some r_) : AWoa_ Tryz.f32 0 [1, 0] [0, 1, 2, 3, 4, 5, 6, 7] (Q17_J0_S p_v r_) ⟨[(1, .ptr 0 0), (2, .lf (.bool false))], [.box 29 (.dat (GValue.lf1 p_v))]⟩ :=
 seg_T BaseK (Q17_J0_T p_v) (Q17_J0_S p_v) (by kernel_rfl) h
def Q17_J5_T (p_v : GValue) (r288 : Bool) : Mo (Bool) :=
 .ite (r288) (fun c290 =>
 .say [.gd 4008 true] (ok1 c290) <|
 .ret ⟨[], [1, 2, 15], [], 1⟩ (decide ((p_v.fText : ByteArray) = (⟨#[]⟩ : ByteArray)))) fun c290 =>
 .say [.gd 4008 false] (ok1 c290) <|
 .ret ⟨[], [1, 2, 15], [], 1⟩ (false)
def Q17_J5 (p_v : GValue) (r288 : Bool) : Option (Bool) := Mo.den (Q17_J5_T p_v r288)
def Q17_J5_S (p_v : GValue) (r_ : Bool) : St := ⟨[(1, .ptr 0 0), (2, .lf (.bool false)), (15, .lf (.bool r_))], [.box 29 (.dat (GValue.lf1 p_v))]⟩
theorem Q17_J5_W {p_v : GValue} {r288 : Bool} {r_ : Bool} (h : Q17_J5 p_v r288 = some r_) : AWoa_ Tryz.f32 0 [1, 0] [8, 9, 10, 11, 12] (Q17_J5_S p_v r_) ⟨[(1, .ptr 0 0), (2, .lf (.bool false)), (10, .lf (.bool r288))], [.box 29 (.dat (GValue.lf1 p_v))]⟩ :=
 seg_T BaseK (Q17_J5_T p_v r288) (Q17_J5_S p_v) (by kernel_rfl) h
def Q17_J10_T (p_v : GValue) (r292 : Bool) : Mo (Bool) :=
 .ite (r292) (fun c294 =>
 .say [.gd 4013 true, .num p_v.fList.length] (okc c294 (okc (by simp : p_v.fList.length = (p_v.fList.map GValue.lf).length) ok0)) <|
 .ret ⟨[], [1, 2, 21], [], 1⟩ ((p_v.fList.length : Int) == 0)) fun c294 =>
 .say [.gd 4013 false] (ok1 c294) <|
 .ret ⟨[], [1, 2, 21], [], 1⟩ (false)
def Q17_J10 (p_v : GValue) (r292 : Bool) : Option (Bool) := Mo.den (Q17_J10_T p_v r292)
def Q17_J10_S (p_v : GValue) (r_ : Bool) : St := ⟨[(1, .ptr 0 0), (2, .lf (.bool false)), (21, .lf (.bool r_))], [.box 29 (.dat (GValue.lf1 p_v))]⟩
theorem Q17_J10_W {p_v : GValue} {r292 : Bool} {r_ : Bool} (h : Q17_J10 p_v r292 = some r_) : AWoa_ Tryz.f32 0 [1, 0] [13, 14, 15, 16, 17, 18] (Q17_J10_S p_v r_) ⟨[(1, .ptr 0 0), (2, .lf (.bool false)), (15, .lf (.bool r292))], [.box 29 (.dat (GValue.lf1 p_v))]⟩ :=
 seg_T BaseK (Q17_J10_T p_v r292) (Q17_J10_S p_v) (by kernel_rfl) h
def Q17_J15_T (p_v : GValue) (r296 : Bool) : Mo (Bool) :=
 .ite (r296) (fun c298 =>
 .say [.gd 4019 true, .num p_v.fDoc.length] (okc c298 (okc (by simp : p_v.fDoc.length = (p_v.fDoc.map GField.lf).length) ok0)) <|
 .ret ⟨[.kill 0], [2, 27], [], 1⟩ ((p_v.fDoc.length : Int) == 0)) fun c298 =>
 .say [.gd 4019 false] (ok1 c298) <|
 .ret ⟨[.kill 0], [2, 27], [], 1⟩ (false)
def Q17_J15 (p_v : GValue) (r296 : Bool) : Option (Bool) := Mo.den (Q17_J15_T p_v r296)
def Q17_J15_S  (r_ : Bool) : St := ⟨[(2, .lf (.bool false)), (27, .lf (.bool r_))], [.dead]⟩
theorem Q17_J15_W {p_v : GValue} {r296 : Bool} {r_ : Bool} (h : Q17_J15 p_v r296 = some r_) : AWoa_ Tryz.f32 0 [1, 0] [19, 20, 21, 22, 23, 24] (Q17_J15_S r_) ⟨[(1, .ptr 0 0), (2, .lf (.bool false)), (21, .lf (.bool r296))], [.box 29 (.dat (GValue.lf1 p_v))]⟩ :=
 seg_T BaseK (Q17_J15_T p_v r296) Q17_J15_S (by kernel_rfl) h
def Q17_J20_T (r302 : Bool) : Mo (Unit) :=
 .ret ⟨[], [2], [], 1⟩ ()
def Q17_J20 (r302 : Bool) : Option (Unit) := Mo.den (Q17_J20_T r302)
def Q17_J20_S (r302 : Bool) (r_ : Unit) : St := ⟨[(2, .lf (.bool r302))], [.dead]⟩
theorem Q17_J20_W {r302 : Bool} {r_ : Unit} (h : Q17_J20 r302 = some r_) : AWoa_ Tryz.f32 0 [1, 0] [25] (Q17_J20_S r302 r_) ⟨[(2, .lf (.bool false)), (27, .lf (.bool r302))], [.dead]⟩ :=
 seg_T BaseK (Q17_J20_T r302) (Q17_J20_S r302) (by kernel_rfl) h
def Q17_T (p_v : GValue) : Mo (Bool) :=
 .ask (Q17_J0 p_v) fun r288 h289 =>
 .say [.sg_ 1 8 [1, 2] 1 (Q17_J0_S p_v r288)] (ok1 (Q17_J0_W h289)) <|
 .ask (Q17_J5 p_v r288) fun r292 h293 =>
 .say [.sg_ 1 5 [1, 2, 10] 1 (Q17_J5_S p_v r292)] (ok1 (Q17_J5_W h293)) <|
 .ask (Q17_J10 p_v r292) fun r296 h297 =>
 .say [.sg_ 1 6 [1, 2, 15] 1 (Q17_J10_S p_v r296)] (ok1 (Q17_J10_W h297)) <|
 .ask (Q17_J15 p_v r296) fun r302 h303 =>
 .say [.sg_ 1 6 [1, 2, 21] 1 (Q17_J15_S r302)] (ok1 (Q17_J15_W h303)) <|
 .ask (Q17_J20 r302) fun r304 h305 =>
 .say [.sg_ 1 1 [2, 27] 1 (Q17_J20_S r302 r304)] (ok1 (Q17_J20_W h305)) <|
 .ret (fitN 1) (r302)
def Q17 (p_v : GValue) : Option (Bool) := Mo.den (Q17_T p_v)
theorem Q17_ok (p_v : GValue) (r : Bool) (h : Q17 p_v = some r) : Fn Tryz.prog GI 32 [.dat (GValue.lf1 p_v)] (.lf (.bool r)) :=
 fn_T BaseK Tryz.func32 (by kernel_rfl) (by kernel_rfl) (by kernel_rfl) (Q17_T p_v) (fun r => [.lf (.bool r)]) (by kernel_rfl) h
def Q31_J0_T (p_n : Int) : Mo (Int) :=
 .ite (decide ((p_n : Int) < 0)) (fun c332 =>
 .say [.br true] (ok1 c332) <|
 .ret ⟨[], [3], [], 0⟩ (ibits .xor .u64 (IntKind.max .u64) (ishl .u64 (IntKind.wrap .u64 p_n) 1))) fun c332 =>
 .say [.br false] (ok1 c332) <|
 .ret ⟨[], [3], [], 0⟩ (ishl .u64 (IntKind.wrap .u64 p_n) 1)
def Q31_J0 (p_n : Int) : Option (Int) := Mo.den (Q31_J0_T p_n)
def Q31_J0_S  (r_ : Int) : St := ⟨[(3, .lf (.int .u64 r_))], []⟩
theorem Q31_J0_W {p_n : Int} {r_ : Int} (h : Q31_J0 p_n = some r_) : AWa_ Tryz.f99 0 [1, 1, 0, 1] (.normal) (Q31_J0_S r_) ⟨[(3, .lf (.int .u64 (ishl .u64 (IntKind.wrap .u64 p_n) 1))), (10, .lf (.bool (decide ((p_n : Int) < 0))))], []⟩ :=
 part_T BaseK (Q31_J0_T p_n) (fun _ => .normal) Q31_J0_S (by kernel_rfl) h
def Q31_J5_T (v365 : Int) (v366 : ByteArray) (v367 : Int) : Mo (Bool) :=
 .ite (decide ((v367 : Int) < 10)) (fun c368 =>
 .say [.gd 14002 true] (ok1 c368) <|
 .ret ⟨[], [3, 4, 5, 18], [], 0⟩ (decide ((128 : Int) ≤ v365))) fun c368 =>
 .say [.gd 14002 false] (ok1 c368) <|
 .ret ⟨[], [3, 4, 5, 18], [], 0⟩ (false)
def Q31_J5 (v365 : Int) (v366 : ByteArray) (v367 : Int) : Option (Bool) := Mo.den (Q31_J5_T v365 v366 v367)
def Q31_J5_S (v365 : Int) (v366 : ByteArray) (v367 : Int) (r_ : Bool) : St := ⟨[(3, .lf (.int .u64 v365)), (4, .lf (.str v366)), (5, .lf (.int .i64 v367)), (18, .lf (.bool r_))], []⟩
theorem Q31_J5_W {v365 : Int} {v366 : ByteArray} {v367 : Int} {r_ : Bool} (h : Q31_J5 v365 v366 v367 = some r_) : AWa_ Tryz.f99 0 [1, 1, 1, 1, 0, 1, 0, 0, 0, 0] (.normal) (Q31_J5_S v365 v366 v367 r_) ⟨[(3, .lf (.int .u64 v365)), (4, .lf (.str v366)), (5, .lf (.int .i64 v367))], []⟩ :=
 part_T BaseK (Q31_J5_T v365 v366 v367) (fun _ => .normal) (Q31_J5_S v365 v366 v367) (by kernel_rfl) h
def Q31_L10_T  : (Int × ByteArray × Int) → Mo ((Int × ByteArray × Int) ⊕ (Int × ByteArray)) := fun (v365, v366, v367) =>
 .ask (Q31_J5 v365 v366 v367) fun r370 h371 =>
 .say [.pt_ 19 [3, 4, 5] 0 (.normal) (Q31_J5_S v365 v366 v367 r370)] (ok1 (Q31_J5_W h371)) <|
 .ite (r370) (fun c372 =>
 .say [.br true, .nums [ibits .or .u8 (IntKind.wrap .u8 (Int.tmod v365 128)) 128]] (okc c372 (okc (by decide : (128 : Int) ≠ 0) (okc (by simp [lfI, lfK] : [(lfK .u8 (ibits .or .u8 (IntKind.wrap .u8 (Int.tmod v365 128)) 128))] = [ibits .or .u8 (IntKind.wrap .u8 (Int.tmod v365 128)) 128].map fun n => [Lf.int .u8 n]) ok0))) <|
 .grd (v366.size + (strOfNums [ibits .or .u8 (IntKind.wrap .u8 (Int.tmod v365 128)) 128]).size ≤ 9223372036854775807) fun h373 =>
 .say [] (okc h373 (okc (by decide : (128 : Int) ≠ 0) ok0)) <|
 .ret ⟨[], [3, 4, 5], [], 0⟩ (.inl (IntKind.wrap .u64 (Int.tdiv v365 128), v366 ++ (strOfNums [ibits .or .u8 (IntKind.wrap .u8 (Int.tmod v365 128)) 128]), IntKind.wrap .i64 (v367 + 1)))) fun c372 =>
 .say [.br false] (ok1 c372) <|
 .ret ⟨[], [3, 4], [], 0⟩ (.inr (v365, v366))
def Q31_L10 (v365 : Int) (v366 : ByteArray) (v367 : Int) : Option ((Int × ByteArray)) := loopM (fun v_ => (Q31_L10_T  v_).den) FU (v365, v366, v367)
def Q31_L10_H  : (Int × ByteArray × Int) → St := fun (v365, v366, v367) => ⟨[(3, .lf (.int .u64 v365)), (4, .lf (.str v366)), (5, .lf (.int .i64 v367))], []⟩
def Q31_L10_S  (r_ : (Int × ByteArray)) : St := ⟨[(3, .lf (.int .u64 r_.1)), (4, .lf (.str r_.2))], []⟩
theorem Q31_L10_W {v365 : Int} {v366 : ByteArray} {v367 : Int} {r_ : (Int × ByteArray)} (h : Q31_L10 v365 v366 v367 = some r_) : AWa_ Tryz.f99 0 [1, 1, 1, 1, 0, 1, 0] (.exit 0) (Q31_L10_S r_) (Q31_L10_H  (v365, v366, v367)) :=
 loop_T BaseK (body := (Code.sub (bodyC Tryz.f99) [1, 1, 1, 1, 0, 1, 0, 0])) (by kernel_rfl) (Q31_L10_T ) (Q31_L10_H ) (fun _ => .exit 0) Q31_L10_S (fun r_ => rfl) (fun v_ => by kernel_rfl) h
def Q31_T (p_n : Int) : Mo (ByteArray) :=
 .say [] (okc (by decide : (0 : Int) ≤ 1) ok0) <|
 .ask (Q31_J0 p_n) fun r334 h335 =>
 .say [.pt_ 1 [3, 10] 0 (.normal) (Q31_J0_S r334)] (ok1 (Q31_J0_W h335)) <|
 .ask (Q31_L10 r334 ⟨#[]⟩ 0) fun r376 h377 =>
 .say [.pt_ 0 [3, 4, 5] 0 (.exit 0) (Q31_L10_S r376), .nums [IntKind.wrap .u8 r376.1]] (okc (Q31_L10_W h377) (okc (by simp [lfI, lfK] : [(lfK .u8 (IntKind.wrap .u8 r376.1))] = [IntKind.wrap .u8 r376.1].map fun n => [Lf.int .u8 n]) ok0)) <|
 .grd (r376.2.size + (strOfNums [IntKind.wrap .u8 r376.1]).size ≤ 9223372036854775807) fun h378 =>
 .say [] (ok1 h378) <|
 .ret (fitN 1) (r376.2 ++ (strOfNums [IntKind.wrap .u8 r376.1]))
def Q31 (p_n : Int) : Option (ByteArray) := Mo.den (Q31_T p_n)
theorem Q31_ok (p_n : Int) (r : ByteArray) (h : Q31 p_n = some r) : Fn Tryz.prog GI 99 [.lf (.int .i64 p_n)] (.lf (.str r)) :=
 fn_T BaseK Tryz.func99 (by kernel_rfl) (by kernel_rfl) (by kernel_rfl) (Q31_T p_n) (fun r => [.lf (.str r)]) (by kernel_rfl) h
def Q29_T (p_n : Int) (p_b0 : GRef40Out) : Mo (GRef40Out) :=
 .say [.order [(true, 0), (true, 1), (true, 2), (true, 3), (true, 4), (false, 5), (true, 6), (true, 7), (true, 8), (false, 9)] (some 9) []] ok0 <|
 .ask (Q31 p_n) fun r379 h380 =>
 .say [.res (.lf (.str r379))] (ok1 (Q31_ok _ _ h380)) <|
 .grd (p_b0.fS.size + r379.size ≤ 9223372036854775807) fun h381 =>
 .say [] (ok1 h381) <|
 .ret ⟨[], [], [], 1⟩ (GRef40Out.mk (p_b0.fS ++ r379) p_b0.fBad p_b0.fRaw)
def Q29 (p_n : Int) (p_b0 : GRef40Out) : Option (GRef40Out) := Mo.den (Q29_T p_n p_b0)
theorem Q29_ok (p_n : Int) (p_b0 : GRef40Out) (r : GRef40Out) (h : Q29 p_n p_b0 = some r) : FnH Tryz.prog GI 73 [.ptr 0 0, .lf (.int .i64 p_n)] [.box 105 (.dat (GRef40Out.lf1 p_b0))] (.tup []) [.box 105 (.dat (GRef40Out.lf1 r))] :=
 fn_TH BaseK Tryz.func73 (by kernel_rfl) (by kernel_rfl) (by kernel_rfl) (Q29_T p_n p_b0) (fun r => []) (fun r => [.box 105 (.dat (GRef40Out.lf1 r))]) (by kernel_rfl) h
def Q70_T (p_s : ByteArray) (p_b0 : GRef40Out) : Mo (GRef40Out) :=
 .ask (Q29 (p_s.size : Int) p_b0) fun r384 h385 =>
 .say [.resH [0] (.tup []) [.box 105 (.dat (GRef40Out.lf1 r384))]] (ok1 (Q29_ok _ _ _ h385)) <|
 .grd (r384.fS.size + p_s.size ≤ 9223372036854775807) fun h386 =>
 .say [] (ok1 h386) <|
 .ret ⟨[], [], [], 1⟩ (GRef40Out.mk (r384.fS ++ p_s) r384.fBad r384.fRaw)
def Q70 (p_s : ByteArray) (p_b0 : GRef40Out) : Option (GRef40Out) := Mo.den (Q70_T p_s p_b0)
theorem Q70_ok (p_s : ByteArray) (p_b0 : GRef40Out) (r : GRef40Out) (h : Q70 p_s p_b0 = some r) : FnH Tryz.prog GI 72 [.ptr 0 0, .lf (.str p_s)] [.box 105 (.dat (GRef40Out.lf1 p_b0))] (.tup []) [.box 105 (.dat (GRef40Out.lf1 r))] :=
 fn_TH BaseK Tryz.func72 (by kernel_rfl) (by kernel_rfl) (by kernel_rfl) (Q70_T p_s p_b0) (fun r => []) (fun r => [.box 105 (.dat (GRef40Out.lf1 r))]) (by kernel_rfl) h
def Q50_L0_T (p_l : List ByteArray) : (Int × GRef40Out) → Mo ((Int × GRef40Out) ⊕ (GRef40Out)) := fun (v433, s434) =>
 .say [.num p_l.length] (okc (by simp : p_l.length = (p_l.map lfS).length) ok0) <|
 .ite (decide ((v433 : Int) < (p_l.length : Int))) (fun c435 =>
 .say [.br true] (ok1 c435) <|
 .ask (gidx p_l v433) fun x436 h437 =>
 .say [.row (lfS x436)] (okc (gidx_ok (fun _ => rfl) h437 : (0 : Int) ≤ v433 ∧ (p_l.map lfS)[v433.toNat]? = some (lfS x436)) ok0) <|
 .ask (Q70 x436 s434) fun r438 h439 =>
 .say [.resH [0] (.tup []) [.box 105 (.dat (GRef40Out.lf1 r438))]] (ok1 (Q70_ok _ _ _ h439)) <|
 .ret ⟨[], [0, 1, 4], [], 1⟩ (.inl (IntKind.wrap .i64 (v433 + 1), r438))) fun c435 =>
 .say [.br false] (ok1 c435) <|
 .ret ⟨[], [], [], 1⟩ (.inr (s434))
def Q50_L0 (p_l : List ByteArray) (v433 : Int) (s434 : GRef40Out) : Option (GRef40Out) := loopM (fun v_ => (Q50_L0_T p_l v_).den) FU (v433, s434)
def Q50_L0_H (p_l : List ByteArray) : (Int × GRef40Out) → St := fun (v433, s434) => ⟨[(0, .ptr 0 0), (1, .lf (.rows 1 (p_l.map lfS))), (4, .lf (.int .i64 v433))], [.box 105 (.dat (GRef40Out.lf1 s434))]⟩
def Q50_L0_S  (r_ : GRef40Out) : St := ⟨[], [.box 105 (.dat (GRef40Out.lf1 r_))]⟩
theorem Q50_L0_W {p_l : List ByteArray} {v433 : Int} {s434 : GRef40Out} {r_ : GRef40Out} (h : Q50_L0 p_l v433 s434 = some r_) : AWa_ Tryz.f75 1 [1, 1, 0] (.exit 0) (Q50_L0_S r_) (Q50_L0_H p_l (v433, s434)) :=
 loop_T BaseK (body := (Code.sub (bodyC Tryz.f75) [1, 1, 0, 0])) (by kernel_rfl) (Q50_L0_T p_l) (Q50_L0_H p_l) (fun _ => .exit 0) Q50_L0_S (fun r_ => rfl) (fun v_ => by kernel_rfl) h
def Q50_T (p_l : List ByteArray) (p_b0 : GRef40Out) : Mo (GRef40Out) :=
 .say [.num p_l.length] (okc (by simp : p_l.length = (p_l.map lfS).length) ok0) <|
 .ask (Q29 (p_l.length : Int) p_b0) fun r417 h418 =>
 .say [.resH [0] (.tup []) [.box 105 (.dat (GRef40Out.lf1 r417))]] (ok1 (Q29_ok _ _ _ h418)) <|
 .ask (Q50_L0 p_l 0 r417) fun r441 h442 =>
 .say [.pt_ 0 [0, 1, 4] 1 (.exit 0) (Q50_L0_S r441)] (ok1 (Q50_L0_W h442)) <|
 .ret ⟨[], [], [], 1⟩ (r441)
def Q50 (p_l : List ByteArray) (p_b0 : GRef40Out) : Option (GRef40Out) := Mo.den (Q50_T p_l p_b0)
theorem Q50_ok (p_l : List ByteArray) (p_b0 : GRef40Out) (r : GRef40Out) (h : Q50 p_l p_b0 = some r) : FnH Tryz.prog GI 75 [.ptr 0 0, .lf (.rows 1 (p_l.map lfS))] [.box 105 (.dat (GRef40Out.lf1 p_b0))] (.tup []) [.box 105 (.dat (GRef40Out.lf1 r))] :=
 fn_TH BaseK Tryz.func75 (by kernel_rfl) (by kernel_rfl) (by kernel_rfl) (Q50_T p_l p_b0) (fun r => []) (fun r => [.box 105 (.dat (GRef40Out.lf1 r))]) (by kernel_rfl) h
def Q68_T (p_b : Bool) (p_b0 : GRef40Out) : Mo (GRef40Out) :=
 .ite (p_b) (fun c451 =>
 .say [.br true] (ok1 c451) <|
 .grd (p_b0.fS.size + (⟨#[1]⟩ : ByteArray).size ≤ 9223372036854775807) fun h452 =>
 .say [] (ok1 h452) <|
 .ret ⟨[], [], [], 1⟩ (GRef40Out.mk (p_b0.fS ++ ⟨#[1]⟩) p_b0.fBad p_b0.fRaw)) fun c451 =>
 .say [.br false] (ok1 c451) <|
 .grd (p_b0.fS.size + (⟨#[0]⟩ : ByteArray).size ≤ 9223372036854775807) fun h453 =>
 .say [] (ok1 h453) <|
 .ret ⟨[], [], [], 1⟩ (GRef40Out.mk (p_b0.fS ++ ⟨#[0]⟩) p_b0.fBad p_b0.fRaw)
def Q68 (p_b : Bool) (p_b0 : GRef40Out) : Option (GRef40Out) := Mo.den (Q68_T p_b p_b0)
theorem Q68_ok (p_b : Bool) (p_b0 : GRef40Out) (r : GRef40Out) (h : Q68 p_b p_b0 = some r) : FnH Tryz.prog GI 76 [.ptr 0 0, .lf (.bool p_b)] [.box 105 (.dat (GRef40Out.lf1 p_b0))] (.tup []) [.box 105 (.dat (GRef40Out.lf1 r))] :=
 fn_TH BaseK Tryz.func76 (by kernel_rfl) (by kernel_rfl) (by kernel_rfl) (Q68_T p_b p_b0) (fun r => []) (fun r => [.box 105 (.dat (GRef40Out.lf1 r))]) (by kernel_rfl) h
def Q24_L0_T (p_v : GValue) : (Int × (List GValue)) → Mo ((Int × (List GValue)) ⊕ ((List GValue))) := fun (v718, l719) =>
 .say [.num p_v.fList.length] (okc (by simp : p_v.fList.length = (p_v.fList.map GValue.lf).length) ok0) <|
 .ite (decide ((v718 : Int) < (p_v.fList.length : Int))) (fun c720 =>
 .say [.br true] (ok1 c720) <|
 .ask (gidx p_v.fList v718) fun x721 h722 =>
 .say [.row (GValue.lf1 x721), .rows ((l719 ++ [x721]).map GValue.lf)] (okc (gidx_ok GValue.lf_eq h722 : (0 : Int) ≤ v718 ∧ (p_v.fList.map GValue.lf)[v718.toNat]? = some (GValue.lf1 x721)) (okc (by simp [GValue.lf_eq] : (l719 ++ [x721]).map GValue.lf = (l719.map GValue.lf) ++ [(GValue.lf1 x721)]) ok0)) <|
 .grd ((l719.length + [x721].length) * 80 ≤ 140737488355328) fun h723 =>
 .say [] (okc (by simpa using h723 : ((l719.map GValue.lf).length + [(GValue.lf1 x721)].length) * 80 ≤ 140737488355328) ok0) <|
 .ret ⟨[], [1, 3, 4], [(3, 1)], 2⟩ (.inl (IntKind.wrap .i64 (v718 + 1), l719 ++ [x721]))) fun c720 =>
 .say [.br false] (ok1 c720) <|
 .ret ⟨[], [1, 3], [], 2⟩ (.inr (l719))
def Q24_L0 (p_v : GValue) (v718 : Int) (l719 : List GValue) : Option (((List GValue))) := loopM (fun v_ => (Q24_L0_T p_v v_).den) FU (v718, l719)
def Q24_L0_H (p_v : GValue) : (Int × (List GValue)) → St := fun (v718, l719) => ⟨[(1, .ptr 0 0), (3, .own 1), (4, .lf (.int .i64 v718))], [.box 29 (.dat (GValue.lf1 p_v)), .row 29 5 (l719.map GValue.lf)]⟩
def Q24_L0_S (p_v : GValue) (r_ : ((List GValue))) : St := ⟨[(1, .ptr 0 0), (3, .own 1)], [.box 29 (.dat (GValue.lf1 p_v)), .row 29 5 (r_.map GValue.lf)]⟩
theorem Q24_L0_W {p_v : GValue} {v718 : Int} {l719 : List GValue} {r_ : ((List GValue))} (h : Q24_L0 p_v v718 l719 = some r_) : AWa_ Tryz.f104 0 [1, 1, 0, 1, 0, 1, 0] (.exit 0) (Q24_L0_S p_v r_) (Q24_L0_H p_v (v718, l719)) :=
 loop_T BaseK (body := (Code.sub (bodyC Tryz.f104) [1, 1, 0, 1, 0, 1, 0, 0])) (by kernel_rfl) (Q24_L0_T p_v) (Q24_L0_H p_v) (fun _ => .exit 0) (Q24_L0_S p_v) (fun r_ => rfl) (fun v_ => by kernel_rfl) h
def Q24_J6_T (p_v : GValue) : Mo (((List GValue))) :=
 .ite (p_v.fKind == 6) (fun c708 =>
 .say [.br true] (okc c708 (okc (by simp [GValue.lf_eq] : (([] : List GValue).map GValue.lf) = []) ok0)) <|
 .ask (Q24_L0 p_v 0 ([] : List GValue)) fun r725 h726 =>
 .say [.part [.rerow 1 (([] : List GValue).map GValue.lf)] 0 [1, 3, 4] 2 (.exit 0) (Q24_L0_S p_v r725).T (Q24_L0_S p_v r725).H] (ok1 (Q24_L0_W h726)) <|
 .ret ⟨[], [1, 3], [], 2⟩ (r725)) fun c708 =>
 .say [.br false] (okc c708 (okc (by simp [GValue.lf_eq] : (([] : List GValue).map GValue.lf) = []) ok0)) <|
 .ret ⟨[.rerow 1 (([] : List GValue).map GValue.lf)], [1, 3], [], 2⟩ (([] : List GValue))
def Q24_J6 (p_v : GValue) : Option (((List GValue))) := Mo.den (Q24_J6_T p_v)
def Q24_J6_S (p_v : GValue) (r_ : ((List GValue))) : St := ⟨[(1, .ptr 0 0), (3, .own 1)], [.box 29 (.dat (GValue.lf1 p_v)), .row 29 5 (r_.map GValue.lf)]⟩
theorem Q24_J6_W {p_v : GValue} {r_ : ((List GValue))} (h : Q24_J6 p_v = some r_) : AWa_ Tryz.f104 0 [1, 1, 0, 1] (.normal) (Q24_J6_S p_v r_) ⟨[(1, .ptr 0 0), (3, .own 1), (8, .lf (.bool (p_v.fKind == 6)))], [.box 29 (.dat (GValue.lf1 p_v)), .row 29 5 []]⟩ :=
 part_T BaseK (Q24_J6_T p_v) (fun _ => .normal) (Q24_J6_S p_v) (by kernel_rfl) h
def Q24_L11_T (p_v : GValue) : (Int × (List GValue)) → Mo ((Int × (List GValue)) ⊕ ((List GValue))) := fun (v757, l758) =>
 .say [.num p_v.fDoc.length] (okc (by simp : p_v.fDoc.length = (p_v.fDoc.map GField.lf).length) ok0) <|
 .ite (decide ((v757 : Int) < (p_v.fDoc.length : Int))) (fun c759 =>
 .say [.br true] (ok1 c759) <|
 .ask (gidx p_v.fDoc v757) fun x760 h761 =>
 .say [.row (GField.lf1 x760), .rows ((l758 ++ [x760.fValue]).map GValue.lf)] (okc (gidx_ok GField.lf_eq h761 : (0 : Int) ≤ v757 ∧ (p_v.fDoc.map GField.lf)[v757.toNat]? = some (GField.lf1 x760)) (okc (by simp [GValue.lf_eq] : (l758 ++ [x760.fValue]).map GValue.lf = (l758.map GValue.lf) ++ [(GValue.lf1 x760.fValue)]) ok0)) <|
 .grd ((l758.length + [x760.fValue].length) * 80 ≤ 140737488355328) fun h762 =>
 .say [] (okc (by simpa using h762 : ((l758.map GValue.lf).length + [(GValue.lf1 x760.fValue)].length) * 80 ≤ 140737488355328) ok0) <|
 .ret ⟨[], [1, 3, 5], [(3, 1)], 2⟩ (.inl (IntKind.wrap .i64 (v757 + 1), l758 ++ [x760.fValue]))) fun c759 =>
 .say [.br false] (ok1 c759) <|
 .ret ⟨[.kill 0], [3], [], 2⟩ (.inr (l758))
def Q24_L11 (p_v : GValue) (v757 : Int) (l758 : List GValue) : Option (((List GValue))) := loopM (fun v_ => (Q24_L11_T p_v v_).den) FU (v757, l758)
def Q24_L11_H (p_v : GValue) : (Int × (List GValue)) → St := fun (v757, l758) => ⟨[(1, .ptr 0 0), (3, .own 1), (5, .lf (.int .i64 v757))], [.box 29 (.dat (GValue.lf1 p_v)), .row 29 5 (l758.map GValue.lf)]⟩
def Q24_L11_S  (r_ : ((List GValue))) : St := ⟨[(3, .own 1)], [.dead, .row 29 5 (r_.map GValue.lf)]⟩
theorem Q24_L11_W {p_v : GValue} {v757 : Int} {l758 : List GValue} {r_ : ((List GValue))} (h : Q24_L11 p_v v757 l758 = some r_) : AWa_ Tryz.f104 0 [1, 1, 1, 0, 1, 0, 1, 0] (.exit 2) (Q24_L11_S r_) (Q24_L11_H p_v (v757, l758)) :=
 loop_T BaseK (body := (Code.sub (bodyC Tryz.f104) [1, 1, 1, 0, 1, 0, 1, 0, 0])) (by kernel_rfl) (Q24_L11_T p_v) (Q24_L11_H p_v) (fun _ => .exit 2) Q24_L11_S (fun r_ => rfl) (fun v_ => by kernel_rfl) h
def Q24_J17_T (p_v : GValue) (r728 : ((List GValue))) : Mo (((List GValue))) :=
 .ite (p_v.fKind == 5) (fun c752 =>
 .say [.br true] (ok1 c752) <|
 .ask (Q24_L11 p_v 0 r728) fun r765 h766 =>
 .say [.pt_ 0 [1, 3, 5] 2 (.exit 2) (Q24_L11_S r765)] (ok1 (Q24_L11_W h766)) <|
 .ret ⟨[], [3], [], 2⟩ (r765)) fun c752 =>
 .say [.br false] (ok1 c752) <|
 .ret ⟨[.kill 0], [3], [], 2⟩ (r728)
def Q24_J17 (p_v : GValue) (r728 : ((List GValue))) : Option (((List GValue))) := Mo.den (Q24_J17_T p_v r728)
def Q24_J17_S  (r_ : ((List GValue))) : St := ⟨[(3, .own 1)], [.dead, .row 29 5 (r_.map GValue.lf)]⟩
theorem Q24_J17_W {p_v : GValue} {r728 : ((List GValue))} {r_ : ((List GValue))} (h : Q24_J17 p_v r728 = some r_) : AWa_ Tryz.f104 0 [1, 1, 1, 0, 1] (.normal) (Q24_J17_S r_) ⟨[(1, .ptr 0 0), (3, .own 1), (26, .lf (.bool (p_v.fKind == 5)))], [.box 29 (.dat (GValue.lf1 p_v)), .row 29 5 (r728.map GValue.lf)]⟩ :=
 part_T BaseK (Q24_J17_T p_v r728) (fun _ => .normal) Q24_J17_S (by kernel_rfl) h
def Q24_T (p_v : GValue) : Mo (List GValue) :=
 .ask (Q24_J6 p_v) fun r728 h729 =>
 .say [.part [.nrow 3 29 5] 1 [1, 3, 8] 2 (.normal) (Q24_J6_S p_v r728).T (Q24_J6_S p_v r728).H] (ok1 (Q24_J6_W h729)) <|
 .ask (Q24_J17 p_v r728) fun r769 h770 =>
 .say [.pt_ 1 [1, 3, 26] 2 (.normal) (Q24_J17_S r769), .at_ 0 0, .frz 1] (ok1 (Q24_J17_W h770)) <|
 .ret (fitN 1) (r769)
def Q24 (p_v : GValue) : Option (List GValue) := Mo.den (Q24_T p_v)
theorem Q24_ok (p_v : GValue) (r : List GValue) (h : Q24 p_v = some r) : Fn Tryz.prog GI 104 [.dat (GValue.lf1 p_v)] (.lf (.rows 5 (r.map GValue.lf))) :=
 fn_T BaseK Tryz.func104 (by kernel_rfl) (by kernel_rfl) (by kernel_rfl) (Q24_T p_v) (fun r => [.lf (.rows 5 (r.map GValue.lf))]) (by kernel_rfl) h
structure RB3 where
 m1 : (p_v : GValue) → (p_most : Int) → Option (Int)
 ok1 : ∀ (p_v : GValue) (p_most : Int) (r : Int), m1 p_v p_most = some r → Fn Tryz.prog GI 78 [.dat (GValue.lf1 p_v), .lf (.int .i64 p_most)] (.lf (.int .i64 r))
def Q48_J0_T (R_ : RB3) (p_most : Int) (r773 : List GValue) : Mo (Bool) :=
 .ite (decide ((p_most : Int) < 2)) (fun c776 =>
 .say [.gd 6002 true] (ok1 c776) <|
 .ret ⟨[], [1, 5, 16], [], 1⟩ (true)) fun c776 =>
 .say [.gd 6002 false, .num r773.length] (okc c776 (okc (by simp : r773.length = (r773.map GValue.lf).length) ok0)) <|
 .ret ⟨[], [1, 5, 16], [], 1⟩ ((r773.length : Int) == 0)
def Q48_J0 (R_ : RB3) (p_most : Int) (r773 : List GValue) : Option (Bool) := Mo.den (Q48_J0_T R_ p_most r773)
def Q48_J0_S (p_most : Int) (r773 : List GValue) (r_ : Bool) : St := ⟨[(1, .lf (.int .i64 p_most)), (5, .lf (.rows 5 (r773.map GValue.lf))), (16, .lf (.bool r_))], [.dead]⟩
theorem Q48_J0_W {R_ : RB3} {p_most : Int} {r773 : List GValue} {r_ : Bool} (h : Q48_J0 R_ p_most r773 = some r_) : AWa_ Tryz.f78 0 [1, 1, 0, 0] (.normal) (Q48_J0_S p_most r773 r_) ⟨[(1, .lf (.int .i64 p_most)), (5, .lf (.rows 5 (r773.map GValue.lf)))], [.dead]⟩ :=
 part_T BaseK (Q48_J0_T R_ p_most r773) (fun _ => .normal) (Q48_J0_S p_most r773) (by kernel_rfl) h
def Q48_L5_T (R_ : RB3) (p_most : Int) (r773 : List GValue) : (Int × Int) → Mo ((Int × Int) ⊕ (Int)) := fun (v811, v812) =>
 .say [.num r773.length] (okc (by simp : r773.length = (r773.map GValue.lf).length) ok0) <|
 .ite (decide ((v812 : Int) < (r773.length : Int))) (fun c813 =>
 .say [.br true] (ok1 c813) <|
 .ask (gidx r773 v812) fun x814 h815 =>
 .say [.row (GValue.lf1 x814)] (okc (gidx_ok GValue.lf_eq h815 : (0 : Int) ≤ v812 ∧ (r773.map GValue.lf)[v812.toNat]? = some (GValue.lf1 x814)) ok0) <|
 .ask (R_.m1 x814 (IntKind.wrap .i64 (p_most - 1))) fun r816 h817 =>
 .say [.res (.lf (.int .i64 r816))] (ok1 (R_.ok1 _ _ _ h817)) <|
 .ret ⟨[], [1, 5, 6, 7], [], 1⟩ (.inl ((if r816 > v811 then r816 else v811), IntKind.wrap .i64 (v812 + 1)))) fun c813 =>
 .say [.br false] (ok1 c813) <|
 .ret ⟨[], [6], [], 1⟩ (.inr (v811))
def Q48_L5 (R_ : RB3) (p_most : Int) (r773 : List GValue) (v811 : Int) (v812 : Int) : Option (Int) := loopM (fun v_ => (Q48_L5_T R_ p_most r773 v_).den) FU (v811, v812)
def Q48_L5_H (R_ : RB3) (p_most : Int) (r773 : List GValue) : (Int × Int) → St := fun (v811, v812) => ⟨[(1, .lf (.int .i64 p_most)), (5, .lf (.rows 5 (r773.map GValue.lf))), (6, .lf (.int .i64 v811)), (7, .lf (.int .i64 v812))], [.dead]⟩
def Q48_L5_S  (r_ : Int) : St := ⟨[(6, .lf (.int .i64 r_))], [.dead]⟩
theorem Q48_L5_W {R_ : RB3} {p_most : Int} {r773 : List GValue} {v811 : Int} {v812 : Int} {r_ : Int} (h : Q48_L5 R_ p_most r773 v811 v812 = some r_) : AWa_ Tryz.f78 0 [1, 1, 1, 1, 0, 1, 0] (.exit 0) (Q48_L5_S r_) (Q48_L5_H R_ p_most r773 (v811, v812)) :=
 loop_T BaseK (body := (Code.sub (bodyC Tryz.f78) [1, 1, 1, 1, 0, 1, 0, 0])) (by kernel_rfl) (Q48_L5_T R_ p_most r773) (Q48_L5_H R_ p_most r773) (fun _ => .exit 0) Q48_L5_S (fun r_ => rfl) (fun v_ => by kernel_rfl) h
def Q48_T (R_ : RB3) (p_v : GValue) (p_most : Int) : Mo (Int) :=
 .ask (Q24 p_v) fun r773 h774 =>
 .say [.res (.lf (.rows 5 (r773.map GValue.lf)))] (ok1 (Q24_ok _ _ h774)) <|
 .ask (Q48_J0 R_ p_most r773) fun r778 h779 =>
 .say [.part [.kill 0] 11 [1, 5] 1 (.normal) (Q48_J0_S p_most r773 r778).T (Q48_J0_S p_most r773 r778).H] (ok1 (Q48_J0_W h779)) <|
 .ite (r778) (fun c781 =>
 .say [.br true] (ok1 c781) <|
 .ret (fitN 1) (1)) fun c781 =>
 .say [.br false] (ok1 c781) <|
 .ask (Q48_L5 R_ p_most r773 0 0) fun r819 h820 =>
 .say [.pt_ 0 [1, 5, 6, 7] 1 (.exit 0) (Q48_L5_S r819)] (ok1 (Q48_L5_W h820)) <|
 .ret (fitN 1) (IntKind.wrap .i64 (r819 + 1))
theorem Q48_okT (R_ : RB3) (p_v : GValue) (p_most : Int) (r : Int) (h : Mo.den (Q48_T R_ p_v p_most) = some r) : Fn Tryz.prog GI 78 [.dat (GValue.lf1 p_v), .lf (.int .i64 p_most)] (.lf (.int .i64 r)) :=
 fn_T BaseK Tryz.func78 (by kernel_rfl) (by kernel_rfl) (by kernel_rfl) (Q48_T R_ p_v p_most) (fun r => [.lf (.int .i64 r)]) (by kernel_rfl) h
def RB3_F : Nat → RB3
 | 0 => { m1 := fun p_v p_most => none, ok1 := fun _ _ _ h => (by cases h) }
 | n_ + 1 => { m1 := fun p_v p_most => Mo.den (Q48_T (RB3_F n_) p_v p_most), ok1 := fun p_v p_most r h => Q48_okT (RB3_F n_) p_v p_most r h }
def Q48 (p_v : GValue) (p_most : Int) : Option (Int) := (RB3_F FU).m1 p_v p_most
theorem Q48_ok (p_v : GValue) (p_most : Int) (r : Int) (h : Q48 p_v p_most = some r) : Fn Tryz.prog GI 78 [.dat (GValue.lf1 p_v), .lf (.int .i64 p_most)] (.lf (.int .i64 r)) := (RB3_F FU).ok1 p_v p_most r h
def Q90_T (p_v : GValue) : Mo (Int) :=
 .ask (Q48 p_v 17) fun r821 h822 =>
 .say [.res (.lf (.int .i64 r821))] (ok1 (Q48_ok _ _ _ h822)) <|
 .ret (fitN 1) (r821)
def Q90 (p_v : GValue) : Option (Int) := Mo.den (Q90_T p_v)
theorem Q90_ok (p_v : GValue) (r : Int) (h : Q90 p_v = some r) : Fn Tryz.prog GI 55 [.dat (GValue.lf1 p_v)] (.lf (.int .i64 r)) :=
 fn_T BaseK Tryz.func55 (by kernel_rfl) (by kernel_rfl) (by kernel_rfl) (Q90_T p_v) (fun r => [.lf (.int .i64 r)]) (by kernel_rfl) h
structure RB4 where
 m1 : (p_v : GValue) → (p_most : Int) → Option (Int)
 ok1 : ∀ (p_v : GValue) (p_most : Int) (r : Int), m1 p_v p_most = some r → Fn Tryz.prog GI 79 [.dat (GValue.lf1 p_v), .lf (.int .i64 p_most)] (.lf (.int .i64 r))
def Q47_J0_T (R_ : RB4) (p_most : Int) (r828 : List GValue) (v872 : Int) (v873 : Int) : Mo (Bool) :=
 .say [.num r828.length] (okc (by simp : r828.length = (r828.map GValue.lf).length) ok0) <|
 .ite (decide ((v873 : Int) < (r828.length : Int))) (fun c874 =>
 .say [.gd 10004 true] (ok1 c874) <|
 .ret ⟨[], [1, 5, 6, 7, 18], [], 1⟩ (decide ((v872 : Int) < p_most))) fun c874 =>
 .say [.gd 10004 false] (ok1 c874) <|
 .ret ⟨[], [1, 5, 6, 7, 18], [], 1⟩ (false)
def Q47_J0 (R_ : RB4) (p_most : Int) (r828 : List GValue) (v872 : Int) (v873 : Int) : Option (Bool) := Mo.den (Q47_J0_T R_ p_most r828 v872 v873)
def Q47_J0_S (p_most : Int) (r828 : List GValue) (v872 : Int) (v873 : Int) (r_ : Bool) : St := ⟨[(1, .lf (.int .i64 p_most)), (5, .lf (.int .i64 v872)), (6, .lf (.rows 5 (r828.map GValue.lf))), (7, .lf (.int .i64 v873)), (18, .lf (.bool r_))], [.dead]⟩
theorem Q47_J0_W {R_ : RB4} {p_most : Int} {r828 : List GValue} {v872 : Int} {v873 : Int} {r_ : Bool} (h : Q47_J0 R_ p_most r828 v872 v873 = some r_) : AWa_ Tryz.f79 0 [1, 1, 1, 0, 1, 0, 0, 0, 0] (.normal) (Q47_J0_S p_most r828 v872 v873 r_) ⟨[(1, .lf (.int .i64 p_most)), (5, .lf (.int .i64 v872)), (6, .lf (.rows 5 (r828.map GValue.lf))), (7, .lf (.int .i64 v873))], [.dead]⟩ :=
 part_T BaseK (Q47_J0_T R_ p_most r828 v872 v873) (fun _ => .normal) (Q47_J0_S p_most r828 v872 v873) (by kernel_rfl) h
def Q47_L5_T (R_ : RB4) (p_most : Int) (r828 : List GValue) : (Int × Int) → Mo ((Int × Int) ⊕ (Int)) := fun (v872, v873) =>
 .ask (Q47_J0 R_ p_most r828 v872 v873) fun r876 h877 =>
 .say [.pt_ 15 [1, 5, 6, 7] 1 (.normal) (Q47_J0_S p_most r828 v872 v873 r876)] (ok1 (Q47_J0_W h877)) <|
 .ite (r876) (fun c878 =>
 .say [.br true] (ok1 c878) <|
 .ask (gidx r828 v873) fun x879 h880 =>
 .say [.row (GValue.lf1 x879)] (okc (gidx_ok GValue.lf_eq h880 : (0 : Int) ≤ v873 ∧ (r828.map GValue.lf)[v873.toNat]? = some (GValue.lf1 x879)) ok0) <|
 .ask (R_.m1 x879 (IntKind.wrap .i64 (p_most - v872))) fun r881 h882 =>
 .say [.res (.lf (.int .i64 r881))] (ok1 (R_.ok1 _ _ _ h882)) <|
 .ret ⟨[], [1, 5, 6, 7], [], 1⟩ (.inl (IntKind.wrap .i64 (v872 + r881), IntKind.wrap .i64 (v873 + 1)))) fun c878 =>
 .say [.br false] (ok1 c878) <|
 .ret ⟨[], [5], [], 1⟩ (.inr (v872))
def Q47_L5 (R_ : RB4) (p_most : Int) (r828 : List GValue) (v872 : Int) (v873 : Int) : Option (Int) := loopM (fun v_ => (Q47_L5_T R_ p_most r828 v_).den) FU (v872, v873)
def Q47_L5_H (R_ : RB4) (p_most : Int) (r828 : List GValue) : (Int × Int) → St := fun (v872, v873) => ⟨[(1, .lf (.int .i64 p_most)), (5, .lf (.int .i64 v872)), (6, .lf (.rows 5 (r828.map GValue.lf))), (7, .lf (.int .i64 v873))], [.dead]⟩
def Q47_L5_S  (r_ : Int) : St := ⟨[(5, .lf (.int .i64 r_))], [.dead]⟩
theorem Q47_L5_W {R_ : RB4} {p_most : Int} {r828 : List GValue} {v872 : Int} {v873 : Int} {r_ : Int} (h : Q47_L5 R_ p_most r828 v872 v873 = some r_) : AWa_ Tryz.f79 0 [1, 1, 1, 0, 1, 0] (.exit 0) (Q47_L5_S r_) (Q47_L5_H R_ p_most r828 (v872, v873)) :=
 loop_T BaseK (body := (Code.sub (bodyC Tryz.f79) [1, 1, 1, 0, 1, 0, 0])) (by kernel_rfl) (Q47_L5_T R_ p_most r828) (Q47_L5_H R_ p_most r828) (fun _ => .exit 0) Q47_L5_S (fun r_ => rfl) (fun v_ => by kernel_rfl) h
def Q47_T (R_ : RB4) (p_v : GValue) (p_most : Int) : Mo (Int) :=
 .ask (Q24 p_v) fun r828 h829 =>
 .say [.res (.lf (.rows 5 (r828.map GValue.lf)))] (ok1 (Q24_ok _ _ h829)) <|
 .ask (Q47_L5 R_ p_most r828 1 0) fun r884 h885 =>
 .say [.part [.kill 0] 0 [1, 5, 6, 7] 1 (.exit 0) (Q47_L5_S r884).T (Q47_L5_S r884).H] (ok1 (Q47_L5_W h885)) <|
 .ret (fitN 1) (r884)
theorem Q47_okT (R_ : RB4) (p_v : GValue) (p_most : Int) (r : Int) (h : Mo.den (Q47_T R_ p_v p_most) = some r) : Fn Tryz.prog GI 79 [.dat (GValue.lf1 p_v), .lf (.int .i64 p_most)] (.lf (.int .i64 r)) :=
 fn_T BaseK Tryz.func79 (by kernel_rfl) (by kernel_rfl) (by kernel_rfl) (Q47_T R_ p_v p_most) (fun r => [.lf (.int .i64 r)]) (by kernel_rfl) h
def RB4_F : Nat → RB4
 | 0 => { m1 := fun p_v p_most => none, ok1 := fun _ _ _ h => (by cases h) }
 | n_ + 1 => { m1 := fun p_v p_most => Mo.den (Q47_T (RB4_F n_) p_v p_most), ok1 := fun p_v p_most r h => Q47_okT (RB4_F n_) p_v p_most r h }
def Q47 (p_v : GValue) (p_most : Int) : Option (Int) := (RB4_F FU).m1 p_v p_most
theorem Q47_ok (p_v : GValue) (p_most : Int) (r : Int) (h : Q47 p_v p_most = some r) : Fn Tryz.prog GI 79 [.dat (GValue.lf1 p_v), .lf (.int .i64 p_most)] (.lf (.int .i64 r)) := (RB4_F FU).ok1 p_v p_most r h
def Q91_T (p_v : GValue) : Mo (Int) :=
 .ask (Q47 p_v 1025) fun r886 h887 =>
 .say [.res (.lf (.int .i64 r886))] (ok1 (Q47_ok _ _ _ h887)) <|
 .ret (fitN 1) (r886)
def Q91 (p_v : GValue) : Option (Int) := Mo.den (Q91_T p_v)
theorem Q91_ok (p_v : GValue) (r : Int) (h : Q91 p_v = some r) : Fn Tryz.prog GI 56 [.dat (GValue.lf1 p_v)] (.lf (.int .i64 r)) :=
 fn_T BaseK Tryz.func56 (by kernel_rfl) (by kernel_rfl) (by kernel_rfl) (Q91_T p_v) (fun r => [.lf (.int .i64 r)]) (by kernel_rfl) h
def Q46_J0_T (p_i : Int) (p_n : Int) (p_s : ByteArray) (v1090 : Int) : Mo (Bool) :=
 .ask (sidx p_s (IntKind.wrap .i64 (p_i + v1090))) fun b1092 h1093 =>
 .say [.byt b1092] (okc (sidx_ok h1093 : (0 : Int) ≤ (IntKind.wrap .i64 (p_i + v1090)) ∧ p_s[(IntKind.wrap .i64 (p_i + v1090)).toNat]? = some b1092) ok0) <|
 .ite (decide (((b1092.toNat : Int) : Int) < 128)) (fun c1094 =>
 .say [.gd 14006 true] (ok1 c1094) <|
 .ret ⟨[], [0, 1, 2, 7, 32], [], 0⟩ (true)) fun c1094 =>
 .say [.gd 14006 false] (ok1 c1094) <|
 .ask (sidx p_s (IntKind.wrap .i64 (p_i + v1090))) fun b1095 h1096 =>
 .say [.byt b1095] (okc (sidx_ok h1096 : (0 : Int) ≤ (IntKind.wrap .i64 (p_i + v1090)) ∧ p_s[(IntKind.wrap .i64 (p_i + v1090)).toNat]? = some b1095) ok0) <|
 .ret ⟨[], [0, 1, 2, 7, 32], [], 0⟩ (decide ((191 : Int) < (b1095.toNat : Int)))
def Q46_J0 (p_i : Int) (p_n : Int) (p_s : ByteArray) (v1090 : Int) : Option (Bool) := Mo.den (Q46_J0_T p_i p_n p_s v1090)
def Q46_J0_S (p_i : Int) (p_n : Int) (p_s : ByteArray) (v1090 : Int) (r_ : Bool) : St := ⟨[(0, .lf (.str p_s)), (1, .lf (.int .i64 p_i)), (2, .lf (.int .i64 p_n)), (7, .lf (.int .i64 v1090)), (32, .lf (.bool r_))], []⟩
theorem Q46_J0_W {p_i : Int} {p_n : Int} {p_s : ByteArray} {v1090 : Int} {r_ : Bool} (h : Q46_J0 p_i p_n p_s v1090 = some r_) : AWa_ Tryz.f105 0 [1, 1, 0, 1, 0, 0, 1, 0, 0, 0] (.normal) (Q46_J0_S p_i p_n p_s v1090 r_) ⟨[(0, .lf (.str p_s)), (1, .lf (.int .i64 p_i)), (2, .lf (.int .i64 p_n)), (7, .lf (.int .i64 v1090))], []⟩ :=
 part_T BaseK (Q46_J0_T p_i p_n p_s v1090) (fun _ => .normal) (Q46_J0_S p_i p_n p_s v1090) (by kernel_rfl) h
def Q46_L5_T (p_i : Int) (p_n : Int) (p_s : ByteArray) : (Int) → Mo ((Int) ⊕ (Unit ⊕ Unit)) := fun (v1090) =>
 .ite (decide ((v1090 : Int) < p_n)) (fun c1091 =>
 .say [.br true] (ok1 c1091) <|
 .ask (Q46_J0 p_i p_n p_s v1090) fun r1098 h1099 =>
 .say [.pt_ 19 [0, 1, 2, 7] 0 (.normal) (Q46_J0_S p_i p_n p_s v1090 r1098)] (ok1 (Q46_J0_W h1099)) <|
 .ite (r1098) (fun c1100 =>
 .say [.br true] (ok1 c1100) <|
 .ret ⟨[], [6], [], 0⟩ (.inr (.inl ()))) fun c1100 =>
 .say [.br false] (ok1 c1100) <|
 .ret ⟨[], [0, 1, 2, 7], [], 0⟩ (.inl (IntKind.wrap .i64 (v1090 + 1)))) fun c1091 =>
 .say [.br false] (ok1 c1091) <|
 .ret ⟨[], [], [], 0⟩ (.inr (.inr (())))
def Q46_L5 (p_i : Int) (p_n : Int) (p_s : ByteArray) (v1090 : Int) : Option (Unit ⊕ Unit) := loopM (fun v_ => (Q46_L5_T p_i p_n p_s v_).den) FU (v1090)
def Q46_L5_H (p_i : Int) (p_n : Int) (p_s : ByteArray) : (Int) → St := fun (v1090) => ⟨[(0, .lf (.str p_s)), (1, .lf (.int .i64 p_i)), (2, .lf (.int .i64 p_n)), (7, .lf (.int .i64 v1090))], []⟩
def Q46_L5_X (r_ : Unit ⊕ Unit) : Exit := match r_ with
 | .inl o_ => .ret
 | .inr (o_) => .exit 0
def Q46_L5_S  (r_ : Unit ⊕ Unit) : St := match r_ with
 | .inl o_ => ⟨[(6, .lf (.bool false))], []⟩
 | .inr (o_) => ⟨[], []⟩
theorem Q46_L5_W {p_i : Int} {p_n : Int} {p_s : ByteArray} {v1090 : Int} {r_ : Unit ⊕ Unit} (h : Q46_L5 p_i p_n p_s v1090 = some r_) : AWa_ Tryz.f105 0 [1, 1, 0, 1, 0] (Q46_L5_X r_) (Q46_L5_S r_) (Q46_L5_H p_i p_n p_s (v1090)) :=
 loop_T BaseK (body := (Code.sub (bodyC Tryz.f105) [1, 1, 0, 1, 0, 0])) (by kernel_rfl) (Q46_L5_T p_i p_n p_s) (Q46_L5_H p_i p_n p_s) Q46_L5_X Q46_L5_S (fun r_ => by rcases r_ with _ | _ <;> rfl) (fun v_ => by kernel_rfl) h
def Q46_T (p_s : ByteArray) (p_i : Int) (p_n : Int) : Mo (Bool) :=
 .ite (decide (((p_s.size : Int) : Int) < (IntKind.wrap .i64 (p_i + p_n)))) (fun c1038 =>
 .say [.br true] (ok1 c1038) <|
 .ret (fitN 1) (false)) fun c1038 =>
 .say [.br false] (ok1 c1038) <|
 .ask2 (Q46_L5 p_i p_n p_s 0) (fun o1103 h1102 =>
 .say [.pt_ 0 [0, 1, 2, 7] 0 (Q46_L5_X (.inl o1103)) (Q46_L5_S (.inl o1103))] (ok1 (Q46_L5_W h1102)) <|
 .ret (fitN 1) (false)) fun o1104 h1102 =>
 .say [.pt_ 0 [0, 1, 2, 7] 0 (Q46_L5_X (.inr (o1104))) (Q46_L5_S (.inr (o1104)))] (ok1 (Q46_L5_W h1102)) <|
 .ret (fitN 1) (true)
def Q46 (p_s : ByteArray) (p_i : Int) (p_n : Int) : Option (Bool) := Mo.den (Q46_T p_s p_i p_n)
theorem Q46_ok (p_s : ByteArray) (p_i : Int) (p_n : Int) (r : Bool) (h : Q46 p_s p_i p_n = some r) : Fn Tryz.prog GI 105 [.lf (.str p_s), .lf (.int .i64 p_i), .lf (.int .i64 p_n)] (.lf (.bool r)) :=
 fn_T BaseK Tryz.func105 (by kernel_rfl) (by kernel_rfl) (by kernel_rfl) (Q46_T p_s p_i p_n) (fun r => [.lf (.bool r)]) (by kernel_rfl) h
def Q5_J0_T (b1339 : UInt8) (p_s : ByteArray) (v1337 : Int) : Mo (Bool) :=
 .ite (decide ((194 : Int) ≤ (b1339.toNat : Int))) (fun c1342 =>
 .say [.gd 16002 true] (ok1 c1342) <|
 .ret ⟨[], [0, 3, 4, 16], [], 0⟩ (decide (((b1339.toNat : Int) : Int) ≤ 223))) fun c1342 =>
 .say [.gd 16002 false] (ok1 c1342) <|
 .ret ⟨[], [0, 3, 4, 16], [], 0⟩ (false)
def Q5_J0 (b1339 : UInt8) (p_s : ByteArray) (v1337 : Int) : Option (Bool) := Mo.den (Q5_J0_T b1339 p_s v1337)
def Q5_J0_S (b1339 : UInt8) (p_s : ByteArray) (v1337 : Int) (r_ : Bool) : St := ⟨[(0, .lf (.str p_s)), (3, .lf (.int .i64 v1337)), (4, .lf (.int .u8 (b1339.toNat : Int))), (16, .lf (.bool r_))], []⟩
theorem Q5_J0_W {b1339 : UInt8} {p_s : ByteArray} {v1337 : Int} {r_ : Bool} (h : Q5_J0 b1339 p_s v1337 = some r_) : AWa_ Tryz.f80 0 [1, 0, 1, 0, 0, 1, 0, 1, 1, 0, 0, 1, 1, 0] (.normal) (Q5_J0_S b1339 p_s v1337 r_) ⟨[(0, .lf (.str p_s)), (3, .lf (.int .i64 v1337)), (4, .lf (.int .u8 (b1339.toNat : Int)))], []⟩ :=
 part_T BaseK (Q5_J0_T b1339 p_s v1337) (fun _ => .normal) (Q5_J0_S b1339 p_s v1337) (by kernel_rfl) h
def Q5_J5_T (b1339 : UInt8) (p_s : ByteArray) (v1337 : Int) : Mo (Bool) :=
 .ite (decide ((224 : Int) ≤ (b1339.toNat : Int))) (fun c1347 =>
 .say [.gd 20002 true] (ok1 c1347) <|
 .ret ⟨[], [0, 3, 4, 23], [], 0⟩ (decide (((b1339.toNat : Int) : Int) ≤ 239))) fun c1347 =>
 .say [.gd 20002 false] (ok1 c1347) <|
 .ret ⟨[], [0, 3, 4, 23], [], 0⟩ (false)
def Q5_J5 (b1339 : UInt8) (p_s : ByteArray) (v1337 : Int) : Option (Bool) := Mo.den (Q5_J5_T b1339 p_s v1337)
def Q5_J5_S (b1339 : UInt8) (p_s : ByteArray) (v1337 : Int) (r_ : Bool) : St := ⟨[(0, .lf (.str p_s)), (3, .lf (.int .i64 v1337)), (4, .lf (.int .u8 (b1339.toNat : Int))), (23, .lf (.bool r_))], []⟩
theorem Q5_J5_W {b1339 : UInt8} {p_s : ByteArray} {v1337 : Int} {r_ : Bool} (h : Q5_J5 b1339 p_s v1337 = some r_) : AWa_ Tryz.f80 0 [1, 0, 1, 0, 0, 1, 0, 1, 1, 0, 0, 1, 1, 1, 1, 0] (.normal) (Q5_J5_S b1339 p_s v1337 r_) ⟨[(0, .lf (.str p_s)), (3, .lf (.int .i64 v1337)), (4, .lf (.int .u8 (b1339.toNat : Int)))], []⟩ :=
 part_T BaseK (Q5_J5_T b1339 p_s v1337) (fun _ => .normal) (Q5_J5_S b1339 p_s v1337) (by kernel_rfl) h
def Q5_J10_T (b1339 : UInt8) (p_s : ByteArray) (v1337 : Int) : Mo (Bool) :=
 .ite (decide ((240 : Int) ≤ (b1339.toNat : Int))) (fun c1352 =>
 .say [.gd 24002 true] (ok1 c1352) <|
 .ret ⟨[], [0, 3, 4, 30], [], 0⟩ (decide (((b1339.toNat : Int) : Int) ≤ 244))) fun c1352 =>
 .say [.gd 24002 false] (ok1 c1352) <|
 .ret ⟨[], [0, 3, 4, 30], [], 0⟩ (false)
def Q5_J10 (b1339 : UInt8) (p_s : ByteArray) (v1337 : Int) : Option (Bool) := Mo.den (Q5_J10_T b1339 p_s v1337)
def Q5_J10_S (b1339 : UInt8) (p_s : ByteArray) (v1337 : Int) (r_ : Bool) : St := ⟨[(0, .lf (.str p_s)), (3, .lf (.int .i64 v1337)), (4, .lf (.int .u8 (b1339.toNat : Int))), (30, .lf (.bool r_))], []⟩
theorem Q5_J10_W {b1339 : UInt8} {p_s : ByteArray} {v1337 : Int} {r_ : Bool} (h : Q5_J10 b1339 p_s v1337 = some r_) : AWa_ Tryz.f80 0 [1, 0, 1, 0, 0, 1, 0, 1, 1, 0, 0, 1, 1, 1, 1, 1, 1, 0] (.normal) (Q5_J10_S b1339 p_s v1337 r_) ⟨[(0, .lf (.str p_s)), (3, .lf (.int .i64 v1337)), (4, .lf (.int .u8 (b1339.toNat : Int)))], []⟩ :=
 part_T BaseK (Q5_J10_T b1339 p_s v1337) (fun _ => .normal) (Q5_J10_S b1339 p_s v1337) (by kernel_rfl) h
def Q5_J15_T (b1339 : UInt8) (p_s : ByteArray) (v1337 : Int) : Mo ((Int) ⊕ Unit) :=
 .ite (decide (((b1339.toNat : Int) : Int) < 128)) (fun c1341 =>
 .say [.br true] (ok1 c1341) <|
 .ret ⟨[], [0, 3, 4, 5], [], 0⟩ (.inl (0))) fun c1341 =>
 .say [.br false] (ok1 c1341) <|
 .ask (Q5_J0 b1339 p_s v1337) fun r1344 h1345 =>
 .say [.pt_ 21 [0, 3, 4] 0 (.normal) (Q5_J0_S b1339 p_s v1337 r1344)] (ok1 (Q5_J0_W h1345)) <|
 .ite (r1344) (fun c1346 =>
 .say [.br true] (ok1 c1346) <|
 .ret ⟨[], [0, 3, 4, 5], [], 0⟩ (.inl (1))) fun c1346 =>
 .say [.br false] (ok1 c1346) <|
 .ask (Q5_J5 b1339 p_s v1337) fun r1349 h1350 =>
 .say [.pt_ 25 [0, 3, 4] 0 (.normal) (Q5_J5_S b1339 p_s v1337 r1349)] (ok1 (Q5_J5_W h1350)) <|
 .ite (r1349) (fun c1351 =>
 .say [.br true] (ok1 c1351) <|
 .ret ⟨[], [0, 3, 4, 5], [], 0⟩ (.inl (2))) fun c1351 =>
 .say [.br false] (ok1 c1351) <|
 .ask (Q5_J10 b1339 p_s v1337) fun r1354 h1355 =>
 .say [.pt_ 29 [0, 3, 4] 0 (.normal) (Q5_J10_S b1339 p_s v1337 r1354)] (ok1 (Q5_J10_W h1355)) <|
 .ite (r1354) (fun c1356 =>
 .say [.br true] (ok1 c1356) <|
 .ret ⟨[], [0, 3, 4, 5], [], 0⟩ (.inl (3))) fun c1356 =>
 .say [.br false] (ok1 c1356) <|
 .ret ⟨[], [2], [], 0⟩ (.inr (()))
def Q5_J15 (b1339 : UInt8) (p_s : ByteArray) (v1337 : Int) : Option ((Int) ⊕ Unit) := Mo.den (Q5_J15_T b1339 p_s v1337)
def Q5_J15_X (r_ : (Int) ⊕ Unit) : Exit := match r_ with
 | .inl o_ => .normal
 | .inr (o_) => .ret
def Q5_J15_S (b1339 : UInt8) (p_s : ByteArray) (v1337 : Int) (r_ : (Int) ⊕ Unit) : St := match r_ with
 | .inl o_ => ⟨[(0, .lf (.str p_s)), (3, .lf (.int .i64 v1337)), (4, .lf (.int .u8 (b1339.toNat : Int))), (5, .lf (.int .i64 o_))], []⟩
 | .inr (o_) => ⟨[(2, .lf (.bool false))], []⟩
theorem Q5_J15_W {b1339 : UInt8} {p_s : ByteArray} {v1337 : Int} {r_ : (Int) ⊕ Unit} (h : Q5_J15 b1339 p_s v1337 = some r_) : AWa_ Tryz.f80 0 [1, 0, 1, 0, 0, 1, 0, 1, 1, 0] (Q5_J15_X r_) (Q5_J15_S b1339 p_s v1337 r_) ⟨[(0, .lf (.str p_s)), (3, .lf (.int .i64 v1337)), (4, .lf (.int .u8 (b1339.toNat : Int))), (5, .lf (.int .i64 0))], []⟩ :=
 part_T BaseK (Q5_J15_T b1339 p_s v1337) Q5_J15_X (Q5_J15_S b1339 p_s v1337) (by kernel_rfl) h
def Q5_J20_T (b1339 : UInt8) (o1360 : Int) (p_s : ByteArray) (v1337 : Int) : Mo (Bool) :=
 .ite ((b1339.toNat : Int) == 224) (fun c1364 =>
 .say [.gd 32002 true] (ok1 c1364) <|
 .ask (sidx p_s (IntKind.wrap .i64 (v1337 + 1))) fun b1365 h1366 =>
 .say [.byt b1365] (okc (sidx_ok h1366 : (0 : Int) ≤ (IntKind.wrap .i64 (v1337 + 1)) ∧ p_s[(IntKind.wrap .i64 (v1337 + 1)).toNat]? = some b1365) ok0) <|
 .ret ⟨[], [0, 3, 4, 5, 51], [], 0⟩ (decide (((b1365.toNat : Int) : Int) < 160))) fun c1364 =>
 .say [.gd 32002 false] (ok1 c1364) <|
 .ret ⟨[], [0, 3, 4, 5, 51], [], 0⟩ (false)
def Q5_J20 (b1339 : UInt8) (o1360 : Int) (p_s : ByteArray) (v1337 : Int) : Option (Bool) := Mo.den (Q5_J20_T b1339 o1360 p_s v1337)
def Q5_J20_S (b1339 : UInt8) (o1360 : Int) (p_s : ByteArray) (v1337 : Int) (r_ : Bool) : St := ⟨[(0, .lf (.str p_s)), (3, .lf (.int .i64 v1337)), (4, .lf (.int .u8 (b1339.toNat : Int))), (5, .lf (.int .i64 o1360)), (51, .lf (.bool r_))], []⟩
theorem Q5_J20_W {b1339 : UInt8} {o1360 : Int} {p_s : ByteArray} {v1337 : Int} {r_ : Bool} (h : Q5_J20 b1339 o1360 p_s v1337 = some r_) : AWoa_ Tryz.f80 0 [1, 0, 1, 0, 0, 1, 0, 1, 1, 1, 1, 0, 0] [0, 1, 2, 3, 4, 5, 6, 7, 8] (Q5_J20_S b1339 o1360 p_s v1337 r_) ⟨[(0, .lf (.str p_s)), (3, .lf (.int .i64 v1337)), (4, .lf (.int .u8 (b1339.toNat : Int))), (5, .lf (.int .i64 o1360))], []⟩ :=
 seg_T BaseK (Q5_J20_T b1339 o1360 p_s v1337) (Q5_J20_S b1339 o1360 p_s v1337) (by kernel_rfl) h
def Q5_J25_T (b1339 : UInt8) (o1360 : Int) (p_s : ByteArray) (r1368 : Bool) (v1337 : Int) : Mo (Bool) :=
 .ite (r1368) (fun c1370 =>
 .say [.gd 32009 true] (ok1 c1370) <|
 .ret ⟨[], [0, 3, 4, 5, 62], [], 0⟩ (true)) fun c1370 =>
 .say [.gd 32009 false] (ok1 c1370) <|
 .ite ((b1339.toNat : Int) == 237) (fun c1371 =>
 .say [.gd 32012 true] (ok1 c1371) <|
 .ask (sidx p_s (IntKind.wrap .i64 (v1337 + 1))) fun b1372 h1373 =>
 .say [.byt b1372] (okc (sidx_ok h1373 : (0 : Int) ≤ (IntKind.wrap .i64 (v1337 + 1)) ∧ p_s[(IntKind.wrap .i64 (v1337 + 1)).toNat]? = some b1372) ok0) <|
 .ret ⟨[], [0, 3, 4, 5, 62], [], 0⟩ (decide ((159 : Int) < (b1372.toNat : Int)))) fun c1371 =>
 .say [.gd 32012 false] (ok1 c1371) <|
 .ret ⟨[], [0, 3, 4, 5, 62], [], 0⟩ (false)
def Q5_J25 (b1339 : UInt8) (o1360 : Int) (p_s : ByteArray) (r1368 : Bool) (v1337 : Int) : Option (Bool) := Mo.den (Q5_J25_T b1339 o1360 p_s r1368 v1337)
def Q5_J25_S (b1339 : UInt8) (o1360 : Int) (p_s : ByteArray) (v1337 : Int) (r_ : Bool) : St := ⟨[(0, .lf (.str p_s)), (3, .lf (.int .i64 v1337)), (4, .lf (.int .u8 (b1339.toNat : Int))), (5, .lf (.int .i64 o1360)), (62, .lf (.bool r_))], []⟩
theorem Q5_J25_W {b1339 : UInt8} {o1360 : Int} {p_s : ByteArray} {r1368 : Bool} {v1337 : Int} {r_ : Bool} (h : Q5_J25 b1339 o1360 p_s r1368 v1337 = some r_) : AWoa_ Tryz.f80 0 [1, 0, 1, 0, 0, 1, 0, 1, 1, 1, 1, 0, 0] [9, 10, 11, 12, 13, 14, 15, 16, 17, 18, 19] (Q5_J25_S b1339 o1360 p_s v1337 r_) ⟨[(0, .lf (.str p_s)), (3, .lf (.int .i64 v1337)), (4, .lf (.int .u8 (b1339.toNat : Int))), (5, .lf (.int .i64 o1360)), (51, .lf (.bool r1368))], []⟩ :=
 seg_T BaseK (Q5_J25_T b1339 o1360 p_s r1368 v1337) (Q5_J25_S b1339 o1360 p_s v1337) (by kernel_rfl) h
def Q5_J30_T (b1339 : UInt8) (o1360 : Int) (p_s : ByteArray) (r1375 : Bool) (v1337 : Int) : Mo (Bool) :=
 .ite (r1375) (fun c1377 =>
 .say [.gd 32020 true] (ok1 c1377) <|
 .ret ⟨[], [0, 3, 4, 5, 73], [], 0⟩ (true)) fun c1377 =>
 .say [.gd 32020 false] (ok1 c1377) <|
 .ite ((b1339.toNat : Int) == 240) (fun c1378 =>
 .say [.gd 32023 true] (ok1 c1378) <|
 .ask (sidx p_s (IntKind.wrap .i64 (v1337 + 1))) fun b1379 h1380 =>
 .say [.byt b1379] (okc (sidx_ok h1380 : (0 : Int) ≤ (IntKind.wrap .i64 (v1337 + 1)) ∧ p_s[(IntKind.wrap .i64 (v1337 + 1)).toNat]? = some b1379) ok0) <|
 .ret ⟨[], [0, 3, 4, 5, 73], [], 0⟩ (decide (((b1379.toNat : Int) : Int) < 144))) fun c1378 =>
 .say [.gd 32023 false] (ok1 c1378) <|
 .ret ⟨[], [0, 3, 4, 5, 73], [], 0⟩ (false)
def Q5_J30 (b1339 : UInt8) (o1360 : Int) (p_s : ByteArray) (r1375 : Bool) (v1337 : Int) : Option (Bool) := Mo.den (Q5_J30_T b1339 o1360 p_s r1375 v1337)
def Q5_J30_S (b1339 : UInt8) (o1360 : Int) (p_s : ByteArray) (v1337 : Int) (r_ : Bool) : St := ⟨[(0, .lf (.str p_s)), (3, .lf (.int .i64 v1337)), (4, .lf (.int .u8 (b1339.toNat : Int))), (5, .lf (.int .i64 o1360)), (73, .lf (.bool r_))], []⟩
theorem Q5_J30_W {b1339 : UInt8} {o1360 : Int} {p_s : ByteArray} {r1375 : Bool} {v1337 : Int} {r_ : Bool} (h : Q5_J30 b1339 o1360 p_s r1375 v1337 = some r_) : AWoa_ Tryz.f80 0 [1, 0, 1, 0, 0, 1, 0, 1, 1, 1, 1, 0, 0] [20, 21, 22, 23, 24, 25, 26, 27, 28, 29, 30] (Q5_J30_S b1339 o1360 p_s v1337 r_) ⟨[(0, .lf (.str p_s)), (3, .lf (.int .i64 v1337)), (4, .lf (.int .u8 (b1339.toNat : Int))), (5, .lf (.int .i64 o1360)), (62, .lf (.bool r1375))], []⟩ :=
 seg_T BaseK (Q5_J30_T b1339 o1360 p_s r1375 v1337) (Q5_J30_S b1339 o1360 p_s v1337) (by kernel_rfl) h
def Q5_J35_T (b1339 : UInt8) (o1360 : Int) (p_s : ByteArray) (r1382 : Bool) (v1337 : Int) : Mo (Bool) :=
 .ite (r1382) (fun c1384 =>
 .say [.gd 32031 true] (ok1 c1384) <|
 .ret ⟨[], [0, 3, 5, 84], [], 0⟩ (true)) fun c1384 =>
 .say [.gd 32031 false] (ok1 c1384) <|
 .ite ((b1339.toNat : Int) == 244) (fun c1385 =>
 .say [.gd 32034 true] (ok1 c1385) <|
 .ask (sidx p_s (IntKind.wrap .i64 (v1337 + 1))) fun b1386 h1387 =>
 .say [.byt b1386] (okc (sidx_ok h1387 : (0 : Int) ≤ (IntKind.wrap .i64 (v1337 + 1)) ∧ p_s[(IntKind.wrap .i64 (v1337 + 1)).toNat]? = some b1386) ok0) <|
 .ret ⟨[], [0, 3, 5, 84], [], 0⟩ (decide ((143 : Int) < (b1386.toNat : Int)))) fun c1385 =>
 .say [.gd 32034 false] (ok1 c1385) <|
 .ret ⟨[], [0, 3, 5, 84], [], 0⟩ (false)
def Q5_J35 (b1339 : UInt8) (o1360 : Int) (p_s : ByteArray) (r1382 : Bool) (v1337 : Int) : Option (Bool) := Mo.den (Q5_J35_T b1339 o1360 p_s r1382 v1337)
def Q5_J35_S (o1360 : Int) (p_s : ByteArray) (v1337 : Int) (r_ : Bool) : St := ⟨[(0, .lf (.str p_s)), (3, .lf (.int .i64 v1337)), (5, .lf (.int .i64 o1360)), (84, .lf (.bool r_))], []⟩
theorem Q5_J35_W {b1339 : UInt8} {o1360 : Int} {p_s : ByteArray} {r1382 : Bool} {v1337 : Int} {r_ : Bool} (h : Q5_J35 b1339 o1360 p_s r1382 v1337 = some r_) : AWoa_ Tryz.f80 0 [1, 0, 1, 0, 0, 1, 0, 1, 1, 1, 1, 0, 0] [31, 32, 33, 34, 35, 36, 37, 38, 39, 40, 41] (Q5_J35_S o1360 p_s v1337 r_) ⟨[(0, .lf (.str p_s)), (3, .lf (.int .i64 v1337)), (4, .lf (.int .u8 (b1339.toNat : Int))), (5, .lf (.int .i64 o1360)), (73, .lf (.bool r1382))], []⟩ :=
 seg_T BaseK (Q5_J35_T b1339 o1360 p_s r1382 v1337) (Q5_J35_S o1360 p_s v1337) (by kernel_rfl) h
def Q5_L40_T (p_s : ByteArray) : (Int) → Mo ((Int) ⊕ (Unit ⊕ Unit)) := fun (v1337) =>
 .ite (decide ((v1337 : Int) < (p_s.size : Int))) (fun c1338 =>
 .say [.br true] (ok1 c1338) <|
 .ask (sidx p_s v1337) fun b1339 h1340 =>
 .say [.byt b1339] (okc (sidx_ok h1340 : (0 : Int) ≤ v1337 ∧ p_s[v1337.toNat]? = some b1339) ok0) <|
 .ask2 (Q5_J15 b1339 p_s v1337) (fun o1360 h1359 =>
 .say [.pt_ 10 [0, 3, 4, 5] 0 (Q5_J15_X (.inl o1360)) (Q5_J15_S b1339 p_s v1337 (.inl o1360))] (ok1 (Q5_J15_W h1359)) <|
 .ask (Q46 p_s (IntKind.wrap .i64 (v1337 + 1)) o1360) fun r1361 h1362 =>
 .say [.res (.lf (.bool r1361))] (ok1 (Q46_ok _ _ _ _ h1362)) <|
 .ite (!r1361) (fun c1363 =>
 .say [.br true] (ok1 c1363) <|
 .ret ⟨[], [2], [], 0⟩ (.inr (.inl ()))) fun c1363 =>
 .say [.br false] (ok1 c1363) <|
 .ask (Q5_J20 b1339 o1360 p_s v1337) fun r1368 h1369 =>
 .say [.sg_ 15 9 [0, 3, 4, 5] 0 (Q5_J20_S b1339 o1360 p_s v1337 r1368)] (ok1 (Q5_J20_W h1369)) <|
 .ask (Q5_J25 b1339 o1360 p_s r1368 v1337) fun r1375 h1376 =>
 .say [.sg_ 15 11 [0, 3, 4, 5, 51] 0 (Q5_J25_S b1339 o1360 p_s v1337 r1375)] (ok1 (Q5_J25_W h1376)) <|
 .ask (Q5_J30 b1339 o1360 p_s r1375 v1337) fun r1382 h1383 =>
 .say [.sg_ 15 11 [0, 3, 4, 5, 62] 0 (Q5_J30_S b1339 o1360 p_s v1337 r1382)] (ok1 (Q5_J30_W h1383)) <|
 .ask (Q5_J35 b1339 o1360 p_s r1382 v1337) fun r1389 h1390 =>
 .say [.sg_ 15 11 [0, 3, 4, 5, 73] 0 (Q5_J35_S o1360 p_s v1337 r1389)] (ok1 (Q5_J35_W h1390)) <|
 .ite (r1389) (fun c1391 =>
 .say [.br true] (ok1 c1391) <|
 .ret ⟨[], [2], [], 0⟩ (.inr (.inl ()))) fun c1391 =>
 .say [.br false] (ok1 c1391) <|
 .ret ⟨[], [0, 3], [], 0⟩ (.inl (IntKind.wrap .i64 ((IntKind.wrap .i64 (v1337 + o1360)) + 1)))) fun o1392 h1359 =>
 .say [.pt_ 10 [0, 3, 4, 5] 0 (Q5_J15_X (.inr (o1392))) (Q5_J15_S b1339 p_s v1337 (.inr (o1392)))] (ok1 (Q5_J15_W h1359)) <|
 .ret ⟨[], [2], [], 0⟩ (.inr (.inl ()))) fun c1338 =>
 .say [.br false] (ok1 c1338) <|
 .ret ⟨[], [], [], 0⟩ (.inr (.inr (())))
def Q5_L40 (p_s : ByteArray) (v1337 : Int) : Option (Unit ⊕ Unit) := loopM (fun v_ => (Q5_L40_T p_s v_).den) FU (v1337)
def Q5_L40_H (p_s : ByteArray) : (Int) → St := fun (v1337) => ⟨[(0, .lf (.str p_s)), (3, .lf (.int .i64 v1337))], []⟩
def Q5_L40_X (r_ : Unit ⊕ Unit) : Exit := match r_ with
 | .inl o_ => .ret
 | .inr (o_) => .exit 0
def Q5_L40_S  (r_ : Unit ⊕ Unit) : St := match r_ with
 | .inl o_ => ⟨[(2, .lf (.bool false))], []⟩
 | .inr (o_) => ⟨[], []⟩
theorem Q5_L40_W {p_s : ByteArray} {v1337 : Int} {r_ : Unit ⊕ Unit} (h : Q5_L40 p_s v1337 = some r_) : AWa_ Tryz.f80 0 [1, 0, 1, 0] (Q5_L40_X r_) (Q5_L40_S r_) (Q5_L40_H p_s (v1337)) :=
 loop_T BaseK (body := (Code.sub (bodyC Tryz.f80) [1, 0, 1, 0, 0])) (by kernel_rfl) (Q5_L40_T p_s) (Q5_L40_H p_s) Q5_L40_X Q5_L40_S (fun r_ => by rcases r_ with _ | _ <;> rfl) (fun v_ => by kernel_rfl) h
def Q5_T (p_s : ByteArray) : Mo (Bool) :=
 .ask2 (Q5_L40 p_s 0) (fun o1395 h1394 =>
 .say [.pt_ 0 [0, 3] 0 (Q5_L40_X (.inl o1395)) (Q5_L40_S (.inl o1395))] (ok1 (Q5_L40_W h1394)) <|
 .ret (fitN 1) (false)) fun o1396 h1394 =>
 .say [.pt_ 0 [0, 3] 0 (Q5_L40_X (.inr (o1396))) (Q5_L40_S (.inr (o1396)))] (ok1 (Q5_L40_W h1394)) <|
 .ret (fitN 1) (true)
def Q5 (p_s : ByteArray) : Option (Bool) := Mo.den (Q5_T p_s)
theorem Q5_ok (p_s : ByteArray) (r : Bool) (h : Q5 p_s = some r) : Fn Tryz.prog GI 80 [.lf (.str p_s)] (.lf (.bool r)) :=
 fn_T BaseK Tryz.func80 (by kernel_rfl) (by kernel_rfl) (by kernel_rfl) (Q5_T p_s) (fun r => [.lf (.bool r)]) (by kernel_rfl) h
def Q40_J0_T (p_s : ByteArray) : Mo (Bool) :=
 .ite (decide (((p_s.size : Int) : Int) < 1)) (fun c1511 =>
 .say [.gd 4003 true] (ok1 c1511) <|
 .ret ⟨[], [0, 11], [], 0⟩ (true)) fun c1511 =>
 .say [.gd 4003 false] (ok1 c1511) <|
 .ret ⟨[], [0, 11], [], 0⟩ (decide ((128 : Int) < (p_s.size : Int)))
def Q40_J0 (p_s : ByteArray) : Option (Bool) := Mo.den (Q40_J0_T p_s)
def Q40_J0_S (p_s : ByteArray) (r_ : Bool) : St := ⟨[(0, .lf (.str p_s)), (11, .lf (.bool r_))], []⟩
theorem Q40_J0_W {p_s : ByteArray} {r_ : Bool} (h : Q40_J0 p_s = some r_) : AWa_ Tryz.f106 0 [1, 0, 0] (.normal) (Q40_J0_S p_s r_) ⟨[(0, .lf (.str p_s))], []⟩ :=
 part_T BaseK (Q40_J0_T p_s) (fun _ => .normal) (Q40_J0_S p_s) (by kernel_rfl) h
def Q40_J5_T (p_s : ByteArray) (v1568 : Int) : Mo (Bool) :=
 .ask (sidx p_s v1568) fun b1570 h1571 =>
 .say [.byt b1570] (okc (sidx_ok h1571 : (0 : Int) ≤ v1568 ∧ p_s[v1568.toNat]? = some b1570) ok0) <|
 .ite (decide (((b1570.toNat : Int) : Int) < 32)) (fun c1572 =>
 .say [.gd 14004 true] (ok1 c1572) <|
 .ret ⟨[], [0, 3, 27], [], 0⟩ (true)) fun c1572 =>
 .say [.gd 14004 false] (ok1 c1572) <|
 .ask (sidx p_s v1568) fun b1573 h1574 =>
 .say [.byt b1573] (okc (sidx_ok h1574 : (0 : Int) ≤ v1568 ∧ p_s[v1568.toNat]? = some b1573) ok0) <|
 .ret ⟨[], [0, 3, 27], [], 0⟩ (decide ((126 : Int) < (b1573.toNat : Int)))
def Q40_J5 (p_s : ByteArray) (v1568 : Int) : Option (Bool) := Mo.den (Q40_J5_T p_s v1568)
def Q40_J5_S (p_s : ByteArray) (v1568 : Int) (r_ : Bool) : St := ⟨[(0, .lf (.str p_s)), (3, .lf (.int .i64 v1568)), (27, .lf (.bool r_))], []⟩
theorem Q40_J5_W {p_s : ByteArray} {v1568 : Int} {r_ : Bool} (h : Q40_J5 p_s v1568 = some r_) : AWa_ Tryz.f106 0 [1, 1, 0, 1, 0, 0, 1, 0, 0, 0] (.normal) (Q40_J5_S p_s v1568 r_) ⟨[(0, .lf (.str p_s)), (3, .lf (.int .i64 v1568))], []⟩ :=
 part_T BaseK (Q40_J5_T p_s v1568) (fun _ => .normal) (Q40_J5_S p_s v1568) (by kernel_rfl) h
def Q40_L10_T (p_s : ByteArray) : (Int) → Mo ((Int) ⊕ (Unit ⊕ Unit)) := fun (v1568) =>
 .ite (decide ((v1568 : Int) < (p_s.size : Int))) (fun c1569 =>
 .say [.br true] (ok1 c1569) <|
 .ask (Q40_J5 p_s v1568) fun r1576 h1577 =>
 .say [.pt_ 19 [0, 3] 0 (.normal) (Q40_J5_S p_s v1568 r1576)] (ok1 (Q40_J5_W h1577)) <|
 .ite (r1576) (fun c1578 =>
 .say [.br true] (ok1 c1578) <|
 .ret ⟨[], [2], [], 0⟩ (.inr (.inl ()))) fun c1578 =>
 .say [.br false] (ok1 c1578) <|
 .ret ⟨[], [0, 3], [], 0⟩ (.inl (IntKind.wrap .i64 (v1568 + 1)))) fun c1569 =>
 .say [.br false] (ok1 c1569) <|
 .ret ⟨[], [], [], 0⟩ (.inr (.inr (())))
def Q40_L10 (p_s : ByteArray) (v1568 : Int) : Option (Unit ⊕ Unit) := loopM (fun v_ => (Q40_L10_T p_s v_).den) FU (v1568)
def Q40_L10_H (p_s : ByteArray) : (Int) → St := fun (v1568) => ⟨[(0, .lf (.str p_s)), (3, .lf (.int .i64 v1568))], []⟩
def Q40_L10_X (r_ : Unit ⊕ Unit) : Exit := match r_ with
 | .inl o_ => .ret
 | .inr (o_) => .exit 0
def Q40_L10_S  (r_ : Unit ⊕ Unit) : St := match r_ with
 | .inl o_ => ⟨[(2, .lf (.bool false))], []⟩
 | .inr (o_) => ⟨[], []⟩
theorem Q40_L10_W {p_s : ByteArray} {v1568 : Int} {r_ : Unit ⊕ Unit} (h : Q40_L10 p_s v1568 = some r_) : AWa_ Tryz.f106 0 [1, 1, 0, 1, 0] (Q40_L10_X r_) (Q40_L10_S r_) (Q40_L10_H p_s (v1568)) :=
 loop_T BaseK (body := (Code.sub (bodyC Tryz.f106) [1, 1, 0, 1, 0, 0])) (by kernel_rfl) (Q40_L10_T p_s) (Q40_L10_H p_s) Q40_L10_X Q40_L10_S (fun r_ => by rcases r_ with _ | _ <;> rfl) (fun v_ => by kernel_rfl) h
def Q40_T (p_s : ByteArray) : Mo (Bool) :=
 .ask (Q40_J0 p_s) fun r1513 h1514 =>
 .say [.pt_ 9 [0] 0 (.normal) (Q40_J0_S p_s r1513)] (ok1 (Q40_J0_W h1514)) <|
 .ite (r1513) (fun c1516 =>
 .say [.br true] (ok1 c1516) <|
 .ret (fitN 1) (false)) fun c1516 =>
 .say [.br false] (ok1 c1516) <|
 .ask2 (Q40_L10 p_s 0) (fun o1581 h1580 =>
 .say [.pt_ 0 [0, 3] 0 (Q40_L10_X (.inl o1581)) (Q40_L10_S (.inl o1581))] (ok1 (Q40_L10_W h1580)) <|
 .ret (fitN 1) (false)) fun o1582 h1580 =>
 .say [.pt_ 0 [0, 3] 0 (Q40_L10_X (.inr (o1582))) (Q40_L10_S (.inr (o1582)))] (ok1 (Q40_L10_W h1580)) <|
 .ret (fitN 1) (true)
def Q40 (p_s : ByteArray) : Option (Bool) := Mo.den (Q40_T p_s)
theorem Q40_ok (p_s : ByteArray) (r : Bool) (h : Q40 p_s = some r) : Fn Tryz.prog GI 106 [.lf (.str p_s)] (.lf (.bool r)) :=
 fn_T BaseK Tryz.func106 (by kernel_rfl) (by kernel_rfl) (by kernel_rfl) (Q40_T p_s) (fun r => [.lf (.bool r)]) (by kernel_rfl) h
structure RB5 where
 m1 : (p_v : GValue) → (p_names : Bool) → Option (Bool)
 ok1 : ∀ (p_v : GValue) (p_names : Bool) (r : Bool), m1 p_v p_names = some r → Fn Tryz.prog GI 57 [.dat (GValue.lf1 p_v), .lf (.bool p_names)] (.lf (.bool r))
 m2 : (p_v : GValue) → (p_names : Bool) → Option (Bool)
 ok2 : ∀ (p_v : GValue) (p_names : Bool) (r : Bool), m2 p_v p_names = some r → Fn Tryz.prog GI 81 [.dat (GValue.lf1 p_v), .lf (.bool p_names)] (.lf (.bool r))
def Q0_J0_T (R_ : RB5) (p_names : Bool) (p_v : GValue) : Mo (Bool) :=
 .ite (p_v.fKind != 6) (fun c900 =>
 .say [.gd 4003 true, .num p_v.fList.length] (okc c900 (okc (by simp : p_v.fList.length = (p_v.fList.map GValue.lf).length) ok0)) <|
 .ret ⟨[], [1, 2, 16], [], 1⟩ (decide ((0 : Int) < (p_v.fList.length : Int)))) fun c900 =>
 .say [.gd 4003 false] (ok1 c900) <|
 .ret ⟨[], [1, 2, 16], [], 1⟩ (false)
def Q0_J0 (R_ : RB5) (p_names : Bool) (p_v : GValue) : Option (Bool) := Mo.den (Q0_J0_T R_ p_names p_v)
def Q0_J0_S (p_names : Bool) (p_v : GValue) (r_ : Bool) : St := ⟨[(1, .lf (.bool p_names)), (2, .ptr 0 0), (16, .lf (.bool r_))], [.box 29 (.dat (GValue.lf1 p_v))]⟩
theorem Q0_J0_W {R_ : RB5} {p_names : Bool} {p_v : GValue} {r_ : Bool} (h : Q0_J0 R_ p_names p_v = some r_) : AWoa_ Tryz.f57 0 [1, 0, 0] [0, 1, 2, 3, 4, 5, 6, 7, 8] (Q0_J0_S p_names p_v r_) ⟨[(1, .lf (.bool p_names)), (2, .ptr 0 0)], [.box 29 (.dat (GValue.lf1 p_v))]⟩ :=
 seg_T BaseK (Q0_J0_T R_ p_names p_v) (Q0_J0_S p_names p_v) (by kernel_rfl) h
def Q0_J5_T (R_ : RB5) (p_names : Bool) (p_v : GValue) (r902 : Bool) : Mo (Bool) :=
 .ite (r902) (fun c904 =>
 .say [.gd 4009 true] (ok1 c904) <|
 .ret ⟨[], [1, 2, 27], [], 1⟩ (true)) fun c904 =>
 .say [.gd 4009 false] (ok1 c904) <|
 .ite (p_v.fKind != 5) (fun c905 =>
 .say [.gd 4013 true, .num p_v.fDoc.length] (okc c905 (okc (by simp : p_v.fDoc.length = (p_v.fDoc.map GField.lf).length) ok0)) <|
 .ret ⟨[], [1, 2, 27], [], 1⟩ (decide ((0 : Int) < (p_v.fDoc.length : Int)))) fun c905 =>
 .say [.gd 4013 false] (ok1 c905) <|
 .ret ⟨[], [1, 2, 27], [], 1⟩ (false)
def Q0_J5 (R_ : RB5) (p_names : Bool) (p_v : GValue) (r902 : Bool) : Option (Bool) := Mo.den (Q0_J5_T R_ p_names p_v r902)
def Q0_J5_S (p_names : Bool) (p_v : GValue) (r_ : Bool) : St := ⟨[(1, .lf (.bool p_names)), (2, .ptr 0 0), (27, .lf (.bool r_))], [.box 29 (.dat (GValue.lf1 p_v))]⟩
theorem Q0_J5_W {R_ : RB5} {p_names : Bool} {p_v : GValue} {r902 : Bool} {r_ : Bool} (h : Q0_J5 R_ p_names p_v r902 = some r_) : AWoa_ Tryz.f57 0 [1, 0, 0] [9, 10, 11, 12, 13, 14, 15, 16, 17, 18, 19] (Q0_J5_S p_names p_v r_) ⟨[(1, .lf (.bool p_names)), (2, .ptr 0 0), (16, .lf (.bool r902))], [.box 29 (.dat (GValue.lf1 p_v))]⟩ :=
 seg_T BaseK (Q0_J5_T R_ p_names p_v r902) (Q0_J5_S p_names p_v) (by kernel_rfl) h
def Q0_J10_T (R_ : RB5) (p_names : Bool) (p_v : GValue) : Mo (Bool) :=
 .ite (p_v.fKind == 4) (fun c921 =>
 .say [.gd 8003 true] (ok1 c921) <|
 .ret ⟨[], [1, 2, 35], [], 1⟩ (true)) fun c921 =>
 .say [.gd 8003 false] (ok1 c921) <|
 .ret ⟨[], [1, 2, 35], [], 1⟩ (p_v.fKind == 7)
def Q0_J10 (R_ : RB5) (p_names : Bool) (p_v : GValue) : Option (Bool) := Mo.den (Q0_J10_T R_ p_names p_v)
def Q0_J10_S (p_names : Bool) (p_v : GValue) (r_ : Bool) : St := ⟨[(1, .lf (.bool p_names)), (2, .ptr 0 0), (35, .lf (.bool r_))], [.box 29 (.dat (GValue.lf1 p_v))]⟩
theorem Q0_J10_W {R_ : RB5} {p_names : Bool} {p_v : GValue} {r_ : Bool} (h : Q0_J10 R_ p_names p_v = some r_) : AWoa_ Tryz.f57 0 [1, 1, 0] [0, 1, 2, 3, 4, 5, 6, 7] (Q0_J10_S p_names p_v r_) ⟨[(1, .lf (.bool p_names)), (2, .ptr 0 0)], [.box 29 (.dat (GValue.lf1 p_v))]⟩ :=
 seg_T BaseK (Q0_J10_T R_ p_names p_v) (Q0_J10_S p_names p_v) (by kernel_rfl) h
def Q0_J15_T (R_ : RB5) (p_names : Bool) (p_v : GValue) (r923 : Bool) : Mo (Bool) :=
 .ite (r923) (fun c925 =>
 .say [.gd 8008 true] (ok1 c925) <|
 .ret ⟨[], [1, 2, 40], [], 1⟩ (true)) fun c925 =>
 .say [.gd 8008 false] (ok1 c925) <|
 .ret ⟨[], [1, 2, 40], [], 1⟩ (p_v.fKind == 8)
def Q0_J15 (R_ : RB5) (p_names : Bool) (p_v : GValue) (r923 : Bool) : Option (Bool) := Mo.den (Q0_J15_T R_ p_names p_v r923)
def Q0_J15_S (p_names : Bool) (p_v : GValue) (r_ : Bool) : St := ⟨[(1, .lf (.bool p_names)), (2, .ptr 0 0), (40, .lf (.bool r_))], [.box 29 (.dat (GValue.lf1 p_v))]⟩
theorem Q0_J15_W {R_ : RB5} {p_names : Bool} {p_v : GValue} {r923 : Bool} {r_ : Bool} (h : Q0_J15 R_ p_names p_v r923 = some r_) : AWoa_ Tryz.f57 0 [1, 1, 0] [8, 9, 10, 11, 12] (Q0_J15_S p_names p_v r_) ⟨[(1, .lf (.bool p_names)), (2, .ptr 0 0), (35, .lf (.bool r923))], [.box 29 (.dat (GValue.lf1 p_v))]⟩ :=
 seg_T BaseK (Q0_J15_T R_ p_names p_v r923) (Q0_J15_S p_names p_v) (by kernel_rfl) h
def Q0_J20_T (R_ : RB5) (p_names : Bool) (p_v : GValue) (r927 : Bool) : Mo (Unit) :=
 .ret ⟨[], [1, 2, 5], [], 1⟩ ()
def Q0_J20 (R_ : RB5) (p_names : Bool) (p_v : GValue) (r927 : Bool) : Option (Unit) := Mo.den (Q0_J20_T R_ p_names p_v r927)
def Q0_J20_S (p_names : Bool) (p_v : GValue) (r927 : Bool) (r_ : Unit) : St := ⟨[(1, .lf (.bool p_names)), (2, .ptr 0 0), (5, .lf (.bool r927))], [.box 29 (.dat (GValue.lf1 p_v))]⟩
theorem Q0_J20_W {R_ : RB5} {p_names : Bool} {p_v : GValue} {r927 : Bool} {r_ : Unit} (h : Q0_J20 R_ p_names p_v r927 = some r_) : AWoa_ Tryz.f57 0 [1, 1, 0] [13] (Q0_J20_S p_names p_v r927 r_) ⟨[(1, .lf (.bool p_names)), (2, .ptr 0 0), (40, .lf (.bool r927))], [.box 29 (.dat (GValue.lf1 p_v))]⟩ :=
 seg_T BaseK (Q0_J20_T R_ p_names p_v r927) (Q0_J20_S p_names p_v r927) (by kernel_rfl) h
def Q0_J25_T (R_ : RB5) (p_names : Bool) (p_v : GValue) (r927 : Bool) : Mo (Bool) :=
 .ite (p_v.fKind == 3) (fun c941 =>
 .say [.gd 10003 true] (ok1 c941) <|
 .ret ⟨[], [1, 2, 5, 48], [], 1⟩ (true)) fun c941 =>
 .say [.gd 10003 false] (ok1 c941) <|
 .ret ⟨[], [1, 2, 5, 48], [], 1⟩ (p_v.fKind == 9)
def Q0_J25 (R_ : RB5) (p_names : Bool) (p_v : GValue) (r927 : Bool) : Option (Bool) := Mo.den (Q0_J25_T R_ p_names p_v r927)
def Q0_J25_S (p_names : Bool) (p_v : GValue) (r927 : Bool) (r_ : Bool) : St := ⟨[(1, .lf (.bool p_names)), (2, .ptr 0 0), (5, .lf (.bool r927)), (48, .lf (.bool r_))], [.box 29 (.dat (GValue.lf1 p_v))]⟩
theorem Q0_J25_W {R_ : RB5} {p_names : Bool} {p_v : GValue} {r927 : Bool} {r_ : Bool} (h : Q0_J25 R_ p_names p_v r927 = some r_) : AWoa_ Tryz.f57 0 [1, 1, 1, 0] [0, 1, 2, 3, 4, 5, 6, 7] (Q0_J25_S p_names p_v r927 r_) ⟨[(1, .lf (.bool p_names)), (2, .ptr 0 0), (5, .lf (.bool r927))], [.box 29 (.dat (GValue.lf1 p_v))]⟩ :=
 seg_T BaseK (Q0_J25_T R_ p_names p_v r927) (Q0_J25_S p_names p_v r927) (by kernel_rfl) h
def Q0_J30_T (R_ : RB5) (p_names : Bool) (p_v : GValue) (r927 : Bool) (r943 : Bool) : Mo (Bool) :=
 .ite (r943) (fun c945 =>
 .say [.gd 10008 true] (ok1 c945) <|
 .ret ⟨[], [1, 2, 5, 53], [], 1⟩ (true)) fun c945 =>
 .say [.gd 10008 false] (ok1 c945) <|
 .ret ⟨[], [1, 2, 5, 53], [], 1⟩ (p_v.fKind == 10)
def Q0_J30 (R_ : RB5) (p_names : Bool) (p_v : GValue) (r927 : Bool) (r943 : Bool) : Option (Bool) := Mo.den (Q0_J30_T R_ p_names p_v r927 r943)
def Q0_J30_S (p_names : Bool) (p_v : GValue) (r927 : Bool) (r_ : Bool) : St := ⟨[(1, .lf (.bool p_names)), (2, .ptr 0 0), (5, .lf (.bool r927)), (53, .lf (.bool r_))], [.box 29 (.dat (GValue.lf1 p_v))]⟩
theorem Q0_J30_W {R_ : RB5} {p_names : Bool} {p_v : GValue} {r927 : Bool} {r943 : Bool} {r_ : Bool} (h : Q0_J30 R_ p_names p_v r927 r943 = some r_) : AWoa_ Tryz.f57 0 [1, 1, 1, 0] [8, 9, 10, 11, 12] (Q0_J30_S p_names p_v r927 r_) ⟨[(1, .lf (.bool p_names)), (2, .ptr 0 0), (5, .lf (.bool r927)), (48, .lf (.bool r943))], [.box 29 (.dat (GValue.lf1 p_v))]⟩ :=
 seg_T BaseK (Q0_J30_T R_ p_names p_v r927 r943) (Q0_J30_S p_names p_v r927) (by kernel_rfl) h
def Q0_J35_T (R_ : RB5) (p_names : Bool) (p_v : GValue) (r927 : Bool) (r947 : Bool) : Mo (Unit) :=
 .ret ⟨[], [1, 2, 5, 6], [], 1⟩ ()
def Q0_J35 (R_ : RB5) (p_names : Bool) (p_v : GValue) (r927 : Bool) (r947 : Bool) : Option (Unit) := Mo.den (Q0_J35_T R_ p_names p_v r927 r947)
def Q0_J35_S (p_names : Bool) (p_v : GValue) (r927 : Bool) (r947 : Bool) (r_ : Unit) : St := ⟨[(1, .lf (.bool p_names)), (2, .ptr 0 0), (5, .lf (.bool r927)), (6, .lf (.bool r947))], [.box 29 (.dat (GValue.lf1 p_v))]⟩
theorem Q0_J35_W {R_ : RB5} {p_names : Bool} {p_v : GValue} {r927 : Bool} {r947 : Bool} {r_ : Unit} (h : Q0_J35 R_ p_names p_v r927 r947 = some r_) : AWoa_ Tryz.f57 0 [1, 1, 1, 0] [13] (Q0_J35_S p_names p_v r927 r947 r_) ⟨[(1, .lf (.bool p_names)), (2, .ptr 0 0), (5, .lf (.bool r927)), (53, .lf (.bool r947))], [.box 29 (.dat (GValue.lf1 p_v))]⟩ :=
 seg_T BaseK (Q0_J35_T R_ p_names p_v r927 r947) (Q0_J35_S p_names p_v r927 r947) (by kernel_rfl) h
def Q0_J40_T (R_ : RB5) (p_names : Bool) (p_v : GValue) (r927 : Bool) (r947 : Bool) : Mo (Bool) :=
 .ite (!r927) (fun c968 =>
 .say [.gd 12002 true] (ok1 c968) <|
 .ret ⟨[], [1, 2, 6, 60], [], 1⟩ (!decide ((p_v.fText : ByteArray) = (⟨#[]⟩ : ByteArray)))) fun c968 =>
 .say [.gd 12002 false] (ok1 c968) <|
 .ret ⟨[], [1, 2, 6, 60], [], 1⟩ (false)
def Q0_J40 (R_ : RB5) (p_names : Bool) (p_v : GValue) (r927 : Bool) (r947 : Bool) : Option (Bool) := Mo.den (Q0_J40_T R_ p_names p_v r927 r947)
def Q0_J40_S (p_names : Bool) (p_v : GValue) (r947 : Bool) (r_ : Bool) : St := ⟨[(1, .lf (.bool p_names)), (2, .ptr 0 0), (6, .lf (.bool r947)), (60, .lf (.bool r_))], [.box 29 (.dat (GValue.lf1 p_v))]⟩
theorem Q0_J40_W {R_ : RB5} {p_names : Bool} {p_v : GValue} {r927 : Bool} {r947 : Bool} {r_ : Bool} (h : Q0_J40 R_ p_names p_v r927 r947 = some r_) : AWoa_ Tryz.f57 0 [1, 1, 1, 1, 0, 0] [0, 1, 2, 3, 4, 5, 6] (Q0_J40_S p_names p_v r947 r_) ⟨[(1, .lf (.bool p_names)), (2, .ptr 0 0), (5, .lf (.bool r927)), (6, .lf (.bool r947))], [.box 29 (.dat (GValue.lf1 p_v))]⟩ :=
 seg_T BaseK (Q0_J40_T R_ p_names p_v r927 r947) (Q0_J40_S p_names p_v r947) (by kernel_rfl) h
def Q0_J45_T (R_ : RB5) (p_names : Bool) (p_v : GValue) (r947 : Bool) (r970 : Bool) : Mo (Bool) :=
 .ite (r970) (fun c972 =>
 .say [.gd 12007 true] (ok1 c972) <|
 .ret ⟨[], [1, 2, 69], [], 1⟩ (true)) fun c972 =>
 .say [.gd 12007 false] (ok1 c972) <|
 .ite (!r947) (fun c973 =>
 .say [.gd 12010 true] (ok1 c973) <|
 .ret ⟨[], [1, 2, 69], [], 1⟩ (p_v.fInt != 0)) fun c973 =>
 .say [.gd 12010 false] (ok1 c973) <|
 .ret ⟨[], [1, 2, 69], [], 1⟩ (false)
def Q0_J45 (R_ : RB5) (p_names : Bool) (p_v : GValue) (r947 : Bool) (r970 : Bool) : Option (Bool) := Mo.den (Q0_J45_T R_ p_names p_v r947 r970)
def Q0_J45_S (p_names : Bool) (p_v : GValue) (r_ : Bool) : St := ⟨[(1, .lf (.bool p_names)), (2, .ptr 0 0), (69, .lf (.bool r_))], [.box 29 (.dat (GValue.lf1 p_v))]⟩
theorem Q0_J45_W {R_ : RB5} {p_names : Bool} {p_v : GValue} {r947 : Bool} {r970 : Bool} {r_ : Bool} (h : Q0_J45 R_ p_names p_v r947 r970 = some r_) : AWoa_ Tryz.f57 0 [1, 1, 1, 1, 0, 0] [7, 8, 9, 10, 11, 12, 13, 14, 15] (Q0_J45_S p_names p_v r_) ⟨[(1, .lf (.bool p_names)), (2, .ptr 0 0), (6, .lf (.bool r947)), (60, .lf (.bool r970))], [.box 29 (.dat (GValue.lf1 p_v))]⟩ :=
 seg_T BaseK (Q0_J45_T R_ p_names p_v r947 r970) (Q0_J45_S p_names p_v) (by kernel_rfl) h
def Q0_J50_T (R_ : RB5) (p_names : Bool) (p_v : GValue) (r975 : Bool) : Mo (Bool) :=
 .ite (r975) (fun c977 =>
 .say [.gd 12016 true] (ok1 c977) <|
 .ret ⟨[], [1, 2, 74], [], 1⟩ (true)) fun c977 =>
 .say [.gd 12016 false] (ok1 c977) <|
 .ret ⟨[], [1, 2, 74], [], 1⟩ (decide ((p_v.fKind : Int) < 1))
def Q0_J50 (R_ : RB5) (p_names : Bool) (p_v : GValue) (r975 : Bool) : Option (Bool) := Mo.den (Q0_J50_T R_ p_names p_v r975)
def Q0_J50_S (p_names : Bool) (p_v : GValue) (r_ : Bool) : St := ⟨[(1, .lf (.bool p_names)), (2, .ptr 0 0), (74, .lf (.bool r_))], [.box 29 (.dat (GValue.lf1 p_v))]⟩
theorem Q0_J50_W {R_ : RB5} {p_names : Bool} {p_v : GValue} {r975 : Bool} {r_ : Bool} (h : Q0_J50 R_ p_names p_v r975 = some r_) : AWoa_ Tryz.f57 0 [1, 1, 1, 1, 0, 0] [16, 17, 18, 19, 20] (Q0_J50_S p_names p_v r_) ⟨[(1, .lf (.bool p_names)), (2, .ptr 0 0), (69, .lf (.bool r975))], [.box 29 (.dat (GValue.lf1 p_v))]⟩ :=
 seg_T BaseK (Q0_J50_T R_ p_names p_v r975) (Q0_J50_S p_names p_v) (by kernel_rfl) h
def Q0_J55_T (R_ : RB5) (p_names : Bool) (p_v : GValue) (r979 : Bool) : Mo (Bool) :=
 .ite (r979) (fun c981 =>
 .say [.gd 12021 true] (ok1 c981) <|
 .ret ⟨[], [1, 2, 79], [], 1⟩ (true)) fun c981 =>
 .say [.gd 12021 false] (ok1 c981) <|
 .ret ⟨[], [1, 2, 79], [], 1⟩ (decide ((11 : Int) < p_v.fKind))
def Q0_J55 (R_ : RB5) (p_names : Bool) (p_v : GValue) (r979 : Bool) : Option (Bool) := Mo.den (Q0_J55_T R_ p_names p_v r979)
def Q0_J55_S (p_names : Bool) (p_v : GValue) (r_ : Bool) : St := ⟨[(1, .lf (.bool p_names)), (2, .ptr 0 0), (79, .lf (.bool r_))], [.box 29 (.dat (GValue.lf1 p_v))]⟩
theorem Q0_J55_W {R_ : RB5} {p_names : Bool} {p_v : GValue} {r979 : Bool} {r_ : Bool} (h : Q0_J55 R_ p_names p_v r979 = some r_) : AWoa_ Tryz.f57 0 [1, 1, 1, 1, 0, 0] [21, 22, 23, 24, 25] (Q0_J55_S p_names p_v r_) ⟨[(1, .lf (.bool p_names)), (2, .ptr 0 0), (74, .lf (.bool r979))], [.box 29 (.dat (GValue.lf1 p_v))]⟩ :=
 seg_T BaseK (Q0_J55_T R_ p_names p_v r979) (Q0_J55_S p_names p_v) (by kernel_rfl) h
def Q0_J60_T (R_ : RB5) (p_v : GValue) : Mo (Bool) :=
 .ite (p_v.fInt == 0) (fun c1412 =>
 .say [.gd 20003 true] (ok1 c1412) <|
 .ret ⟨[.kill 0], [4], [], 1⟩ (true)) fun c1412 =>
 .say [.gd 20003 false] (ok1 c1412) <|
 .ret ⟨[.kill 0], [4], [], 1⟩ (p_v.fInt == 1)
def Q0_J60 (R_ : RB5) (p_v : GValue) : Option (Bool) := Mo.den (Q0_J60_T R_ p_v)
def Q0_J60_S  (r_ : Bool) : St := ⟨[(4, .lf (.bool r_))], [.dead]⟩
theorem Q0_J60_W {R_ : RB5} {p_v : GValue} {r_ : Bool} (h : Q0_J60 R_ p_v = some r_) : AWa_ Tryz.f57 0 [1, 1, 1, 1, 1, 0, 1, 0, 1, 0, 0] (.normal) (Q0_J60_S r_) ⟨[(2, .ptr 0 0)], [.box 29 (.dat (GValue.lf1 p_v))]⟩ :=
 part_T BaseK (Q0_J60_T R_ p_v) (fun _ => .normal) Q0_J60_S (by kernel_rfl) h
def Q0_J65_T (R_ : RB5) (p_v : GValue) : Mo (Bool) :=
 .ite (decide (((p_v.fText.size : Int) : Int) ≤ 4096)) (fun c1436 =>
 .say [.gd 28004 true] (ok1 c1436) <|
 .ask (Q5 p_v.fText) fun r1437 h1438 =>
 .say [.res (.lf (.bool r1437))] (ok1 (Q5_ok _ _ h1438)) <|
 .ret ⟨[.kill 0], [4], [], 1⟩ (r1437)) fun c1436 =>
 .say [.gd 28004 false] (ok1 c1436) <|
 .ret ⟨[.kill 0], [4], [], 1⟩ (false)
def Q0_J65 (R_ : RB5) (p_v : GValue) : Option (Bool) := Mo.den (Q0_J65_T R_ p_v)
def Q0_J65_S  (r_ : Bool) : St := ⟨[(4, .lf (.bool r_))], [.dead]⟩
theorem Q0_J65_W {R_ : RB5} {p_v : GValue} {r_ : Bool} (h : Q0_J65 R_ p_v = some r_) : AWa_ Tryz.f57 0 [1, 1, 1, 1, 1, 0, 1, 0, 1, 1, 1, 1, 1, 0, 0] (.normal) (Q0_J65_S r_) ⟨[(2, .ptr 0 0)], [.box 29 (.dat (GValue.lf1 p_v))]⟩ :=
 part_T BaseK (Q0_J65_T R_ p_v) (fun _ => .normal) Q0_J65_S (by kernel_rfl) h
def Q0_L70_T (R_ : RB5) (p_names : Bool) (p_v : GValue) : (Int) → Mo ((Int) ⊕ (Unit ⊕ Unit)) := fun (v1483) =>
 .say [.num p_v.fList.length] (okc (by simp : p_v.fList.length = (p_v.fList.map GValue.lf).length) ok0) <|
 .ite (decide ((v1483 : Int) < (p_v.fList.length : Int))) (fun c1484 =>
 .say [.br true] (ok1 c1484) <|
 .ask (gidx p_v.fList v1483) fun x1485 h1486 =>
 .say [.row (GValue.lf1 x1485)] (okc (gidx_ok GValue.lf_eq h1486 : (0 : Int) ≤ v1483 ∧ (p_v.fList.map GValue.lf)[v1483.toNat]? = some (GValue.lf1 x1485)) ok0) <|
 .ask (R_.m1 x1485 p_names) fun r1487 h1488 =>
 .say [.res (.lf (.bool r1487))] (ok1 (R_.ok1 _ _ _ h1488)) <|
 .ite (!r1487) (fun c1489 =>
 .say [.br true] (ok1 c1489) <|
 .ret ⟨[.kill 0], [4], [], 1⟩ (.inr (.inl ()))) fun c1489 =>
 .say [.br false] (ok1 c1489) <|
 .ret ⟨[], [1, 2, 7], [], 1⟩ (.inl (IntKind.wrap .i64 (v1483 + 1)))) fun c1484 =>
 .say [.br false] (ok1 c1484) <|
 .ret ⟨[], [1, 2], [], 1⟩ (.inr (.inr (())))
def Q0_L70 (R_ : RB5) (p_names : Bool) (p_v : GValue) (v1483 : Int) : Option (Unit ⊕ Unit) := loopM (fun v_ => (Q0_L70_T R_ p_names p_v v_).den) FU (v1483)
def Q0_L70_H (R_ : RB5) (p_names : Bool) (p_v : GValue) : (Int) → St := fun (v1483) => ⟨[(1, .lf (.bool p_names)), (2, .ptr 0 0), (7, .lf (.int .i64 v1483))], [.box 29 (.dat (GValue.lf1 p_v))]⟩
def Q0_L70_X (r_ : Unit ⊕ Unit) : Exit := match r_ with
 | .inl o_ => .ret
 | .inr (o_) => .exit 1
def Q0_L70_S (p_names : Bool) (p_v : GValue) (r_ : Unit ⊕ Unit) : St := match r_ with
 | .inl o_ => ⟨[(4, .lf (.bool false))], [.dead]⟩
 | .inr (o_) => ⟨[(1, .lf (.bool p_names)), (2, .ptr 0 0)], [.box 29 (.dat (GValue.lf1 p_v))]⟩
theorem Q0_L70_W {R_ : RB5} {p_names : Bool} {p_v : GValue} {v1483 : Int} {r_ : Unit ⊕ Unit} (h : Q0_L70 R_ p_names p_v v1483 = some r_) : AWa_ Tryz.f57 0 [1, 1, 1, 1, 1, 1, 0, 1, 0] (Q0_L70_X r_) (Q0_L70_S p_names p_v r_) (Q0_L70_H R_ p_names p_v (v1483)) :=
 loop_T BaseK (body := (Code.sub (bodyC Tryz.f57) [1, 1, 1, 1, 1, 1, 0, 1, 0, 0])) (by kernel_rfl) (Q0_L70_T R_ p_names p_v) (Q0_L70_H R_ p_names p_v) Q0_L70_X (Q0_L70_S p_names p_v) (fun r_ => by rcases r_ with _ | _ <;> rfl) (fun v_ => by kernel_rfl) h
def Q0_T (R_ : RB5) (p_v : GValue) (p_names : Bool) : Mo (Bool) :=
 .ask (Q0_J0 R_ p_names p_v) fun r902 h903 =>
 .say [.sg_ 1 9 [1, 2] 1 (Q0_J0_S p_names p_v r902)] (ok1 (Q0_J0_W h903)) <|
 .ask (Q0_J5 R_ p_names p_v r902) fun r907 h908 =>
 .say [.sg_ 1 11 [1, 2, 16] 1 (Q0_J5_S p_names p_v r907)] (ok1 (Q0_J5_W h908)) <|
 .ite (r907) (fun c910 =>
 .say [.br true] (ok1 c910) <|
 .ret (fitN 1) (false)) fun c910 =>
 .say [.br false] (ok1 c910) <|
 .ask (Q0_J10 R_ p_names p_v) fun r923 h924 =>
 .say [.sg_ 3 8 [1, 2] 1 (Q0_J10_S p_names p_v r923)] (ok1 (Q0_J10_W h924)) <|
 .ask (Q0_J15 R_ p_names p_v r923) fun r927 h928 =>
 .say [.sg_ 3 5 [1, 2, 35] 1 (Q0_J15_S p_names p_v r927)] (ok1 (Q0_J15_W h928)) <|
 .ask (Q0_J20 R_ p_names p_v r927) fun r929 h930 =>
 .say [.sg_ 3 1 [1, 2, 40] 1 (Q0_J20_S p_names p_v r927 r929)] (ok1 (Q0_J20_W h930)) <|
 .ask (Q0_J25 R_ p_names p_v r927) fun r943 h944 =>
 .say [.sg_ 4 8 [1, 2, 5] 1 (Q0_J25_S p_names p_v r927 r943)] (ok1 (Q0_J25_W h944)) <|
 .ask (Q0_J30 R_ p_names p_v r927 r943) fun r947 h948 =>
 .say [.sg_ 4 5 [1, 2, 5, 48] 1 (Q0_J30_S p_names p_v r927 r947)] (ok1 (Q0_J30_W h948)) <|
 .ask (Q0_J35 R_ p_names p_v r927 r947) fun r949 h950 =>
 .say [.sg_ 4 1 [1, 2, 5, 53] 1 (Q0_J35_S p_names p_v r927 r947 r949)] (ok1 (Q0_J35_W h950)) <|
 .ask (Q0_J40 R_ p_names p_v r927 r947) fun r970 h971 =>
 .say [.sg_ 5 7 [1, 2, 5, 6] 1 (Q0_J40_S p_names p_v r947 r970)] (ok1 (Q0_J40_W h971)) <|
 .ask (Q0_J45 R_ p_names p_v r947 r970) fun r975 h976 =>
 .say [.sg_ 5 9 [1, 2, 6, 60] 1 (Q0_J45_S p_names p_v r975)] (ok1 (Q0_J45_W h976)) <|
 .ask (Q0_J50 R_ p_names p_v r975) fun r979 h980 =>
 .say [.sg_ 5 5 [1, 2, 69] 1 (Q0_J50_S p_names p_v r979)] (ok1 (Q0_J50_W h980)) <|
 .ask (Q0_J55 R_ p_names p_v r979) fun r983 h984 =>
 .say [.sg_ 5 5 [1, 2, 74] 1 (Q0_J55_S p_names p_v r983)] (ok1 (Q0_J55_W h984)) <|
 .ite (r983) (fun c986 =>
 .say [.br true] (ok1 c986) <|
 .ret (fitN 1) (false)) fun c986 =>
 .say [.br false] (ok1 c986) <|
 .ite (p_v.fKind == 9) (fun c1410 =>
 .say [.br true] (ok1 c1410) <|
 .ask (Q0_J60 R_ p_v) fun r1416 h1417 =>
 .say [.pt_ 25 [2] 1 (.normal) (Q0_J60_S r1416)] (ok1 (Q0_J60_W h1417)) <|
 .ret (fitN 1) (r1416)) fun c1410 =>
 .say [.br false] (ok1 c1410) <|
 .ite (p_v.fKind == 10) (fun c1425 =>
 .say [.br true] (ok1 c1425) <|
 .ret (fitN 1) (decide ((0 : Int) ≤ p_v.fInt))) fun c1425 =>
 .say [.br false] (ok1 c1425) <|
 .ite (p_v.fKind == 4) (fun c1432 =>
 .say [.br true] (ok1 c1432) <|
 .ask (Q0_J65 R_ p_v) fun r1442 h1443 =>
 .say [.pt_ 33 [2] 1 (.normal) (Q0_J65_S r1442)] (ok1 (Q0_J65_W h1443)) <|
 .ret (fitN 1) (r1442)) fun c1432 =>
 .say [.br false] (ok1 c1432) <|
 .ite (p_v.fKind == 7) (fun c1446 =>
 .say [.br true] (ok1 c1446) <|
 .ret (fitN 1) (decide (((p_v.fText.size : Int) : Int) ≤ 4096))) fun c1446 =>
 .say [.br false] (ok1 c1446) <|
 .ite (p_v.fKind == 8) (fun c1448 =>
 .say [.br true] (ok1 c1448) <|
 .ret (fitN 1) ((p_v.fText.size : Int) == 12)) fun c1448 =>
 .say [.br false] (ok1 c1448) <|
 .ask2 (Q0_L70 R_ p_names p_v 0) (fun o1492 h1491 =>
 .say [.pt_ 0 [1, 2, 7] 1 (Q0_L70_X (.inl o1492)) (Q0_L70_S p_names p_v (.inl o1492))] (ok1 (Q0_L70_W h1491)) <|
 .ret (fitN 1) (false)) fun o1493 h1491 =>
 .say [.pt_ 0 [1, 2, 7] 1 (Q0_L70_X (.inr (o1493))) (Q0_L70_S p_names p_v (.inr (o1493)))] (ok1 (Q0_L70_W h1491)) <|
 .ask (R_.m2 p_v p_names) fun r1494 h1495 =>
 .say [.res (.lf (.bool r1494))] (ok1 (R_.ok2 _ _ _ h1495)) <|
 .ret (fitN 1) (r1494)
theorem Q0_okT (R_ : RB5) (p_v : GValue) (p_names : Bool) (r : Bool) (h : Mo.den (Q0_T R_ p_v p_names) = some r) : Fn Tryz.prog GI 57 [.dat (GValue.lf1 p_v), .lf (.bool p_names)] (.lf (.bool r)) :=
 fn_T BaseK Tryz.func57 (by kernel_rfl) (by kernel_rfl) (by kernel_rfl) (Q0_T R_ p_v p_names) (fun r => [.lf (.bool r)]) (by kernel_rfl) h
def Q14_J0_T (R_ : RB5) (p_names : Bool) (p_v : GValue) (v1760 : Int) (x1762 : GField) : Mo (Bool) :=
 .ite (p_names) (fun c1764 =>
 .say [.gd 12001 true] (ok1 c1764) <|
 .ask (Q20 x1762.fName) fun r1765 h1766 =>
 .say [.res (.lf (.bool r1765))] (ok1 (Q20_ok _ _ h1766)) <|
 .ret ⟨[], [1, 2, 5, 6, 26], [], 2⟩ (!r1765)) fun c1764 =>
 .say [.gd 12001 false] (ok1 c1764) <|
 .ret ⟨[], [1, 2, 5, 6, 26], [], 2⟩ (false)
def Q14_J0 (R_ : RB5) (p_names : Bool) (p_v : GValue) (v1760 : Int) (x1762 : GField) : Option (Bool) := Mo.den (Q14_J0_T R_ p_names p_v v1760 x1762)
def Q14_J0_S (p_names : Bool) (p_v : GValue) (v1760 : Int) (x1762 : GField) (r_ : Bool) : St := ⟨[(1, .lf (.bool p_names)), (2, .ptr 0 0), (5, .lf (.int .i64 v1760)), (6, .ptr 1 0), (26, .lf (.bool r_))], [.box 29 (.dat (GValue.lf1 p_v)), .box 89 (.agg ((GField.lf1 x1762).map AV.lf))]⟩
theorem Q14_J0_W {R_ : RB5} {p_names : Bool} {p_v : GValue} {v1760 : Int} {x1762 : GField} {r_ : Bool} (h : Q14_J0 R_ p_names p_v v1760 x1762 = some r_) : AWoa_ Tryz.f81 0 [1, 0, 1, 0, 0, 1, 0, 0, 1, 0, 0] [0, 1, 2, 3, 4, 5, 6] (Q14_J0_S p_names p_v v1760 x1762 r_) ⟨[(1, .lf (.bool p_names)), (2, .ptr 0 0), (5, .lf (.int .i64 v1760)), (6, .ptr 1 0)], [.box 29 (.dat (GValue.lf1 p_v)), .box 89 (.agg ((GField.lf1 x1762).map AV.lf))]⟩ :=
 seg_T BaseK (Q14_J0_T R_ p_names p_v v1760 x1762) (Q14_J0_S p_names p_v v1760 x1762) (by kernel_rfl) h
def Q14_J5_T (R_ : RB5) (p_names : Bool) (p_v : GValue) (r1768 : Bool) (v1760 : Int) (x1762 : GField) : Mo (Bool) :=
 .ite (r1768) (fun c1770 =>
 .say [.gd 12007 true] (ok1 c1770) <|
 .ret ⟨[], [1, 2, 5, 6, 36], [], 2⟩ (true)) fun c1770 =>
 .say [.gd 12007 false] (ok1 c1770) <|
 .ite (!p_names) (fun c1771 =>
 .say [.gd 12010 true] (ok1 c1771) <|
 .ask (Q40 x1762.fName) fun r1772 h1773 =>
 .say [.res (.lf (.bool r1772))] (ok1 (Q40_ok _ _ h1773)) <|
 .ret ⟨[], [1, 2, 5, 6, 36], [], 2⟩ (!r1772)) fun c1771 =>
 .say [.gd 12010 false] (ok1 c1771) <|
 .ret ⟨[], [1, 2, 5, 6, 36], [], 2⟩ (false)
def Q14_J5 (R_ : RB5) (p_names : Bool) (p_v : GValue) (r1768 : Bool) (v1760 : Int) (x1762 : GField) : Option (Bool) := Mo.den (Q14_J5_T R_ p_names p_v r1768 v1760 x1762)
def Q14_J5_S (p_names : Bool) (p_v : GValue) (v1760 : Int) (x1762 : GField) (r_ : Bool) : St := ⟨[(1, .lf (.bool p_names)), (2, .ptr 0 0), (5, .lf (.int .i64 v1760)), (6, .ptr 1 0), (36, .lf (.bool r_))], [.box 29 (.dat (GValue.lf1 p_v)), .box 89 (.agg ((GField.lf1 x1762).map AV.lf))]⟩
theorem Q14_J5_W {R_ : RB5} {p_names : Bool} {p_v : GValue} {r1768 : Bool} {v1760 : Int} {x1762 : GField} {r_ : Bool} (h : Q14_J5 R_ p_names p_v r1768 v1760 x1762 = some r_) : AWoa_ Tryz.f81 0 [1, 0, 1, 0, 0, 1, 0, 0, 1, 0, 0] [7, 8, 9, 10, 11, 12, 13, 14, 15, 16] (Q14_J5_S p_names p_v v1760 x1762 r_) ⟨[(1, .lf (.bool p_names)), (2, .ptr 0 0), (5, .lf (.int .i64 v1760)), (6, .ptr 1 0), (26, .lf (.bool r1768))], [.box 29 (.dat (GValue.lf1 p_v)), .box 89 (.agg ((GField.lf1 x1762).map AV.lf))]⟩ :=
 seg_T BaseK (Q14_J5_T R_ p_names p_v r1768 v1760 x1762) (Q14_J5_S p_names p_v v1760 x1762) (by kernel_rfl) h
def Q14_J10_T (R_ : RB5) (p_names : Bool) (p_v : GValue) (r1775 : Bool) (v1760 : Int) (x1762 : GField) : Mo (Bool) :=
 .ite (r1775) (fun c1777 =>
 .say [.gd 12017 true] (ok1 c1777) <|
 .ret ⟨[], [1, 2, 5, 6, 43], [], 2⟩ (true)) fun c1777 =>
 .say [.gd 12017 false] (ok1 c1777) <|
 .ask (R_.m1 x1762.fValue p_names) fun r1778 h1779 =>
 .say [.res (.lf (.bool r1778))] (ok1 (R_.ok1 _ _ _ h1779)) <|
 .ret ⟨[], [1, 2, 5, 6, 43], [], 2⟩ (!r1778)
def Q14_J10 (R_ : RB5) (p_names : Bool) (p_v : GValue) (r1775 : Bool) (v1760 : Int) (x1762 : GField) : Option (Bool) := Mo.den (Q14_J10_T R_ p_names p_v r1775 v1760 x1762)
def Q14_J10_S (p_names : Bool) (p_v : GValue) (v1760 : Int) (x1762 : GField) (r_ : Bool) : St := ⟨[(1, .lf (.bool p_names)), (2, .ptr 0 0), (5, .lf (.int .i64 v1760)), (6, .ptr 1 0), (43, .lf (.bool r_))], [.box 29 (.dat (GValue.lf1 p_v)), .box 89 (.agg ((GField.lf1 x1762).map AV.lf))]⟩
theorem Q14_J10_W {R_ : RB5} {p_names : Bool} {p_v : GValue} {r1775 : Bool} {v1760 : Int} {x1762 : GField} {r_ : Bool} (h : Q14_J10 R_ p_names p_v r1775 v1760 x1762 = some r_) : AWoa_ Tryz.f81 0 [1, 0, 1, 0, 0, 1, 0, 0, 1, 0, 0] [17, 18, 19, 20, 21, 22, 23] (Q14_J10_S p_names p_v v1760 x1762 r_) ⟨[(1, .lf (.bool p_names)), (2, .ptr 0 0), (5, .lf (.int .i64 v1760)), (6, .ptr 1 0), (36, .lf (.bool r1775))], [.box 29 (.dat (GValue.lf1 p_v)), .box 89 (.agg ((GField.lf1 x1762).map AV.lf))]⟩ :=
 seg_T BaseK (Q14_J10_T R_ p_names p_v r1775 v1760 x1762) (Q14_J10_S p_names p_v v1760 x1762) (by kernel_rfl) h
def Q14_L15_T (R_ : RB5) (p_names : Bool) (p_v : GValue) (v1760 : Int) (x1762 : GField) : (Int) → Mo ((Int) ⊕ (Unit ⊕ Unit)) := fun (v1788) =>
 .ite (decide ((v1788 : Int) < v1760)) (fun c1789 =>
 .say [.br true, .order [(true, 0), (true, 1), (true, 2), (true, 3), (true, 4), (true, 5), (true, 6), (true, 7), (true, 8)] none []] (ok1 c1789) <|
 .ask (gidx p_v.fDoc v1788) fun x1790 h1791 =>
 .say [.row (GField.lf1 x1790)] (okc (gidx_ok GField.lf_eq h1791 : (0 : Int) ≤ v1788 ∧ (p_v.fDoc.map GField.lf)[v1788.toNat]? = some (GField.lf1 x1790)) ok0) <|
 .ite (decide ((x1790.fName : ByteArray) = (x1762.fName : ByteArray))) (fun c1792 =>
 .say [.br true] (ok1 c1792) <|
 .ret ⟨[.kill 0, .kill 1], [4], [], 2⟩ (.inr (.inl ()))) fun c1792 =>
 .say [.br false] (ok1 c1792) <|
 .ret ⟨[], [1, 2, 5, 6, 7], [], 2⟩ (.inl (IntKind.wrap .i64 (v1788 + 1)))) fun c1789 =>
 .say [.br false] (ok1 c1789) <|
 .ret ⟨[.kill 1], [1, 2, 5], [], 2⟩ (.inr (.inr (())))
def Q14_L15 (R_ : RB5) (p_names : Bool) (p_v : GValue) (v1760 : Int) (x1762 : GField) (v1788 : Int) : Option (Unit ⊕ Unit) := loopM (fun v_ => (Q14_L15_T R_ p_names p_v v1760 x1762 v_).den) FU (v1788)
def Q14_L15_H (R_ : RB5) (p_names : Bool) (p_v : GValue) (v1760 : Int) (x1762 : GField) : (Int) → St := fun (v1788) => ⟨[(1, .lf (.bool p_names)), (2, .ptr 0 0), (5, .lf (.int .i64 v1760)), (6, .ptr 1 0), (7, .lf (.int .i64 v1788))], [.box 29 (.dat (GValue.lf1 p_v)), .box 89 (.agg ((GField.lf1 x1762).map AV.lf))]⟩
def Q14_L15_X (r_ : Unit ⊕ Unit) : Exit := match r_ with
 | .inl o_ => .ret
 | .inr (o_) => .exit 2
def Q14_L15_S (p_names : Bool) (p_v : GValue) (v1760 : Int) (r_ : Unit ⊕ Unit) : St := match r_ with
 | .inl o_ => ⟨[(4, .lf (.bool false))], [.dead, .dead]⟩
 | .inr (o_) => ⟨[(1, .lf (.bool p_names)), (2, .ptr 0 0), (5, .lf (.int .i64 v1760))], [.box 29 (.dat (GValue.lf1 p_v)), .dead]⟩
theorem Q14_L15_W {R_ : RB5} {p_names : Bool} {p_v : GValue} {v1760 : Int} {x1762 : GField} {v1788 : Int} {r_ : Unit ⊕ Unit} (h : Q14_L15 R_ p_names p_v v1760 x1762 v1788 = some r_) : AWa_ Tryz.f81 0 [1, 0, 1, 0, 0, 1, 0, 0, 1, 1, 1, 0] (Q14_L15_X r_) (Q14_L15_S p_names p_v v1760 r_) (Q14_L15_H R_ p_names p_v v1760 x1762 (v1788)) :=
 loop_T BaseK (body := (Code.sub (bodyC Tryz.f81) [1, 0, 1, 0, 0, 1, 0, 0, 1, 1, 1, 0, 0])) (by kernel_rfl) (Q14_L15_T R_ p_names p_v v1760 x1762) (Q14_L15_H R_ p_names p_v v1760 x1762) Q14_L15_X (Q14_L15_S p_names p_v v1760) (fun r_ => by rcases r_ with _ | _ <;> rfl) (fun v_ => by kernel_rfl) h
def Q14_L21_T (R_ : RB5) (p_names : Bool) (p_v : GValue) : (Int) → Mo ((Int) ⊕ (Unit ⊕ Unit)) := fun (v1760) =>
 .say [.num p_v.fDoc.length] (okc (by simp : p_v.fDoc.length = (p_v.fDoc.map GField.lf).length) ok0) <|
 .ite (decide ((v1760 : Int) < (p_v.fDoc.length : Int))) (fun c1761 =>
 .say [.br true] (ok1 c1761) <|
 .ask (gidx p_v.fDoc v1760) fun x1762 h1763 =>
 .say [.row (GField.lf1 x1762)] (okc (gidx_ok GField.lf_eq h1763 : (0 : Int) ≤ v1760 ∧ (p_v.fDoc.map GField.lf)[v1760.toNat]? = some (GField.lf1 x1762)) ok0) <|
 .ask (Q14_J0 R_ p_names p_v v1760 x1762) fun r1768 h1769 =>
 .say [.sg_ 5 7 [1, 2, 5, 6] 2 (Q14_J0_S p_names p_v v1760 x1762 r1768)] (ok1 (Q14_J0_W h1769)) <|
 .ask (Q14_J5 R_ p_names p_v r1768 v1760 x1762) fun r1775 h1776 =>
 .say [.sg_ 5 10 [1, 2, 5, 6, 26] 2 (Q14_J5_S p_names p_v v1760 x1762 r1775)] (ok1 (Q14_J5_W h1776)) <|
 .ask (Q14_J10 R_ p_names p_v r1775 v1760 x1762) fun r1781 h1782 =>
 .say [.sg_ 5 7 [1, 2, 5, 6, 36] 2 (Q14_J10_S p_names p_v v1760 x1762 r1781)] (ok1 (Q14_J10_W h1782)) <|
 .ite (r1781) (fun c1783 =>
 .say [.br true] (ok1 c1783) <|
 .ret ⟨[.kill 0], [4], [], 1⟩ (.inr (.inl ()))) fun c1783 =>
 .say [.br false] (ok1 c1783) <|
 .ask2 (Q14_L15 R_ p_names p_v v1760 x1762 0) (fun o1795 h1794 =>
 .say [.pt_ 0 [1, 2, 5, 6, 7] 2 (Q14_L15_X (.inl o1795)) (Q14_L15_S p_names p_v v1760 (.inl o1795))] (ok1 (Q14_L15_W h1794)) <|
 .ret ⟨[], [4], [], 1⟩ (.inr (.inl ()))) fun o1796 h1794 =>
 .say [.pt_ 0 [1, 2, 5, 6, 7] 2 (Q14_L15_X (.inr (o1796))) (Q14_L15_S p_names p_v v1760 (.inr (o1796)))] (ok1 (Q14_L15_W h1794)) <|
 .ret ⟨[], [1, 2, 5], [], 1⟩ (.inl (IntKind.wrap .i64 (v1760 + 1)))) fun c1761 =>
 .say [.br false] (ok1 c1761) <|
 .ret ⟨[.kill 0], [], [], 1⟩ (.inr (.inr (())))
def Q14_L21 (R_ : RB5) (p_names : Bool) (p_v : GValue) (v1760 : Int) : Option (Unit ⊕ Unit) := loopM (fun v_ => (Q14_L21_T R_ p_names p_v v_).den) FU (v1760)
def Q14_L21_H (R_ : RB5) (p_names : Bool) (p_v : GValue) : (Int) → St := fun (v1760) => ⟨[(1, .lf (.bool p_names)), (2, .ptr 0 0), (5, .lf (.int .i64 v1760))], [.box 29 (.dat (GValue.lf1 p_v))]⟩
def Q14_L21_X (r_ : Unit ⊕ Unit) : Exit := match r_ with
 | .inl o_ => .ret
 | .inr (o_) => .exit 0
def Q14_L21_S  (r_ : Unit ⊕ Unit) : St := match r_ with
 | .inl o_ => ⟨[(4, .lf (.bool false))], [.dead]⟩
 | .inr (o_) => ⟨[], [.dead]⟩
theorem Q14_L21_W {R_ : RB5} {p_names : Bool} {p_v : GValue} {v1760 : Int} {r_ : Unit ⊕ Unit} (h : Q14_L21 R_ p_names p_v v1760 = some r_) : AWa_ Tryz.f81 0 [1, 0, 1, 0] (Q14_L21_X r_) (Q14_L21_S r_) (Q14_L21_H R_ p_names p_v (v1760)) :=
 loop_T BaseK (body := (Code.sub (bodyC Tryz.f81) [1, 0, 1, 0, 0])) (by kernel_rfl) (Q14_L21_T R_ p_names p_v) (Q14_L21_H R_ p_names p_v) Q14_L21_X Q14_L21_S (fun r_ => by rcases r_ with _ | _ <;> rfl) (fun v_ => by kernel_rfl) h
def Q14_T (R_ : RB5) (p_v : GValue) (p_names : Bool) : Mo (Bool) :=
 .ask2 (Q14_L21 R_ p_names p_v 0) (fun o1799 h1798 =>
 .say [.pt_ 0 [1, 2, 5] 1 (Q14_L21_X (.inl o1799)) (Q14_L21_S (.inl o1799))] (ok1 (Q14_L21_W h1798)) <|
 .ret (fitN 1) (false)) fun o1800 h1798 =>
 .say [.pt_ 0 [1, 2, 5] 1 (Q14_L21_X (.inr (o1800))) (Q14_L21_S (.inr (o1800)))] (ok1 (Q14_L21_W h1798)) <|
 .ret (fitN 1) (true)
theorem Q14_okT (R_ : RB5) (p_v : GValue) (p_names : Bool) (r : Bool) (h : Mo.den (Q14_T R_ p_v p_names) = some r) : Fn Tryz.prog GI 81 [.dat (GValue.lf1 p_v), .lf (.bool p_names)] (.lf (.bool r)) :=
 fn_T BaseK Tryz.func81 (by kernel_rfl) (by kernel_rfl) (by kernel_rfl) (Q14_T R_ p_v p_names) (fun r => [.lf (.bool r)]) (by kernel_rfl) h
def RB5_F : Nat → RB5
 | 0 => { m1 := fun p_v p_names => none, ok1 := fun _ _ _ h => (by cases h), m2 := fun p_v p_names => none, ok2 := fun _ _ _ h => (by cases h) }
 | n_ + 1 => { m1 := fun p_v p_names => Mo.den (Q0_T (RB5_F n_) p_v p_names), ok1 := fun p_v p_names r h => Q0_okT (RB5_F n_) p_v p_names r h, m2 := fun p_v p_names => Mo.den (Q14_T (RB5_F n_) p_v p_names), ok2 := fun p_v p_names r h => Q14_okT (RB5_F n_) p_v p_names r h }
def Q0 (p_v : GValue) (p_names : Bool) : Option (Bool) := (RB5_F FU).m1 p_v p_names
theorem Q0_ok (p_v : GValue) (p_names : Bool) (r : Bool) (h : Q0 p_v p_names = some r) : Fn Tryz.prog GI 57 [.dat (GValue.lf1 p_v), .lf (.bool p_names)] (.lf (.bool r)) := (RB5_F FU).ok1 p_v p_names r h
def Q14 (p_v : GValue) (p_names : Bool) : Option (Bool) := (RB5_F FU).m2 p_v p_names
def Q71_T (p_v : GValue) : Mo (Bool) :=
 .ask (Q90 p_v) fun r823 h824 =>
 .say [.res (.lf (.int .i64 r823))] (ok1 (Q90_ok _ _ h824)) <|
 .ite (decide ((r823 : Int) ≤ 16)) (fun c825 =>
 .say [.gd 4003 true] (ok1 c825) <|
 .ask (Q91 p_v) fun r888 h889 =>
 .say [.res (.lf (.int .i64 r888))] (ok1 (Q91_ok _ _ h889)) <|
 .ite (decide ((r888 : Int) ≤ 1024)) (fun c890 =>
 .say [.gd 4008 true] (ok1 c890) <|
 .ask (Q0 p_v true) fun r1801 h1802 =>
 .say [.res (.lf (.bool r1801))] (ok1 (Q0_ok _ _ _ h1802)) <|
 .ret (fitN 1) (r1801)) fun c890 =>
 .say [.gd 4008 false] (ok1 c890) <|
 .ret (fitN 1) (false)) fun c825 =>
 .say [.gd 4003 false] (ok1 c825) <|
 .ret (fitN 1) (false)
def Q71 (p_v : GValue) : Option (Bool) := Mo.den (Q71_T p_v)
theorem Q71_ok (p_v : GValue) (r : Bool) (h : Q71 p_v = some r) : Fn Tryz.prog GI 42 [.dat (GValue.lf1 p_v)] (.lf (.bool r)) :=
 fn_T BaseK Tryz.func42 (by kernel_rfl) (by kernel_rfl) (by kernel_rfl) (Q71_T p_v) (fun r => [.lf (.bool r)]) (by kernel_rfl) h
structure RB6 where
 m1 : (p_v : GValue) → Option (ByteArray)
 ok1 : ∀ (p_v : GValue) (r : ByteArray), m1 p_v = some r → Fn Tryz.prog GI 107 [.dat (GValue.lf1 p_v)] (.lf (.str r))
def Q21_J0_T (R_ : RB6) (p_v : GValue) : Mo (Bool) :=
 .ite (p_v.fKind == 3) (fun c1936 =>
 .say [.br true] (ok1 c1936) <|
 .ret ⟨[], [1, 3, 12, 13], [], 2⟩ (p_v.fKind == 3)) fun c1936 =>
 .say [.br false] (ok1 c1936) <|
 .ret ⟨[], [1, 3, 12, 13], [], 2⟩ (p_v.fKind == 10)
def Q21_J0 (R_ : RB6) (p_v : GValue) : Option (Bool) := Mo.den (Q21_J0_T R_ p_v)
def Q21_J0_S (p_v : GValue) (r_ : Bool) : St := ⟨[(1, .ptr 0 0), (3, .lf (.str (strOfNums [IntKind.wrap .u8 p_v.fKind]))), (12, .lf (.int .i64 p_v.fKind)), (13, .lf (.bool r_))], [.box 29 (.dat (GValue.lf1 p_v)), .dead]⟩
theorem Q21_J0_W {R_ : RB6} {p_v : GValue} {r_ : Bool} (h : Q21_J0 R_ p_v = some r_) : AWa_ Tryz.f107 0 [1, 1, 0, 1, 0, 0, 1] (.normal) (Q21_J0_S p_v r_) ⟨[(1, .ptr 0 0), (3, .lf (.str (strOfNums [IntKind.wrap .u8 p_v.fKind]))), (12, .lf (.int .i64 p_v.fKind)), (13, .lf (.bool (p_v.fKind == 3)))], [.box 29 (.dat (GValue.lf1 p_v)), .dead]⟩ :=
 part_T BaseK (Q21_J0_T R_ p_v) (fun _ => .normal) (Q21_J0_S p_v) (by kernel_rfl) h
def Q21_J5_T (R_ : RB6) (p_v : GValue) : Mo (Bool) :=
 .ite (p_v.fKind == 4) (fun c1946 =>
 .say [.br true] (ok1 c1946) <|
 .ret ⟨[], [1, 3, 12, 30], [], 2⟩ (p_v.fKind == 4)) fun c1946 =>
 .say [.br false] (ok1 c1946) <|
 .ret ⟨[], [1, 3, 12, 30], [], 2⟩ (p_v.fKind == 7)
def Q21_J5 (R_ : RB6) (p_v : GValue) : Option (Bool) := Mo.den (Q21_J5_T R_ p_v)
def Q21_J5_S (p_v : GValue) (r_ : Bool) : St := ⟨[(1, .ptr 0 0), (3, .lf (.str (strOfNums [IntKind.wrap .u8 p_v.fKind]))), (12, .lf (.int .i64 p_v.fKind)), (30, .lf (.bool r_))], [.box 29 (.dat (GValue.lf1 p_v)), .dead]⟩
theorem Q21_J5_W {R_ : RB6} {p_v : GValue} {r_ : Bool} (h : Q21_J5 R_ p_v = some r_) : AWa_ Tryz.f107 0 [1, 1, 0, 1, 0, 1, 1, 1, 1, 0, 1] (.normal) (Q21_J5_S p_v r_) ⟨[(1, .ptr 0 0), (3, .lf (.str (strOfNums [IntKind.wrap .u8 p_v.fKind]))), (12, .lf (.int .i64 p_v.fKind)), (30, .lf (.bool (p_v.fKind == 4)))], [.box 29 (.dat (GValue.lf1 p_v)), .dead]⟩ :=
 part_T BaseK (Q21_J5_T R_ p_v) (fun _ => .normal) (Q21_J5_S p_v) (by kernel_rfl) h
def Q21_L10_T (R_ : RB6) (p_v : GValue) : (ByteArray × Int) → Mo ((ByteArray × Int) ⊕ (ByteArray)) := fun (v1967, v1968) =>
 .say [.num p_v.fList.length] (okc (by simp : p_v.fList.length = (p_v.fList.map GValue.lf).length) ok0) <|
 .ite (decide ((v1968 : Int) < (p_v.fList.length : Int))) (fun c1969 =>
 .say [.br true] (ok1 c1969) <|
 .ask (gidx p_v.fList v1968) fun x1970 h1971 =>
 .say [.row (GValue.lf1 x1970)] (okc (gidx_ok GValue.lf_eq h1971 : (0 : Int) ≤ v1968 ∧ (p_v.fList.map GValue.lf)[v1968.toNat]? = some (GValue.lf1 x1970)) ok0) <|
 .ask (R_.m1 x1970) fun r1972 h1973 =>
 .say [.res (.lf (.str r1972))] (ok1 (R_.ok1 _ _ h1973)) <|
 .grd (v1967.size + r1972.size ≤ 9223372036854775807) fun h1974 =>
 .say [] (ok1 h1974) <|
 .ret ⟨[], [1, 3, 4], [], 2⟩ (.inl (v1967 ++ r1972, IntKind.wrap .i64 (v1968 + 1)))) fun c1969 =>
 .say [.br false] (ok1 c1969) <|
 .ret ⟨[.kill 0], [3], [], 2⟩ (.inr (v1967))
def Q21_L10 (R_ : RB6) (p_v : GValue) (v1967 : ByteArray) (v1968 : Int) : Option (ByteArray) := loopM (fun v_ => (Q21_L10_T R_ p_v v_).den) FU (v1967, v1968)
def Q21_L10_H (R_ : RB6) (p_v : GValue) : (ByteArray × Int) → St := fun (v1967, v1968) => ⟨[(1, .ptr 0 0), (3, .lf (.str v1967)), (4, .lf (.int .i64 v1968))], [.box 29 (.dat (GValue.lf1 p_v)), .dead]⟩
def Q21_L10_S  (r_ : ByteArray) : St := ⟨[(3, .lf (.str r_))], [.dead, .dead]⟩
theorem Q21_L10_W {R_ : RB6} {p_v : GValue} {v1967 : ByteArray} {v1968 : Int} {r_ : ByteArray} (h : Q21_L10 R_ p_v v1967 v1968 = some r_) : AWa_ Tryz.f107 0 [1, 1, 0, 1, 0, 1, 1, 1, 1, 1, 1, 1, 1, 1, 0, 1, 1, 0] (.exit 1) (Q21_L10_S r_) (Q21_L10_H R_ p_v (v1967, v1968)) :=
 loop_T BaseK (body := (Code.sub (bodyC Tryz.f107) [1, 1, 0, 1, 0, 1, 1, 1, 1, 1, 1, 1, 1, 1, 0, 1, 1, 0, 0])) (by kernel_rfl) (Q21_L10_T R_ p_v) (Q21_L10_H R_ p_v) (fun _ => .exit 1) Q21_L10_S (fun r_ => rfl) (fun v_ => by kernel_rfl) h
def Q21_L16_T (R_ : RB6) (p_v : GValue) : (ByteArray × Int) → Mo ((ByteArray × Int) ⊕ (ByteArray)) := fun (v1997, v1998) =>
 .say [.num p_v.fDoc.length] (okc (by simp : p_v.fDoc.length = (p_v.fDoc.map GField.lf).length) ok0) <|
 .ite (decide ((v1998 : Int) < (p_v.fDoc.length : Int))) (fun c1999 =>
 .say [.br true, .order [(true, 0), (true, 1), (true, 2), (true, 3), (true, 4), (true, 5), (true, 6), (true, 7), (true, 10), (true, 11), (true, 12), (true, 13), (true, 14), (true, 15), (true, 17), (true, 18), (true, 19), (true, 20), (true, 21), (true, 22), (false, 8), (true, 9), (true, 16), (false, 23), (true, 24), (true, 25)] none []] (ok1 c1999) <|
 .ask (gidx p_v.fDoc v1998) fun x2000 h2001 =>
 .say [.row (GField.lf1 x2000)] (okc (gidx_ok GField.lf_eq h2001 : (0 : Int) ≤ v1998 ∧ (p_v.fDoc.map GField.lf)[v1998.toNat]? = some (GField.lf1 x2000)) ok0) <|
 .ask (gidx p_v.fDoc v1998) fun x2002 h2003 =>
 .say [.row (GField.lf1 x2002)] (okc (gidx_ok GField.lf_eq h2003 : (0 : Int) ≤ v1998 ∧ (p_v.fDoc.map GField.lf)[v1998.toNat]? = some (GField.lf1 x2002)) ok0) <|
 .ask (gidx p_v.fDoc v1998) fun x2004 h2005 =>
 .say [.row (GField.lf1 x2004)] (okc (gidx_ok GField.lf_eq h2005 : (0 : Int) ≤ v1998 ∧ (p_v.fDoc.map GField.lf)[v1998.toNat]? = some (GField.lf1 x2004)) ok0) <|
 .ask (Q31 (x2000.fName.size : Int)) fun r2006 h2007 =>
 .say [.res (.lf (.str r2006))] (ok1 (Q31_ok _ _ h2007)) <|
 .grd (v1997.size + r2006.size ≤ 9223372036854775807) fun h2008 =>
 .say [] (ok1 h2008) <|
 .grd ((v1997 ++ r2006).size + x2002.fName.size ≤ 9223372036854775807) fun h2009 =>
 .say [] (ok1 h2009) <|
 .ask (R_.m1 x2004.fValue) fun r2010 h2011 =>
 .say [.res (.lf (.str r2010))] (ok1 (R_.ok1 _ _ h2011)) <|
 .grd (((v1997 ++ r2006) ++ x2002.fName).size + r2010.size ≤ 9223372036854775807) fun h2012 =>
 .say [] (ok1 h2012) <|
 .ret ⟨[], [1, 3, 5], [], 2⟩ (.inl (((v1997 ++ r2006) ++ x2002.fName) ++ r2010, IntKind.wrap .i64 (v1998 + 1)))) fun c1999 =>
 .say [.br false] (ok1 c1999) <|
 .ret ⟨[.kill 0], [3], [], 2⟩ (.inr (v1997))
def Q21_L16 (R_ : RB6) (p_v : GValue) (v1997 : ByteArray) (v1998 : Int) : Option (ByteArray) := loopM (fun v_ => (Q21_L16_T R_ p_v v_).den) FU (v1997, v1998)
def Q21_L16_H (R_ : RB6) (p_v : GValue) : (ByteArray × Int) → St := fun (v1997, v1998) => ⟨[(1, .ptr 0 0), (3, .lf (.str v1997)), (5, .lf (.int .i64 v1998))], [.box 29 (.dat (GValue.lf1 p_v)), .dead]⟩
def Q21_L16_S  (r_ : ByteArray) : St := ⟨[(3, .lf (.str r_))], [.dead, .dead]⟩
theorem Q21_L16_W {R_ : RB6} {p_v : GValue} {v1997 : ByteArray} {v1998 : Int} {r_ : ByteArray} (h : Q21_L16 R_ p_v v1997 v1998 = some r_) : AWa_ Tryz.f107 0 [1, 1, 0, 1, 0, 1, 1, 1, 1, 1, 1, 1, 1, 1, 1, 1, 0, 1, 1, 0] (.exit 3) (Q21_L16_S r_) (Q21_L16_H R_ p_v (v1997, v1998)) :=
 loop_T BaseK (body := (Code.sub (bodyC Tryz.f107) [1, 1, 0, 1, 0, 1, 1, 1, 1, 1, 1, 1, 1, 1, 1, 1, 0, 1, 1, 0, 0])) (by kernel_rfl) (Q21_L16_T R_ p_v) (Q21_L16_H R_ p_v) (fun _ => .exit 3) Q21_L16_S (fun r_ => rfl) (fun v_ => by kernel_rfl) h
def Q21_J22_T (R_ : RB6) (p_v : GValue) : Mo (ByteArray) :=
 .ask (Q21_J0 R_ p_v) fun r1938 h1939 =>
 .say [.pt_ 1 [1, 3, 12, 13] 2 (.normal) (Q21_J0_S p_v r1938)] (ok1 (Q21_J0_W h1939)) <|
 .ite (r1938) (fun c1940 =>
 .say [.br true] (ok1 c1940) <|
 .ask (Q31 p_v.fInt) fun r1941 h1942 =>
 .say [.res (.lf (.str r1941))] (ok1 (Q31_ok _ _ h1942)) <|
 .grd ((strOfNums [IntKind.wrap .u8 p_v.fKind]).size + r1941.size ≤ 9223372036854775807) fun h1943 =>
 .say [] (ok1 h1943) <|
 .ret ⟨[.kill 0], [3], [], 2⟩ ((strOfNums [IntKind.wrap .u8 p_v.fKind]) ++ r1941)) fun c1940 =>
 .say [.br false] (ok1 c1940) <|
 .ite (p_v.fKind == 9) (fun c1944 =>
 .say [.br true, .nums [IntKind.wrap .u8 p_v.fInt]] (okc c1944 (okc (by simp [lfI, lfK] : [(lfK .u8 (IntKind.wrap .u8 p_v.fInt))] = [IntKind.wrap .u8 p_v.fInt].map fun n => [Lf.int .u8 n]) ok0)) <|
 .grd ((strOfNums [IntKind.wrap .u8 p_v.fKind]).size + (strOfNums [IntKind.wrap .u8 p_v.fInt]).size ≤ 9223372036854775807) fun h1945 =>
 .say [] (ok1 h1945) <|
 .ret ⟨[.kill 0], [3], [], 2⟩ ((strOfNums [IntKind.wrap .u8 p_v.fKind]) ++ (strOfNums [IntKind.wrap .u8 p_v.fInt]))) fun c1944 =>
 .say [.br false] (ok1 c1944) <|
 .ask (Q21_J5 R_ p_v) fun r1948 h1949 =>
 .say [.pt_ 1 [1, 3, 12, 30] 2 (.normal) (Q21_J5_S p_v r1948)] (ok1 (Q21_J5_W h1949)) <|
 .ite (r1948) (fun c1950 =>
 .say [.br true, .order [(true, 0), (true, 1), (true, 2), (true, 3), (true, 6), (true, 7), (false, 4), (true, 5), (true, 8), (true, 9)] none []] (ok1 c1950) <|
 .ask (Q31 (p_v.fText.size : Int)) fun r1951 h1952 =>
 .say [.res (.lf (.str r1951))] (ok1 (Q31_ok _ _ h1952)) <|
 .grd ((strOfNums [IntKind.wrap .u8 p_v.fKind]).size + r1951.size ≤ 9223372036854775807) fun h1953 =>
 .say [] (ok1 h1953) <|
 .grd (((strOfNums [IntKind.wrap .u8 p_v.fKind]) ++ r1951).size + p_v.fText.size ≤ 9223372036854775807) fun h1954 =>
 .say [] (ok1 h1954) <|
 .ret ⟨[.kill 0], [3], [], 2⟩ (((strOfNums [IntKind.wrap .u8 p_v.fKind]) ++ r1951) ++ p_v.fText)) fun c1950 =>
 .say [.br false] (ok1 c1950) <|
 .ite (p_v.fKind == 8) (fun c1955 =>
 .say [.br true] (ok1 c1955) <|
 .grd ((strOfNums [IntKind.wrap .u8 p_v.fKind]).size + p_v.fText.size ≤ 9223372036854775807) fun h1956 =>
 .say [] (ok1 h1956) <|
 .ret ⟨[.kill 0], [3], [], 2⟩ ((strOfNums [IntKind.wrap .u8 p_v.fKind]) ++ p_v.fText)) fun c1955 =>
 .say [.br false] (ok1 c1955) <|
 .ite (p_v.fKind == 6) (fun c1957 =>
 .say [.br true, .num p_v.fList.length] (okc c1957 (okc (by simp : p_v.fList.length = (p_v.fList.map GValue.lf).length) ok0)) <|
 .ask (Q31 (p_v.fList.length : Int)) fun r1958 h1959 =>
 .say [.res (.lf (.str r1958))] (ok1 (Q31_ok _ _ h1959)) <|
 .grd ((strOfNums [IntKind.wrap .u8 p_v.fKind]).size + r1958.size ≤ 9223372036854775807) fun h1960 =>
 .say [] (ok1 h1960) <|
 .ask (Q21_L10 R_ p_v ((strOfNums [IntKind.wrap .u8 p_v.fKind]) ++ r1958) 0) fun r1977 h1978 =>
 .say [.pt_ 0 [1, 3, 4] 2 (.exit 1) (Q21_L10_S r1977)] (ok1 (Q21_L10_W h1978)) <|
 .ret ⟨[], [3], [], 2⟩ (r1977)) fun c1957 =>
 .say [.br false] (ok1 c1957) <|
 .ite (p_v.fKind == 5) (fun c1979 =>
 .say [.br true, .num p_v.fDoc.length] (okc c1979 (okc (by simp : p_v.fDoc.length = (p_v.fDoc.map GField.lf).length) ok0)) <|
 .ask (Q31 (p_v.fDoc.length : Int)) fun r1980 h1981 =>
 .say [.res (.lf (.str r1980))] (ok1 (Q31_ok _ _ h1981)) <|
 .grd ((strOfNums [IntKind.wrap .u8 p_v.fKind]).size + r1980.size ≤ 9223372036854775807) fun h1982 =>
 .say [] (ok1 h1982) <|
 .ask (Q21_L16 R_ p_v ((strOfNums [IntKind.wrap .u8 p_v.fKind]) ++ r1980) 0) fun r2015 h2016 =>
 .say [.pt_ 0 [1, 3, 5] 2 (.exit 3) (Q21_L16_S r2015)] (ok1 (Q21_L16_W h2016)) <|
 .ret ⟨[], [3], [], 2⟩ (r2015)) fun c1979 =>
 .say [.br false] (ok1 c1979) <|
 .ret ⟨[.kill 0], [3], [], 2⟩ (strOfNums [IntKind.wrap .u8 p_v.fKind])
def Q21_J22 (R_ : RB6) (p_v : GValue) : Option (ByteArray) := Mo.den (Q21_J22_T R_ p_v)
def Q21_J22_S  (r_ : ByteArray) : St := ⟨[(3, .lf (.str r_))], [.dead, .dead]⟩
theorem Q21_J22_W {R_ : RB6} {p_v : GValue} {r_ : ByteArray} (h : Q21_J22 R_ p_v = some r_) : AWa_ Tryz.f107 0 [1, 1, 0, 1] (.normal) (Q21_J22_S r_) ⟨[(1, .ptr 0 0), (3, .lf (.str (strOfNums [IntKind.wrap .u8 p_v.fKind]))), (12, .lf (.int .i64 p_v.fKind))], [.box 29 (.dat (GValue.lf1 p_v)), .dead]⟩ :=
 part_T BaseK (Q21_J22_T R_ p_v) (fun _ => .normal) Q21_J22_S (by kernel_rfl) h
def Q21_T (R_ : RB6) (p_v : GValue) : Mo (ByteArray) :=
 .say [.nums [IntKind.wrap .u8 p_v.fKind]] (okc (by simp [lfI, lfK] : [(lfK .u8 (IntKind.wrap .u8 p_v.fKind))] = [IntKind.wrap .u8 p_v.fKind].map fun n => [Lf.int .u8 n]) ok0) <|
 .ask (Q21_J22 R_ p_v) fun r2023 h2024 =>
 .say [.part [.kill 1] 6 [1, 3, 12] 2 (.normal) (Q21_J22_S r2023).T (Q21_J22_S r2023).H] (ok1 (Q21_J22_W h2024)) <|
 .ret (fitN 1) (r2023)
theorem Q21_okT (R_ : RB6) (p_v : GValue) (r : ByteArray) (h : Mo.den (Q21_T R_ p_v) = some r) : Fn Tryz.prog GI 107 [.dat (GValue.lf1 p_v)] (.lf (.str r)) :=
 fn_T BaseK Tryz.func107 (by kernel_rfl) (by kernel_rfl) (by kernel_rfl) (Q21_T R_ p_v) (fun r => [.lf (.str r)]) (by kernel_rfl) h
def RB6_F : Nat → RB6
 | 0 => { m1 := fun p_v => none, ok1 := fun _ _ h => (by cases h) }
 | n_ + 1 => { m1 := fun p_v => Mo.den (Q21_T (RB6_F n_) p_v), ok1 := fun p_v r h => Q21_okT (RB6_F n_) p_v r h }
def Q21 (p_v : GValue) : Option (ByteArray) := (RB6_F FU).m1 p_v
theorem Q21_ok (p_v : GValue) (r : ByteArray) (h : Q21 p_v = some r) : Fn Tryz.prog GI 107 [.dat (GValue.lf1 p_v)] (.lf (.str r)) := (RB6_F FU).ok1 p_v r h
def Q80_T (p_v : GValue) : Mo (ByteArray × Int) :=
 .ask (Q71 p_v) fun r1805 h1806 =>
 .say [.res (.lf (.bool r1805))] (ok1 (Q71_ok _ _ h1806)) <|
 .ite (!r1805) (fun c1808 =>
 .say [.br true] (ok1 c1808) <|
 .ret (fitN 2) (⟨#[]⟩, 8)) fun c1808 =>
 .say [.br false] (ok1 c1808) <|
 .ask (Q21 p_v) fun r2025 h2026 =>
 .say [.res (.lf (.str r2025))] (ok1 (Q21_ok _ _ h2026)) <|
 .ret (fitN 2) (r2025, 0)
def Q80 (p_v : GValue) : Option (ByteArray × Int) := Mo.den (Q80_T p_v)
theorem Q80_ok (p_v : GValue) (r : ByteArray × Int) (h : Q80 p_v = some r) : Fn Tryz.prog GI 82 [.dat (GValue.lf1 p_v)] (.tup [.lf (.str r.1), .lf (.int .i64 r.2)]) :=
 fn_T BaseK Tryz.func82 (by kernel_rfl) (by kernel_rfl) (by kernel_rfl) (Q80_T p_v) (fun r => [.lf (.str r.1), .lf (.int .i64 r.2)]) (by kernel_rfl) h
structure RB2 where
 m1 : (p_v : GValue) → (p_b0 : GRef40Out) → Option (GRef40Out)
 ok1 : ∀ (p_v : GValue) (p_b0 : GRef40Out) (r : GRef40Out), m1 p_v p_b0 = some r → FnH Tryz.prog GI 100 [.ptr 0 0, .dat (GValue.lf1 p_v)] [.box 105 (.dat (GRef40Out.lf1 p_b0))] (.tup []) [.box 105 (.dat (GRef40Out.lf1 r))]
 m2 : (p_l : List GValue) → (p_b0 : GRef40Out) → Option (GRef40Out)
 ok2 : ∀ (p_l : List GValue) (p_b0 : GRef40Out) (r : GRef40Out), m2 p_l p_b0 = some r → FnH Tryz.prog GI 101 [.ptr 0 0, .lf (.rows 5 (p_l.map GValue.lf))] [.box 105 (.dat (GRef40Out.lf1 p_b0))] (.tup []) [.box 105 (.dat (GRef40Out.lf1 r))]
def Q35_L0_T (R_ : RB2) (p_v : GValue) : (Int × GRef40Out) → Mo ((Int × GRef40Out) ⊕ (GRef40Out)) := fun (v631, s632) =>
 .say [.num p_v.fDoc.length] (okc (by simp : p_v.fDoc.length = (p_v.fDoc.map GField.lf).length) ok0) <|
 .ite (decide ((v631 : Int) < (p_v.fDoc.length : Int))) (fun c633 =>
 .say [.br true] (ok1 c633) <|
 .ask (gidx p_v.fDoc v631) fun x634 h635 =>
 .say [.row (GField.lf1 x634)] (okc (gidx_ok GField.lf_eq h635 : (0 : Int) ≤ v631 ∧ (p_v.fDoc.map GField.lf)[v631.toNat]? = some (GField.lf1 x634)) ok0) <|
 .ask (Q70 x634.fName s632) fun r636 h637 =>
 .say [.resH [0] (.tup []) [.box 105 (.dat (GRef40Out.lf1 r636))]] (ok1 (Q70_ok _ _ _ h637)) <|
 .ask (gidx p_v.fDoc v631) fun x638 h639 =>
 .say [.row (GField.lf1 x638)] (okc (gidx_ok GField.lf_eq h639 : (0 : Int) ≤ v631 ∧ (p_v.fDoc.map GField.lf)[v631.toNat]? = some (GField.lf1 x638)) ok0) <|
 .ask (R_.m1 x638.fValue r636) fun r640 h641 =>
 .say [.resH [0] (.tup []) [.box 105 (.dat (GRef40Out.lf1 r640))]] (ok1 (R_.ok1 _ _ _ h641)) <|
 .ret ⟨[], [0, 3, 4], [], 2⟩ (.inl (IntKind.wrap .i64 (v631 + 1), r640))) fun c633 =>
 .say [.br false] (ok1 c633) <|
 .ret ⟨[.kill 1], [], [], 2⟩ (.inr (s632))
def Q35_L0 (R_ : RB2) (p_v : GValue) (v631 : Int) (s632 : GRef40Out) : Option (GRef40Out) := loopM (fun v_ => (Q35_L0_T R_ p_v v_).den) FU (v631, s632)
def Q35_L0_H (R_ : RB2) (p_v : GValue) : (Int × GRef40Out) → St := fun (v631, s632) => ⟨[(0, .ptr 0 0), (3, .ptr 1 0), (4, .lf (.int .i64 v631))], [.box 105 (.dat (GRef40Out.lf1 s632)), .box 29 (.dat (GValue.lf1 p_v))]⟩
def Q35_L0_S  (r_ : GRef40Out) : St := ⟨[], [.box 105 (.dat (GRef40Out.lf1 r_)), .dead]⟩
theorem Q35_L0_W {R_ : RB2} {p_v : GValue} {v631 : Int} {s632 : GRef40Out} {r_ : GRef40Out} (h : Q35_L0 R_ p_v v631 s632 = some r_) : AWa_ Tryz.f100 1 [1, 0, 1, 0, 1, 1, 1, 1, 1, 0, 1, 0] (.exit 0) (Q35_L0_S r_) (Q35_L0_H R_ p_v (v631, s632)) :=
 loop_T BaseK (body := (Code.sub (bodyC Tryz.f100) [1, 0, 1, 0, 1, 1, 1, 1, 1, 0, 1, 0, 0])) (by kernel_rfl) (Q35_L0_T R_ p_v) (Q35_L0_H R_ p_v) (fun _ => .exit 0) Q35_L0_S (fun r_ => rfl) (fun v_ => by kernel_rfl) h
def Q35_J6_T (R_ : RB2) (p_b0 : GRef40Out) (r2029 : ByteArray × Int) : Mo (GRef40Out) :=
 .ite (p_b0.fBad) (fun c2032 =>
 .say [.gd 32005 true] (ok1 c2032) <|
 .ret ⟨[], [0, 5], [], 2⟩ (GRef40Out.mk p_b0.fS true p_b0.fRaw)) fun c2032 =>
 .say [.gd 32005 false] (ok1 c2032) <|
 .ret ⟨[], [0, 5], [], 2⟩ (GRef40Out.mk p_b0.fS (r2029.2 != 0) p_b0.fRaw)
def Q35_J6 (R_ : RB2) (p_b0 : GRef40Out) (r2029 : ByteArray × Int) : Option (GRef40Out) := Mo.den (Q35_J6_T R_ p_b0 r2029)
def Q35_J6_S (r2029 : ByteArray × Int) (r_ : GRef40Out) : St := ⟨[(0, .ptr 0 0), (5, .lf (.str r2029.1))], [.box 105 (.dat (GRef40Out.lf1 r_)), .dead]⟩
theorem Q35_J6_W {R_ : RB2} {p_b0 : GRef40Out} {r2029 : ByteArray × Int} {r_ : GRef40Out} (h : Q35_J6 R_ p_b0 r2029 = some r_) : AWa_ Tryz.f100 1 [1, 1, 1, 1, 0] (.normal) (Q35_J6_S r2029 r_) ⟨[(0, .ptr 0 0), (5, .lf (.str r2029.1)), (6, .lf (.int .i64 r2029.2))], [.box 105 (.dat (GRef40Out.lf1 p_b0)), .dead]⟩ :=
 part_T BaseK (Q35_J6_T R_ p_b0 r2029) (fun _ => .normal) (Q35_J6_S r2029) (by kernel_rfl) h
def Q35_T (R_ : RB2) (p_v : GValue) (p_b0 : GRef40Out) : Mo (GRef40Out) :=
 .ite (p_b0.fRaw) (fun c587 =>
 .say [.br true] (ok1 c587) <|
 .ask (Q29 p_v.fKind p_b0) fun r588 h589 =>
 .say [.resH [0] (.tup []) [.box 105 (.dat (GRef40Out.lf1 r588))]] (ok1 (Q29_ok _ _ _ h589)) <|
 .ask (Q29 p_v.fInt r588) fun r590 h591 =>
 .say [.resH [0] (.tup []) [.box 105 (.dat (GRef40Out.lf1 r590))]] (ok1 (Q29_ok _ _ _ h591)) <|
 .ask (Q70 p_v.fText r590) fun r592 h593 =>
 .say [.resH [0] (.tup []) [.box 105 (.dat (GRef40Out.lf1 r592))]] (ok1 (Q70_ok _ _ _ h593)) <|
 .ask (R_.m2 p_v.fList r592) fun r594 h595 =>
 .say [.resH [0] (.tup []) [.box 105 (.dat (GRef40Out.lf1 r594))], .num p_v.fDoc.length] (okc (R_.ok2 _ _ _ h595) (okc (by simp : p_v.fDoc.length = (p_v.fDoc.map GField.lf).length) ok0)) <|
 .ask (Q29 (p_v.fDoc.length : Int) r594) fun r596 h597 =>
 .say [.resH [0] (.tup []) [.box 105 (.dat (GRef40Out.lf1 r596))]] (ok1 (Q29_ok _ _ _ h597)) <|
 .ask (Q35_L0 R_ p_v 0 r596) fun r644 h645 =>
 .say [.pt_ 0 [0, 3, 4] 2 (.exit 0) (Q35_L0_S r644)] (ok1 (Q35_L0_W h645)) <|
 .ret ⟨[], [], [], 1⟩ (r644)) fun c587 =>
 .say [.br false] (ok1 c587) <|
 .ask (Q17 p_v) fun r648 h649 =>
 .say [.res (.lf (.bool r648))] (ok1 (Q17_ok _ _ h649)) <|
 .ite (r648) (fun c652 =>
 .say [.br true] (ok1 c652) <|
 .grd (p_b0.fS.size + (⟨#[0]⟩ : ByteArray).size ≤ 9223372036854775807) fun h654 =>
 .say [] (ok1 h654) <|
 .ret ⟨[.kill 1], [], [], 1⟩ (GRef40Out.mk (p_b0.fS ++ ⟨#[0]⟩) p_b0.fBad p_b0.fRaw)) fun c652 =>
 .say [.br false] (ok1 c652) <|
 .ask (Q80 p_v) fun r2029 h2030 =>
 .say [.res (.tup [.lf (.str r2029.1), .lf (.int .i64 r2029.2)])] (ok1 (Q80_ok _ _ h2030)) <|
 .ask (Q35_J6 R_ p_b0 r2029) fun r2034 h2035 =>
 .say [.part [.kill 1] 37 [0, 5, 6] 2 (.normal) (Q35_J6_S r2029 r2034).T (Q35_J6_S r2029 r2034).H] (ok1 (Q35_J6_W h2035)) <|
 .grd ((⟨#[1]⟩ : ByteArray).size + r2029.1.size ≤ 9223372036854775807) fun h2036 =>
 .say [] (ok1 h2036) <|
 .grd (r2034.fS.size + ((⟨#[1]⟩ : ByteArray) ++ r2029.1).size ≤ 9223372036854775807) fun h2037 =>
 .say [] (ok1 h2037) <|
 .ret ⟨[], [], [], 1⟩ (GRef40Out.mk (r2034.fS ++ ((⟨#[1]⟩ : ByteArray) ++ r2029.1)) r2034.fBad r2034.fRaw)
theorem Q35_okT (R_ : RB2) (p_v : GValue) (p_b0 : GRef40Out) (r : GRef40Out) (h : Mo.den (Q35_T R_ p_v p_b0) = some r) : FnH Tryz.prog GI 100 [.ptr 0 0, .dat (GValue.lf1 p_v)] [.box 105 (.dat (GRef40Out.lf1 p_b0))] (.tup []) [.box 105 (.dat (GRef40Out.lf1 r))] :=
 fn_TH BaseK Tryz.func100 (by kernel_rfl) (by kernel_rfl) (by kernel_rfl) (Q35_T R_ p_v p_b0) (fun r => []) (fun r => [.box 105 (.dat (GRef40Out.lf1 r))]) (by kernel_rfl) h
def Q52_L0_T (R_ : RB2) (p_l : List GValue) : (Int × GRef40Out) → Mo ((Int × GRef40Out) ⊕ (GRef40Out)) := fun (v2056, s2057) =>
 .say [.num p_l.length] (okc (by simp : p_l.length = (p_l.map GValue.lf).length) ok0) <|
 .ite (decide ((v2056 : Int) < (p_l.length : Int))) (fun c2058 =>
 .say [.br true] (ok1 c2058) <|
 .ask (gidx p_l v2056) fun x2059 h2060 =>
 .say [.row (GValue.lf1 x2059)] (okc (gidx_ok GValue.lf_eq h2060 : (0 : Int) ≤ v2056 ∧ (p_l.map GValue.lf)[v2056.toNat]? = some (GValue.lf1 x2059)) ok0) <|
 .ask (R_.m1 x2059 s2057) fun r2061 h2062 =>
 .say [.resH [0] (.tup []) [.box 105 (.dat (GRef40Out.lf1 r2061))]] (ok1 (R_.ok1 _ _ _ h2062)) <|
 .ret ⟨[], [0, 1, 4], [], 1⟩ (.inl (IntKind.wrap .i64 (v2056 + 1), r2061))) fun c2058 =>
 .say [.br false] (ok1 c2058) <|
 .ret ⟨[], [], [], 1⟩ (.inr (s2057))
def Q52_L0 (R_ : RB2) (p_l : List GValue) (v2056 : Int) (s2057 : GRef40Out) : Option (GRef40Out) := loopM (fun v_ => (Q52_L0_T R_ p_l v_).den) FU (v2056, s2057)
def Q52_L0_H (R_ : RB2) (p_l : List GValue) : (Int × GRef40Out) → St := fun (v2056, s2057) => ⟨[(0, .ptr 0 0), (1, .lf (.rows 5 (p_l.map GValue.lf))), (4, .lf (.int .i64 v2056))], [.box 105 (.dat (GRef40Out.lf1 s2057))]⟩
def Q52_L0_S  (r_ : GRef40Out) : St := ⟨[], [.box 105 (.dat (GRef40Out.lf1 r_))]⟩
theorem Q52_L0_W {R_ : RB2} {p_l : List GValue} {v2056 : Int} {s2057 : GRef40Out} {r_ : GRef40Out} (h : Q52_L0 R_ p_l v2056 s2057 = some r_) : AWa_ Tryz.f101 1 [1, 1, 0] (.exit 0) (Q52_L0_S r_) (Q52_L0_H R_ p_l (v2056, s2057)) :=
 loop_T BaseK (body := (Code.sub (bodyC Tryz.f101) [1, 1, 0, 0])) (by kernel_rfl) (Q52_L0_T R_ p_l) (Q52_L0_H R_ p_l) (fun _ => .exit 0) Q52_L0_S (fun r_ => rfl) (fun v_ => by kernel_rfl) h
def Q52_T (R_ : RB2) (p_l : List GValue) (p_b0 : GRef40Out) : Mo (GRef40Out) :=
 .say [.num p_l.length] (okc (by simp : p_l.length = (p_l.map GValue.lf).length) ok0) <|
 .ask (Q29 (p_l.length : Int) p_b0) fun r2040 h2041 =>
 .say [.resH [0] (.tup []) [.box 105 (.dat (GRef40Out.lf1 r2040))]] (ok1 (Q29_ok _ _ _ h2041)) <|
 .ask (Q52_L0 R_ p_l 0 r2040) fun r2064 h2065 =>
 .say [.pt_ 0 [0, 1, 4] 1 (.exit 0) (Q52_L0_S r2064)] (ok1 (Q52_L0_W h2065)) <|
 .ret ⟨[], [], [], 1⟩ (r2064)
theorem Q52_okT (R_ : RB2) (p_l : List GValue) (p_b0 : GRef40Out) (r : GRef40Out) (h : Mo.den (Q52_T R_ p_l p_b0) = some r) : FnH Tryz.prog GI 101 [.ptr 0 0, .lf (.rows 5 (p_l.map GValue.lf))] [.box 105 (.dat (GRef40Out.lf1 p_b0))] (.tup []) [.box 105 (.dat (GRef40Out.lf1 r))] :=
 fn_TH BaseK Tryz.func101 (by kernel_rfl) (by kernel_rfl) (by kernel_rfl) (Q52_T R_ p_l p_b0) (fun r => []) (fun r => [.box 105 (.dat (GRef40Out.lf1 r))]) (by kernel_rfl) h
def RB2_F : Nat → RB2
 | 0 => { m1 := fun p_v p_b0 => none, ok1 := fun _ _ _ h => (by cases h), m2 := fun p_l p_b0 => none, ok2 := fun _ _ _ h => (by cases h) }
 | n_ + 1 => { m1 := fun p_v p_b0 => Mo.den (Q35_T (RB2_F n_) p_v p_b0), ok1 := fun p_v p_b0 r h => Q35_okT (RB2_F n_) p_v p_b0 r h, m2 := fun p_l p_b0 => Mo.den (Q52_T (RB2_F n_) p_l p_b0), ok2 := fun p_l p_b0 r h => Q52_okT (RB2_F n_) p_l p_b0 r h }
def Q35 (p_v : GValue) (p_b0 : GRef40Out) : Option (GRef40Out) := (RB2_F FU).m1 p_v p_b0
theorem Q35_ok (p_v : GValue) (p_b0 : GRef40Out) (r : GRef40Out) (h : Q35 p_v p_b0 = some r) : FnH Tryz.prog GI 100 [.ptr 0 0, .dat (GValue.lf1 p_v)] [.box 105 (.dat (GRef40Out.lf1 p_b0))] (.tup []) [.box 105 (.dat (GRef40Out.lf1 r))] := (RB2_F FU).ok1 p_v p_b0 r h
def Q52 (p_l : List GValue) (p_b0 : GRef40Out) : Option (GRef40Out) := (RB2_F FU).m2 p_l p_b0
theorem Q52_ok (p_l : List GValue) (p_b0 : GRef40Out) (r : GRef40Out) (h : Q52 p_l p_b0 = some r) : FnH Tryz.prog GI 101 [.ptr 0 0, .lf (.rows 5 (p_l.map GValue.lf))] [.box 105 (.dat (GRef40Out.lf1 p_b0))] (.tup []) [.box 105 (.dat (GRef40Out.lf1 r))] := (RB2_F FU).ok2 p_l p_b0 r h
def Q59_L0_T (p_s : GShape) : (Int × GRef40Out) → Mo ((Int × GRef40Out) ⊕ (GRef40Out)) := fun (v2139, s2140) =>
 .say [.num p_s.fPoints.length] (okc (by simp : p_s.fPoints.length = (p_s.fPoints.map GPoint.lf).length) ok0) <|
 .ite (decide ((v2139 : Int) < (p_s.fPoints.length : Int))) (fun c2141 =>
 .say [.br true] (ok1 c2141) <|
 .ask (gidx p_s.fPoints v2139) fun x2142 h2143 =>
 .say [.row (GPoint.lf1 x2142)] (okc (gidx_ok GPoint.lf_eq h2143 : (0 : Int) ≤ v2139 ∧ (p_s.fPoints.map GPoint.lf)[v2139.toNat]? = some (GPoint.lf1 x2142)) ok0) <|
 .ask (Q29 x2142.fX s2140) fun r2144 h2145 =>
 .say [.resH [0] (.tup []) [.box 105 (.dat (GRef40Out.lf1 r2144))]] (ok1 (Q29_ok _ _ _ h2145)) <|
 .ask (gidx p_s.fPoints v2139) fun x2146 h2147 =>
 .say [.row (GPoint.lf1 x2146)] (okc (gidx_ok GPoint.lf_eq h2147 : (0 : Int) ≤ v2139 ∧ (p_s.fPoints.map GPoint.lf)[v2139.toNat]? = some (GPoint.lf1 x2146)) ok0) <|
 .ask (Q29 x2146.fY r2144) fun r2148 h2149 =>
 .say [.resH [0] (.tup []) [.box 105 (.dat (GRef40Out.lf1 r2148))]] (ok1 (Q29_ok _ _ _ h2149)) <|
 .ret ⟨[], [0, 3, 4], [], 2⟩ (.inl (IntKind.wrap .i64 (v2139 + 1), r2148))) fun c2141 =>
 .say [.br false] (ok1 c2141) <|
 .ret ⟨[], [0, 3], [], 2⟩ (.inr (s2140))
def Q59_L0 (p_s : GShape) (v2139 : Int) (s2140 : GRef40Out) : Option (GRef40Out) := loopM (fun v_ => (Q59_L0_T p_s v_).den) FU (v2139, s2140)
def Q59_L0_H (p_s : GShape) : (Int × GRef40Out) → St := fun (v2139, s2140) => ⟨[(0, .ptr 0 0), (3, .ptr 1 0), (4, .lf (.int .i64 v2139))], [.box 105 (.dat (GRef40Out.lf1 s2140)), .box 41 (.dat (GShape.lf1 p_s))]⟩
def Q59_L0_S (p_s : GShape) (r_ : GRef40Out) : St := ⟨[(0, .ptr 0 0), (3, .ptr 1 0)], [.box 105 (.dat (GRef40Out.lf1 r_)), .box 41 (.dat (GShape.lf1 p_s))]⟩
theorem Q59_L0_W {p_s : GShape} {v2139 : Int} {s2140 : GRef40Out} {r_ : GRef40Out} (h : Q59_L0 p_s v2139 s2140 = some r_) : AWa_ Tryz.f102 1 [1, 1, 1, 0, 1, 0] (.exit 0) (Q59_L0_S p_s r_) (Q59_L0_H p_s (v2139, s2140)) :=
 loop_T BaseK (body := (Code.sub (bodyC Tryz.f102) [1, 1, 1, 0, 1, 0, 0])) (by kernel_rfl) (Q59_L0_T p_s) (Q59_L0_H p_s) (fun _ => .exit 0) (Q59_L0_S p_s) (fun r_ => rfl) (fun v_ => by kernel_rfl) h
def Q59_T (p_s : GShape) (p_b0 : GRef40Out) : Mo (GRef40Out) :=
 .ask (Q29 p_s.fKind p_b0) fun r2084 h2085 =>
 .say [.resH [0] (.tup []) [.box 105 (.dat (GRef40Out.lf1 r2084))], .num p_s.fPoints.length] (okc (Q29_ok _ _ _ h2085) (okc (by simp : p_s.fPoints.length = (p_s.fPoints.map GPoint.lf).length) ok0)) <|
 .ask (Q29 (p_s.fPoints.length : Int) r2084) fun r2088 h2089 =>
 .say [.resH [0] (.tup []) [.box 105 (.dat (GRef40Out.lf1 r2088))]] (ok1 (Q29_ok _ _ _ h2089)) <|
 .ask (Q59_L0 p_s 0 r2088) fun r2151 h2152 =>
 .say [.pt_ 0 [0, 3, 4] 2 (.exit 0) (Q59_L0_S p_s r2151)] (ok1 (Q59_L0_W h2152)) <|
 .ask (Q29 p_s.fR r2151) fun r2153 h2154 =>
 .say [.resH [0] (.tup []) [.box 105 (.dat (GRef40Out.lf1 r2153))]] (ok1 (Q29_ok _ _ _ h2154)) <|
 .ret ⟨[.kill 1], [], [], 1⟩ (r2153)
def Q59 (p_s : GShape) (p_b0 : GRef40Out) : Option (GRef40Out) := Mo.den (Q59_T p_s p_b0)
theorem Q59_ok (p_s : GShape) (p_b0 : GRef40Out) (r : GRef40Out) (h : Q59 p_s p_b0 = some r) : FnH Tryz.prog GI 102 [.ptr 0 0, .dat (GShape.lf1 p_s)] [.box 105 (.dat (GRef40Out.lf1 p_b0))] (.tup []) [.box 105 (.dat (GRef40Out.lf1 r))] :=
 fn_TH BaseK Tryz.func102 (by kernel_rfl) (by kernel_rfl) (by kernel_rfl) (Q59_T p_s p_b0) (fun r => []) (fun r => [.box 105 (.dat (GRef40Out.lf1 r))]) (by kernel_rfl) h
structure RB7 where
 m1 : (p_e : GExpr) → (p_b0 : GRef40Out) → Option (GRef40Out)
 ok1 : ∀ (p_e : GExpr) (p_b0 : GRef40Out) (r : GRef40Out), m1 p_e p_b0 = some r → FnH Tryz.prog GI 103 [.ptr 0 0, .dat (GExpr.lf1 p_e)] [.box 105 (.dat (GRef40Out.lf1 p_b0))] (.tup []) [.box 105 (.dat (GRef40Out.lf1 r))]
def Q57_L0_T (R_ : RB7) (p_e : GExpr) : (Int × GRef40Out) → Mo ((Int × GRef40Out) ⊕ (GRef40Out)) := fun (v2201, s2202) =>
 .say [.num p_e.fKids.length] (okc (by simp : p_e.fKids.length = (p_e.fKids.map GExpr.lf).length) ok0) <|
 .ite (decide ((v2201 : Int) < (p_e.fKids.length : Int))) (fun c2203 =>
 .say [.br true] (ok1 c2203) <|
 .ask (gidx p_e.fKids v2201) fun x2204 h2205 =>
 .say [.row (GExpr.lf1 x2204)] (okc (gidx_ok GExpr.lf_eq h2205 : (0 : Int) ≤ v2201 ∧ (p_e.fKids.map GExpr.lf)[v2201.toNat]? = some (GExpr.lf1 x2204)) ok0) <|
 .ask (R_.m1 x2204 s2202) fun r2206 h2207 =>
 .say [.resH [0] (.tup []) [.box 105 (.dat (GRef40Out.lf1 r2206))]] (ok1 (R_.ok1 _ _ _ h2207)) <|
 .ret ⟨[], [0, 3, 4], [], 2⟩ (.inl (IntKind.wrap .i64 (v2201 + 1), r2206))) fun c2203 =>
 .say [.br false] (ok1 c2203) <|
 .ret ⟨[.kill 1], [], [], 2⟩ (.inr (s2202))
def Q57_L0 (R_ : RB7) (p_e : GExpr) (v2201 : Int) (s2202 : GRef40Out) : Option (GRef40Out) := loopM (fun v_ => (Q57_L0_T R_ p_e v_).den) FU (v2201, s2202)
def Q57_L0_H (R_ : RB7) (p_e : GExpr) : (Int × GRef40Out) → St := fun (v2201, s2202) => ⟨[(0, .ptr 0 0), (3, .ptr 1 0), (4, .lf (.int .i64 v2201))], [.box 105 (.dat (GRef40Out.lf1 s2202)), .box 44 (.dat (GExpr.lf1 p_e))]⟩
def Q57_L0_S  (r_ : GRef40Out) : St := ⟨[], [.box 105 (.dat (GRef40Out.lf1 r_)), .dead]⟩
theorem Q57_L0_W {R_ : RB7} {p_e : GExpr} {v2201 : Int} {s2202 : GRef40Out} {r_ : GRef40Out} (h : Q57_L0 R_ p_e v2201 s2202 = some r_) : AWa_ Tryz.f103 1 [1, 1, 1, 1, 1, 1, 1, 1, 1, 0] (.exit 0) (Q57_L0_S r_) (Q57_L0_H R_ p_e (v2201, s2202)) :=
 loop_T BaseK (body := (Code.sub (bodyC Tryz.f103) [1, 1, 1, 1, 1, 1, 1, 1, 1, 0, 0])) (by kernel_rfl) (Q57_L0_T R_ p_e) (Q57_L0_H R_ p_e) (fun _ => .exit 0) Q57_L0_S (fun r_ => rfl) (fun v_ => by kernel_rfl) h
def Q57_T (R_ : RB7) (p_e : GExpr) (p_b0 : GRef40Out) : Mo (GRef40Out) :=
 .ask (Q29 p_e.fOp p_b0) fun r2161 h2162 =>
 .say [.resH [0] (.tup []) [.box 105 (.dat (GRef40Out.lf1 r2161))]] (ok1 (Q29_ok _ _ _ h2162)) <|
 .ask (Q50 p_e.fPath r2161) fun r2165 h2166 =>
 .say [.resH [0] (.tup []) [.box 105 (.dat (GRef40Out.lf1 r2165))]] (ok1 (Q50_ok _ _ _ h2166)) <|
 .ask (Q70 p_e.fName r2165) fun r2169 h2170 =>
 .say [.resH [0] (.tup []) [.box 105 (.dat (GRef40Out.lf1 r2169))]] (ok1 (Q70_ok _ _ _ h2170)) <|
 .ask (Q50 p_e.fNames r2169) fun r2173 h2174 =>
 .say [.resH [0] (.tup []) [.box 105 (.dat (GRef40Out.lf1 r2173))]] (ok1 (Q50_ok _ _ _ h2174)) <|
 .ask (Q35 p_e.fArg r2173) fun r2177 h2178 =>
 .say [.resH [0] (.tup []) [.box 105 (.dat (GRef40Out.lf1 r2177))]] (ok1 (Q35_ok _ _ _ h2178)) <|
 .ask (Q29 p_e.fN r2177) fun r2181 h2182 =>
 .say [.resH [0] (.tup []) [.box 105 (.dat (GRef40Out.lf1 r2181))], .num p_e.fKids.length] (okc (Q29_ok _ _ _ h2182) (okc (by simp : p_e.fKids.length = (p_e.fKids.map GExpr.lf).length) ok0)) <|
 .ask (Q29 (p_e.fKids.length : Int) r2181) fun r2185 h2186 =>
 .say [.resH [0] (.tup []) [.box 105 (.dat (GRef40Out.lf1 r2185))]] (ok1 (Q29_ok _ _ _ h2186)) <|
 .ask (Q57_L0 R_ p_e 0 r2185) fun r2210 h2211 =>
 .say [.pt_ 0 [0, 3, 4] 2 (.exit 0) (Q57_L0_S r2210)] (ok1 (Q57_L0_W h2211)) <|
 .ret ⟨[], [], [], 1⟩ (r2210)
theorem Q57_okT (R_ : RB7) (p_e : GExpr) (p_b0 : GRef40Out) (r : GRef40Out) (h : Mo.den (Q57_T R_ p_e p_b0) = some r) : FnH Tryz.prog GI 103 [.ptr 0 0, .dat (GExpr.lf1 p_e)] [.box 105 (.dat (GRef40Out.lf1 p_b0))] (.tup []) [.box 105 (.dat (GRef40Out.lf1 r))] :=
 fn_TH BaseK Tryz.func103 (by kernel_rfl) (by kernel_rfl) (by kernel_rfl) (Q57_T R_ p_e p_b0) (fun r => []) (fun r => [.box 105 (.dat (GRef40Out.lf1 r))]) (by kernel_rfl) h
def RB7_F : Nat → RB7
 | 0 => { m1 := fun p_e p_b0 => none, ok1 := fun _ _ _ h => (by cases h) }
 | n_ + 1 => { m1 := fun p_e p_b0 => Mo.den (Q57_T (RB7_F n_) p_e p_b0), ok1 := fun p_e p_b0 r h => Q57_okT (RB7_F n_) p_e p_b0 r h }
def Q57 (p_e : GExpr) (p_b0 : GRef40Out) : Option (GRef40Out) := (RB7_F FU).m1 p_e p_b0
theorem Q57_ok (p_e : GExpr) (p_b0 : GRef40Out) (r : GRef40Out) (h : Q57 p_e p_b0 = some r) : FnH Tryz.prog GI 103 [.ptr 0 0, .dat (GExpr.lf1 p_e)] [.box 105 (.dat (GRef40Out.lf1 p_b0))] (.tup []) [.box 105 (.dat (GRef40Out.lf1 r))] := (RB7_F FU).ok1 p_e p_b0 r h
structure RB1 where
 m1 : (p_p : GPred) → (p_b0 : GRef40Out) → Option (GRef40Out)
 ok1 : ∀ (p_p : GPred) (p_b0 : GRef40Out) (r : GRef40Out), m1 p_p p_b0 = some r → FnH Tryz.prog GI 77 [.ptr 0 0, .dat (GPred.lf1 p_p)] [.box 105 (.dat (GRef40Out.lf1 p_b0))] (.tup []) [.box 105 (.dat (GRef40Out.lf1 r))]
def Q58_L0_T (R_ : RB1) (p_p : GPred) : (Int × GRef40Out) → Mo ((Int × GRef40Out) ⊕ (GRef40Out)) := fun (v2234, s2235) =>
 .say [.num p_p.fKids.length] (okc (by simp : p_p.fKids.length = (p_p.fKids.map GPred.lf).length) ok0) <|
 .ite (decide ((v2234 : Int) < (p_p.fKids.length : Int))) (fun c2236 =>
 .say [.br true] (ok1 c2236) <|
 .ask (gidx p_p.fKids v2234) fun x2237 h2238 =>
 .say [.row (GPred.lf1 x2237)] (okc (gidx_ok GPred.lf_eq h2238 : (0 : Int) ≤ v2234 ∧ (p_p.fKids.map GPred.lf)[v2234.toNat]? = some (GPred.lf1 x2237)) ok0) <|
 .ask (R_.m1 x2237 s2235) fun r2239 h2240 =>
 .say [.resH [0] (.tup []) [.box 105 (.dat (GRef40Out.lf1 r2239))]] (ok1 (R_.ok1 _ _ _ h2240)) <|
 .ret ⟨[], [0, 3, 4], [], 2⟩ (.inl (IntKind.wrap .i64 (v2234 + 1), r2239))) fun c2236 =>
 .say [.br false] (ok1 c2236) <|
 .ret ⟨[.kill 1], [], [], 2⟩ (.inr (s2235))
def Q58_L0 (R_ : RB1) (p_p : GPred) (v2234 : Int) (s2235 : GRef40Out) : Option (GRef40Out) := loopM (fun v_ => (Q58_L0_T R_ p_p v_).den) FU (v2234, s2235)
def Q58_L0_H (R_ : RB1) (p_p : GPred) : (Int × GRef40Out) → St := fun (v2234, s2235) => ⟨[(0, .ptr 0 0), (3, .ptr 1 0), (4, .lf (.int .i64 v2234))], [.box 105 (.dat (GRef40Out.lf1 s2235)), .box 47 (.dat (GPred.lf1 p_p))]⟩
def Q58_L0_S  (r_ : GRef40Out) : St := ⟨[], [.box 105 (.dat (GRef40Out.lf1 r_)), .dead]⟩
theorem Q58_L0_W {R_ : RB1} {p_p : GPred} {v2234 : Int} {s2235 : GRef40Out} {r_ : GRef40Out} (h : Q58_L0 R_ p_p v2234 s2235 = some r_) : AWa_ Tryz.f77 1 [1, 1, 1, 1, 1, 1, 1, 1, 1, 1, 1, 0] (.exit 0) (Q58_L0_S r_) (Q58_L0_H R_ p_p (v2234, s2235)) :=
 loop_T BaseK (body := (Code.sub (bodyC Tryz.f77) [1, 1, 1, 1, 1, 1, 1, 1, 1, 1, 1, 0, 0])) (by kernel_rfl) (Q58_L0_T R_ p_p) (Q58_L0_H R_ p_p) (fun _ => .exit 0) Q58_L0_S (fun r_ => rfl) (fun v_ => by kernel_rfl) h
def Q58_T (R_ : RB1) (p_p : GPred) (p_b0 : GRef40Out) : Mo (GRef40Out) :=
 .ask (Q29 p_p.fOp p_b0) fun r519 h520 =>
 .say [.resH [0] (.tup []) [.box 105 (.dat (GRef40Out.lf1 r519))]] (ok1 (Q29_ok _ _ _ h520)) <|
 .ask (Q50 p_p.fPath r519) fun r523 h524 =>
 .say [.resH [0] (.tup []) [.box 105 (.dat (GRef40Out.lf1 r523))]] (ok1 (Q50_ok _ _ _ h524)) <|
 .ask (Q35 p_p.fArg r523) fun r2068 h2069 =>
 .say [.resH [0] (.tup []) [.box 105 (.dat (GRef40Out.lf1 r2068))]] (ok1 (Q35_ok _ _ _ h2069)) <|
 .ask (Q52 p_p.fArgs r2068) fun r2072 h2073 =>
 .say [.resH [0] (.tup []) [.box 105 (.dat (GRef40Out.lf1 r2072))]] (ok1 (Q52_ok _ _ _ h2073)) <|
 .ask (Q29 p_p.fN r2072) fun r2076 h2077 =>
 .say [.resH [0] (.tup []) [.box 105 (.dat (GRef40Out.lf1 r2076))]] (ok1 (Q29_ok _ _ _ h2077)) <|
 .ask (Q29 p_p.fM r2076) fun r2080 h2081 =>
 .say [.resH [0] (.tup []) [.box 105 (.dat (GRef40Out.lf1 r2080))]] (ok1 (Q29_ok _ _ _ h2081)) <|
 .ask (Q59 p_p.fShape r2080) fun r2157 h2158 =>
 .say [.resH [0] (.tup []) [.box 105 (.dat (GRef40Out.lf1 r2157))]] (ok1 (Q59_ok _ _ _ h2158)) <|
 .ask (Q57 p_p.fExpr r2157) fun r2214 h2215 =>
 .say [.resH [0] (.tup []) [.box 105 (.dat (GRef40Out.lf1 r2214))], .num p_p.fKids.length] (okc (Q57_ok _ _ _ h2215) (okc (by simp : p_p.fKids.length = (p_p.fKids.map GPred.lf).length) ok0)) <|
 .ask (Q29 (p_p.fKids.length : Int) r2214) fun r2218 h2219 =>
 .say [.resH [0] (.tup []) [.box 105 (.dat (GRef40Out.lf1 r2218))]] (ok1 (Q29_ok _ _ _ h2219)) <|
 .ask (Q58_L0 R_ p_p 0 r2218) fun r2243 h2244 =>
 .say [.pt_ 0 [0, 3, 4] 2 (.exit 0) (Q58_L0_S r2243)] (ok1 (Q58_L0_W h2244)) <|
 .ret ⟨[], [], [], 1⟩ (r2243)
theorem Q58_okT (R_ : RB1) (p_p : GPred) (p_b0 : GRef40Out) (r : GRef40Out) (h : Mo.den (Q58_T R_ p_p p_b0) = some r) : FnH Tryz.prog GI 77 [.ptr 0 0, .dat (GPred.lf1 p_p)] [.box 105 (.dat (GRef40Out.lf1 p_b0))] (.tup []) [.box 105 (.dat (GRef40Out.lf1 r))] :=
 fn_TH BaseK Tryz.func77 (by kernel_rfl) (by kernel_rfl) (by kernel_rfl) (Q58_T R_ p_p p_b0) (fun r => []) (fun r => [.box 105 (.dat (GRef40Out.lf1 r))]) (by kernel_rfl) h
def RB1_F : Nat → RB1
 | 0 => { m1 := fun p_p p_b0 => none, ok1 := fun _ _ _ h => (by cases h) }
 | n_ + 1 => { m1 := fun p_p p_b0 => Mo.den (Q58_T (RB1_F n_) p_p p_b0), ok1 := fun p_p p_b0 r h => Q58_okT (RB1_F n_) p_p p_b0 r h }
def Q58 (p_p : GPred) (p_b0 : GRef40Out) : Option (GRef40Out) := (RB1_F FU).m1 p_p p_b0
theorem Q58_ok (p_p : GPred) (p_b0 : GRef40Out) (r : GRef40Out) (h : Q58 p_p p_b0 = some r) : FnH Tryz.prog GI 77 [.ptr 0 0, .dat (GPred.lf1 p_p)] [.box 105 (.dat (GRef40Out.lf1 p_b0))] (.tup []) [.box 105 (.dat (GRef40Out.lf1 r))] := (RB1_F FU).ok1 p_p p_b0 r h
def Q53_L0_T (p_x : GIndex) : (Int × GRef40Out) → Mo ((Int × GRef40Out) ⊕ (GRef40Out)) := fun (v491, s492) =>
 .say [.num p_x.fKeys.length] (okc (by simp : p_x.fKeys.length = (p_x.fKeys.map GOrder.lf).length) ok0) <|
 .ite (decide ((v491 : Int) < (p_x.fKeys.length : Int))) (fun c493 =>
 .say [.br true] (ok1 c493) <|
 .ask (gidx p_x.fKeys v491) fun x494 h495 =>
 .say [.row (GOrder.lf1 x494)] (okc (gidx_ok GOrder.lf_eq h495 : (0 : Int) ≤ v491 ∧ (p_x.fKeys.map GOrder.lf)[v491.toNat]? = some (GOrder.lf1 x494)) ok0) <|
 .ask (Q50 x494.fPath s492) fun r496 h497 =>
 .say [.resH [0] (.tup []) [.box 105 (.dat (GRef40Out.lf1 r496))]] (ok1 (Q50_ok _ _ _ h497)) <|
 .ask (gidx p_x.fKeys v491) fun x498 h499 =>
 .say [.row (GOrder.lf1 x498)] (okc (gidx_ok GOrder.lf_eq h499 : (0 : Int) ≤ v491 ∧ (p_x.fKeys.map GOrder.lf)[v491.toNat]? = some (GOrder.lf1 x498)) ok0) <|
 .ask (Q68 x498.fDesc r496) fun r500 h501 =>
 .say [.resH [0] (.tup []) [.box 105 (.dat (GRef40Out.lf1 r500))]] (ok1 (Q68_ok _ _ _ h501)) <|
 .ret ⟨[], [0, 3, 4], [], 2⟩ (.inl (IntKind.wrap .i64 (v491 + 1), r500))) fun c493 =>
 .say [.br false] (ok1 c493) <|
 .ret ⟨[], [0, 3], [], 2⟩ (.inr (s492))
def Q53_L0 (p_x : GIndex) (v491 : Int) (s492 : GRef40Out) : Option (GRef40Out) := loopM (fun v_ => (Q53_L0_T p_x v_).den) FU (v491, s492)
def Q53_L0_H (p_x : GIndex) : (Int × GRef40Out) → St := fun (v491, s492) => ⟨[(0, .ptr 0 0), (3, .ptr 1 0), (4, .lf (.int .i64 v491))], [.box 105 (.dat (GRef40Out.lf1 s492)), .box 49 (.dat (GIndex.lf1 p_x))]⟩
def Q53_L0_S (p_x : GIndex) (r_ : GRef40Out) : St := ⟨[(0, .ptr 0 0), (3, .ptr 1 0)], [.box 105 (.dat (GRef40Out.lf1 r_)), .box 49 (.dat (GIndex.lf1 p_x))]⟩
theorem Q53_L0_W {p_x : GIndex} {v491 : Int} {s492 : GRef40Out} {r_ : GRef40Out} (h : Q53_L0 p_x v491 s492 = some r_) : AWa_ Tryz.f54 1 [1, 1, 1, 1, 0, 1, 0] (.exit 0) (Q53_L0_S p_x r_) (Q53_L0_H p_x (v491, s492)) :=
 loop_T BaseK (body := (Code.sub (bodyC Tryz.f54) [1, 1, 1, 1, 0, 1, 0, 0])) (by kernel_rfl) (Q53_L0_T p_x) (Q53_L0_H p_x) (fun _ => .exit 0) (Q53_L0_S p_x) (fun r_ => rfl) (fun v_ => by kernel_rfl) h
def Q53_T (p_x : GIndex) (p_b0 : GRef40Out) : Mo (GRef40Out) :=
 .ask (Q70 p_x.fName p_b0) fun r401 h402 =>
 .say [.resH [0] (.tup []) [.box 105 (.dat (GRef40Out.lf1 r401))]] (ok1 (Q70_ok _ _ _ h402)) <|
 .ask (Q29 p_x.fKind r401) fun r405 h406 =>
 .say [.resH [0] (.tup []) [.box 105 (.dat (GRef40Out.lf1 r405))], .num p_x.fKeys.length] (okc (Q29_ok _ _ _ h406) (okc (by simp : p_x.fKeys.length = (p_x.fKeys.map GOrder.lf).length) ok0)) <|
 .ask (Q29 (p_x.fKeys.length : Int) r405) fun r409 h410 =>
 .say [.resH [0] (.tup []) [.box 105 (.dat (GRef40Out.lf1 r409))]] (ok1 (Q29_ok _ _ _ h410)) <|
 .ask (Q53_L0 p_x 0 r409) fun r503 h504 =>
 .say [.pt_ 0 [0, 3, 4] 2 (.exit 0) (Q53_L0_S p_x r503)] (ok1 (Q53_L0_W h504)) <|
 .ask (Q68 p_x.fUnique r503) fun r507 h508 =>
 .say [.resH [0] (.tup []) [.box 105 (.dat (GRef40Out.lf1 r507))]] (ok1 (Q68_ok _ _ _ h508)) <|
 .ask (Q68 p_x.fSparse r507) fun r511 h512 =>
 .say [.resH [0] (.tup []) [.box 105 (.dat (GRef40Out.lf1 r511))]] (ok1 (Q68_ok _ _ _ h512)) <|
 .ask (Q68 p_x.fPartial r511) fun r515 h516 =>
 .say [.resH [0] (.tup []) [.box 105 (.dat (GRef40Out.lf1 r515))]] (ok1 (Q68_ok _ _ _ h516)) <|
 .ask (Q58 p_x.fWhere r515) fun r2245 h2246 =>
 .say [.resH [0] (.tup []) [.box 105 (.dat (GRef40Out.lf1 r2245))]] (ok1 (Q58_ok _ _ _ h2246)) <|
 .ret ⟨[.kill 1], [], [], 1⟩ (r2245)
def Q53 (p_x : GIndex) (p_b0 : GRef40Out) : Option (GRef40Out) := Mo.den (Q53_T p_x p_b0)
theorem Q53_ok (p_x : GIndex) (p_b0 : GRef40Out) (r : GRef40Out) (h : Q53 p_x p_b0 = some r) : FnH Tryz.prog GI 54 [.ptr 0 0, .dat (GIndex.lf1 p_x)] [.box 105 (.dat (GRef40Out.lf1 p_b0))] (.tup []) [.box 105 (.dat (GRef40Out.lf1 r))] :=
 fn_TH BaseK Tryz.func54 (by kernel_rfl) (by kernel_rfl) (by kernel_rfl) (Q53_T p_x p_b0) (fun r => []) (fun r => [.box 105 (.dat (GRef40Out.lf1 r))]) (by kernel_rfl) h
structure RB8 where
 m1 : (p_s : GSchema) → (p_b0 : GRef40Out) → Option (GRef40Out)
 ok1 : ∀ (p_s : GSchema) (p_b0 : GRef40Out) (r : GRef40Out), m1 p_s p_b0 = some r → FnH Tryz.prog GI 74 [.ptr 0 0, .dat (GSchema.lf1 p_s)] [.box 105 (.dat (GRef40Out.lf1 p_b0))] (.tup []) [.box 105 (.dat (GRef40Out.lf1 r))]
def Q32_L0_T (R_ : RB8) (p_s : GSchema) : (Int × GRef40Out) → Mo ((Int × GRef40Out) ⊕ (GRef40Out)) := fun (v2371, s2372) =>
 .say [.num p_s.fProps.length] (okc (by simp : p_s.fProps.length = (p_s.fProps.map GProp.lf).length) ok0) <|
 .ite (decide ((v2371 : Int) < (p_s.fProps.length : Int))) (fun c2373 =>
 .say [.br true] (ok1 c2373) <|
 .ask (gidx p_s.fProps v2371) fun x2374 h2375 =>
 .say [.row (GProp.lf1 x2374)] (okc (gidx_ok GProp.lf_eq h2375 : (0 : Int) ≤ v2371 ∧ (p_s.fProps.map GProp.lf)[v2371.toNat]? = some (GProp.lf1 x2374)) ok0) <|
 .ask (Q70 x2374.fName s2372) fun r2376 h2377 =>
 .say [.resH [0] (.tup []) [.box 105 (.dat (GRef40Out.lf1 r2376))]] (ok1 (Q70_ok _ _ _ h2377)) <|
 .ask (gidx p_s.fProps v2371) fun x2378 h2379 =>
 .say [.row (GProp.lf1 x2378)] (okc (gidx_ok GProp.lf_eq h2379 : (0 : Int) ≤ v2371 ∧ (p_s.fProps.map GProp.lf)[v2371.toNat]? = some (GProp.lf1 x2378)) ok0) <|
 .ask (R_.m1 x2378.fSchema r2376) fun r2380 h2381 =>
 .say [.resH [0] (.tup []) [.box 105 (.dat (GRef40Out.lf1 r2380))]] (ok1 (R_.ok1 _ _ _ h2381)) <|
 .ret ⟨[], [0, 3, 4], [], 2⟩ (.inl (IntKind.wrap .i64 (v2371 + 1), r2380))) fun c2373 =>
 .say [.br false] (ok1 c2373) <|
 .ret ⟨[], [0, 3], [], 2⟩ (.inr (s2372))
def Q32_L0 (R_ : RB8) (p_s : GSchema) (v2371 : Int) (s2372 : GRef40Out) : Option (GRef40Out) := loopM (fun v_ => (Q32_L0_T R_ p_s v_).den) FU (v2371, s2372)
def Q32_L0_H (R_ : RB8) (p_s : GSchema) : (Int × GRef40Out) → St := fun (v2371, s2372) => ⟨[(0, .ptr 0 0), (3, .ptr 1 0), (4, .lf (.int .i64 v2371))], [.box 105 (.dat (GRef40Out.lf1 s2372)), .box 35 (.dat (GSchema.lf1 p_s))]⟩
def Q32_L0_S (p_s : GSchema) (r_ : GRef40Out) : St := ⟨[(0, .ptr 0 0), (3, .ptr 1 0)], [.box 105 (.dat (GRef40Out.lf1 r_)), .box 35 (.dat (GSchema.lf1 p_s))]⟩
theorem Q32_L0_W {R_ : RB8} {p_s : GSchema} {v2371 : Int} {s2372 : GRef40Out} {r_ : GRef40Out} (h : Q32_L0 R_ p_s v2371 s2372 = some r_) : AWa_ Tryz.f74 1 [1, 1, 1, 1, 1, 1, 1, 1, 1, 1, 1, 0, 1, 0] (.exit 0) (Q32_L0_S p_s r_) (Q32_L0_H R_ p_s (v2371, s2372)) :=
 loop_T BaseK (body := (Code.sub (bodyC Tryz.f74) [1, 1, 1, 1, 1, 1, 1, 1, 1, 1, 1, 0, 1, 0, 0])) (by kernel_rfl) (Q32_L0_T R_ p_s) (Q32_L0_H R_ p_s) (fun _ => .exit 0) (Q32_L0_S p_s) (fun r_ => rfl) (fun v_ => by kernel_rfl) h
def Q32_L6_T (R_ : RB8) (p_s : GSchema) : (Int × GRef40Out) → Mo ((Int × GRef40Out) ⊕ (GRef40Out)) := fun (v2422, s2423) =>
 .say [.num p_s.fItems.length] (okc (by simp : p_s.fItems.length = (p_s.fItems.map GSchema.lf).length) ok0) <|
 .ite (decide ((v2422 : Int) < (p_s.fItems.length : Int))) (fun c2424 =>
 .say [.br true] (ok1 c2424) <|
 .ask (gidx p_s.fItems v2422) fun x2425 h2426 =>
 .say [.row (GSchema.lf1 x2425)] (okc (gidx_ok GSchema.lf_eq h2426 : (0 : Int) ≤ v2422 ∧ (p_s.fItems.map GSchema.lf)[v2422.toNat]? = some (GSchema.lf1 x2425)) ok0) <|
 .ask (R_.m1 x2425 s2423) fun r2427 h2428 =>
 .say [.resH [0] (.tup []) [.box 105 (.dat (GRef40Out.lf1 r2427))]] (ok1 (R_.ok1 _ _ _ h2428)) <|
 .ret ⟨[], [0, 3, 5], [], 2⟩ (.inl (IntKind.wrap .i64 (v2422 + 1), r2427))) fun c2424 =>
 .say [.br false] (ok1 c2424) <|
 .ret ⟨[], [0, 3], [], 2⟩ (.inr (s2423))
def Q32_L6 (R_ : RB8) (p_s : GSchema) (v2422 : Int) (s2423 : GRef40Out) : Option (GRef40Out) := loopM (fun v_ => (Q32_L6_T R_ p_s v_).den) FU (v2422, s2423)
def Q32_L6_H (R_ : RB8) (p_s : GSchema) : (Int × GRef40Out) → St := fun (v2422, s2423) => ⟨[(0, .ptr 0 0), (3, .ptr 1 0), (5, .lf (.int .i64 v2422))], [.box 105 (.dat (GRef40Out.lf1 s2423)), .box 35 (.dat (GSchema.lf1 p_s))]⟩
def Q32_L6_S (p_s : GSchema) (r_ : GRef40Out) : St := ⟨[(0, .ptr 0 0), (3, .ptr 1 0)], [.box 105 (.dat (GRef40Out.lf1 r_)), .box 35 (.dat (GSchema.lf1 p_s))]⟩
theorem Q32_L6_W {R_ : RB8} {p_s : GSchema} {v2422 : Int} {s2423 : GRef40Out} {r_ : GRef40Out} (h : Q32_L6 R_ p_s v2422 s2423 = some r_) : AWa_ Tryz.f74 1 [1, 1, 1, 1, 1, 1, 1, 1, 1, 1, 1, 1, 1, 1, 0, 1, 0] (.exit 2) (Q32_L6_S p_s r_) (Q32_L6_H R_ p_s (v2422, s2423)) :=
 loop_T BaseK (body := (Code.sub (bodyC Tryz.f74) [1, 1, 1, 1, 1, 1, 1, 1, 1, 1, 1, 1, 1, 1, 0, 1, 0, 0])) (by kernel_rfl) (Q32_L6_T R_ p_s) (Q32_L6_H R_ p_s) (fun _ => .exit 2) (Q32_L6_S p_s) (fun r_ => rfl) (fun v_ => by kernel_rfl) h
def Q32_T (R_ : RB8) (p_s : GSchema) (p_b0 : GRef40Out) : Mo (GRef40Out) :=
 .ask (Q29 p_s.fKinds p_b0) fun r2284 h2285 =>
 .say [.resH [0] (.tup []) [.box 105 (.dat (GRef40Out.lf1 r2284))]] (ok1 (Q29_ok _ _ _ h2285)) <|
 .ask (Q68 p_s.fHasMin r2284) fun r2288 h2289 =>
 .say [.resH [0] (.tup []) [.box 105 (.dat (GRef40Out.lf1 r2288))]] (ok1 (Q68_ok _ _ _ h2289)) <|
 .ask (Q35 p_s.fMin r2288) fun r2292 h2293 =>
 .say [.resH [0] (.tup []) [.box 105 (.dat (GRef40Out.lf1 r2292))]] (ok1 (Q35_ok _ _ _ h2293)) <|
 .ask (Q68 p_s.fHasMax r2292) fun r2296 h2297 =>
 .say [.resH [0] (.tup []) [.box 105 (.dat (GRef40Out.lf1 r2296))]] (ok1 (Q68_ok _ _ _ h2297)) <|
 .ask (Q35 p_s.fMax r2296) fun r2300 h2301 =>
 .say [.resH [0] (.tup []) [.box 105 (.dat (GRef40Out.lf1 r2300))]] (ok1 (Q35_ok _ _ _ h2301)) <|
 .ask (Q52 p_s.fEnum r2300) fun r2304 h2305 =>
 .say [.resH [0] (.tup []) [.box 105 (.dat (GRef40Out.lf1 r2304))]] (ok1 (Q52_ok _ _ _ h2305)) <|
 .ask (Q29 p_s.fMinLen r2304) fun r2308 h2309 =>
 .say [.resH [0] (.tup []) [.box 105 (.dat (GRef40Out.lf1 r2308))]] (ok1 (Q29_ok _ _ _ h2309)) <|
 .ask (Q29 p_s.fMaxLen r2308) fun r2312 h2313 =>
 .say [.resH [0] (.tup []) [.box 105 (.dat (GRef40Out.lf1 r2312))]] (ok1 (Q29_ok _ _ _ h2313)) <|
 .ask (Q50 p_s.fRequired r2312) fun r2316 h2317 =>
 .say [.resH [0] (.tup []) [.box 105 (.dat (GRef40Out.lf1 r2316))], .num p_s.fProps.length] (okc (Q50_ok _ _ _ h2317) (okc (by simp : p_s.fProps.length = (p_s.fProps.map GProp.lf).length) ok0)) <|
 .ask (Q29 (p_s.fProps.length : Int) r2316) fun r2320 h2321 =>
 .say [.resH [0] (.tup []) [.box 105 (.dat (GRef40Out.lf1 r2320))]] (ok1 (Q29_ok _ _ _ h2321)) <|
 .ask (Q32_L0 R_ p_s 0 r2320) fun r2383 h2384 =>
 .say [.pt_ 0 [0, 3, 4] 2 (.exit 0) (Q32_L0_S p_s r2383)] (ok1 (Q32_L0_W h2384)) <|
 .ask (Q68 p_s.fClosed r2383) fun r2387 h2388 =>
 .say [.resH [0] (.tup []) [.box 105 (.dat (GRef40Out.lf1 r2387))], .num p_s.fItems.length] (okc (Q68_ok _ _ _ h2388) (okc (by simp : p_s.fItems.length = (p_s.fItems.map GSchema.lf).length) ok0)) <|
 .ask (Q29 (p_s.fItems.length : Int) r2387) fun r2391 h2392 =>
 .say [.resH [0] (.tup []) [.box 105 (.dat (GRef40Out.lf1 r2391))]] (ok1 (Q29_ok _ _ _ h2392)) <|
 .ask (Q32_L6 R_ p_s 0 r2391) fun r2430 h2431 =>
 .say [.pt_ 0 [0, 3, 5] 2 (.exit 2) (Q32_L6_S p_s r2430)] (ok1 (Q32_L6_W h2431)) <|
 .ask (Q68 p_s.fUnique r2430) fun r2432 h2433 =>
 .say [.resH [0] (.tup []) [.box 105 (.dat (GRef40Out.lf1 r2432))]] (ok1 (Q68_ok _ _ _ h2433)) <|
 .ret ⟨[.kill 1], [], [], 1⟩ (r2432)
theorem Q32_okT (R_ : RB8) (p_s : GSchema) (p_b0 : GRef40Out) (r : GRef40Out) (h : Mo.den (Q32_T R_ p_s p_b0) = some r) : FnH Tryz.prog GI 74 [.ptr 0 0, .dat (GSchema.lf1 p_s)] [.box 105 (.dat (GRef40Out.lf1 p_b0))] (.tup []) [.box 105 (.dat (GRef40Out.lf1 r))] :=
 fn_TH BaseK Tryz.func74 (by kernel_rfl) (by kernel_rfl) (by kernel_rfl) (Q32_T R_ p_s p_b0) (fun r => []) (fun r => [.box 105 (.dat (GRef40Out.lf1 r))]) (by kernel_rfl) h
def RB8_F : Nat → RB8
 | 0 => { m1 := fun p_s p_b0 => none, ok1 := fun _ _ _ h => (by cases h) }
 | n_ + 1 => { m1 := fun p_s p_b0 => Mo.den (Q32_T (RB8_F n_) p_s p_b0), ok1 := fun p_s p_b0 r h => Q32_okT (RB8_F n_) p_s p_b0 r h }
def Q32 (p_s : GSchema) (p_b0 : GRef40Out) : Option (GRef40Out) := (RB8_F FU).m1 p_s p_b0
theorem Q32_ok (p_s : GSchema) (p_b0 : GRef40Out) (r : GRef40Out) (h : Q32 p_s p_b0 = some r) : FnH Tryz.prog GI 74 [.ptr 0 0, .dat (GSchema.lf1 p_s)] [.box 105 (.dat (GRef40Out.lf1 p_b0))] (.tup []) [.box 105 (.dat (GRef40Out.lf1 r))] := (RB8_F FU).ok1 p_s p_b0 r h
def Q55_L0_T (p_d : GSpace) : (Int × GRef40Out) → Mo ((Int × GRef40Out) ⊕ (GRef40Out)) := fun (v2272, s2273) =>
 .say [.num p_d.fIndexes.length] (okc (by simp : p_d.fIndexes.length = (p_d.fIndexes.map GIndex.lf).length) ok0) <|
 .ite (decide ((v2272 : Int) < (p_d.fIndexes.length : Int))) (fun c2274 =>
 .say [.br true] (ok1 c2274) <|
 .ask (gidx p_d.fIndexes v2272) fun x2275 h2276 =>
 .say [.row (GIndex.lf1 x2275)] (okc (gidx_ok GIndex.lf_eq h2276 : (0 : Int) ≤ v2272 ∧ (p_d.fIndexes.map GIndex.lf)[v2272.toNat]? = some (GIndex.lf1 x2275)) ok0) <|
 .ask (Q53 x2275 s2273) fun r2277 h2278 =>
 .say [.resH [0] (.tup []) [.box 105 (.dat (GRef40Out.lf1 r2277))]] (ok1 (Q53_ok _ _ _ h2278)) <|
 .ret ⟨[], [0, 3, 4], [], 2⟩ (.inl (IntKind.wrap .i64 (v2272 + 1), r2277))) fun c2274 =>
 .say [.br false] (ok1 c2274) <|
 .ret ⟨[], [0, 3], [], 2⟩ (.inr (s2273))
def Q55_L0 (p_d : GSpace) (v2272 : Int) (s2273 : GRef40Out) : Option (GRef40Out) := loopM (fun v_ => (Q55_L0_T p_d v_).den) FU (v2272, s2273)
def Q55_L0_H (p_d : GSpace) : (Int × GRef40Out) → St := fun (v2272, s2273) => ⟨[(0, .ptr 0 0), (3, .ptr 1 0), (4, .lf (.int .i64 v2272))], [.box 105 (.dat (GRef40Out.lf1 s2273)), .box 37 (.dat (GSpace.lf1 p_d))]⟩
def Q55_L0_S (p_d : GSpace) (r_ : GRef40Out) : St := ⟨[(0, .ptr 0 0), (3, .ptr 1 0)], [.box 105 (.dat (GRef40Out.lf1 r_)), .box 37 (.dat (GSpace.lf1 p_d))]⟩
theorem Q55_L0_W {p_d : GSpace} {v2272 : Int} {s2273 : GRef40Out} {r_ : GRef40Out} (h : Q55_L0 p_d v2272 s2273 = some r_) : AWa_ Tryz.f53 1 [1, 1, 1, 0, 1, 0] (.exit 0) (Q55_L0_S p_d r_) (Q55_L0_H p_d (v2272, s2273)) :=
 loop_T BaseK (body := (Code.sub (bodyC Tryz.f53) [1, 1, 1, 0, 1, 0, 0])) (by kernel_rfl) (Q55_L0_T p_d) (Q55_L0_H p_d) (fun _ => .exit 0) (Q55_L0_S p_d) (fun r_ => rfl) (fun v_ => by kernel_rfl) h
def Q55_T (p_d : GSpace) (p_b0 : GRef40Out) : Mo (GRef40Out) :=
 .ask (Q70 p_d.fName p_b0) fun r389 h390 =>
 .say [.resH [0] (.tup []) [.box 105 (.dat (GRef40Out.lf1 r389))], .num p_d.fIndexes.length] (okc (Q70_ok _ _ _ h390) (okc (by simp : p_d.fIndexes.length = (p_d.fIndexes.map GIndex.lf).length) ok0)) <|
 .ask (Q29 (p_d.fIndexes.length : Int) r389) fun r393 h394 =>
 .say [.resH [0] (.tup []) [.box 105 (.dat (GRef40Out.lf1 r393))]] (ok1 (Q29_ok _ _ _ h394)) <|
 .ask (Q55_L0 p_d 0 r393) fun r2280 h2281 =>
 .say [.pt_ 0 [0, 3, 4] 2 (.exit 0) (Q55_L0_S p_d r2280)] (ok1 (Q55_L0_W h2281)) <|
 .ask (Q32 p_d.fSchema r2280) fun r2436 h2437 =>
 .say [.resH [0] (.tup []) [.box 105 (.dat (GRef40Out.lf1 r2436))]] (ok1 (Q32_ok _ _ _ h2437)) <|
 .ask (Q29 p_d.fLevel r2436) fun r2440 h2441 =>
 .say [.resH [0] (.tup []) [.box 105 (.dat (GRef40Out.lf1 r2440))]] (ok1 (Q29_ok _ _ _ h2441)) <|
 .ask (Q29 p_d.fAction r2440) fun r2442 h2443 =>
 .say [.resH [0] (.tup []) [.box 105 (.dat (GRef40Out.lf1 r2442))]] (ok1 (Q29_ok _ _ _ h2443)) <|
 .ret ⟨[.kill 1], [], [], 1⟩ (r2442)
def Q55 (p_d : GSpace) (p_b0 : GRef40Out) : Option (GRef40Out) := Mo.den (Q55_T p_d p_b0)
theorem Q55_ok (p_d : GSpace) (p_b0 : GRef40Out) (r : GRef40Out) (h : Q55 p_d p_b0 = some r) : FnH Tryz.prog GI 53 [.ptr 0 0, .dat (GSpace.lf1 p_d)] [.box 105 (.dat (GRef40Out.lf1 p_b0))] (.tup []) [.box 105 (.dat (GRef40Out.lf1 r))] :=
 fn_TH BaseK Tryz.func53 (by kernel_rfl) (by kernel_rfl) (by kernel_rfl) (Q55_T p_d p_b0) (fun r => []) (fun r => [.box 105 (.dat (GRef40Out.lf1 r))]) (by kernel_rfl) h
def Q69_J0_T (p_d : GSpace) : Mo (Bool) :=
 .ite (!decide ((p_d.fName : ByteArray) = (⟨#[]⟩ : ByteArray))) (fun c325 =>
 .say [.gd 4003 true] (ok1 c325) <|
 .ret ⟨[], [1, 13], [], 1⟩ (true)) fun c325 =>
 .say [.gd 4003 false, .num p_d.fIndexes.length] (okc c325 (okc (by simp : p_d.fIndexes.length = (p_d.fIndexes.map GIndex.lf).length) ok0)) <|
 .ret ⟨[], [1, 13], [], 1⟩ (decide ((0 : Int) < (p_d.fIndexes.length : Int)))
def Q69_J0 (p_d : GSpace) : Option (Bool) := Mo.den (Q69_J0_T p_d)
def Q69_J0_S (p_d : GSpace) (r_ : Bool) : St := ⟨[(1, .ptr 0 0), (13, .lf (.bool r_))], [.box 37 (.dat (GSpace.lf1 p_d))]⟩
theorem Q69_J0_W {p_d : GSpace} {r_ : Bool} (h : Q69_J0 p_d = some r_) : AWa_ Tryz.f39 0 [1, 0, 0] (.normal) (Q69_J0_S p_d r_) ⟨[(1, .ptr 0 0)], [.box 37 (.dat (GSpace.lf1 p_d))]⟩ :=
 part_T BaseK (Q69_J0_T p_d) (fun _ => .normal) (Q69_J0_S p_d) (by kernel_rfl) h
def Q69_T (p_d : GSpace) : Mo (Bool) :=
 .ask (Q69_J0 p_d) fun r327 h328 =>
 .say [.pt_ 9 [1] 1 (.normal) (Q69_J0_S p_d r327)] (ok1 (Q69_J0_W h328)) <|
 .ite (r327) (fun c330 =>
 .say [.br true] (ok1 c330) <|
 .ret (fitN 1) (false)) fun c330 =>
 .say [.br false, .at_ 10 1, .norm 1] (ok1 c330) <|
 .ask (Q55 p_d (GRef40Out.mk ⟨#[]⟩ false true)) fun r2446 h2447 =>
 .say [.resH [1] (.tup []) [.box 105 (.dat (GRef40Out.lf1 r2446))], .at_ 12 1, .tod 18, .norm 2] (ok1 (Q55_ok _ _ _ h2447)) <|
 .ask (Q55 (GSpace.mk ⟨#[]⟩ [] GSchema.z 0 0) (GRef40Out.mk ⟨#[]⟩ false true)) fun r2450 h2451 =>
 .say [.resH [2] (.tup []) [.box 105 (.dat (GRef40Out.lf1 r2450))]] (ok1 (Q55_ok _ _ _ h2451)) <|
 .ret (fitN 1) (decide ((r2446.fS : ByteArray) = (r2450.fS : ByteArray)))
def Q69 (p_d : GSpace) : Option (Bool) := Mo.den (Q69_T p_d)
theorem Q69_ok (p_d : GSpace) (r : Bool) (h : Q69 p_d = some r) : Fn Tryz.prog GI 39 [.dat (GSpace.lf1 p_d)] (.lf (.bool r)) :=
 fn_T BaseK Tryz.func39 (by kernel_rfl) (by kernel_rfl) (by kernel_rfl) (Q69_T p_d) (fun r => [.lf (.bool r)]) (by kernel_rfl) h
def Q87_T (p_x : GIndex) : Mo (Bool) :=
 .say [.at_ 6 1, .norm 1] ok0 <|
 .ask (Q53 p_x (GRef40Out.mk ⟨#[]⟩ false true)) fun r2461 h2462 =>
 .say [.resH [1] (.tup []) [.box 105 (.dat (GRef40Out.lf1 r2461))], .at_ 8 1, .tod 9, .norm 2] (ok1 (Q53_ok _ _ _ h2462)) <|
 .ask (Q53 GIndex.z (GRef40Out.mk ⟨#[]⟩ false true)) fun r2465 h2466 =>
 .say [.resH [2] (.tup []) [.box 105 (.dat (GRef40Out.lf1 r2465))]] (ok1 (Q53_ok _ _ _ h2466)) <|
 .ret (fitN 1) (decide ((r2461.fS : ByteArray) = (r2465.fS : ByteArray)))
def Q87 (p_x : GIndex) : Option (Bool) := Mo.den (Q87_T p_x)
theorem Q87_ok (p_x : GIndex) (r : Bool) (h : Q87 p_x = some r) : Fn Tryz.prog GI 40 [.dat (GIndex.lf1 p_x)] (.lf (.bool r)) :=
 fn_T BaseK Tryz.func40 (by kernel_rfl) (by kernel_rfl) (by kernel_rfl) (Q87_T p_x) (fun r => [.lf (.bool r)]) (by kernel_rfl) h
def Q77_T (p_kind : Int) : Mo (Bool) :=
 .ite (decide ((9 : Int) ≤ p_kind)) (fun c2476 =>
 .say [.gd 4002 true] (ok1 c2476) <|
 .ret (fitN 1) (decide ((p_kind : Int) ≤ 12))) fun c2476 =>
 .say [.gd 4002 false] (ok1 c2476) <|
 .ret (fitN 1) (false)
def Q77 (p_kind : Int) : Option (Bool) := Mo.den (Q77_T p_kind)
theorem Q77_ok (p_kind : Int) (r : Bool) (h : Q77 p_kind = some r) : Fn Tryz.prog GI 27 [.lf (.int .i64 p_kind)] (.lf (.bool r)) :=
 fn_T BaseK Tryz.func27 (by kernel_rfl) (by kernel_rfl) (by kernel_rfl) (Q77_T p_kind) (fun r => [.lf (.bool r)]) (by kernel_rfl) h
def Q86_T (p_kind : Int) : Mo (Bool) :=
 .ite (p_kind == 8) (fun c2490 =>
 .say [.gd 4002 true] (ok1 c2490) <|
 .ret (fitN 1) (true)) fun c2490 =>
 .say [.gd 4002 false] (ok1 c2490) <|
 .ret (fitN 1) (p_kind == 9)
def Q86 (p_kind : Int) : Option (Bool) := Mo.den (Q86_T p_kind)
theorem Q86_ok (p_kind : Int) (r : Bool) (h : Q86 p_kind = some r) : Fn Tryz.prog GI 25 [.lf (.int .i64 p_kind)] (.lf (.bool r)) :=
 fn_T BaseK Tryz.func25 (by kernel_rfl) (by kernel_rfl) (by kernel_rfl) (Q86_T p_kind) (fun r => [.lf (.bool r)]) (by kernel_rfl) h
def Q6_J0_T (p_w : GWrite) : Mo (GIndex) :=
 .ite (p_w.fKind == 7) (fun c267 =>
 .say [.br true] (ok1 c267) <|
 .ret ⟨[.norm 1], [1, 3, 4], [], 2⟩ (GIndex.sName p_w.fIndex ⟨#[]⟩)) fun c267 =>
 .say [.br false] (ok1 c267) <|
 .ret ⟨[.norm 1], [1, 3, 4], [], 2⟩ (p_w.fIndex)
def Q6_J0 (p_w : GWrite) : Option (GIndex) := Mo.den (Q6_J0_T p_w)
def Q6_J0_S (p_w : GWrite) (r_ : GIndex) : St := ⟨[(1, .ptr 0 0), (3, .lf (.int .i64 p_w.fKind)), (4, .ptr 1 0)], [.box 53 (.dat (GWrite.lf1 p_w)), .box 49 (.dat (GIndex.lf1 r_))]⟩
theorem Q6_J0_W {p_w : GWrite} {r_ : GIndex} (h : Q6_J0 p_w = some r_) : AWa_ Tryz.f24 0 [1, 1, 1, 0, 1] (.normal) (Q6_J0_S p_w r_) ⟨[(1, .ptr 0 0), (3, .lf (.int .i64 p_w.fKind)), (4, .ptr 1 0), (10, .lf (.bool (p_w.fKind == 7)))], [.box 53 (.dat (GWrite.lf1 p_w)), .box 49 (.agg ((GIndex.lf1 p_w.fIndex).map AV.lf))]⟩ :=
 part_T BaseK (Q6_J0_T p_w) (fun _ => .normal) (Q6_J0_S p_w) (by kernel_rfl) h
def Q6_J5_T (p_w : GWrite) (r269 : GIndex) : Mo (Bool) :=
 .ask (Q81 p_w.fKind) fun r275 h276 =>
 .say [.res (.lf (.bool r275))] (ok1 (Q81_ok _ _ h276)) <|
 .ite (r275) (fun c277 =>
 .say [.gd 12002 true] (ok1 c277) <|
 .ret ⟨[], [1, 3, 4, 18], [], 2⟩ (true)) fun c277 =>
 .say [.gd 12002 false] (ok1 c277) <|
 .ret ⟨[], [1, 3, 4, 18], [], 2⟩ (decide ((p_w.fSpace : ByteArray) = (⟨#[]⟩ : ByteArray)))
def Q6_J5 (p_w : GWrite) (r269 : GIndex) : Option (Bool) := Mo.den (Q6_J5_T p_w r269)
def Q6_J5_S (p_w : GWrite) (r269 : GIndex) (r_ : Bool) : St := ⟨[(1, .ptr 0 0), (3, .lf (.int .i64 p_w.fKind)), (4, .ptr 1 0), (18, .lf (.bool r_))], [.box 53 (.dat (GWrite.lf1 p_w)), .box 49 (.dat (GIndex.lf1 r269))]⟩
theorem Q6_J5_W {p_w : GWrite} {r269 : GIndex} {r_ : Bool} (h : Q6_J5 p_w r269 = some r_) : AWoa_ Tryz.f24 0 [1, 1, 1, 1, 0] [0, 1, 2, 3, 4, 5, 6] (Q6_J5_S p_w r269 r_) ⟨[(1, .ptr 0 0), (3, .lf (.int .i64 p_w.fKind)), (4, .ptr 1 0)], [.box 53 (.dat (GWrite.lf1 p_w)), .box 49 (.dat (GIndex.lf1 r269))]⟩ :=
 seg_T BaseK (Q6_J5_T p_w r269) (Q6_J5_S p_w r269) (by kernel_rfl) h
def Q6_J10_T (p_w : GWrite) (r269 : GIndex) (r279 : Bool) : Mo (Bool) :=
 .ite (r279) (fun c281 =>
 .say [.gd 12007 true] (ok1 c281) <|
 .ask (Q79 p_w.fKind) fun r283 h284 =>
 .say [.res (.lf (.bool r283))] (ok1 (Q79_ok _ _ h284)) <|
 .ite (r283) (fun c285 =>
 .say [.gd 12010 true] (ok1 c285) <|
 .ret ⟨[], [1, 3, 4, 37], [], 2⟩ (true)) fun c285 =>
 .say [.gd 12010 false] (ok1 c285) <|
 .ask (Q17 p_w.fKey) fun r306 h307 =>
 .say [.res (.lf (.bool r306))] (ok1 (Q17_ok _ _ h307)) <|
 .ite (r306) (fun c308 =>
 .say [.gd 12014 true] (ok1 c308) <|
 .ask (Q17 p_w.fBefore) fun r309 h310 =>
 .say [.res (.lf (.bool r309))] (ok1 (Q17_ok _ _ h310)) <|
 .ite (r309) (fun c311 =>
 .say [.gd 12019 true] (ok1 c311) <|
 .ret ⟨[], [1, 3, 4, 37], [], 2⟩ (!p_w.fSilent)) fun c311 =>
 .say [.gd 12019 false] (ok1 c311) <|
 .ret ⟨[], [1, 3, 4, 37], [], 2⟩ (false)) fun c308 =>
 .say [.gd 12014 false] (ok1 c308) <|
 .ret ⟨[], [1, 3, 4, 37], [], 2⟩ (false)) fun c281 =>
 .say [.gd 12007 false] (ok1 c281) <|
 .ret ⟨[], [1, 3, 4, 37], [], 2⟩ (false)
def Q6_J10 (p_w : GWrite) (r269 : GIndex) (r279 : Bool) : Option (Bool) := Mo.den (Q6_J10_T p_w r269 r279)
def Q6_J10_S (p_w : GWrite) (r269 : GIndex) (r_ : Bool) : St := ⟨[(1, .ptr 0 0), (3, .lf (.int .i64 p_w.fKind)), (4, .ptr 1 0), (37, .lf (.bool r_))], [.box 53 (.dat (GWrite.lf1 p_w)), .box 49 (.dat (GIndex.lf1 r269))]⟩
theorem Q6_J10_W {p_w : GWrite} {r269 : GIndex} {r279 : Bool} {r_ : Bool} (h : Q6_J10 p_w r269 r279 = some r_) : AWoa_ Tryz.f24 0 [1, 1, 1, 1, 0] [7, 8, 9, 10, 11, 12, 13, 14, 15, 16, 17, 18, 19, 20, 21, 22, 23, 24, 25] (Q6_J10_S p_w r269 r_) ⟨[(1, .ptr 0 0), (3, .lf (.int .i64 p_w.fKind)), (4, .ptr 1 0), (18, .lf (.bool r279))], [.box 53 (.dat (GWrite.lf1 p_w)), .box 49 (.dat (GIndex.lf1 r269))]⟩ :=
 seg_T BaseK (Q6_J10_T p_w r269 r279) (Q6_J10_S p_w r269) (by kernel_rfl) h
def Q6_J15_T (p_w : GWrite) (r269 : GIndex) (r313 : Bool) : Mo (Bool) :=
 .ite (r313) (fun c315 =>
 .say [.gd 12026 true] (ok1 c315) <|
 .ite (p_w.fKind == 2) (fun c316 =>
 .say [.gd 12029 true] (ok1 c316) <|
 .ret ⟨[], [1, 3, 4, 46], [], 2⟩ (true)) fun c316 =>
 .say [.gd 12029 false] (ok1 c316) <|
 .ask (Q17 p_w.fDoc) fun r317 h318 =>
 .say [.res (.lf (.bool r317))] (ok1 (Q17_ok _ _ h318)) <|
 .ret ⟨[], [1, 3, 4, 46], [], 2⟩ (r317)) fun c315 =>
 .say [.gd 12026 false] (ok1 c315) <|
 .ret ⟨[], [1, 3, 4, 46], [], 2⟩ (false)
def Q6_J15 (p_w : GWrite) (r269 : GIndex) (r313 : Bool) : Option (Bool) := Mo.den (Q6_J15_T p_w r269 r313)
def Q6_J15_S (p_w : GWrite) (r269 : GIndex) (r_ : Bool) : St := ⟨[(1, .ptr 0 0), (3, .lf (.int .i64 p_w.fKind)), (4, .ptr 1 0), (46, .lf (.bool r_))], [.box 53 (.dat (GWrite.lf1 p_w)), .box 49 (.dat (GIndex.lf1 r269))]⟩
theorem Q6_J15_W {p_w : GWrite} {r269 : GIndex} {r313 : Bool} {r_ : Bool} (h : Q6_J15 p_w r269 r313 = some r_) : AWoa_ Tryz.f24 0 [1, 1, 1, 1, 0] [26, 27, 28, 29, 30, 31, 32, 33, 34] (Q6_J15_S p_w r269 r_) ⟨[(1, .ptr 0 0), (3, .lf (.int .i64 p_w.fKind)), (4, .ptr 1 0), (37, .lf (.bool r313))], [.box 53 (.dat (GWrite.lf1 p_w)), .box 49 (.dat (GIndex.lf1 r269))]⟩ :=
 seg_T BaseK (Q6_J15_T p_w r269 r313) (Q6_J15_S p_w r269) (by kernel_rfl) h
def Q6_J20_T (p_w : GWrite) (r269 : GIndex) (r320 : Bool) : Mo (Bool) :=
 .ite (r320) (fun c322 =>
 .say [.gd 12035 true] (ok1 c322) <|
 .ite (p_w.fKind == 4) (fun c323 =>
 .say [.gd 12038 true] (ok1 c323) <|
 .ret ⟨[], [1, 3, 4, 55], [], 2⟩ (true)) fun c323 =>
 .say [.gd 12038 false] (ok1 c323) <|
 .ask (Q69 p_w.fDef) fun r2452 h2453 =>
 .say [.res (.lf (.bool r2452))] (ok1 (Q69_ok _ _ h2453)) <|
 .ret ⟨[], [1, 3, 4, 55], [], 2⟩ (r2452)) fun c322 =>
 .say [.gd 12035 false] (ok1 c322) <|
 .ret ⟨[], [1, 3, 4, 55], [], 2⟩ (false)
def Q6_J20 (p_w : GWrite) (r269 : GIndex) (r320 : Bool) : Option (Bool) := Mo.den (Q6_J20_T p_w r269 r320)
def Q6_J20_S (p_w : GWrite) (r269 : GIndex) (r_ : Bool) : St := ⟨[(1, .ptr 0 0), (3, .lf (.int .i64 p_w.fKind)), (4, .ptr 1 0), (55, .lf (.bool r_))], [.box 53 (.dat (GWrite.lf1 p_w)), .box 49 (.dat (GIndex.lf1 r269))]⟩
theorem Q6_J20_W {p_w : GWrite} {r269 : GIndex} {r320 : Bool} {r_ : Bool} (h : Q6_J20 p_w r269 r320 = some r_) : AWoa_ Tryz.f24 0 [1, 1, 1, 1, 0] [35, 36, 37, 38, 39, 40, 41, 42, 43] (Q6_J20_S p_w r269 r_) ⟨[(1, .ptr 0 0), (3, .lf (.int .i64 p_w.fKind)), (4, .ptr 1 0), (46, .lf (.bool r320))], [.box 53 (.dat (GWrite.lf1 p_w)), .box 49 (.dat (GIndex.lf1 r269))]⟩ :=
 seg_T BaseK (Q6_J20_T p_w r269 r320) (Q6_J20_S p_w r269) (by kernel_rfl) h
def Q6_J25_T (p_w : GWrite) (r2455 : Bool) (r269 : GIndex) : Mo (Bool) :=
 .ite (r2455) (fun c2457 =>
 .say [.gd 12044 true] (ok1 c2457) <|
 .ite (p_w.fKind == 6) (fun c2458 =>
 .say [.gd 12047 true] (ok1 c2458) <|
 .ret ⟨[.kill 1], [1, 3, 63], [], 2⟩ (true)) fun c2458 =>
 .say [.gd 12047 false] (ok1 c2458) <|
 .ask (Q87 r269) fun r2467 h2468 =>
 .say [.res (.lf (.bool r2467))] (ok1 (Q87_ok _ _ h2468)) <|
 .ret ⟨[.kill 1], [1, 3, 63], [], 2⟩ (r2467)) fun c2457 =>
 .say [.gd 12044 false] (ok1 c2457) <|
 .ret ⟨[.kill 1], [1, 3, 63], [], 2⟩ (false)
def Q6_J25 (p_w : GWrite) (r2455 : Bool) (r269 : GIndex) : Option (Bool) := Mo.den (Q6_J25_T p_w r2455 r269)
def Q6_J25_S (p_w : GWrite) (r_ : Bool) : St := ⟨[(1, .ptr 0 0), (3, .lf (.int .i64 p_w.fKind)), (63, .lf (.bool r_))], [.box 53 (.dat (GWrite.lf1 p_w)), .dead]⟩
theorem Q6_J25_W {p_w : GWrite} {r2455 : Bool} {r269 : GIndex} {r_ : Bool} (h : Q6_J25 p_w r2455 r269 = some r_) : AWoa_ Tryz.f24 0 [1, 1, 1, 1, 0] [44, 45, 46, 47, 48, 49, 50, 51] (Q6_J25_S p_w r_) ⟨[(1, .ptr 0 0), (3, .lf (.int .i64 p_w.fKind)), (4, .ptr 1 0), (55, .lf (.bool r2455))], [.box 53 (.dat (GWrite.lf1 p_w)), .box 49 (.dat (GIndex.lf1 r269))]⟩ :=
 seg_T BaseK (Q6_J25_T p_w r2455 r269) (Q6_J25_S p_w) (by kernel_rfl) h
def Q6_J30_T (p_w : GWrite) (r2473 : Bool) : Mo (Bool) :=
 .ite (r2473) (fun c2475 =>
 .say [.gd 12052 true] (ok1 c2475) <|
 .ask (Q77 p_w.fKind) fun r2477 h2478 =>
 .say [.res (.lf (.bool r2477))] (ok1 (Q77_ok _ _ h2478)) <|
 .ite (r2477) (fun c2479 =>
 .say [.gd 12055 true] (ok1 c2479) <|
 .ret ⟨[], [1, 3, 72], [], 2⟩ (true)) fun c2479 =>
 .say [.gd 12055 false] (ok1 c2479) <|
 .ret ⟨[], [1, 3, 72], [], 2⟩ (decide ((p_w.fTxn : ByteArray) = (⟨#[]⟩ : ByteArray)))) fun c2475 =>
 .say [.gd 12052 false] (ok1 c2475) <|
 .ret ⟨[], [1, 3, 72], [], 2⟩ (false)
def Q6_J30 (p_w : GWrite) (r2473 : Bool) : Option (Bool) := Mo.den (Q6_J30_T p_w r2473)
def Q6_J30_S (p_w : GWrite) (r_ : Bool) : St := ⟨[(1, .ptr 0 0), (3, .lf (.int .i64 p_w.fKind)), (72, .lf (.bool r_))], [.box 53 (.dat (GWrite.lf1 p_w)), .dead]⟩
theorem Q6_J30_W {p_w : GWrite} {r2473 : Bool} {r_ : Bool} (h : Q6_J30 p_w r2473 = some r_) : AWoa_ Tryz.f24 0 [1, 1, 1, 1, 0] [52, 53, 54, 55, 56, 57, 58, 59, 60] (Q6_J30_S p_w r_) ⟨[(1, .ptr 0 0), (3, .lf (.int .i64 p_w.fKind)), (63, .lf (.bool r2473))], [.box 53 (.dat (GWrite.lf1 p_w)), .dead]⟩ :=
 seg_T BaseK (Q6_J30_T p_w r2473) (Q6_J30_S p_w) (by kernel_rfl) h
def Q6_J35_T (p_w : GWrite) (r2481 : Bool) : Mo (Bool) :=
 .ite (r2481) (fun c2483 =>
 .say [.gd 12061 true] (ok1 c2483) <|
 .ite (p_w.fKind == 10) (fun c2484 =>
 .say [.gd 12064 true] (ok1 c2484) <|
 .ret ⟨[], [1, 3, 85], [], 2⟩ (true)) fun c2484 =>
 .say [.gd 12064 false] (ok1 c2484) <|
 .ite (p_w.fKind == 12) (fun c2485 =>
 .say [.gd 12068 true] (ok1 c2485) <|
 .ret ⟨[], [1, 3, 85], [], 2⟩ (true)) fun c2485 =>
 .say [.gd 12068 false] (ok1 c2485) <|
 .ret ⟨[], [1, 3, 85], [], 2⟩ (p_w.fStamp == 0)) fun c2483 =>
 .say [.gd 12061 false] (ok1 c2483) <|
 .ret ⟨[], [1, 3, 85], [], 2⟩ (false)
def Q6_J35 (p_w : GWrite) (r2481 : Bool) : Option (Bool) := Mo.den (Q6_J35_T p_w r2481)
def Q6_J35_S (p_w : GWrite) (r_ : Bool) : St := ⟨[(1, .ptr 0 0), (3, .lf (.int .i64 p_w.fKind)), (85, .lf (.bool r_))], [.box 53 (.dat (GWrite.lf1 p_w)), .dead]⟩
theorem Q6_J35_W {p_w : GWrite} {r2481 : Bool} {r_ : Bool} (h : Q6_J35 p_w r2481 = some r_) : AWoa_ Tryz.f24 0 [1, 1, 1, 1, 0] [61, 62, 63, 64, 65, 66, 67, 68, 69, 70, 71, 72, 73] (Q6_J35_S p_w r_) ⟨[(1, .ptr 0 0), (3, .lf (.int .i64 p_w.fKind)), (72, .lf (.bool r2481))], [.box 53 (.dat (GWrite.lf1 p_w)), .dead]⟩ :=
 seg_T BaseK (Q6_J35_T p_w r2481) (Q6_J35_S p_w) (by kernel_rfl) h
def Q6_J40_T (p_w : GWrite) (r2487 : Bool) : Mo (Bool) :=
 .ite (r2487) (fun c2489 =>
 .say [.gd 12074 true] (ok1 c2489) <|
 .ask (Q86 p_w.fKind) fun r2491 h2492 =>
 .say [.res (.lf (.bool r2491))] (ok1 (Q86_ok _ _ h2492)) <|
 .ite (r2491) (fun c2493 =>
 .say [.gd 12077 true] (ok1 c2493) <|
 .ret ⟨[], [1, 3, 95], [], 2⟩ (true)) fun c2493 =>
 .say [.gd 12077 false, .num p_w.fWrites.length] (okc c2493 (okc (by simp : p_w.fWrites.length = (p_w.fWrites.map GWrite.lf).length) ok0)) <|
 .ret ⟨[], [1, 3, 95], [], 2⟩ ((p_w.fWrites.length : Int) == 0)) fun c2489 =>
 .say [.gd 12074 false] (ok1 c2489) <|
 .ret ⟨[], [1, 3, 95], [], 2⟩ (false)
def Q6_J40 (p_w : GWrite) (r2487 : Bool) : Option (Bool) := Mo.den (Q6_J40_T p_w r2487)
def Q6_J40_S (p_w : GWrite) (r_ : Bool) : St := ⟨[(1, .ptr 0 0), (3, .lf (.int .i64 p_w.fKind)), (95, .lf (.bool r_))], [.box 53 (.dat (GWrite.lf1 p_w)), .dead]⟩
theorem Q6_J40_W {p_w : GWrite} {r2487 : Bool} {r_ : Bool} (h : Q6_J40 p_w r2487 = some r_) : AWoa_ Tryz.f24 0 [1, 1, 1, 1, 0] [74, 75, 76, 77, 78, 79, 80, 81, 82, 83] (Q6_J40_S p_w r_) ⟨[(1, .ptr 0 0), (3, .lf (.int .i64 p_w.fKind)), (85, .lf (.bool r2487))], [.box 53 (.dat (GWrite.lf1 p_w)), .dead]⟩ :=
 seg_T BaseK (Q6_J40_T p_w r2487) (Q6_J40_S p_w) (by kernel_rfl) h
def Q6_J45_T (p_w : GWrite) (r2495 : Bool) : Mo (Bool) :=
 .ite (r2495) (fun c2497 =>
 .say [.gd 12084 true] (ok1 c2497) <|
 .ite (p_w.fKind == 12) (fun c2498 =>
 .say [.gd 12087 true] (ok1 c2498) <|
 .ret ⟨[.kill 0], [105], [], 2⟩ (true)) fun c2498 =>
 .say [.gd 12087 false, .num p_w.fShards.length] (okc c2498 (okc (by simp : p_w.fShards.length = (p_w.fShards.map lfI).length) ok0)) <|
 .ret ⟨[.kill 0], [105], [], 2⟩ ((p_w.fShards.length : Int) == 0)) fun c2497 =>
 .say [.gd 12084 false] (ok1 c2497) <|
 .ret ⟨[.kill 0], [105], [], 2⟩ (false)
def Q6_J45 (p_w : GWrite) (r2495 : Bool) : Option (Bool) := Mo.den (Q6_J45_T p_w r2495)
def Q6_J45_S  (r_ : Bool) : St := ⟨[(105, .lf (.bool r_))], [.dead, .dead]⟩
theorem Q6_J45_W {p_w : GWrite} {r2495 : Bool} {r_ : Bool} (h : Q6_J45 p_w r2495 = some r_) : AWoa_ Tryz.f24 0 [1, 1, 1, 1, 0] [84, 85, 86, 87, 88, 89, 90, 91, 92, 93] (Q6_J45_S r_) ⟨[(1, .ptr 0 0), (3, .lf (.int .i64 p_w.fKind)), (95, .lf (.bool r2495))], [.box 53 (.dat (GWrite.lf1 p_w)), .dead]⟩ :=
 seg_T BaseK (Q6_J45_T p_w r2495) Q6_J45_S (by kernel_rfl) h
def Q6_J50_T (r2503 : Bool) : Mo (Unit) :=
 .ret ⟨[], [2], [], 2⟩ ()
def Q6_J50 (r2503 : Bool) : Option (Unit) := Mo.den (Q6_J50_T r2503)
def Q6_J50_S (r2503 : Bool) (r_ : Unit) : St := ⟨[(2, .lf (.bool r2503))], [.dead, .dead]⟩
theorem Q6_J50_W {r2503 : Bool} {r_ : Unit} (h : Q6_J50 r2503 = some r_) : AWoa_ Tryz.f24 0 [1, 1, 1, 1, 0] [94] (Q6_J50_S r2503 r_) ⟨[(105, .lf (.bool r2503))], [.dead, .dead]⟩ :=
 seg_T BaseK (Q6_J50_T r2503) (Q6_J50_S r2503) (by kernel_rfl) h
def Q6_T (p_w : GWrite) : Mo (Bool) :=
 .ask (Q6_J0 p_w) fun r269 h270 =>
 .say [.pt_ 1 [1, 3, 4, 10] 2 (.normal) (Q6_J0_S p_w r269)] (ok1 (Q6_J0_W h270)) <|
 .ask (Q6_J5 p_w r269) fun r279 h280 =>
 .say [.sg_ 5 7 [1, 3, 4] 2 (Q6_J5_S p_w r269 r279)] (ok1 (Q6_J5_W h280)) <|
 .ask (Q6_J10 p_w r269 r279) fun r313 h314 =>
 .say [.sg_ 5 19 [1, 3, 4, 18] 2 (Q6_J10_S p_w r269 r313)] (ok1 (Q6_J10_W h314)) <|
 .ask (Q6_J15 p_w r269 r313) fun r320 h321 =>
 .say [.sg_ 5 9 [1, 3, 4, 37] 2 (Q6_J15_S p_w r269 r320)] (ok1 (Q6_J15_W h321)) <|
 .ask (Q6_J20 p_w r269 r320) fun r2455 h2456 =>
 .say [.sg_ 5 9 [1, 3, 4, 46] 2 (Q6_J20_S p_w r269 r2455)] (ok1 (Q6_J20_W h2456)) <|
 .ask (Q6_J25 p_w r2455 r269) fun r2473 h2474 =>
 .say [.sg_ 5 8 [1, 3, 4, 55] 2 (Q6_J25_S p_w r2473)] (ok1 (Q6_J25_W h2474)) <|
 .ask (Q6_J30 p_w r2473) fun r2481 h2482 =>
 .say [.sg_ 5 9 [1, 3, 63] 2 (Q6_J30_S p_w r2481)] (ok1 (Q6_J30_W h2482)) <|
 .ask (Q6_J35 p_w r2481) fun r2487 h2488 =>
 .say [.sg_ 5 13 [1, 3, 72] 2 (Q6_J35_S p_w r2487)] (ok1 (Q6_J35_W h2488)) <|
 .ask (Q6_J40 p_w r2487) fun r2495 h2496 =>
 .say [.sg_ 5 10 [1, 3, 85] 2 (Q6_J40_S p_w r2495)] (ok1 (Q6_J40_W h2496)) <|
 .ask (Q6_J45 p_w r2495) fun r2503 h2504 =>
 .say [.sg_ 5 10 [1, 3, 95] 2 (Q6_J45_S r2503)] (ok1 (Q6_J45_W h2504)) <|
 .ask (Q6_J50 r2503) fun r2505 h2506 =>
 .say [.sg_ 5 1 [105] 2 (Q6_J50_S r2503 r2505)] (ok1 (Q6_J50_W h2506)) <|
 .ret (fitN 1) (r2503)
def Q6 (p_w : GWrite) : Option (Bool) := Mo.den (Q6_T p_w)
theorem Q6_ok (p_w : GWrite) (r : Bool) (h : Q6 p_w = some r) : Fn Tryz.prog GI 24 [.dat (GWrite.lf1 p_w)] (.lf (.bool r)) :=
 fn_T BaseK Tryz.func24 (by kernel_rfl) (by kernel_rfl) (by kernel_rfl) (Q6_T p_w) (fun r => [.lf (.bool r)]) (by kernel_rfl) h
end
end Go.Proofs.YtplokbmdcfakbaaGreatDoor
