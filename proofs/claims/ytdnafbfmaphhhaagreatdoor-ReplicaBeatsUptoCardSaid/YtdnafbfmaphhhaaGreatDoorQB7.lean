/- Printed by dec.py. -/
import Derived.Test.YtdnafbfmaphhhaaGreatDoorQB6
set_option linter.unusedSimpArgs false
set_option linter.unusedVariables false
namespace Go.Proofs.YtdnafbfmaphhhaaGreatDoor
open Go.RowKit
set_option maxRecDepth 20000
set_option maxHeartbeats 4000000
noncomputable section
def Q111_T (p_d : GSpace) : Mo (GSpace) :=
 .ask (Q48 p_d.fIndexes) fun r1874 h1875 =>
 .say [.resH [] (.own 0) [.row 49 31 (r1874.map GIndex.lf)]] (ok1 (Q48_ok _ _ h1875)) <|
 .ask (Q89 p_d.fSchema) fun r2014 h2015 =>
 .say [.res (.dat (GSchema.lf1 r2014)), .at_ 0 0, .frz 2] (ok1 (Q89_ok _ _ h2015)) <|
 .ret (fitN 1) (GSpace.mk p_d.fName r1874 r2014 p_d.fLevel p_d.fAction)
def Q111 (p_d : GSpace) : Option (GSpace) := Mo.den (Q111_T p_d)
theorem Q111_ok (p_d : GSpace) (r : GSpace) (h : Q111 p_d = some r) : Fn Tryz.prog GI 187 [.dat (GSpace.lf1 p_d)] (.dat (GSpace.lf1 r)) :=
 fn_T BaseK Tryz.func187 (by kernel_rfl) (by kernel_rfl) (by kernel_rfl) (Q111_T p_d) (fun r => [.dat (GSpace.lf1 r)]) (by kernel_rfl) h
def Q85_T (p_l : List Int) : Mo (List Int) :=
 .say [.rows (p_l.map lfI)] (okc (by simp [lfI, lfK] : p_l.map lfI = [] ++ (p_l.map lfI)) ok0) <|
 .grd ((([] : List Int).length + p_l.length) * 8 ≤ 140737488355328) fun h2028 =>
 .say [] (okc (by simpa using h2028 : (([] : List (List Lf)).length + (p_l.map lfI).length) * 8 ≤ 140737488355328) ok0) <|
 .ret ⟨[.mvn 0], [0], [(1, 0)], 1⟩ (p_l)
def Q85 (p_l : List Int) : Option (List Int) := Mo.den (Q85_T p_l)
theorem Q85_ok (p_l : List Int) (r : List Int) (h : Q85 p_l = some r) : FnH Tryz.prog GI 138 [.lf (.rows 1 (p_l.map lfI))] [] (.own 0) [.row 3 1 (r.map lfI)] :=
 fn_TH BaseK Tryz.func138 (by kernel_rfl) (by kernel_rfl) (by kernel_rfl) (Q85_T p_l) (fun r => [.own 0]) (fun r => [.row 3 1 (r.map lfI)]) (by kernel_rfl) h
structure RB6 where
 m1 : (p_w : GWrite) → Option (GWrite)
 ok1 : ∀ (p_w : GWrite) (r : GWrite), m1 p_w = some r → Fn Tryz.prog GI 137 [.dat (GWrite.lf1 p_w)] (.dat (GWrite.lf1 r))
 m2 : (p_l : List GWrite) → Option (List GWrite)
 ok2 : ∀ (p_l : List GWrite) (r : List GWrite), m2 p_l = some r → FnH Tryz.prog GI 189 [.lf (.rows 78 (p_l.map GWrite.lf)), .raw (.func (.func 137) #[] #[])] [] (.lf (.rows 78 (r.map GWrite.lf))) []
def Q94_T (R_ : RB6) (p_w : GWrite) : Mo (GWrite) :=
 .ask (Q73 p_w.fKey) fun r1591 h1592 =>
 .say [.res (.dat (GValue.lf1 r1591))] (ok1 (Q73_ok _ _ h1592)) <|
 .ask (Q73 p_w.fDoc) fun r1595 h1596 =>
 .say [.res (.dat (GValue.lf1 r1595))] (ok1 (Q73_ok _ _ h1596)) <|
 .ask (Q73 p_w.fBefore) fun r1599 h1600 =>
 .say [.res (.dat (GValue.lf1 r1599))] (ok1 (Q73_ok _ _ h1600)) <|
 .ask (Q111 p_w.fDef) fun r2018 h2019 =>
 .say [.res (.dat (GSpace.lf1 r2018))] (ok1 (Q111_ok _ _ h2019)) <|
 .ask (Q88 p_w.fIndex) fun r2022 h2023 =>
 .say [.res (.dat (GIndex.lf1 r2022))] (ok1 (Q88_ok _ _ h2023)) <|
 .ask (R_.m2 p_w.fWrites) fun r2026 h2027 =>
 .say [.resH [] (.lf (.rows 78 (r2026.map GWrite.lf))) []] (ok1 (R_.ok2 _ _ h2027)) <|
 .ask (Q85 p_w.fShards) fun r2031 h2032 =>
 .say [.resH [] (.own 0) [.row 3 1 (r2031.map lfI)], .at_ 0 0, .frz 2] (ok1 (Q85_ok _ _ h2032)) <|
 .ret (fitN 1) (GWrite.mk p_w.fKind p_w.fSpace r1591 r1595 r1599 r2018 r2022 p_w.fTxn p_w.fStamp r2026 r2031 p_w.fSilent)
theorem Q94_okT (R_ : RB6) (p_w : GWrite) (r : GWrite) (h : Mo.den (Q94_T R_ p_w) = some r) : Fn Tryz.prog GI 137 [.dat (GWrite.lf1 p_w)] (.dat (GWrite.lf1 r)) :=
 fn_T BaseK Tryz.func137 (by kernel_rfl) (by kernel_rfl) (by kernel_rfl) (Q94_T R_ p_w) (fun r => [.dat (GWrite.lf1 r)]) (by kernel_rfl) h
def Q59_L0_T (R_ : RB6) (p_l : List GWrite) : (Int × (List GWrite)) → Mo ((Int × (List GWrite)) ⊕ ((List GWrite))) := fun (v2076, l2077) =>
 .ite (decide ((v2076 : Int) < (p_l.length : Int))) (fun c2078 =>
 .say [.br true] (ok1 c2078) <|
 .ask (gidx p_l v2076) fun x2079 h2080 =>
 .say [.row (GWrite.lf1 x2079)] (okc (gidx_ok GWrite.lf_eq h2080 : (0 : Int) ≤ v2076 ∧ (p_l.map GWrite.lf)[v2076.toNat]? = some (GWrite.lf1 x2079)) ok0) <|
 .ask (R_.m1 x2079) fun r2081 h2082 =>
 .say [.res (.dat (GWrite.lf1 r2081))] (ok1 (R_.ok1 _ _ h2082)) <|
 .ask (gidx l2077 v2076) fun x2083 h2084 =>
 .say [.row (GWrite.lf1 x2083), .rows ((l2077.set v2076.toNat r2081).map GWrite.lf)] (okc (gidx_lt GWrite.lf_eq h2084 : (0 : Int) ≤ v2076 ∧ v2076.toNat < (l2077.map GWrite.lf).length) (okc (by simp [GWrite.lf_eq] : (l2077.set v2076.toNat r2081).map GWrite.lf = (l2077.map GWrite.lf).set v2076.toNat (GWrite.lf1 r2081)) (okc ((gidx_ok GWrite.lf_eq h2084).2 : (l2077.map GWrite.lf)[v2076.toNat]? = some (GWrite.lf1 x2083)) ok0))) <|
 .ret ⟨[], [1, 5, 14, 15, 16], [], 1⟩ (.inl (IntKind.wrap .i64 (v2076 + 1), l2077.set v2076.toNat r2081))) fun c2078 =>
 .say [.br false] (ok1 c2078) <|
 .ret ⟨[], [5], [], 1⟩ (.inr (l2077))
def Q59_L0 (R_ : RB6) (p_l : List GWrite) (v2076 : Int) (l2077 : List GWrite) : Option (((List GWrite))) := loopM (fun v_ => (Q59_L0_T R_ p_l v_).den) FU (v2076, l2077)
def Q59_L0_H (R_ : RB6) (p_l : List GWrite) : (Int × (List GWrite)) → St := fun (v2076, l2077) => ⟨[(1, .raw (.func (.func 137) #[] #[])), (5, .own 0), (14, .lf (.rows 78 (p_l.map GWrite.lf))), (15, .lf (.int .i64 (p_l.length : Int))), (16, .lf (.int .i64 v2076))], [.row 52 78 (l2077.map GWrite.lf)]⟩
def Q59_L0_S  (r_ : ((List GWrite))) : St := ⟨[(5, .own 0)], [.row 52 78 (r_.map GWrite.lf)]⟩
theorem Q59_L0_W {R_ : RB6} {p_l : List GWrite} {v2076 : Int} {l2077 : List GWrite} {r_ : ((List GWrite))} (h : Q59_L0 R_ p_l v2076 l2077 = some r_) : AWa_ Tryz.f189 0 [1, 1, 1, 0, 1, 0] (.exit 0) (Q59_L0_S r_) (Q59_L0_H R_ p_l (v2076, l2077)) :=
 loop_T BaseK (body := (Code.sub (bodyC Tryz.f189) [1, 1, 1, 0, 1, 0, 0])) (by kernel_rfl) (Q59_L0_T R_ p_l) (Q59_L0_H R_ p_l) (fun _ => .exit 0) Q59_L0_S (fun r_ => rfl) (fun v_ => by kernel_rfl) h
def Q59_T (R_ : RB6) (p_l : List GWrite) : Mo (List GWrite) :=
 .say [.num p_l.length] (okc (by simp : p_l.length = (p_l.map GWrite.lf).length) ok0) <|
 .ite ((p_l.length : Int) == 0) (fun c2034 =>
 .say [.br true] (ok1 c2034) <|
 .ret ⟨[.nil 0 78, .tod 0], [0], [], 0⟩ ([])) fun c2034 =>
 .say [.br false, .num p_l.length, .rows ((List.replicate (p_l.length : Int).toNat GWrite.z).map GWrite.lf), .num p_l.length] (okc c2034 (okc (by simp : p_l.length = (p_l.map GWrite.lf).length) (okc (by simp [GWrite.lf_eq] : (List.replicate (p_l.length : Int).toNat GWrite.z).map GWrite.lf = List.replicate (p_l.length : Int).toNat (GWrite.lf1 GWrite.z)) ok0))) <|
 .grd ((0 : Int) ≤ (p_l.length : Int) ∧ 1168 * (p_l.length : Int).toNat ≤ 281474976710656 ∧ (p_l.length : Int).toNat ≤ maxLen) fun h2036 =>
 .say [] (okc (⟨rfl, h2036⟩ : ((p_l.length : Int) : Int) = (p_l.length : Int) ∧ (0 : Int) ≤ (p_l.length : Int) ∧ 1168 * (p_l.length : Int).toNat ≤ 281474976710656 ∧ (p_l.length : Int).toNat ≤ maxLen) (okc (by simp : p_l.length = (p_l.map GWrite.lf).length) ok0)) <|
 .ask (Q59_L0 R_ p_l 0 (List.replicate (p_l.length : Int).toNat GWrite.z)) fun r2086 h2087 =>
 .say [.pt_ 0 [1, 5, 14, 15, 16] 1 (.exit 0) (Q59_L0_S r2086)] (ok1 (Q59_L0_W h2087)) <|
 .ret ⟨[.frz 0], [0], [], 0⟩ (r2086)
theorem Q59_okT (R_ : RB6) (p_l : List GWrite) (r : List GWrite) (h : Mo.den (Q59_T R_ p_l) = some r) : FnH Tryz.prog GI 189 [.lf (.rows 78 (p_l.map GWrite.lf)), .raw (.func (.func 137) #[] #[])] [] (.lf (.rows 78 (r.map GWrite.lf))) [] :=
 fn_TH BaseK Tryz.func189 (by kernel_rfl) (by kernel_rfl) (by kernel_rfl) (Q59_T R_ p_l) (fun r => [.lf (.rows 78 (r.map GWrite.lf))]) (fun r => []) (by kernel_rfl) h
def RB6_F : Nat → RB6
 | 0 => { m1 := fun p_w => none, ok1 := fun _ _ h => (by cases h), m2 := fun p_l => none, ok2 := fun _ _ h => (by cases h) }
 | n_ + 1 => { m1 := fun p_w => Mo.den (Q94_T (RB6_F n_) p_w), ok1 := fun p_w r h => Q94_okT (RB6_F n_) p_w r h, m2 := fun p_l => Mo.den (Q59_T (RB6_F n_) p_l), ok2 := fun p_l r h => Q59_okT (RB6_F n_) p_l r h }
def Q94 (p_w : GWrite) : Option (GWrite) := (RB6_F FU).m1 p_w
theorem Q94_ok (p_w : GWrite) (r : GWrite) (h : Q94 p_w = some r) : Fn Tryz.prog GI 137 [.dat (GWrite.lf1 p_w)] (.dat (GWrite.lf1 r)) := (RB6_F FU).ok1 p_w r h
def Q106_T (p_e : GEntry) : Mo (GEntry) :=
 .ask (Q94 p_e.fWrite) fun r2090 h2091 =>
 .say [.res (.dat (GWrite.lf1 r2090))] (ok1 (Q94_ok _ _ h2091)) <|
 .ret (fitN 1) (GEntry.mk p_e.fTerm p_e.fStamp p_e.fSession p_e.fNumber r2090)
def Q106 (p_e : GEntry) : Option (GEntry) := Mo.den (Q106_T p_e)
theorem Q106_ok (p_e : GEntry) (r : GEntry) (h : Q106 p_e = some r) : Fn Tryz.prog GI 102 [.dat (GEntry.lf1 p_e)] (.dat (GEntry.lf1 r)) :=
 fn_T BaseK Tryz.func102 (by kernel_rfl) (by kernel_rfl) (by kernel_rfl) (Q106_T p_e) (fun r => [.dat (GEntry.lf1 r)]) (by kernel_rfl) h
def Q36_L0_T (p_l : List GEntry) : (Int × (List GEntry)) → Mo ((Int × (List GEntry)) ⊕ ((List GEntry))) := fun (v2125, l2126) =>
 .ite (decide ((v2125 : Int) < (p_l.length : Int))) (fun c2127 =>
 .say [.br true] (ok1 c2127) <|
 .ask (gidx p_l v2125) fun x2128 h2129 =>
 .say [.row (GEntry.lf1 x2128)] (okc (gidx_ok GEntry.lf_eq h2129 : (0 : Int) ≤ v2125 ∧ (p_l.map GEntry.lf)[v2125.toNat]? = some (GEntry.lf1 x2128)) ok0) <|
 .ask (Q106 x2128) fun r2130 h2131 =>
 .say [.res (.dat (GEntry.lf1 r2130))] (ok1 (Q106_ok _ _ h2131)) <|
 .ask (gidx l2126 v2125) fun x2132 h2133 =>
 .say [.row (GEntry.lf1 x2132), .rows ((l2126.set v2125.toNat r2130).map GEntry.lf)] (okc (gidx_lt GEntry.lf_eq h2133 : (0 : Int) ≤ v2125 ∧ v2125.toNat < (l2126.map GEntry.lf).length) (okc (by simp [GEntry.lf_eq] : (l2126.set v2125.toNat r2130).map GEntry.lf = (l2126.map GEntry.lf).set v2125.toNat (GEntry.lf1 r2130)) (okc ((gidx_ok GEntry.lf_eq h2133).2 : (l2126.map GEntry.lf)[v2125.toNat]? = some (GEntry.lf1 x2132)) ok0))) <|
 .ret ⟨[], [1, 5, 14, 15, 16], [], 1⟩ (.inl (IntKind.wrap .i64 (v2125 + 1), l2126.set v2125.toNat r2130))) fun c2127 =>
 .say [.br false] (ok1 c2127) <|
 .ret ⟨[], [5], [], 1⟩ (.inr (l2126))
def Q36_L0 (p_l : List GEntry) (v2125 : Int) (l2126 : List GEntry) : Option (((List GEntry))) := loopM (fun v_ => (Q36_L0_T p_l v_).den) FU (v2125, l2126)
def Q36_L0_H (p_l : List GEntry) : (Int × (List GEntry)) → St := fun (v2125, l2126) => ⟨[(1, .raw (.func (.func 102) #[] #[])), (5, .own 0), (14, .lf (.rows 82 (p_l.map GEntry.lf))), (15, .lf (.int .i64 (p_l.length : Int))), (16, .lf (.int .i64 v2125))], [.row 54 82 (l2126.map GEntry.lf)]⟩
def Q36_L0_S  (r_ : ((List GEntry))) : St := ⟨[(5, .own 0)], [.row 54 82 (r_.map GEntry.lf)]⟩
theorem Q36_L0_W {p_l : List GEntry} {v2125 : Int} {l2126 : List GEntry} {r_ : ((List GEntry))} (h : Q36_L0 p_l v2125 l2126 = some r_) : AWa_ Tryz.f101 0 [1, 1, 1, 0, 1, 0] (.exit 0) (Q36_L0_S r_) (Q36_L0_H p_l (v2125, l2126)) :=
 loop_T BaseK (body := (Code.sub (bodyC Tryz.f101) [1, 1, 1, 0, 1, 0, 0])) (by kernel_rfl) (Q36_L0_T p_l) (Q36_L0_H p_l) (fun _ => .exit 0) Q36_L0_S (fun r_ => rfl) (fun v_ => by kernel_rfl) h
def Q36_T (p_l : List GEntry) : Mo (List GEntry) :=
 .say [.num p_l.length] (okc (by simp : p_l.length = (p_l.map GEntry.lf).length) ok0) <|
 .ite ((p_l.length : Int) == 0) (fun c1460 =>
 .say [.br true] (okc c1460 (okc (by simp [GEntry.lf_eq] : (([] : List GEntry).map GEntry.lf) = []) ok0)) <|
 .ret ⟨[.nrow 0 54 82, .rerow 0 (([] : List GEntry).map GEntry.lf), .mvn 0], [0], [(1, 0)], 1⟩ (([] : List GEntry))) fun c1460 =>
 .say [.br false, .num p_l.length, .rows ((List.replicate (p_l.length : Int).toNat (GEntry.mk 0 0 ⟨#[]⟩ 0 GWrite.z)).map GEntry.lf), .num p_l.length] (okc c1460 (okc (by simp : p_l.length = (p_l.map GEntry.lf).length) (okc (by simp [GEntry.lf_eq] : (List.replicate (p_l.length : Int).toNat (GEntry.mk 0 0 ⟨#[]⟩ 0 GWrite.z)).map GEntry.lf = List.replicate (p_l.length : Int).toNat (GEntry.lf1 (GEntry.mk 0 0 ⟨#[]⟩ 0 GWrite.z))) ok0))) <|
 .grd ((0 : Int) ≤ (p_l.length : Int) ∧ 1208 * (p_l.length : Int).toNat ≤ 281474976710656 ∧ (p_l.length : Int).toNat ≤ maxLen) fun h1462 =>
 .say [] (okc (⟨rfl, h1462⟩ : ((p_l.length : Int) : Int) = (p_l.length : Int) ∧ (0 : Int) ≤ (p_l.length : Int) ∧ 1208 * (p_l.length : Int).toNat ≤ 281474976710656 ∧ (p_l.length : Int).toNat ≤ maxLen) (okc (by simp : p_l.length = (p_l.map GEntry.lf).length) ok0)) <|
 .ask (Q36_L0 p_l 0 (List.replicate (p_l.length : Int).toNat (GEntry.mk 0 0 ⟨#[]⟩ 0 GWrite.z))) fun r2135 h2136 =>
 .say [.pt_ 0 [1, 5, 14, 15, 16] 1 (.exit 0) (Q36_L0_S r2135)] (ok1 (Q36_L0_W h2136)) <|
 .ret ⟨[.mvn 0], [0], [(1, 0)], 1⟩ (r2135)
def Q36 (p_l : List GEntry) : Option (List GEntry) := Mo.den (Q36_T p_l)
theorem Q36_ok (p_l : List GEntry) (r : List GEntry) (h : Q36 p_l = some r) : FnH Tryz.prog GI 101 [.lf (.rows 82 (p_l.map GEntry.lf)), .raw (.func (.func 102) #[] #[])] [] (.own 0) [.row 54 82 (r.map GEntry.lf)] :=
 fn_TH BaseK Tryz.func101 (by kernel_rfl) (by kernel_rfl) (by kernel_rfl) (Q36_T p_l) (fun r => [.own 0]) (fun r => [.row 54 82 (r.map GEntry.lf)]) (by kernel_rfl) h
def Q101_T (p_m : GMember) : Mo (GMember) :=
 .ask (Q36 p_m.fLog) fun r2146 h2147 =>
 .say [.resH [] (.own 0) [.row 54 82 (r2146.map GEntry.lf)]] (ok1 (Q36_ok _ _ h2147)) <|
 .ask (Q85 p_m.fNext) fun r2150 h2151 =>
 .say [.resH [] (.own 0) [.row 3 1 (r2150.map lfI)]] (ok1 (Q85_ok _ _ h2151)) <|
 .ask (Q85 p_m.fMatch) fun r2154 h2155 =>
 .say [.resH [] (.own 0) [.row 3 1 (r2154.map lfI)]] (ok1 (Q85_ok _ _ h2155)) <|
 .ret ⟨[.kill 0, .kill 1, .mvn 2, .mvn 3, .mvn 4], [0], [(5, 0), (6, 1), (7, 2)], 3⟩ (GMember.sMatch (GMember.sNext (GMember.sLog p_m r2146) r2150) r2154)
def Q101 (p_m : GMember) : Option (GMember) := Mo.den (Q101_T p_m)
theorem Q101_ok (p_m : GMember) (r : GMember) (h : Q101 p_m = some r) : FnH Tryz.prog GI 103 [.dat (GMember.lf1 p_m)] [] (aggS (.agg ((GMember.lf1 r).map AV.lf)) [(8, .own 0), (10, .own 1), (11, .own 2)]) [.row 54 82 (r.fLog.map GEntry.lf), .row 3 1 (r.fNext.map lfI), .row 3 1 (r.fMatch.map lfI)] :=
 fn_TH BaseK Tryz.func103 (by kernel_rfl) (by kernel_rfl) (by kernel_rfl) (Q101_T p_m) (fun r => [aggS (.agg ((GMember.lf1 r).map AV.lf)) [(8, .own 0), (10, .own 1), (11, .own 2)]]) (fun r => [.row 54 82 (r.fLog.map GEntry.lf), .row 3 1 (r.fNext.map lfI), .row 3 1 (r.fMatch.map lfI)]) (by kernel_rfl) h
def Q116_T (p_m : GMember) (p_at : Int) : Mo (GMember × GReport) :=
 .say [.num p_m.fLog.length] (okc (by simp : p_m.fLog.length = (p_m.fLog.map GEntry.lf).length) (okc (slice_drop _ _ _ : (p_m.fLog.drop (if (p_m.fLog.length : Int) < (if 0 > (if p_m.fCommit > p_at then p_m.fCommit else p_at) then 0 else (if p_m.fCommit > p_at then p_m.fCommit else p_at)) then (p_m.fLog.length : Int) else (if 0 > (if p_m.fCommit > p_at then p_m.fCommit else p_at) then 0 else (if p_m.fCommit > p_at then p_m.fCommit else p_at))).toNat).map GEntry.lf = ((p_m.fLog.map GEntry.lf).take ((p_m.fLog.map GEntry.lf).length : Int).toNat).drop (if (p_m.fLog.length : Int) < (if 0 > (if p_m.fCommit > p_at then p_m.fCommit else p_at) then 0 else (if p_m.fCommit > p_at then p_m.fCommit else p_at)) then (p_m.fLog.length : Int) else (if 0 > (if p_m.fCommit > p_at then p_m.fCommit else p_at) then 0 else (if p_m.fCommit > p_at then p_m.fCommit else p_at))).toNat) ok0)) <|
 .grd ((0 : Int) ≤ (if (p_m.fLog.length : Int) < (if 0 > (if p_m.fCommit > p_at then p_m.fCommit else p_at) then 0 else (if p_m.fCommit > p_at then p_m.fCommit else p_at)) then (p_m.fLog.length : Int) else (if 0 > (if p_m.fCommit > p_at then p_m.fCommit else p_at) then 0 else (if p_m.fCommit > p_at then p_m.fCommit else p_at))) ∧ (if (p_m.fLog.length : Int) < (if 0 > (if p_m.fCommit > p_at then p_m.fCommit else p_at) then 0 else (if p_m.fCommit > p_at then p_m.fCommit else p_at)) then (p_m.fLog.length : Int) else (if 0 > (if p_m.fCommit > p_at then p_m.fCommit else p_at) then 0 else (if p_m.fCommit > p_at then p_m.fCommit else p_at))) ≤ (p_m.fLog.length : Int) ∧ (p_m.fLog.length : Int) ≤ (p_m.fLog.length : Int)) fun h2139 =>
 .say [] (okc (slice_g _ _ h2139 : (0 : Int) ≤ (if (p_m.fLog.length : Int) < (if 0 > (if p_m.fCommit > p_at then p_m.fCommit else p_at) then 0 else (if p_m.fCommit > p_at then p_m.fCommit else p_at)) then (p_m.fLog.length : Int) else (if 0 > (if p_m.fCommit > p_at then p_m.fCommit else p_at) then 0 else (if p_m.fCommit > p_at then p_m.fCommit else p_at))) ∧ (if (p_m.fLog.length : Int) < (if 0 > (if p_m.fCommit > p_at then p_m.fCommit else p_at) then 0 else (if p_m.fCommit > p_at then p_m.fCommit else p_at)) then (p_m.fLog.length : Int) else (if 0 > (if p_m.fCommit > p_at then p_m.fCommit else p_at) then 0 else (if p_m.fCommit > p_at then p_m.fCommit else p_at))) ≤ ((p_m.fLog.map GEntry.lf).length : Int) ∧ ((p_m.fLog.map GEntry.lf).length : Int) ≤ ((p_m.fLog.map GEntry.lf).length : Int)) ok0) <|
 .ask (Q36 (p_m.fLog.drop (if (p_m.fLog.length : Int) < (if 0 > (if p_m.fCommit > p_at then p_m.fCommit else p_at) then 0 else (if p_m.fCommit > p_at then p_m.fCommit else p_at)) then (p_m.fLog.length : Int) else (if 0 > (if p_m.fCommit > p_at then p_m.fCommit else p_at) then 0 else (if p_m.fCommit > p_at then p_m.fCommit else p_at))).toNat)) fun r2140 h2141 =>
 .say [.orderT (.q 0 (.q 1 (.q 2 (.q 3 (.q 4 (.q 5 (.q 6 (.q 7 (.q 8 (.alt 9 (.q 10 (.l 11 (.l 12 .fin))) (.l 11 (.l 9 (.q 10 (.l 12 .fin)))))))))))))) (some 12) [3] [.rows ((p_m.fLog.drop (if (p_m.fLog.length : Int) < (if 0 > (if p_m.fCommit > p_at then p_m.fCommit else p_at) then 0 else (if p_m.fCommit > p_at then p_m.fCommit else p_at)) then (p_m.fLog.length : Int) else (if 0 > (if p_m.fCommit > p_at then p_m.fCommit else p_at) then 0 else (if p_m.fCommit > p_at then p_m.fCommit else p_at))).toNat).map GEntry.lf), .both [.at_ 6 9, .resv 1, .resH [] (.own 0) [.row 54 82 (r2140.map GEntry.lf)], .slot 3] [.at_ 6 11, .resv 1, .slot 3, .resH [] (.own 0) [.row 54 82 (r2140.map GEntry.lf)]]] [2, 4, 5, 6, 7] 5 [(2, .ptr 0 0), (4, .ptr 1 0), (5, .ptr 2 0), (6, .lf (.int .i64 (if (p_m.fLog.length : Int) < (if 0 > (if p_m.fCommit > p_at then p_m.fCommit else p_at) then 0 else (if p_m.fCommit > p_at then p_m.fCommit else p_at)) then (p_m.fLog.length : Int) else (if 0 > (if p_m.fCommit > p_at then p_m.fCommit else p_at) then 0 else (if p_m.fCommit > p_at then p_m.fCommit else p_at))))), (7, .ptr 3 0)] [.box 25 (.dat (GMember.lf1 p_m)), .box 25 (Z25), .box 67 (.agg [.lf (.int .i64 0), .lf (.int .i64 0), .lf (.int .i64 0), .nils 82]), .box 67 (.agg [.lf (.int .i64 p_m.fID), .lf (.int .i64 p_m.fTerm), .lf (.int .i64 (if (p_m.fLog.length : Int) < (if 0 > (if p_m.fCommit > p_at then p_m.fCommit else p_at) then 0 else (if p_m.fCommit > p_at then p_m.fCommit else p_at)) then (p_m.fLog.length : Int) else (if 0 > (if p_m.fCommit > p_at then p_m.fCommit else p_at) then 0 else (if p_m.fCommit > p_at then p_m.fCommit else p_at)))), .own 4]), .row 54 82 (r2140.map GEntry.lf)], .rows ((p_m.fLog.take (if (p_m.fLog.length : Int) < (if 0 > (if p_m.fCommit > p_at then p_m.fCommit else p_at) then 0 else (if p_m.fCommit > p_at then p_m.fCommit else p_at)) then (p_m.fLog.length : Int) else (if 0 > (if p_m.fCommit > p_at then p_m.fCommit else p_at) then 0 else (if p_m.fCommit > p_at then p_m.fCommit else p_at))).toNat).map GEntry.lf)] (okc (Q36_ok _ _ h2141) (okc (rfl : (some ⟨[(2, .ptr 0 0), (4, .ptr 1 0), (5, .ptr 2 0), (6, .lf (.int .i64 (if (p_m.fLog.length : Int) < (if 0 > (if p_m.fCommit > p_at then p_m.fCommit else p_at) then 0 else (if p_m.fCommit > p_at then p_m.fCommit else p_at)) then (p_m.fLog.length : Int) else (if 0 > (if p_m.fCommit > p_at then p_m.fCommit else p_at) then 0 else (if p_m.fCommit > p_at then p_m.fCommit else p_at))))), (7, .ptr 3 0)], [.box 25 (.dat (GMember.lf1 p_m)), .box 25 (Z25), .box 67 (.agg [.lf (.int .i64 0), .lf (.int .i64 0), .lf (.int .i64 0), .nils 82]), .box 67 (.agg [.lf (.int .i64 p_m.fID), .lf (.int .i64 p_m.fTerm), .lf (.int .i64 (if (p_m.fLog.length : Int) < (if 0 > (if p_m.fCommit > p_at then p_m.fCommit else p_at) then 0 else (if p_m.fCommit > p_at then p_m.fCommit else p_at)) then (p_m.fLog.length : Int) else (if 0 > (if p_m.fCommit > p_at then p_m.fCommit else p_at) then 0 else (if p_m.fCommit > p_at then p_m.fCommit else p_at)))), .own 4]), .row 54 82 (r2140.map GEntry.lf)]⟩ : Option St) = some ⟨[(2, .ptr 0 0), (4, .ptr 1 0), (5, .ptr 2 0), (6, .lf (.int .i64 (if (p_m.fLog.length : Int) < (if 0 > (if p_m.fCommit > p_at then p_m.fCommit else p_at) then 0 else (if p_m.fCommit > p_at then p_m.fCommit else p_at)) then (p_m.fLog.length : Int) else (if 0 > (if p_m.fCommit > p_at then p_m.fCommit else p_at) then 0 else (if p_m.fCommit > p_at then p_m.fCommit else p_at))))), (7, .ptr 3 0)], [.box 25 (.dat (GMember.lf1 p_m)), .box 25 (Z25), .box 67 (.agg [.lf (.int .i64 0), .lf (.int .i64 0), .lf (.int .i64 0), .nils 82]), .box 67 (.agg [.lf (.int .i64 p_m.fID), .lf (.int .i64 p_m.fTerm), .lf (.int .i64 (if (p_m.fLog.length : Int) < (if 0 > (if p_m.fCommit > p_at then p_m.fCommit else p_at) then 0 else (if p_m.fCommit > p_at then p_m.fCommit else p_at)) then (p_m.fLog.length : Int) else (if 0 > (if p_m.fCommit > p_at then p_m.fCommit else p_at) then 0 else (if p_m.fCommit > p_at then p_m.fCommit else p_at)))), .own 4]), .row 54 82 (r2140.map GEntry.lf)]⟩) (okc (Q36_ok _ _ h2141) (okc (rfl : (some ⟨[(2, .ptr 0 0), (4, .ptr 1 0), (5, .ptr 2 0), (6, .lf (.int .i64 (if (p_m.fLog.length : Int) < (if 0 > (if p_m.fCommit > p_at then p_m.fCommit else p_at) then 0 else (if p_m.fCommit > p_at then p_m.fCommit else p_at)) then (p_m.fLog.length : Int) else (if 0 > (if p_m.fCommit > p_at then p_m.fCommit else p_at) then 0 else (if p_m.fCommit > p_at then p_m.fCommit else p_at))))), (7, .ptr 3 0)], [.box 25 (.dat (GMember.lf1 p_m)), .box 25 (Z25), .box 67 (.agg [.lf (.int .i64 0), .lf (.int .i64 0), .lf (.int .i64 0), .nils 82]), .box 67 (.agg [.lf (.int .i64 p_m.fID), .lf (.int .i64 p_m.fTerm), .lf (.int .i64 (if (p_m.fLog.length : Int) < (if 0 > (if p_m.fCommit > p_at then p_m.fCommit else p_at) then 0 else (if p_m.fCommit > p_at then p_m.fCommit else p_at)) then (p_m.fLog.length : Int) else (if 0 > (if p_m.fCommit > p_at then p_m.fCommit else p_at) then 0 else (if p_m.fCommit > p_at then p_m.fCommit else p_at)))), .own 4]), .row 54 82 (r2140.map GEntry.lf)]⟩ : Option St) = some ⟨[(2, .ptr 0 0), (4, .ptr 1 0), (5, .ptr 2 0), (6, .lf (.int .i64 (if (p_m.fLog.length : Int) < (if 0 > (if p_m.fCommit > p_at then p_m.fCommit else p_at) then 0 else (if p_m.fCommit > p_at then p_m.fCommit else p_at)) then (p_m.fLog.length : Int) else (if 0 > (if p_m.fCommit > p_at then p_m.fCommit else p_at) then 0 else (if p_m.fCommit > p_at then p_m.fCommit else p_at))))), (7, .ptr 3 0)], [.box 25 (.dat (GMember.lf1 p_m)), .box 25 (Z25), .box 67 (.agg [.lf (.int .i64 0), .lf (.int .i64 0), .lf (.int .i64 0), .nils 82]), .box 67 (.agg [.lf (.int .i64 p_m.fID), .lf (.int .i64 p_m.fTerm), .lf (.int .i64 (if (p_m.fLog.length : Int) < (if 0 > (if p_m.fCommit > p_at then p_m.fCommit else p_at) then 0 else (if p_m.fCommit > p_at then p_m.fCommit else p_at)) then (p_m.fLog.length : Int) else (if 0 > (if p_m.fCommit > p_at then p_m.fCommit else p_at) then 0 else (if p_m.fCommit > p_at then p_m.fCommit else p_at)))), .own 4]), .row 54 82 (r2140.map GEntry.lf)]⟩) (okc (by simp [GEntry.lf_eq] : (p_m.fLog.take (if (p_m.fLog.length : Int) < (if 0 > (if p_m.fCommit > p_at then p_m.fCommit else p_at) then 0 else (if p_m.fCommit > p_at then p_m.fCommit else p_at)) then (p_m.fLog.length : Int) else (if 0 > (if p_m.fCommit > p_at then p_m.fCommit else p_at) then 0 else (if p_m.fCommit > p_at then p_m.fCommit else p_at))).toNat).map GEntry.lf = ((p_m.fLog.map GEntry.lf).take (if (p_m.fLog.length : Int) < (if 0 > (if p_m.fCommit > p_at then p_m.fCommit else p_at) then 0 else (if p_m.fCommit > p_at then p_m.fCommit else p_at)) then (p_m.fLog.length : Int) else (if 0 > (if p_m.fCommit > p_at then p_m.fCommit else p_at) then 0 else (if p_m.fCommit > p_at then p_m.fCommit else p_at))).toNat).drop (0 : Int).toNat) ok0))))) <|
 .grd ((0 : Int) ≤ 0 ∧ 0 ≤ (if (p_m.fLog.length : Int) < (if 0 > (if p_m.fCommit > p_at then p_m.fCommit else p_at) then 0 else (if p_m.fCommit > p_at then p_m.fCommit else p_at)) then (p_m.fLog.length : Int) else (if 0 > (if p_m.fCommit > p_at then p_m.fCommit else p_at) then 0 else (if p_m.fCommit > p_at then p_m.fCommit else p_at))) ∧ (if (p_m.fLog.length : Int) < (if 0 > (if p_m.fCommit > p_at then p_m.fCommit else p_at) then 0 else (if p_m.fCommit > p_at then p_m.fCommit else p_at)) then (p_m.fLog.length : Int) else (if 0 > (if p_m.fCommit > p_at then p_m.fCommit else p_at) then 0 else (if p_m.fCommit > p_at then p_m.fCommit else p_at))) ≤ (p_m.fLog.length : Int)) fun h2143 =>
 .say [] (okc (by simpa using h2143 : (0 : Int) ≤ 0 ∧ 0 ≤ (if (p_m.fLog.length : Int) < (if 0 > (if p_m.fCommit > p_at then p_m.fCommit else p_at) then 0 else (if p_m.fCommit > p_at then p_m.fCommit else p_at)) then (p_m.fLog.length : Int) else (if 0 > (if p_m.fCommit > p_at then p_m.fCommit else p_at) then 0 else (if p_m.fCommit > p_at then p_m.fCommit else p_at))) ∧ (if (p_m.fLog.length : Int) < (if 0 > (if p_m.fCommit > p_at then p_m.fCommit else p_at) then 0 else (if p_m.fCommit > p_at then p_m.fCommit else p_at)) then (p_m.fLog.length : Int) else (if 0 > (if p_m.fCommit > p_at then p_m.fCommit else p_at) then 0 else (if p_m.fCommit > p_at then p_m.fCommit else p_at))) ≤ ((p_m.fLog.map GEntry.lf).length : Int)) ok0) <|
 .ask (Q101 (GMember.sLog p_m (p_m.fLog.take (if (p_m.fLog.length : Int) < (if 0 > (if p_m.fCommit > p_at then p_m.fCommit else p_at) then 0 else (if p_m.fCommit > p_at then p_m.fCommit else p_at)) then (p_m.fLog.length : Int) else (if 0 > (if p_m.fCommit > p_at then p_m.fCommit else p_at) then 0 else (if p_m.fCommit > p_at then p_m.fCommit else p_at))).toNat))) fun r2156 h2157 =>
 .say [.orderT (.q 0 (.alt 1 (.alt 2 (.l 3 (.l 4 .fin)) (.l 3 (.l 2 (.l 4 .fin)))) (.l 2 (.l 1 (.l 3 (.l 4 .fin)))))) (some 4) [1] [.both [.resH [] (aggS (.agg ((GMember.lf1 r2156).map AV.lf)) [(8, .own 0), (10, .own 1), (11, .own 2)]) [.row 54 82 (r2156.fLog.map GEntry.lf), .row 3 1 (r2156.fNext.map lfI), .row 3 1 (r2156.fMatch.map lfI)], .both [] []] [.resH [] (aggS (.agg ((GMember.lf1 r2156).map AV.lf)) [(8, .own 0), (10, .own 1), (11, .own 2)]) [.row 54 82 (r2156.fLog.map GEntry.lf), .row 3 1 (r2156.fNext.map lfI), .row 3 1 (r2156.fMatch.map lfI)]]] [4, 5] 8 [(4, .ptr 1 0), (5, .ptr 2 0)] [.box 25 (.dat (GMember.lf1 (GMember.sLog p_m (p_m.fLog.take (if (p_m.fLog.length : Int) < (if 0 > (if p_m.fCommit > p_at then p_m.fCommit else p_at) then 0 else (if p_m.fCommit > p_at then p_m.fCommit else p_at)) then (p_m.fLog.length : Int) else (if 0 > (if p_m.fCommit > p_at then p_m.fCommit else p_at) then 0 else (if p_m.fCommit > p_at then p_m.fCommit else p_at))).toNat)))), .box 25 (aggS (.agg ((GMember.lf1 r2156).map AV.lf)) [(8, .own 5), (10, .own 6), (11, .own 7)]), .box 67 (.agg [.lf (.int .i64 p_m.fID), .lf (.int .i64 p_m.fTerm), .lf (.int .i64 (if (p_m.fLog.length : Int) < (if 0 > (if p_m.fCommit > p_at then p_m.fCommit else p_at) then 0 else (if p_m.fCommit > p_at then p_m.fCommit else p_at)) then (p_m.fLog.length : Int) else (if 0 > (if p_m.fCommit > p_at then p_m.fCommit else p_at) then 0 else (if p_m.fCommit > p_at then p_m.fCommit else p_at)))), .own 4]), .box 67 (.agg [.lf (.int .i64 p_m.fID), .lf (.int .i64 p_m.fTerm), .lf (.int .i64 (if (p_m.fLog.length : Int) < (if 0 > (if p_m.fCommit > p_at then p_m.fCommit else p_at) then 0 else (if p_m.fCommit > p_at then p_m.fCommit else p_at)) then (p_m.fLog.length : Int) else (if 0 > (if p_m.fCommit > p_at then p_m.fCommit else p_at) then 0 else (if p_m.fCommit > p_at then p_m.fCommit else p_at)))), .own 4]), .row 54 82 (r2140.map GEntry.lf), .row 54 82 (r2156.fLog.map GEntry.lf), .row 3 1 (r2156.fNext.map lfI), .row 3 1 (r2156.fMatch.map lfI)]] (okc (Q101_ok _ _ h2157) (okc (rfl : (some ⟨[(4, .ptr 1 0), (5, .ptr 2 0)], [.box 25 (.dat (GMember.lf1 (GMember.sLog p_m (p_m.fLog.take (if (p_m.fLog.length : Int) < (if 0 > (if p_m.fCommit > p_at then p_m.fCommit else p_at) then 0 else (if p_m.fCommit > p_at then p_m.fCommit else p_at)) then (p_m.fLog.length : Int) else (if 0 > (if p_m.fCommit > p_at then p_m.fCommit else p_at) then 0 else (if p_m.fCommit > p_at then p_m.fCommit else p_at))).toNat)))), .box 25 (aggS (.agg ((GMember.lf1 r2156).map AV.lf)) [(8, .own 5), (10, .own 6), (11, .own 7)]), .box 67 (.agg [.lf (.int .i64 p_m.fID), .lf (.int .i64 p_m.fTerm), .lf (.int .i64 (if (p_m.fLog.length : Int) < (if 0 > (if p_m.fCommit > p_at then p_m.fCommit else p_at) then 0 else (if p_m.fCommit > p_at then p_m.fCommit else p_at)) then (p_m.fLog.length : Int) else (if 0 > (if p_m.fCommit > p_at then p_m.fCommit else p_at) then 0 else (if p_m.fCommit > p_at then p_m.fCommit else p_at)))), .own 4]), .box 67 (.agg [.lf (.int .i64 p_m.fID), .lf (.int .i64 p_m.fTerm), .lf (.int .i64 (if (p_m.fLog.length : Int) < (if 0 > (if p_m.fCommit > p_at then p_m.fCommit else p_at) then 0 else (if p_m.fCommit > p_at then p_m.fCommit else p_at)) then (p_m.fLog.length : Int) else (if 0 > (if p_m.fCommit > p_at then p_m.fCommit else p_at) then 0 else (if p_m.fCommit > p_at then p_m.fCommit else p_at)))), .own 4]), .row 54 82 (r2140.map GEntry.lf), .row 54 82 (r2156.fLog.map GEntry.lf), .row 3 1 (r2156.fNext.map lfI), .row 3 1 (r2156.fMatch.map lfI)]⟩ : Option St) = some ⟨[(4, .ptr 1 0), (5, .ptr 2 0)], [.box 25 (.dat (GMember.lf1 (GMember.sLog p_m (p_m.fLog.take (if (p_m.fLog.length : Int) < (if 0 > (if p_m.fCommit > p_at then p_m.fCommit else p_at) then 0 else (if p_m.fCommit > p_at then p_m.fCommit else p_at)) then (p_m.fLog.length : Int) else (if 0 > (if p_m.fCommit > p_at then p_m.fCommit else p_at) then 0 else (if p_m.fCommit > p_at then p_m.fCommit else p_at))).toNat)))), .box 25 (aggS (.agg ((GMember.lf1 r2156).map AV.lf)) [(8, .own 5), (10, .own 6), (11, .own 7)]), .box 67 (.agg [.lf (.int .i64 p_m.fID), .lf (.int .i64 p_m.fTerm), .lf (.int .i64 (if (p_m.fLog.length : Int) < (if 0 > (if p_m.fCommit > p_at then p_m.fCommit else p_at) then 0 else (if p_m.fCommit > p_at then p_m.fCommit else p_at)) then (p_m.fLog.length : Int) else (if 0 > (if p_m.fCommit > p_at then p_m.fCommit else p_at) then 0 else (if p_m.fCommit > p_at then p_m.fCommit else p_at)))), .own 4]), .box 67 (.agg [.lf (.int .i64 p_m.fID), .lf (.int .i64 p_m.fTerm), .lf (.int .i64 (if (p_m.fLog.length : Int) < (if 0 > (if p_m.fCommit > p_at then p_m.fCommit else p_at) then 0 else (if p_m.fCommit > p_at then p_m.fCommit else p_at)) then (p_m.fLog.length : Int) else (if 0 > (if p_m.fCommit > p_at then p_m.fCommit else p_at) then 0 else (if p_m.fCommit > p_at then p_m.fCommit else p_at)))), .own 4]), .row 54 82 (r2140.map GEntry.lf), .row 54 82 (r2156.fLog.map GEntry.lf), .row 3 1 (r2156.fNext.map lfI), .row 3 1 (r2156.fMatch.map lfI)]⟩) (okc (rfl : (some ⟨[(4, .ptr 1 0), (5, .ptr 2 0)], [.box 25 (.dat (GMember.lf1 (GMember.sLog p_m (p_m.fLog.take (if (p_m.fLog.length : Int) < (if 0 > (if p_m.fCommit > p_at then p_m.fCommit else p_at) then 0 else (if p_m.fCommit > p_at then p_m.fCommit else p_at)) then (p_m.fLog.length : Int) else (if 0 > (if p_m.fCommit > p_at then p_m.fCommit else p_at) then 0 else (if p_m.fCommit > p_at then p_m.fCommit else p_at))).toNat)))), .box 25 (aggS (.agg ((GMember.lf1 r2156).map AV.lf)) [(8, .own 5), (10, .own 6), (11, .own 7)]), .box 67 (.agg [.lf (.int .i64 p_m.fID), .lf (.int .i64 p_m.fTerm), .lf (.int .i64 (if (p_m.fLog.length : Int) < (if 0 > (if p_m.fCommit > p_at then p_m.fCommit else p_at) then 0 else (if p_m.fCommit > p_at then p_m.fCommit else p_at)) then (p_m.fLog.length : Int) else (if 0 > (if p_m.fCommit > p_at then p_m.fCommit else p_at) then 0 else (if p_m.fCommit > p_at then p_m.fCommit else p_at)))), .own 4]), .box 67 (.agg [.lf (.int .i64 p_m.fID), .lf (.int .i64 p_m.fTerm), .lf (.int .i64 (if (p_m.fLog.length : Int) < (if 0 > (if p_m.fCommit > p_at then p_m.fCommit else p_at) then 0 else (if p_m.fCommit > p_at then p_m.fCommit else p_at)) then (p_m.fLog.length : Int) else (if 0 > (if p_m.fCommit > p_at then p_m.fCommit else p_at) then 0 else (if p_m.fCommit > p_at then p_m.fCommit else p_at)))), .own 4]), .row 54 82 (r2140.map GEntry.lf), .row 54 82 (r2156.fLog.map GEntry.lf), .row 3 1 (r2156.fNext.map lfI), .row 3 1 (r2156.fMatch.map lfI)]⟩ : Option St) = some ⟨[(4, .ptr 1 0), (5, .ptr 2 0)], [.box 25 (.dat (GMember.lf1 (GMember.sLog p_m (p_m.fLog.take (if (p_m.fLog.length : Int) < (if 0 > (if p_m.fCommit > p_at then p_m.fCommit else p_at) then 0 else (if p_m.fCommit > p_at then p_m.fCommit else p_at)) then (p_m.fLog.length : Int) else (if 0 > (if p_m.fCommit > p_at then p_m.fCommit else p_at) then 0 else (if p_m.fCommit > p_at then p_m.fCommit else p_at))).toNat)))), .box 25 (aggS (.agg ((GMember.lf1 r2156).map AV.lf)) [(8, .own 5), (10, .own 6), (11, .own 7)]), .box 67 (.agg [.lf (.int .i64 p_m.fID), .lf (.int .i64 p_m.fTerm), .lf (.int .i64 (if (p_m.fLog.length : Int) < (if 0 > (if p_m.fCommit > p_at then p_m.fCommit else p_at) then 0 else (if p_m.fCommit > p_at then p_m.fCommit else p_at)) then (p_m.fLog.length : Int) else (if 0 > (if p_m.fCommit > p_at then p_m.fCommit else p_at) then 0 else (if p_m.fCommit > p_at then p_m.fCommit else p_at)))), .own 4]), .box 67 (.agg [.lf (.int .i64 p_m.fID), .lf (.int .i64 p_m.fTerm), .lf (.int .i64 (if (p_m.fLog.length : Int) < (if 0 > (if p_m.fCommit > p_at then p_m.fCommit else p_at) then 0 else (if p_m.fCommit > p_at then p_m.fCommit else p_at)) then (p_m.fLog.length : Int) else (if 0 > (if p_m.fCommit > p_at then p_m.fCommit else p_at) then 0 else (if p_m.fCommit > p_at then p_m.fCommit else p_at)))), .own 4]), .row 54 82 (r2140.map GEntry.lf), .row 54 82 (r2156.fLog.map GEntry.lf), .row 3 1 (r2156.fNext.map lfI), .row 3 1 (r2156.fMatch.map lfI)]⟩) (okc (Q101_ok _ _ h2157) (okc (rfl : (some ⟨[(4, .ptr 1 0), (5, .ptr 2 0)], [.box 25 (.dat (GMember.lf1 (GMember.sLog p_m (p_m.fLog.take (if (p_m.fLog.length : Int) < (if 0 > (if p_m.fCommit > p_at then p_m.fCommit else p_at) then 0 else (if p_m.fCommit > p_at then p_m.fCommit else p_at)) then (p_m.fLog.length : Int) else (if 0 > (if p_m.fCommit > p_at then p_m.fCommit else p_at) then 0 else (if p_m.fCommit > p_at then p_m.fCommit else p_at))).toNat)))), .box 25 (aggS (.agg ((GMember.lf1 r2156).map AV.lf)) [(8, .own 5), (10, .own 6), (11, .own 7)]), .box 67 (.agg [.lf (.int .i64 p_m.fID), .lf (.int .i64 p_m.fTerm), .lf (.int .i64 (if (p_m.fLog.length : Int) < (if 0 > (if p_m.fCommit > p_at then p_m.fCommit else p_at) then 0 else (if p_m.fCommit > p_at then p_m.fCommit else p_at)) then (p_m.fLog.length : Int) else (if 0 > (if p_m.fCommit > p_at then p_m.fCommit else p_at) then 0 else (if p_m.fCommit > p_at then p_m.fCommit else p_at)))), .own 4]), .box 67 (.agg [.lf (.int .i64 p_m.fID), .lf (.int .i64 p_m.fTerm), .lf (.int .i64 (if (p_m.fLog.length : Int) < (if 0 > (if p_m.fCommit > p_at then p_m.fCommit else p_at) then 0 else (if p_m.fCommit > p_at then p_m.fCommit else p_at)) then (p_m.fLog.length : Int) else (if 0 > (if p_m.fCommit > p_at then p_m.fCommit else p_at) then 0 else (if p_m.fCommit > p_at then p_m.fCommit else p_at)))), .own 4]), .row 54 82 (r2140.map GEntry.lf), .row 54 82 (r2156.fLog.map GEntry.lf), .row 3 1 (r2156.fNext.map lfI), .row 3 1 (r2156.fMatch.map lfI)]⟩ : Option St) = some ⟨[(4, .ptr 1 0), (5, .ptr 2 0)], [.box 25 (.dat (GMember.lf1 (GMember.sLog p_m (p_m.fLog.take (if (p_m.fLog.length : Int) < (if 0 > (if p_m.fCommit > p_at then p_m.fCommit else p_at) then 0 else (if p_m.fCommit > p_at then p_m.fCommit else p_at)) then (p_m.fLog.length : Int) else (if 0 > (if p_m.fCommit > p_at then p_m.fCommit else p_at) then 0 else (if p_m.fCommit > p_at then p_m.fCommit else p_at))).toNat)))), .box 25 (aggS (.agg ((GMember.lf1 r2156).map AV.lf)) [(8, .own 5), (10, .own 6), (11, .own 7)]), .box 67 (.agg [.lf (.int .i64 p_m.fID), .lf (.int .i64 p_m.fTerm), .lf (.int .i64 (if (p_m.fLog.length : Int) < (if 0 > (if p_m.fCommit > p_at then p_m.fCommit else p_at) then 0 else (if p_m.fCommit > p_at then p_m.fCommit else p_at)) then (p_m.fLog.length : Int) else (if 0 > (if p_m.fCommit > p_at then p_m.fCommit else p_at) then 0 else (if p_m.fCommit > p_at then p_m.fCommit else p_at)))), .own 4]), .box 67 (.agg [.lf (.int .i64 p_m.fID), .lf (.int .i64 p_m.fTerm), .lf (.int .i64 (if (p_m.fLog.length : Int) < (if 0 > (if p_m.fCommit > p_at then p_m.fCommit else p_at) then 0 else (if p_m.fCommit > p_at then p_m.fCommit else p_at)) then (p_m.fLog.length : Int) else (if 0 > (if p_m.fCommit > p_at then p_m.fCommit else p_at) then 0 else (if p_m.fCommit > p_at then p_m.fCommit else p_at)))), .own 4]), .row 54 82 (r2140.map GEntry.lf), .row 54 82 (r2156.fLog.map GEntry.lf), .row 3 1 (r2156.fNext.map lfI), .row 3 1 (r2156.fMatch.map lfI)]⟩) ok0))))) <|
 .ret ⟨[.kill 0, .kill 1, .kill 2, .kill 3, .mvn 5, .mvn 6, .mvn 7, .mvn 4], [0, 1], [(8, 0), (9, 1), (10, 2), (11, 3)], 4⟩ (r2156, GReport.mk p_m.fID p_m.fTerm (if (p_m.fLog.length : Int) < (if 0 > (if p_m.fCommit > p_at then p_m.fCommit else p_at) then 0 else (if p_m.fCommit > p_at then p_m.fCommit else p_at)) then (p_m.fLog.length : Int) else (if 0 > (if p_m.fCommit > p_at then p_m.fCommit else p_at) then 0 else (if p_m.fCommit > p_at then p_m.fCommit else p_at))) r2140)
def Q116 (p_m : GMember) (p_at : Int) : Option (GMember × GReport) := Mo.den (Q116_T p_m p_at)
theorem Q116_ok (p_m : GMember) (p_at : Int) (r : GMember × GReport) (h : Q116 p_m p_at = some r) : FnH Tryz.prog GI 73 [.dat (GMember.lf1 p_m), .lf (.int .i64 p_at)] [] (.tup [aggS (.agg ((GMember.lf1 r.1).map AV.lf)) [(8, .own 0), (10, .own 1), (11, .own 2)], .agg [.lf (.int .i64 r.2.fMember), .lf (.int .i64 r.2.fTerm), .lf (.int .i64 r.2.fAt), .own 3]]) [.row 54 82 (r.1.fLog.map GEntry.lf), .row 3 1 (r.1.fNext.map lfI), .row 3 1 (r.1.fMatch.map lfI), .row 54 82 (r.2.fEntries.map GEntry.lf)] :=
 fn_TH BaseK Tryz.func73 (by kernel_rfl) (by kernel_rfl) (by kernel_rfl) (Q116_T p_m p_at) (fun r => [aggS (.agg ((GMember.lf1 r.1).map AV.lf)) [(8, .own 0), (10, .own 1), (11, .own 2)], .agg [.lf (.int .i64 r.2.fMember), .lf (.int .i64 r.2.fTerm), .lf (.int .i64 r.2.fAt), .own 3]]) (fun r => [.row 54 82 (r.1.fLog.map GEntry.lf), .row 3 1 (r.1.fNext.map lfI), .row 3 1 (r.1.fMatch.map lfI), .row 54 82 (r.2.fEntries.map GEntry.lf)]) (by kernel_rfl) h
def Q83_T (p_l : List GEntry) : Mo (List GEntry) :=
 .say [.at_ 4 2, .tod 7] ok0 <|
 .ask (Q116 (GMember.sLog GMember.z p_l) 0) fun r2197 h2198 =>
 .say [.resH [] (.tup [aggS (.agg ((GMember.lf1 r2197.1).map AV.lf)) [(8, .own 0), (10, .own 1), (11, .own 2)], .agg [.lf (.int .i64 r2197.2.fMember), .lf (.int .i64 r2197.2.fTerm), .lf (.int .i64 r2197.2.fAt), .own 3]]) [.row 54 82 (r2197.1.fLog.map GEntry.lf), .row 3 1 (r2197.1.fNext.map lfI), .row 3 1 (r2197.1.fMatch.map lfI), .row 54 82 (r2197.2.fEntries.map GEntry.lf)]] (ok1 (Q116_ok _ _ _ h2198)) <|
 .ret ⟨[.kill 0, .kill 1, .kill 2, .kill 4, .kill 5, .mvn 3], [0], [(6, 0)], 1⟩ (r2197.2.fEntries)
def Q83 (p_l : List GEntry) : Option (List GEntry) := Mo.den (Q83_T p_l)
theorem Q83_ok (p_l : List GEntry) (r : List GEntry) (h : Q83 p_l = some r) : FnH Tryz.prog GI 37 [.lf (.rows 82 (p_l.map GEntry.lf))] [] (.own 0) [.row 54 82 (r.map GEntry.lf)] :=
 fn_TH BaseK Tryz.func37 (by kernel_rfl) (by kernel_rfl) (by kernel_rfl) (Q83_T p_l) (fun r => [.own 0]) (fun r => [.row 54 82 (r.map GEntry.lf)]) (by kernel_rfl) h
def Q66_J0_T (p_b0 : GReplicaNode) (p_x : GMessage) (r1455 : Int) : Mo ((Int × Int × Int × Int × Int × Int × Int × Int × Int × Int × Int × Int × (List GEntry) × (List GEntry) × (List Int) × (List Int))) :=
 .ite (decide ((r1455 : Int) < (p_b0.fmember.fLog.length : Int))) (fun c2160 =>
 .say [.br true, .at_ 8 7, .frz 6, .frz 7, .frz 8, .tod 25] (ok1 c2160) <|
 .ask (Q116 p_b0.fmember r1455) fun r2161 h2162 =>
 .say [.resH [] (.tup [aggS (.agg ((GMember.lf1 r2161.1).map AV.lf)) [(8, .own 0), (10, .own 1), (11, .own 2)], .agg [.lf (.int .i64 r2161.2.fMember), .lf (.int .i64 r2161.2.fTerm), .lf (.int .i64 r2161.2.fAt), .own 3]]) [.row 54 82 (r2161.1.fLog.map GEntry.lf), .row 3 1 (r2161.1.fNext.map lfI), .row 3 1 (r2161.1.fMatch.map lfI), .row 54 82 (r2161.2.fEntries.map GEntry.lf)]] (ok1 (Q116_ok _ _ _ h2162)) <|
 .ret ⟨[.frz 13], [0, 3], [(10, 6), (11, 7), (12, 8)], 10⟩ (r2161.1.fID, r2161.1.fSize, r2161.1.fTerm, r2161.1.fVote, r2161.1.fRole, r2161.1.fLeader, r2161.1.fTimer, r2161.1.fVotes, r2161.1.fCommit, r2161.2.fMember, r2161.2.fTerm, r2161.2.fAt, r2161.2.fEntries, r2161.1.fLog, r2161.1.fNext, r2161.1.fMatch)) fun c2160 =>
 .say [.br false] (ok1 c2160) <|
 .ret ⟨[], [0, 3], [], 10⟩ (p_b0.fmember.fID, p_b0.fmember.fSize, p_b0.fmember.fTerm, p_b0.fmember.fVote, p_b0.fmember.fRole, p_b0.fmember.fLeader, p_b0.fmember.fTimer, p_b0.fmember.fVotes, p_b0.fmember.fCommit, p_b0.freport.fMember, p_b0.freport.fTerm, p_b0.freport.fAt, p_b0.freport.fEntries, p_b0.fmember.fLog, p_b0.fmember.fNext, p_b0.fmember.fMatch)
def Q66_J0 (p_b0 : GReplicaNode) (p_x : GMessage) (r1455 : Int) : Option ((Int × Int × Int × Int × Int × Int × Int × Int × Int × Int × Int × Int × (List GEntry) × (List GEntry) × (List Int) × (List Int))) := Mo.den (Q66_J0_T p_b0 p_x r1455)
def Q66_J0_S (p_b0 : GReplicaNode) (p_x : GMessage) (r_ : (Int × Int × Int × Int × Int × Int × Int × Int × Int × Int × Int × Int × (List GEntry) × (List GEntry) × (List Int) × (List Int))) : St := ⟨[(0, .ptr 0 0), (3, .ptr 5 0)], [.box 97 (.agg [.lf (.int .i64 r_.1), .lf (.int .i64 r_.2.1), .lf (.int .i64 r_.2.2.1), .lf (.int .i64 r_.2.2.2.1), .lf (.int .i64 r_.2.2.2.2.1), .lf (.int .i64 r_.2.2.2.2.2.1), .lf (.int .i64 r_.2.2.2.2.2.2.1), .lf (.int .i64 r_.2.2.2.2.2.2.2.1), .own 6, .lf (.int .i64 r_.2.2.2.2.2.2.2.2.1), .own 7, .own 8, .own 9, .lf (.int .i64 r_.2.2.2.2.2.2.2.2.2.1), .lf (.int .i64 r_.2.2.2.2.2.2.2.2.2.2.1), .lf (.int .i64 r_.2.2.2.2.2.2.2.2.2.2.2.1), .lf (.rows 82 (r_.2.2.2.2.2.2.2.2.2.2.2.2.1.map GEntry.lf))]), .dead, .dead, .dead, .dead, .box 63 (.dat (GMessage.lf1 p_x)), .row 54 82 (r_.2.2.2.2.2.2.2.2.2.2.2.2.2.1.map GEntry.lf), .row 3 1 (r_.2.2.2.2.2.2.2.2.2.2.2.2.2.2.1.map lfI), .row 3 1 (r_.2.2.2.2.2.2.2.2.2.2.2.2.2.2.2.map lfI), .row 63 9 (p_b0.fsent.map GMessage.lf)]⟩
theorem Q66_J0_W {p_b0 : GReplicaNode} {p_x : GMessage} {r1455 : Int} {r_ : (Int × Int × Int × Int × Int × Int × Int × Int × Int × Int × Int × Int × (List GEntry) × (List GEntry) × (List Int) × (List Int))} (h : Q66_J0 p_b0 p_x r1455 = some r_) : AWa_ Tryz.f83 5 [1, 0, 1, 1] (.normal) (Q66_J0_S p_b0 p_x r_) ⟨[(0, .ptr 0 0), (3, .ptr 5 0), (4, .lf (.int .i64 r1455)), (18, .lf (.bool (decide ((r1455 : Int) < (p_b0.fmember.fLog.length : Int)))))], [.box 97 (aggS (.agg ((GReplicaNode.lf1 p_b0).map AV.lf)) [(8, .own 6), (10, .own 7), (11, .own 8), (12, .own 9)]), .dead, .dead, .dead, .dead, .box 63 (.dat (GMessage.lf1 p_x)), .row 54 82 (p_b0.fmember.fLog.map GEntry.lf), .row 3 1 (p_b0.fmember.fNext.map lfI), .row 3 1 (p_b0.fmember.fMatch.map lfI), .row 63 9 (p_b0.fsent.map GMessage.lf)]⟩ :=
 part_T BaseK (Q66_J0_T p_b0 p_x r1455) (fun _ => .normal) (Q66_J0_S p_b0 p_x) (by kernel_rfl) h
def Q66_J5_T (p_b0 : GReplicaNode) (p_x : GMessage) (r2191 : (Int × Int × Int × Int × Int × Int × Int × Int × Int × Int × Int × Int × (List GEntry) × (List GEntry) × (List Int) × (List Int))) : Mo (((List GEntry))) :=
 .ite (decide ((IntKind.wrap .i64 ((r2191.2.2.2.2.2.2.2.2.2.2.2.2.2.1.length : Int) - p_x.fIndex) : Int) < (p_x.fEntries.length : Int))) (fun c2202 =>
 .say [.br true] (okc c2202 (okc (slice_drop _ _ _ : (p_x.fEntries.drop (if (IntKind.wrap .i64 ((r2191.2.2.2.2.2.2.2.2.2.2.2.2.2.1.length : Int) - p_x.fIndex)) > 0 then (IntKind.wrap .i64 ((r2191.2.2.2.2.2.2.2.2.2.2.2.2.2.1.length : Int) - p_x.fIndex)) else 0).toNat).map GEntry.lf = ((p_x.fEntries.map GEntry.lf).take ((p_x.fEntries.map GEntry.lf).length : Int).toNat).drop (if (IntKind.wrap .i64 ((r2191.2.2.2.2.2.2.2.2.2.2.2.2.2.1.length : Int) - p_x.fIndex)) > 0 then (IntKind.wrap .i64 ((r2191.2.2.2.2.2.2.2.2.2.2.2.2.2.1.length : Int) - p_x.fIndex)) else 0).toNat) ok0)) <|
 .grd ((0 : Int) ≤ (if (IntKind.wrap .i64 ((r2191.2.2.2.2.2.2.2.2.2.2.2.2.2.1.length : Int) - p_x.fIndex)) > 0 then (IntKind.wrap .i64 ((r2191.2.2.2.2.2.2.2.2.2.2.2.2.2.1.length : Int) - p_x.fIndex)) else 0) ∧ (if (IntKind.wrap .i64 ((r2191.2.2.2.2.2.2.2.2.2.2.2.2.2.1.length : Int) - p_x.fIndex)) > 0 then (IntKind.wrap .i64 ((r2191.2.2.2.2.2.2.2.2.2.2.2.2.2.1.length : Int) - p_x.fIndex)) else 0) ≤ (p_x.fEntries.length : Int) ∧ (p_x.fEntries.length : Int) ≤ (p_x.fEntries.length : Int)) fun h2203 =>
 .say [] (okc (slice_g _ _ h2203 : (0 : Int) ≤ (if (IntKind.wrap .i64 ((r2191.2.2.2.2.2.2.2.2.2.2.2.2.2.1.length : Int) - p_x.fIndex)) > 0 then (IntKind.wrap .i64 ((r2191.2.2.2.2.2.2.2.2.2.2.2.2.2.1.length : Int) - p_x.fIndex)) else 0) ∧ (if (IntKind.wrap .i64 ((r2191.2.2.2.2.2.2.2.2.2.2.2.2.2.1.length : Int) - p_x.fIndex)) > 0 then (IntKind.wrap .i64 ((r2191.2.2.2.2.2.2.2.2.2.2.2.2.2.1.length : Int) - p_x.fIndex)) else 0) ≤ ((p_x.fEntries.map GEntry.lf).length : Int) ∧ ((p_x.fEntries.map GEntry.lf).length : Int) ≤ ((p_x.fEntries.map GEntry.lf).length : Int)) ok0) <|
 .ask (Q83 (p_x.fEntries.drop (if (IntKind.wrap .i64 ((r2191.2.2.2.2.2.2.2.2.2.2.2.2.2.1.length : Int) - p_x.fIndex)) > 0 then (IntKind.wrap .i64 ((r2191.2.2.2.2.2.2.2.2.2.2.2.2.2.1.length : Int) - p_x.fIndex)) else 0).toNat)) fun r2204 h2205 =>
 .say [.orderT (.q 0 (.q 1 (.q 2 (.q 3 (.q 5 (.q 6 (.q 7 (.q 8 (.q 9 (.alt 4 (.l 10 (.l 11 (.q 12 (.q 13 (.l 14 .fin))))) (.l 10 (.l 4 (.l 11 (.q 12 (.q 13 (.l 14 .fin)))))))))))))))) (some 14) [6, 10] [.rows ((p_x.fEntries.drop (if (IntKind.wrap .i64 ((r2191.2.2.2.2.2.2.2.2.2.2.2.2.2.1.length : Int) - p_x.fIndex)) > 0 then (IntKind.wrap .i64 ((r2191.2.2.2.2.2.2.2.2.2.2.2.2.2.1.length : Int) - p_x.fIndex)) else 0).toNat).map GEntry.lf), .both [.at_ 16 4, .resv 1, .resH [] (.own 0) [.row 54 82 (r2204.map GEntry.lf)], .rows ((r2191.2.2.2.2.2.2.2.2.2.2.2.2.2.1 ++ r2204).map GEntry.lf), .slot 10] [.at_ 16 10, .resv 1, .resH [] (.own 0) [.row 54 82 (r2204.map GEntry.lf)], .rows ((r2191.2.2.2.2.2.2.2.2.2.2.2.2.2.1 ++ r2204).map GEntry.lf), .slot 10]] [0, 3, 5] 12 [(0, .ptr 0 0), (3, .ptr 5 0), (5, .ptr 0 0)] [.box 97 (.agg [.lf (.int .i64 r2191.1), .lf (.int .i64 r2191.2.1), .lf (.int .i64 r2191.2.2.1), .lf (.int .i64 r2191.2.2.2.1), .lf (.int .i64 r2191.2.2.2.2.1), .lf (.int .i64 r2191.2.2.2.2.2.1), .lf (.int .i64 r2191.2.2.2.2.2.2.1), .lf (.int .i64 r2191.2.2.2.2.2.2.2.1), .own 10, .lf (.int .i64 r2191.2.2.2.2.2.2.2.2.1), .own 7, .own 8, .own 9, .lf (.int .i64 r2191.2.2.2.2.2.2.2.2.2.1), .lf (.int .i64 r2191.2.2.2.2.2.2.2.2.2.2.1), .lf (.int .i64 r2191.2.2.2.2.2.2.2.2.2.2.2.1), .lf (.rows 82 (r2191.2.2.2.2.2.2.2.2.2.2.2.2.1.map GEntry.lf))]), .dead, .dead, .dead, .dead, .box 63 (.dat (GMessage.lf1 p_x)), .dead, .row 3 1 (r2191.2.2.2.2.2.2.2.2.2.2.2.2.2.2.1.map lfI), .row 3 1 (r2191.2.2.2.2.2.2.2.2.2.2.2.2.2.2.2.map lfI), .row 63 9 (p_b0.fsent.map GMessage.lf), .row 54 82 ((r2191.2.2.2.2.2.2.2.2.2.2.2.2.2.1 ++ r2204).map GEntry.lf), .row 54 82 (r2204.map GEntry.lf)]] (okc (Q83_ok _ _ h2205) (okc (by simp [GEntry.lf_eq] : (r2191.2.2.2.2.2.2.2.2.2.2.2.2.2.1 ++ r2204).map GEntry.lf = (r2191.2.2.2.2.2.2.2.2.2.2.2.2.2.1.map GEntry.lf) ++ (r2204.map GEntry.lf)) ok0)) <|
 .grd ((r2191.2.2.2.2.2.2.2.2.2.2.2.2.2.1.length + r2204.length) * 1208 ≤ 140737488355328) fun h2206 =>
 .say [] (okc (by simpa using h2206 : ((r2191.2.2.2.2.2.2.2.2.2.2.2.2.2.1.map GEntry.lf).length + (r2204.map GEntry.lf).length) * 1208 ≤ 140737488355328) (okc (rfl : (some ⟨[(0, .ptr 0 0), (3, .ptr 5 0), (5, .ptr 0 0)], [.box 97 (.agg [.lf (.int .i64 r2191.1), .lf (.int .i64 r2191.2.1), .lf (.int .i64 r2191.2.2.1), .lf (.int .i64 r2191.2.2.2.1), .lf (.int .i64 r2191.2.2.2.2.1), .lf (.int .i64 r2191.2.2.2.2.2.1), .lf (.int .i64 r2191.2.2.2.2.2.2.1), .lf (.int .i64 r2191.2.2.2.2.2.2.2.1), .own 10, .lf (.int .i64 r2191.2.2.2.2.2.2.2.2.1), .own 7, .own 8, .own 9, .lf (.int .i64 r2191.2.2.2.2.2.2.2.2.2.1), .lf (.int .i64 r2191.2.2.2.2.2.2.2.2.2.2.1), .lf (.int .i64 r2191.2.2.2.2.2.2.2.2.2.2.2.1), .lf (.rows 82 (r2191.2.2.2.2.2.2.2.2.2.2.2.2.1.map GEntry.lf))]), .dead, .dead, .dead, .dead, .box 63 (.dat (GMessage.lf1 p_x)), .dead, .row 3 1 (r2191.2.2.2.2.2.2.2.2.2.2.2.2.2.2.1.map lfI), .row 3 1 (r2191.2.2.2.2.2.2.2.2.2.2.2.2.2.2.2.map lfI), .row 63 9 (p_b0.fsent.map GMessage.lf), .row 54 82 ((r2191.2.2.2.2.2.2.2.2.2.2.2.2.2.1 ++ r2204).map GEntry.lf), .row 54 82 (r2204.map GEntry.lf)]⟩ : Option St) = some ⟨[(0, .ptr 0 0), (3, .ptr 5 0), (5, .ptr 0 0)], [.box 97 (.agg [.lf (.int .i64 r2191.1), .lf (.int .i64 r2191.2.1), .lf (.int .i64 r2191.2.2.1), .lf (.int .i64 r2191.2.2.2.1), .lf (.int .i64 r2191.2.2.2.2.1), .lf (.int .i64 r2191.2.2.2.2.2.1), .lf (.int .i64 r2191.2.2.2.2.2.2.1), .lf (.int .i64 r2191.2.2.2.2.2.2.2.1), .own 10, .lf (.int .i64 r2191.2.2.2.2.2.2.2.2.1), .own 7, .own 8, .own 9, .lf (.int .i64 r2191.2.2.2.2.2.2.2.2.2.1), .lf (.int .i64 r2191.2.2.2.2.2.2.2.2.2.2.1), .lf (.int .i64 r2191.2.2.2.2.2.2.2.2.2.2.2.1), .lf (.rows 82 (r2191.2.2.2.2.2.2.2.2.2.2.2.2.1.map GEntry.lf))]), .dead, .dead, .dead, .dead, .box 63 (.dat (GMessage.lf1 p_x)), .dead, .row 3 1 (r2191.2.2.2.2.2.2.2.2.2.2.2.2.2.2.1.map lfI), .row 3 1 (r2191.2.2.2.2.2.2.2.2.2.2.2.2.2.2.2.map lfI), .row 63 9 (p_b0.fsent.map GMessage.lf), .row 54 82 ((r2191.2.2.2.2.2.2.2.2.2.2.2.2.2.1 ++ r2204).map GEntry.lf), .row 54 82 (r2204.map GEntry.lf)]⟩) (okc (Q83_ok _ _ h2205) (okc (by simp [GEntry.lf_eq] : (r2191.2.2.2.2.2.2.2.2.2.2.2.2.2.1 ++ r2204).map GEntry.lf = (r2191.2.2.2.2.2.2.2.2.2.2.2.2.2.1.map GEntry.lf) ++ (r2204.map GEntry.lf)) (okc (by simpa using h2206 : ((r2191.2.2.2.2.2.2.2.2.2.2.2.2.2.1.map GEntry.lf).length + (r2204.map GEntry.lf).length) * 1208 ≤ 140737488355328) (okc (rfl : (some ⟨[(0, .ptr 0 0), (3, .ptr 5 0), (5, .ptr 0 0)], [.box 97 (.agg [.lf (.int .i64 r2191.1), .lf (.int .i64 r2191.2.1), .lf (.int .i64 r2191.2.2.1), .lf (.int .i64 r2191.2.2.2.1), .lf (.int .i64 r2191.2.2.2.2.1), .lf (.int .i64 r2191.2.2.2.2.2.1), .lf (.int .i64 r2191.2.2.2.2.2.2.1), .lf (.int .i64 r2191.2.2.2.2.2.2.2.1), .own 10, .lf (.int .i64 r2191.2.2.2.2.2.2.2.2.1), .own 7, .own 8, .own 9, .lf (.int .i64 r2191.2.2.2.2.2.2.2.2.2.1), .lf (.int .i64 r2191.2.2.2.2.2.2.2.2.2.2.1), .lf (.int .i64 r2191.2.2.2.2.2.2.2.2.2.2.2.1), .lf (.rows 82 (r2191.2.2.2.2.2.2.2.2.2.2.2.2.1.map GEntry.lf))]), .dead, .dead, .dead, .dead, .box 63 (.dat (GMessage.lf1 p_x)), .dead, .row 3 1 (r2191.2.2.2.2.2.2.2.2.2.2.2.2.2.2.1.map lfI), .row 3 1 (r2191.2.2.2.2.2.2.2.2.2.2.2.2.2.2.2.map lfI), .row 63 9 (p_b0.fsent.map GMessage.lf), .row 54 82 ((r2191.2.2.2.2.2.2.2.2.2.2.2.2.2.1 ++ r2204).map GEntry.lf), .row 54 82 (r2204.map GEntry.lf)]⟩ : Option St) = some ⟨[(0, .ptr 0 0), (3, .ptr 5 0), (5, .ptr 0 0)], [.box 97 (.agg [.lf (.int .i64 r2191.1), .lf (.int .i64 r2191.2.1), .lf (.int .i64 r2191.2.2.1), .lf (.int .i64 r2191.2.2.2.1), .lf (.int .i64 r2191.2.2.2.2.1), .lf (.int .i64 r2191.2.2.2.2.2.1), .lf (.int .i64 r2191.2.2.2.2.2.2.1), .lf (.int .i64 r2191.2.2.2.2.2.2.2.1), .own 10, .lf (.int .i64 r2191.2.2.2.2.2.2.2.2.1), .own 7, .own 8, .own 9, .lf (.int .i64 r2191.2.2.2.2.2.2.2.2.2.1), .lf (.int .i64 r2191.2.2.2.2.2.2.2.2.2.2.1), .lf (.int .i64 r2191.2.2.2.2.2.2.2.2.2.2.2.1), .lf (.rows 82 (r2191.2.2.2.2.2.2.2.2.2.2.2.2.1.map GEntry.lf))]), .dead, .dead, .dead, .dead, .box 63 (.dat (GMessage.lf1 p_x)), .dead, .row 3 1 (r2191.2.2.2.2.2.2.2.2.2.2.2.2.2.2.1.map lfI), .row 3 1 (r2191.2.2.2.2.2.2.2.2.2.2.2.2.2.2.2.map lfI), .row 63 9 (p_b0.fsent.map GMessage.lf), .row 54 82 ((r2191.2.2.2.2.2.2.2.2.2.2.2.2.2.1 ++ r2204).map GEntry.lf), .row 54 82 (r2204.map GEntry.lf)]⟩) ok0)))))) <|
 .ret ⟨[], [0, 3, 5], [(10, 6)], 10⟩ (r2191.2.2.2.2.2.2.2.2.2.2.2.2.2.1 ++ r2204)) fun c2202 =>
 .say [.br false] (ok1 c2202) <|
 .ret ⟨[], [0, 3, 5], [], 10⟩ (r2191.2.2.2.2.2.2.2.2.2.2.2.2.2.1)
def Q66_J5 (p_b0 : GReplicaNode) (p_x : GMessage) (r2191 : (Int × Int × Int × Int × Int × Int × Int × Int × Int × Int × Int × Int × (List GEntry) × (List GEntry) × (List Int) × (List Int))) : Option (((List GEntry))) := Mo.den (Q66_J5_T p_b0 p_x r2191)
def Q66_J5_S (p_b0 : GReplicaNode) (p_x : GMessage) (r2191 : (Int × Int × Int × Int × Int × Int × Int × Int × Int × Int × Int × Int × (List GEntry) × (List GEntry) × (List Int) × (List Int))) (r_ : ((List GEntry))) : St := ⟨[(0, .ptr 0 0), (3, .ptr 5 0), (5, .ptr 0 0)], [.box 97 (.agg [.lf (.int .i64 r2191.1), .lf (.int .i64 r2191.2.1), .lf (.int .i64 r2191.2.2.1), .lf (.int .i64 r2191.2.2.2.1), .lf (.int .i64 r2191.2.2.2.2.1), .lf (.int .i64 r2191.2.2.2.2.2.1), .lf (.int .i64 r2191.2.2.2.2.2.2.1), .lf (.int .i64 r2191.2.2.2.2.2.2.2.1), .own 6, .lf (.int .i64 r2191.2.2.2.2.2.2.2.2.1), .own 7, .own 8, .own 9, .lf (.int .i64 r2191.2.2.2.2.2.2.2.2.2.1), .lf (.int .i64 r2191.2.2.2.2.2.2.2.2.2.2.1), .lf (.int .i64 r2191.2.2.2.2.2.2.2.2.2.2.2.1), .lf (.rows 82 (r2191.2.2.2.2.2.2.2.2.2.2.2.2.1.map GEntry.lf))]), .dead, .dead, .dead, .dead, .box 63 (.dat (GMessage.lf1 p_x)), .row 54 82 (r_.map GEntry.lf), .row 3 1 (r2191.2.2.2.2.2.2.2.2.2.2.2.2.2.2.1.map lfI), .row 3 1 (r2191.2.2.2.2.2.2.2.2.2.2.2.2.2.2.2.map lfI), .row 63 9 (p_b0.fsent.map GMessage.lf)]⟩
theorem Q66_J5_W {p_b0 : GReplicaNode} {p_x : GMessage} {r2191 : (Int × Int × Int × Int × Int × Int × Int × Int × Int × Int × Int × Int × (List GEntry) × (List GEntry) × (List Int) × (List Int))} {r_ : ((List GEntry))} (h : Q66_J5 p_b0 p_x r2191 = some r_) : AWa_ Tryz.f83 5 [1, 1, 1, 0, 1, 1] (.normal) (Q66_J5_S p_b0 p_x r2191 r_) ⟨[(0, .ptr 0 0), (3, .ptr 5 0), (5, .ptr 0 0), (6, .lf (.int .i64 (IntKind.wrap .i64 ((r2191.2.2.2.2.2.2.2.2.2.2.2.2.2.1.length : Int) - p_x.fIndex)))), (49, .lf (.bool (decide ((IntKind.wrap .i64 ((r2191.2.2.2.2.2.2.2.2.2.2.2.2.2.1.length : Int) - p_x.fIndex) : Int) < (p_x.fEntries.length : Int)))))], [.box 97 (.agg [.lf (.int .i64 r2191.1), .lf (.int .i64 r2191.2.1), .lf (.int .i64 r2191.2.2.1), .lf (.int .i64 r2191.2.2.2.1), .lf (.int .i64 r2191.2.2.2.2.1), .lf (.int .i64 r2191.2.2.2.2.2.1), .lf (.int .i64 r2191.2.2.2.2.2.2.1), .lf (.int .i64 r2191.2.2.2.2.2.2.2.1), .own 6, .lf (.int .i64 r2191.2.2.2.2.2.2.2.2.1), .own 7, .own 8, .own 9, .lf (.int .i64 r2191.2.2.2.2.2.2.2.2.2.1), .lf (.int .i64 r2191.2.2.2.2.2.2.2.2.2.2.1), .lf (.int .i64 r2191.2.2.2.2.2.2.2.2.2.2.2.1), .lf (.rows 82 (r2191.2.2.2.2.2.2.2.2.2.2.2.2.1.map GEntry.lf))]), .dead, .dead, .dead, .dead, .box 63 (.dat (GMessage.lf1 p_x)), .row 54 82 (r2191.2.2.2.2.2.2.2.2.2.2.2.2.2.1.map GEntry.lf), .row 3 1 (r2191.2.2.2.2.2.2.2.2.2.2.2.2.2.2.1.map lfI), .row 3 1 (r2191.2.2.2.2.2.2.2.2.2.2.2.2.2.2.2.map lfI), .row 63 9 (p_b0.fsent.map GMessage.lf)]⟩ :=
 part_T BaseK (Q66_J5_T p_b0 p_x r2191) (fun _ => .normal) (Q66_J5_S p_b0 p_x r2191) (by kernel_rfl) h
def Q66_T (p_x : GMessage) (p_b0 : GReplicaNode) : Mo (GReplicaNode) :=
 .ask (Q49 p_x p_b0) fun r1455 h1456 =>
 .say [.resH [0, 1, 2, 3, 4] (.lf (.int .i64 r1455)) [.box 97 (aggS (.agg ((GReplicaNode.lf1 p_b0).map AV.lf)) [(8, .own 5), (10, .own 6), (11, .own 7), (12, .own 8)]), .dead, .dead, .dead, .dead, .row 54 82 (p_b0.fmember.fLog.map GEntry.lf), .row 3 1 (p_b0.fmember.fNext.map lfI), .row 3 1 (p_b0.fmember.fMatch.map lfI), .row 63 9 (p_b0.fsent.map GMessage.lf)], .num p_b0.fmember.fLog.length] (okc (Q49_ok _ _ _ h1456) (okc (by simp : p_b0.fmember.fLog.length = (p_b0.fmember.fLog.map GEntry.lf).length) ok0)) <|
 .ask (Q66_J0 p_b0 p_x r1455) fun r2191 h2192 =>
 .say [.pt_ 1 [0, 3, 4, 18] 10 (.normal) (Q66_J0_S p_b0 p_x r2191), .order [(true, 0), (true, 1), (true, 2), (true, 3), (true, 4), (true, 5), (true, 6), (true, 7), (true, 8)] none [], .num r2191.2.2.2.2.2.2.2.2.2.2.2.2.2.1.length, .num p_x.fEntries.length] (okc (Q66_J0_W h2192) (okc (by simp : r2191.2.2.2.2.2.2.2.2.2.2.2.2.2.1.length = (r2191.2.2.2.2.2.2.2.2.2.2.2.2.2.1.map GEntry.lf).length) (okc (by simp : p_x.fEntries.length = (p_x.fEntries.map GEntry.lf).length) ok0))) <|
 .ask (Q66_J5 p_b0 p_x r2191) fun r2208 h2209 =>
 .say [.pt_ 1 [0, 3, 5, 6, 49] 10 (.normal) (Q66_J5_S p_b0 p_x r2191 r2208), .num p_x.fEntries.length, .order [(true, 0), (true, 1), (true, 2), (true, 3), (true, 4), (true, 5), (true, 6), (true, 7), (true, 8), (true, 9), (true, 10), (true, 11), (false, 12)] (some 12) []] (okc (Q66_J5_W h2209) (okc (by simp : p_x.fEntries.length = (p_x.fEntries.map GEntry.lf).length) ok0)) <|
 .ask (Q102 p_x true (IntKind.wrap .i64 (p_x.fIndex + (p_x.fEntries.length : Int))) (GReplicaNode.mk (GMember.mk r2191.1 r2191.2.1 r2191.2.2.1 r2191.2.2.2.1 r2191.2.2.2.2.1 r2191.2.2.2.2.2.1 r2191.2.2.2.2.2.2.1 r2191.2.2.2.2.2.2.2.1 r2208 (if (if (IntKind.wrap .i64 (p_x.fIndex + (p_x.fEntries.length : Int))) < p_x.fCommit then (IntKind.wrap .i64 (p_x.fIndex + (p_x.fEntries.length : Int))) else p_x.fCommit) > r2191.2.2.2.2.2.2.2.2.1 then (if (IntKind.wrap .i64 (p_x.fIndex + (p_x.fEntries.length : Int))) < p_x.fCommit then (IntKind.wrap .i64 (p_x.fIndex + (p_x.fEntries.length : Int))) else p_x.fCommit) else r2191.2.2.2.2.2.2.2.2.1) r2191.2.2.2.2.2.2.2.2.2.2.2.2.2.2.1 r2191.2.2.2.2.2.2.2.2.2.2.2.2.2.2.2) p_b0.fsent (GReport.mk r2191.2.2.2.2.2.2.2.2.2.1 r2191.2.2.2.2.2.2.2.2.2.2.1 r2191.2.2.2.2.2.2.2.2.2.2.2.1 r2191.2.2.2.2.2.2.2.2.2.2.2.2.1))) fun r2210 h2211 =>
 .say [.resH [0, 6, 7, 8, 9] (.tup []) [.box 97 (aggS (.agg ((GReplicaNode.lf1 r2210).map AV.lf)) [(8, .own 5), (10, .own 6), (11, .own 7), (12, .own 8)]), .dead, .dead, .dead, .dead, .row 54 82 (r2210.fmember.fLog.map GEntry.lf), .row 3 1 (r2210.fmember.fNext.map lfI), .row 3 1 (r2210.fmember.fMatch.map lfI), .row 63 9 (r2210.fsent.map GMessage.lf)]] (ok1 (Q102_ok _ _ _ _ _ h2211)) <|
 .ret ⟨[.kill 5, .mvn 10, .mvn 11, .mvn 12, .mvn 13], [], [(14, 5), (15, 6), (16, 7), (17, 8)], 9⟩ (r2210)
def Q66 (p_x : GMessage) (p_b0 : GReplicaNode) : Option (GReplicaNode) := Mo.den (Q66_T p_x p_b0)
theorem Q66_ok (p_x : GMessage) (p_b0 : GReplicaNode) (r : GReplicaNode) (h : Q66 p_x p_b0 = some r) : FnH Tryz.prog GI 83 [.ptr 0 0, .dat (GMessage.lf1 p_x)] [.box 97 (aggS (.agg ((GReplicaNode.lf1 p_b0).map AV.lf)) [(8, .own 1), (10, .own 2), (11, .own 3), (12, .own 4)]), .row 54 82 (p_b0.fmember.fLog.map GEntry.lf), .row 3 1 (p_b0.fmember.fNext.map lfI), .row 3 1 (p_b0.fmember.fMatch.map lfI), .row 63 9 (p_b0.fsent.map GMessage.lf)] (.tup []) [.box 97 (aggS (.agg ((GReplicaNode.lf1 r).map AV.lf)) [(8, .own 5), (10, .own 6), (11, .own 7), (12, .own 8)]), .dead, .dead, .dead, .dead, .row 54 82 (r.fmember.fLog.map GEntry.lf), .row 3 1 (r.fmember.fNext.map lfI), .row 3 1 (r.fmember.fMatch.map lfI), .row 63 9 (r.fsent.map GMessage.lf)] :=
 fn_TH BaseK Tryz.func83 (by kernel_rfl) (by kernel_rfl) (by kernel_rfl) (Q66_T p_x p_b0) (fun r => []) (fun r => [.box 97 (aggS (.agg ((GReplicaNode.lf1 r).map AV.lf)) [(8, .own 5), (10, .own 6), (11, .own 7), (12, .own 8)]), .dead, .dead, .dead, .dead, .row 54 82 (r.fmember.fLog.map GEntry.lf), .row 3 1 (r.fmember.fNext.map lfI), .row 3 1 (r.fmember.fMatch.map lfI), .row 63 9 (r.fsent.map GMessage.lf)]) (by kernel_rfl) h
def Q23_J0_T (p_b0 : GReplicaNode) (p_x : GMessage) : Mo (Bool) :=
 .say [.order [(true, 0), (true, 1), (true, 2), (true, 3), (true, 4), (true, 5), (true, 6), (true, 7), (true, 8), (true, 9), (true, 10), (true, 11), (true, 12), (true, 13)] none []] ok0 <|
 .ite (p_x.fTerm == p_b0.fmember.fTerm) (fun c1274 =>
 .say [.gd 10007 true] (ok1 c1274) <|
 .ret ⟨[], [0, 3, 4, 31], [], 6⟩ (p_b0.fmember.fRole == 2)) fun c1274 =>
 .say [.gd 10007 false] (ok1 c1274) <|
 .ret ⟨[], [0, 3, 4, 31], [], 6⟩ (false)
def Q23_J0 (p_b0 : GReplicaNode) (p_x : GMessage) : Option (Bool) := Mo.den (Q23_J0_T p_b0 p_x)
def Q23_J0_S (p_b0 : GReplicaNode) (p_x : GMessage) (r_ : Bool) : St := ⟨[(0, .ptr 0 0), (3, .ptr 5 0), (4, .ptr 0 0), (31, .lf (.bool r_))], [.box 97 (aggS (.agg ((GReplicaNode.lf1 p_b0).map AV.lf)) [(8, .own 1), (10, .own 2), (11, .own 3), (12, .own 4)]), .row 54 82 (p_b0.fmember.fLog.map GEntry.lf), .row 3 1 (p_b0.fmember.fNext.map lfI), .row 3 1 (p_b0.fmember.fMatch.map lfI), .row 63 9 (p_b0.fsent.map GMessage.lf), .box 63 (.dat (GMessage.lf1 p_x))]⟩
theorem Q23_J0_W {p_b0 : GReplicaNode} {p_x : GMessage} {r_ : Bool} (h : Q23_J0 p_b0 p_x = some r_) : AWa_ Tryz.f45 5 [1, 1, 1, 0, 0] (.normal) (Q23_J0_S p_b0 p_x r_) ⟨[(0, .ptr 0 0), (3, .ptr 5 0), (4, .ptr 0 0)], [.box 97 (aggS (.agg ((GReplicaNode.lf1 p_b0).map AV.lf)) [(8, .own 1), (10, .own 2), (11, .own 3), (12, .own 4)]), .row 54 82 (p_b0.fmember.fLog.map GEntry.lf), .row 3 1 (p_b0.fmember.fNext.map lfI), .row 3 1 (p_b0.fmember.fMatch.map lfI), .row 63 9 (p_b0.fsent.map GMessage.lf), .box 63 (.dat (GMessage.lf1 p_x))]⟩ :=
 part_T BaseK (Q23_J0_T p_b0 p_x) (fun _ => .normal) (Q23_J0_S p_b0 p_x) (by kernel_rfl) h
def Q23_J5_T (p_b0 : GReplicaNode) (p_x : GMessage) : Mo ((Int × Int × Int × Int × Int × Int × Int × Int × Int × (List GEntry) × (List Int) × (List Int))) :=
 .ite (decide ((p_b0.fmember.fTerm : Int) < p_x.fTerm)) (fun c1325 =>
 .say [.br true, .order [(true, 0), (true, 1), (true, 2), (true, 4), (true, 5), (false, 3), (false, 6), (true, 7), (false, 8)] (some 8) [0, 6, 7, 8, 9, 10, 11], .at_ 14 6, .frz 6, .frz 7, .frz 8, .tod 42] (ok1 c1325) <|
 .ask (Q113 p_b0.fmember p_x.fTerm) fun r1326 h1327 =>
 .say [.resH [] (aggS (.agg ((GMember.lf1 r1326).map AV.lf)) [(8, .own 0), (10, .own 1), (11, .own 2)]) [.row 54 82 (r1326.fLog.map GEntry.lf), .row 3 1 (r1326.fNext.map lfI), .row 3 1 (r1326.fMatch.map lfI)]] (ok1 (Q113_ok _ _ _ h1327)) <|
 .ret ⟨[], [0, 3, 4], [(9, 6), (10, 7), (11, 8)], 9⟩ (r1326.fID, r1326.fSize, r1326.fTerm, r1326.fVote, r1326.fRole, r1326.fLeader, r1326.fTimer, r1326.fVotes, r1326.fCommit, r1326.fLog, r1326.fNext, r1326.fMatch)) fun c1325 =>
 .say [.br false] (ok1 c1325) <|
 .ret ⟨[], [0, 3, 4], [], 9⟩ (p_b0.fmember.fID, p_b0.fmember.fSize, p_b0.fmember.fTerm, p_b0.fmember.fVote, p_b0.fmember.fRole, p_b0.fmember.fLeader, p_b0.fmember.fTimer, p_b0.fmember.fVotes, p_b0.fmember.fCommit, p_b0.fmember.fLog, p_b0.fmember.fNext, p_b0.fmember.fMatch)
def Q23_J5 (p_b0 : GReplicaNode) (p_x : GMessage) : Option ((Int × Int × Int × Int × Int × Int × Int × Int × Int × (List GEntry) × (List Int) × (List Int))) := Mo.den (Q23_J5_T p_b0 p_x)
def Q23_J5_S (p_b0 : GReplicaNode) (p_x : GMessage) (r_ : (Int × Int × Int × Int × Int × Int × Int × Int × Int × (List GEntry) × (List Int) × (List Int))) : St := ⟨[(0, .ptr 0 0), (3, .ptr 5 0), (4, .ptr 0 0)], [.box 97 (aggS (.agg ((GReplicaNode.lf1 p_b0).map AV.lf)) [(0, .lf (.int .i64 r_.1)), (1, .lf (.int .i64 r_.2.1)), (2, .lf (.int .i64 r_.2.2.1)), (3, .lf (.int .i64 r_.2.2.2.1)), (4, .lf (.int .i64 r_.2.2.2.2.1)), (5, .lf (.int .i64 r_.2.2.2.2.2.1)), (6, .lf (.int .i64 r_.2.2.2.2.2.2.1)), (7, .lf (.int .i64 r_.2.2.2.2.2.2.2.1)), (8, .own 6), (9, .lf (.int .i64 r_.2.2.2.2.2.2.2.2.1)), (10, .own 7), (11, .own 8), (12, .own 4)]), .dead, .dead, .dead, .row 63 9 (p_b0.fsent.map GMessage.lf), .box 63 (.dat (GMessage.lf1 p_x)), .row 54 82 (r_.2.2.2.2.2.2.2.2.2.1.map GEntry.lf), .row 3 1 (r_.2.2.2.2.2.2.2.2.2.2.1.map lfI), .row 3 1 (r_.2.2.2.2.2.2.2.2.2.2.2.map lfI)]⟩
theorem Q23_J5_W {p_b0 : GReplicaNode} {p_x : GMessage} {r_ : (Int × Int × Int × Int × Int × Int × Int × Int × Int × (List GEntry) × (List Int) × (List Int))} (h : Q23_J5 p_b0 p_x = some r_) : AWa_ Tryz.f45 5 [1, 1, 1, 1, 0, 1] (.normal) (Q23_J5_S p_b0 p_x r_) ⟨[(0, .ptr 0 0), (3, .ptr 5 0), (4, .ptr 0 0), (38, .lf (.bool (decide ((p_b0.fmember.fTerm : Int) < p_x.fTerm))))], [.box 97 (aggS (.agg ((GReplicaNode.lf1 p_b0).map AV.lf)) [(8, .own 6), (10, .own 7), (11, .own 8), (12, .own 4)]), .dead, .dead, .dead, .row 63 9 (p_b0.fsent.map GMessage.lf), .box 63 (.dat (GMessage.lf1 p_x)), .row 54 82 (p_b0.fmember.fLog.map GEntry.lf), .row 3 1 (p_b0.fmember.fNext.map lfI), .row 3 1 (p_b0.fmember.fMatch.map lfI)]⟩ :=
 part_T BaseK (Q23_J5_T p_b0 p_x) (fun _ => .normal) (Q23_J5_S p_b0 p_x) (by kernel_rfl) h
def Q23_J10_T (p_b0 : GReplicaNode) (p_x : GMessage) (r1340 : (Int × Int × Int × Int × Int × Int × Int × Int × Int × (List GEntry) × (List Int) × (List Int))) : Mo ((Int × Int)) :=
 .ite (r1340.2.2.2.2.1 == 1) (fun c1343 =>
 .say [.br true] (ok1 c1343) <|
 .ret ⟨[], [0, 3, 4], [], 9⟩ (0, 0)) fun c1343 =>
 .say [.br false] (ok1 c1343) <|
 .ret ⟨[], [0, 3, 4], [], 9⟩ (r1340.2.2.2.2.1, r1340.2.2.2.2.2.2.2.1)
def Q23_J10 (p_b0 : GReplicaNode) (p_x : GMessage) (r1340 : (Int × Int × Int × Int × Int × Int × Int × Int × Int × (List GEntry) × (List Int) × (List Int))) : Option ((Int × Int)) := Mo.den (Q23_J10_T p_b0 p_x r1340)
def Q23_J10_S (p_b0 : GReplicaNode) (p_x : GMessage) (r1340 : (Int × Int × Int × Int × Int × Int × Int × Int × Int × (List GEntry) × (List Int) × (List Int))) (r_ : (Int × Int)) : St := ⟨[(0, .ptr 0 0), (3, .ptr 5 0), (4, .ptr 0 0)], [.box 97 (aggS (.agg ((GReplicaNode.lf1 p_b0).map AV.lf)) [(0, .lf (.int .i64 r1340.1)), (1, .lf (.int .i64 r1340.2.1)), (2, .lf (.int .i64 r1340.2.2.1)), (3, .lf (.int .i64 r1340.2.2.2.1)), (4, .lf (.int .i64 r_.1)), (5, .lf (.int .i64 r1340.2.2.2.2.2.1)), (6, .lf (.int .i64 r1340.2.2.2.2.2.2.1)), (7, .lf (.int .i64 r_.2)), (8, .own 6), (9, .lf (.int .i64 r1340.2.2.2.2.2.2.2.2.1)), (10, .own 7), (11, .own 8), (12, .own 4)]), .dead, .dead, .dead, .row 63 9 (p_b0.fsent.map GMessage.lf), .box 63 (.dat (GMessage.lf1 p_x)), .row 54 82 (r1340.2.2.2.2.2.2.2.2.2.1.map GEntry.lf), .row 3 1 (r1340.2.2.2.2.2.2.2.2.2.2.1.map lfI), .row 3 1 (r1340.2.2.2.2.2.2.2.2.2.2.2.map lfI)]⟩
theorem Q23_J10_W {p_b0 : GReplicaNode} {p_x : GMessage} {r1340 : (Int × Int × Int × Int × Int × Int × Int × Int × Int × (List GEntry) × (List Int) × (List Int))} {r_ : (Int × Int)} (h : Q23_J10 p_b0 p_x r1340 = some r_) : AWa_ Tryz.f45 5 [1, 1, 1, 1, 1, 0, 1] (.normal) (Q23_J10_S p_b0 p_x r1340 r_) ⟨[(0, .ptr 0 0), (3, .ptr 5 0), (4, .ptr 0 0), (51, .lf (.bool (r1340.2.2.2.2.1 == 1)))], [.box 97 (aggS (.agg ((GReplicaNode.lf1 p_b0).map AV.lf)) [(0, .lf (.int .i64 r1340.1)), (1, .lf (.int .i64 r1340.2.1)), (2, .lf (.int .i64 r1340.2.2.1)), (3, .lf (.int .i64 r1340.2.2.2.1)), (4, .lf (.int .i64 r1340.2.2.2.2.1)), (5, .lf (.int .i64 r1340.2.2.2.2.2.1)), (6, .lf (.int .i64 r1340.2.2.2.2.2.2.1)), (7, .lf (.int .i64 r1340.2.2.2.2.2.2.2.1)), (8, .own 6), (9, .lf (.int .i64 r1340.2.2.2.2.2.2.2.2.1)), (10, .own 7), (11, .own 8), (12, .own 4)]), .dead, .dead, .dead, .row 63 9 (p_b0.fsent.map GMessage.lf), .box 63 (.dat (GMessage.lf1 p_x)), .row 54 82 (r1340.2.2.2.2.2.2.2.2.2.1.map GEntry.lf), .row 3 1 (r1340.2.2.2.2.2.2.2.2.2.2.1.map lfI), .row 3 1 (r1340.2.2.2.2.2.2.2.2.2.2.2.map lfI)]⟩ :=
 part_T BaseK (Q23_J10_T p_b0 p_x r1340) (fun _ => .normal) (Q23_J10_S p_b0 p_x r1340) (by kernel_rfl) h
def Q23_T (p_x : GMessage) (p_b0 : GReplicaNode) : Mo (GReplicaNode) :=
 .say [.order [(true, 0), (true, 1), (true, 2), (true, 3), (true, 4), (true, 5), (true, 6)] none []] ok0 <|
 .ite (decide ((p_x.fTerm : Int) < p_b0.fmember.fTerm)) (fun c1268 =>
 .say [.br true] (ok1 c1268) <|
 .ask (Q102 p_x false 0 p_b0) fun r1271 h1272 =>
 .say [.resH [0, 1, 2, 3, 4] (.tup []) [.box 97 (aggS (.agg ((GReplicaNode.lf1 r1271).map AV.lf)) [(8, .own 5), (10, .own 6), (11, .own 7), (12, .own 8)]), .dead, .dead, .dead, .dead, .row 54 82 (r1271.fmember.fLog.map GEntry.lf), .row 3 1 (r1271.fmember.fNext.map lfI), .row 3 1 (r1271.fmember.fMatch.map lfI), .row 63 9 (r1271.fsent.map GMessage.lf)]] (ok1 (Q102_ok _ _ _ _ _ h1272)) <|
 .ret ⟨[.kill 5, .mvn 6, .mvn 7, .mvn 8, .mvn 9], [], [(10, 5), (11, 6), (12, 7), (13, 8)], 9⟩ (r1271)) fun c1268 =>
 .say [.br false] (ok1 c1268) <|
 .ask (Q23_J0 p_b0 p_x) fun r1276 h1277 =>
 .say [.pt_ 15 [0, 3, 4] 6 (.normal) (Q23_J0_S p_b0 p_x r1276)] (ok1 (Q23_J0_W h1277)) <|
 .ite (r1276) (fun c1279 =>
 .say [.br true] (ok1 c1279) <|
 .ret ⟨[.kill 5, .mvn 1, .mvn 2, .mvn 3, .mvn 4], [], [(6, 5), (7, 6), (8, 7), (9, 8)], 9⟩ (p_b0)) fun c1279 =>
 .say [.br false, .order [(true, 0), (true, 1), (true, 2), (true, 3), (true, 4), (true, 5), (true, 6)] none []] (ok1 c1279) <|
 .ask (Q23_J5 p_b0 p_x) fun r1340 h1341 =>
 .say [.part [.mvn 1, .mvn 2, .mvn 3] 1 [0, 3, 4, 38] 9 (.normal) (Q23_J5_S p_b0 p_x r1340).T (Q23_J5_S p_b0 p_x r1340).H] (ok1 (Q23_J5_W h1341)) <|
 .ask (Q23_J10 p_b0 p_x r1340) fun r1346 h1347 =>
 .say [.pt_ 1 [0, 3, 4, 51] 9 (.normal) (Q23_J10_S p_b0 p_x r1340 r1346)] (ok1 (Q23_J10_W h1347)) <|
 .ask (Q75 p_x (GReplicaNode.mk (GMember.mk r1340.1 r1340.2.1 r1340.2.2.1 r1340.2.2.2.1 r1346.1 p_x.fFrom (IntKind.wrap .i64 (10 + (IntKind.wrap .i64 (3 * r1340.1)))) r1346.2 r1340.2.2.2.2.2.2.2.2.2.1 r1340.2.2.2.2.2.2.2.2.1 r1340.2.2.2.2.2.2.2.2.2.2.1 r1340.2.2.2.2.2.2.2.2.2.2.2) p_b0.fsent p_b0.freport)) fun r1443 h1444 =>
 .say [.resH [0, 6, 7, 8, 4] (.lf (.bool r1443)) [.box 97 (.agg [.lf (.int .i64 (((GReplicaNode.mk (GMember.mk r1340.1 r1340.2.1 r1340.2.2.1 r1340.2.2.2.1 r1346.1 p_x.fFrom (IntKind.wrap .i64 (10 + (IntKind.wrap .i64 (3 * r1340.1)))) r1346.2 r1340.2.2.2.2.2.2.2.2.2.1 r1340.2.2.2.2.2.2.2.2.1 r1340.2.2.2.2.2.2.2.2.2.2.1 r1340.2.2.2.2.2.2.2.2.2.2.2) p_b0.fsent p_b0.freport).fmember).fID)), .lf (.int .i64 (((GReplicaNode.mk (GMember.mk r1340.1 r1340.2.1 r1340.2.2.1 r1340.2.2.2.1 r1346.1 p_x.fFrom (IntKind.wrap .i64 (10 + (IntKind.wrap .i64 (3 * r1340.1)))) r1346.2 r1340.2.2.2.2.2.2.2.2.2.1 r1340.2.2.2.2.2.2.2.2.1 r1340.2.2.2.2.2.2.2.2.2.2.1 r1340.2.2.2.2.2.2.2.2.2.2.2) p_b0.fsent p_b0.freport).fmember).fSize)), .lf (.int .i64 (((GReplicaNode.mk (GMember.mk r1340.1 r1340.2.1 r1340.2.2.1 r1340.2.2.2.1 r1346.1 p_x.fFrom (IntKind.wrap .i64 (10 + (IntKind.wrap .i64 (3 * r1340.1)))) r1346.2 r1340.2.2.2.2.2.2.2.2.2.1 r1340.2.2.2.2.2.2.2.2.1 r1340.2.2.2.2.2.2.2.2.2.2.1 r1340.2.2.2.2.2.2.2.2.2.2.2) p_b0.fsent p_b0.freport).fmember).fTerm)), .lf (.int .i64 (((GReplicaNode.mk (GMember.mk r1340.1 r1340.2.1 r1340.2.2.1 r1340.2.2.2.1 r1346.1 p_x.fFrom (IntKind.wrap .i64 (10 + (IntKind.wrap .i64 (3 * r1340.1)))) r1346.2 r1340.2.2.2.2.2.2.2.2.2.1 r1340.2.2.2.2.2.2.2.2.1 r1340.2.2.2.2.2.2.2.2.2.2.1 r1340.2.2.2.2.2.2.2.2.2.2.2) p_b0.fsent p_b0.freport).fmember).fVote)), .lf (.int .i64 (((GReplicaNode.mk (GMember.mk r1340.1 r1340.2.1 r1340.2.2.1 r1340.2.2.2.1 r1346.1 p_x.fFrom (IntKind.wrap .i64 (10 + (IntKind.wrap .i64 (3 * r1340.1)))) r1346.2 r1340.2.2.2.2.2.2.2.2.2.1 r1340.2.2.2.2.2.2.2.2.1 r1340.2.2.2.2.2.2.2.2.2.2.1 r1340.2.2.2.2.2.2.2.2.2.2.2) p_b0.fsent p_b0.freport).fmember).fRole)), .lf (.int .i64 (((GReplicaNode.mk (GMember.mk r1340.1 r1340.2.1 r1340.2.2.1 r1340.2.2.2.1 r1346.1 p_x.fFrom (IntKind.wrap .i64 (10 + (IntKind.wrap .i64 (3 * r1340.1)))) r1346.2 r1340.2.2.2.2.2.2.2.2.2.1 r1340.2.2.2.2.2.2.2.2.1 r1340.2.2.2.2.2.2.2.2.2.2.1 r1340.2.2.2.2.2.2.2.2.2.2.2) p_b0.fsent p_b0.freport).fmember).fLeader)), .lf (.int .i64 (((GReplicaNode.mk (GMember.mk r1340.1 r1340.2.1 r1340.2.2.1 r1340.2.2.2.1 r1346.1 p_x.fFrom (IntKind.wrap .i64 (10 + (IntKind.wrap .i64 (3 * r1340.1)))) r1346.2 r1340.2.2.2.2.2.2.2.2.2.1 r1340.2.2.2.2.2.2.2.2.1 r1340.2.2.2.2.2.2.2.2.2.2.1 r1340.2.2.2.2.2.2.2.2.2.2.2) p_b0.fsent p_b0.freport).fmember).fTimer)), .lf (.int .i64 (((GReplicaNode.mk (GMember.mk r1340.1 r1340.2.1 r1340.2.2.1 r1340.2.2.2.1 r1346.1 p_x.fFrom (IntKind.wrap .i64 (10 + (IntKind.wrap .i64 (3 * r1340.1)))) r1346.2 r1340.2.2.2.2.2.2.2.2.2.1 r1340.2.2.2.2.2.2.2.2.1 r1340.2.2.2.2.2.2.2.2.2.2.1 r1340.2.2.2.2.2.2.2.2.2.2.2) p_b0.fsent p_b0.freport).fmember).fVotes)), .own 5, .lf (.int .i64 (((GReplicaNode.mk (GMember.mk r1340.1 r1340.2.1 r1340.2.2.1 r1340.2.2.2.1 r1346.1 p_x.fFrom (IntKind.wrap .i64 (10 + (IntKind.wrap .i64 (3 * r1340.1)))) r1346.2 r1340.2.2.2.2.2.2.2.2.2.1 r1340.2.2.2.2.2.2.2.2.1 r1340.2.2.2.2.2.2.2.2.2.2.1 r1340.2.2.2.2.2.2.2.2.2.2.2) p_b0.fsent p_b0.freport).fmember).fCommit)), .own 6, .own 7, .own 8, .lf (.int .i64 (((GReplicaNode.mk (GMember.mk r1340.1 r1340.2.1 r1340.2.2.1 r1340.2.2.2.1 r1346.1 p_x.fFrom (IntKind.wrap .i64 (10 + (IntKind.wrap .i64 (3 * r1340.1)))) r1346.2 r1340.2.2.2.2.2.2.2.2.2.1 r1340.2.2.2.2.2.2.2.2.1 r1340.2.2.2.2.2.2.2.2.2.2.1 r1340.2.2.2.2.2.2.2.2.2.2.2) p_b0.fsent p_b0.freport).freport).fMember)), .lf (.int .i64 (((GReplicaNode.mk (GMember.mk r1340.1 r1340.2.1 r1340.2.2.1 r1340.2.2.2.1 r1346.1 p_x.fFrom (IntKind.wrap .i64 (10 + (IntKind.wrap .i64 (3 * r1340.1)))) r1346.2 r1340.2.2.2.2.2.2.2.2.2.1 r1340.2.2.2.2.2.2.2.2.1 r1340.2.2.2.2.2.2.2.2.2.2.1 r1340.2.2.2.2.2.2.2.2.2.2.2) p_b0.fsent p_b0.freport).freport).fTerm)), .lf (.int .i64 (((GReplicaNode.mk (GMember.mk r1340.1 r1340.2.1 r1340.2.2.1 r1340.2.2.2.1 r1346.1 p_x.fFrom (IntKind.wrap .i64 (10 + (IntKind.wrap .i64 (3 * r1340.1)))) r1346.2 r1340.2.2.2.2.2.2.2.2.2.1 r1340.2.2.2.2.2.2.2.2.1 r1340.2.2.2.2.2.2.2.2.2.2.1 r1340.2.2.2.2.2.2.2.2.2.2.2) p_b0.fsent p_b0.freport).freport).fAt)), .lf (.rows 82 ((((GReplicaNode.mk (GMember.mk r1340.1 r1340.2.1 r1340.2.2.1 r1340.2.2.2.1 r1346.1 p_x.fFrom (IntKind.wrap .i64 (10 + (IntKind.wrap .i64 (3 * r1340.1)))) r1346.2 r1340.2.2.2.2.2.2.2.2.2.1 r1340.2.2.2.2.2.2.2.2.1 r1340.2.2.2.2.2.2.2.2.2.2.1 r1340.2.2.2.2.2.2.2.2.2.2.2) p_b0.fsent p_b0.freport).freport).fEntries).map GEntry.lf))]), .dead, .dead, .dead, .dead, .row 54 82 ((((GReplicaNode.mk (GMember.mk r1340.1 r1340.2.1 r1340.2.2.1 r1340.2.2.2.1 r1346.1 p_x.fFrom (IntKind.wrap .i64 (10 + (IntKind.wrap .i64 (3 * r1340.1)))) r1346.2 r1340.2.2.2.2.2.2.2.2.2.1 r1340.2.2.2.2.2.2.2.2.1 r1340.2.2.2.2.2.2.2.2.2.2.1 r1340.2.2.2.2.2.2.2.2.2.2.2) p_b0.fsent p_b0.freport).fmember).fLog).map GEntry.lf), .row 3 1 ((((GReplicaNode.mk (GMember.mk r1340.1 r1340.2.1 r1340.2.2.1 r1340.2.2.2.1 r1346.1 p_x.fFrom (IntKind.wrap .i64 (10 + (IntKind.wrap .i64 (3 * r1340.1)))) r1346.2 r1340.2.2.2.2.2.2.2.2.2.1 r1340.2.2.2.2.2.2.2.2.1 r1340.2.2.2.2.2.2.2.2.2.2.1 r1340.2.2.2.2.2.2.2.2.2.2.2) p_b0.fsent p_b0.freport).fmember).fNext).map lfI), .row 3 1 ((((GReplicaNode.mk (GMember.mk r1340.1 r1340.2.1 r1340.2.2.1 r1340.2.2.2.1 r1346.1 p_x.fFrom (IntKind.wrap .i64 (10 + (IntKind.wrap .i64 (3 * r1340.1)))) r1346.2 r1340.2.2.2.2.2.2.2.2.2.1 r1340.2.2.2.2.2.2.2.2.1 r1340.2.2.2.2.2.2.2.2.2.2.1 r1340.2.2.2.2.2.2.2.2.2.2.2) p_b0.fsent p_b0.freport).fmember).fMatch).map lfI), .row 63 9 (((GReplicaNode.mk (GMember.mk r1340.1 r1340.2.1 r1340.2.2.1 r1340.2.2.2.1 r1346.1 p_x.fFrom (IntKind.wrap .i64 (10 + (IntKind.wrap .i64 (3 * r1340.1)))) r1346.2 r1340.2.2.2.2.2.2.2.2.2.1 r1340.2.2.2.2.2.2.2.2.1 r1340.2.2.2.2.2.2.2.2.2.2.1 r1340.2.2.2.2.2.2.2.2.2.2.2) p_b0.fsent p_b0.freport).fsent).map GMessage.lf)]] (ok1 (Q75_ok _ _ _ h1444)) <|
 .ite (r1443) (fun c1448 =>
 .say [.br true, .order [(true, 0), (true, 1), (true, 2), (true, 3), (true, 4), (true, 7), (true, 8), (true, 9), (false, 5), (true, 6), (true, 10), (true, 11), (false, 12)] (some 12) [], .num (((GReplicaNode.mk (GMember.mk r1340.1 r1340.2.1 r1340.2.2.1 r1340.2.2.2.1 r1346.1 p_x.fFrom (IntKind.wrap .i64 (10 + (IntKind.wrap .i64 (3 * r1340.1)))) r1346.2 r1340.2.2.2.2.2.2.2.2.2.1 r1340.2.2.2.2.2.2.2.2.1 r1340.2.2.2.2.2.2.2.2.2.2.1 r1340.2.2.2.2.2.2.2.2.2.2.2) p_b0.fsent p_b0.freport).fmember).fLog).length] (okc c1448 (okc (by simp : (((GReplicaNode.mk (GMember.mk r1340.1 r1340.2.1 r1340.2.2.1 r1340.2.2.2.1 r1346.1 p_x.fFrom (IntKind.wrap .i64 (10 + (IntKind.wrap .i64 (3 * r1340.1)))) r1346.2 r1340.2.2.2.2.2.2.2.2.2.1 r1340.2.2.2.2.2.2.2.2.1 r1340.2.2.2.2.2.2.2.2.2.2.1 r1340.2.2.2.2.2.2.2.2.2.2.2) p_b0.fsent p_b0.freport).fmember).fLog).length = ((((GReplicaNode.mk (GMember.mk r1340.1 r1340.2.1 r1340.2.2.1 r1340.2.2.2.1 r1346.1 p_x.fFrom (IntKind.wrap .i64 (10 + (IntKind.wrap .i64 (3 * r1340.1)))) r1346.2 r1340.2.2.2.2.2.2.2.2.2.1 r1340.2.2.2.2.2.2.2.2.1 r1340.2.2.2.2.2.2.2.2.2.2.1 r1340.2.2.2.2.2.2.2.2.2.2.2) p_b0.fsent p_b0.freport).fmember).fLog).map GEntry.lf).length) ok0)) <|
 .ask (Q102 p_x false (if (if (IntKind.wrap .i64 (p_x.fIndex - 1)) < ((((GReplicaNode.mk (GMember.mk r1340.1 r1340.2.1 r1340.2.2.1 r1340.2.2.2.1 r1346.1 p_x.fFrom (IntKind.wrap .i64 (10 + (IntKind.wrap .i64 (3 * r1340.1)))) r1346.2 r1340.2.2.2.2.2.2.2.2.2.1 r1340.2.2.2.2.2.2.2.2.1 r1340.2.2.2.2.2.2.2.2.2.2.1 r1340.2.2.2.2.2.2.2.2.2.2.2) p_b0.fsent p_b0.freport).fmember).fLog).length : Int) then (IntKind.wrap .i64 (p_x.fIndex - 1)) else ((((GReplicaNode.mk (GMember.mk r1340.1 r1340.2.1 r1340.2.2.1 r1340.2.2.2.1 r1346.1 p_x.fFrom (IntKind.wrap .i64 (10 + (IntKind.wrap .i64 (3 * r1340.1)))) r1346.2 r1340.2.2.2.2.2.2.2.2.2.1 r1340.2.2.2.2.2.2.2.2.1 r1340.2.2.2.2.2.2.2.2.2.2.1 r1340.2.2.2.2.2.2.2.2.2.2.2) p_b0.fsent p_b0.freport).fmember).fLog).length : Int)) > 0 then (if (IntKind.wrap .i64 (p_x.fIndex - 1)) < ((((GReplicaNode.mk (GMember.mk r1340.1 r1340.2.1 r1340.2.2.1 r1340.2.2.2.1 r1346.1 p_x.fFrom (IntKind.wrap .i64 (10 + (IntKind.wrap .i64 (3 * r1340.1)))) r1346.2 r1340.2.2.2.2.2.2.2.2.2.1 r1340.2.2.2.2.2.2.2.2.1 r1340.2.2.2.2.2.2.2.2.2.2.1 r1340.2.2.2.2.2.2.2.2.2.2.2) p_b0.fsent p_b0.freport).fmember).fLog).length : Int) then (IntKind.wrap .i64 (p_x.fIndex - 1)) else ((((GReplicaNode.mk (GMember.mk r1340.1 r1340.2.1 r1340.2.2.1 r1340.2.2.2.1 r1346.1 p_x.fFrom (IntKind.wrap .i64 (10 + (IntKind.wrap .i64 (3 * r1340.1)))) r1346.2 r1340.2.2.2.2.2.2.2.2.2.1 r1340.2.2.2.2.2.2.2.2.1 r1340.2.2.2.2.2.2.2.2.2.2.1 r1340.2.2.2.2.2.2.2.2.2.2.2) p_b0.fsent p_b0.freport).fmember).fLog).length : Int)) else 0) (GReplicaNode.mk ((GReplicaNode.mk (GMember.mk r1340.1 r1340.2.1 r1340.2.2.1 r1340.2.2.2.1 r1346.1 p_x.fFrom (IntKind.wrap .i64 (10 + (IntKind.wrap .i64 (3 * r1340.1)))) r1346.2 r1340.2.2.2.2.2.2.2.2.2.1 r1340.2.2.2.2.2.2.2.2.1 r1340.2.2.2.2.2.2.2.2.2.2.1 r1340.2.2.2.2.2.2.2.2.2.2.2) p_b0.fsent p_b0.freport).fmember) ((GReplicaNode.mk (GMember.mk r1340.1 r1340.2.1 r1340.2.2.1 r1340.2.2.2.1 r1346.1 p_x.fFrom (IntKind.wrap .i64 (10 + (IntKind.wrap .i64 (3 * r1340.1)))) r1346.2 r1340.2.2.2.2.2.2.2.2.2.1 r1340.2.2.2.2.2.2.2.2.1 r1340.2.2.2.2.2.2.2.2.2.2.1 r1340.2.2.2.2.2.2.2.2.2.2.2) p_b0.fsent p_b0.freport).fsent) ((GReplicaNode.mk (GMember.mk r1340.1 r1340.2.1 r1340.2.2.1 r1340.2.2.2.1 r1346.1 p_x.fFrom (IntKind.wrap .i64 (10 + (IntKind.wrap .i64 (3 * r1340.1)))) r1346.2 r1340.2.2.2.2.2.2.2.2.2.1 r1340.2.2.2.2.2.2.2.2.1 r1340.2.2.2.2.2.2.2.2.2.2.1 r1340.2.2.2.2.2.2.2.2.2.2.2) p_b0.fsent p_b0.freport).freport))) fun r1451 h1452 =>
 .say [.resH [0, 9, 10, 11, 12] (.tup []) [.box 97 (aggS (.agg ((GReplicaNode.lf1 r1451).map AV.lf)) [(8, .own 5), (10, .own 6), (11, .own 7), (12, .own 8)]), .dead, .dead, .dead, .dead, .row 54 82 (r1451.fmember.fLog.map GEntry.lf), .row 3 1 (r1451.fmember.fNext.map lfI), .row 3 1 (r1451.fmember.fMatch.map lfI), .row 63 9 (r1451.fsent.map GMessage.lf)]] (ok1 (Q102_ok _ _ _ _ _ h1452)) <|
 .ret ⟨[.kill 5, .mvn 13, .mvn 14, .mvn 15, .mvn 16], [], [(17, 5), (18, 6), (19, 7), (20, 8)], 9⟩ (r1451)) fun c1448 =>
 .say [.br false] (ok1 c1448) <|
 .ask (Q66 p_x (GReplicaNode.mk ((GReplicaNode.mk (GMember.mk r1340.1 r1340.2.1 r1340.2.2.1 r1340.2.2.2.1 r1346.1 p_x.fFrom (IntKind.wrap .i64 (10 + (IntKind.wrap .i64 (3 * r1340.1)))) r1346.2 r1340.2.2.2.2.2.2.2.2.2.1 r1340.2.2.2.2.2.2.2.2.1 r1340.2.2.2.2.2.2.2.2.2.2.1 r1340.2.2.2.2.2.2.2.2.2.2.2) p_b0.fsent p_b0.freport).fmember) ((GReplicaNode.mk (GMember.mk r1340.1 r1340.2.1 r1340.2.2.1 r1340.2.2.2.1 r1346.1 p_x.fFrom (IntKind.wrap .i64 (10 + (IntKind.wrap .i64 (3 * r1340.1)))) r1346.2 r1340.2.2.2.2.2.2.2.2.2.1 r1340.2.2.2.2.2.2.2.2.1 r1340.2.2.2.2.2.2.2.2.2.2.1 r1340.2.2.2.2.2.2.2.2.2.2.2) p_b0.fsent p_b0.freport).fsent) ((GReplicaNode.mk (GMember.mk r1340.1 r1340.2.1 r1340.2.2.1 r1340.2.2.2.1 r1346.1 p_x.fFrom (IntKind.wrap .i64 (10 + (IntKind.wrap .i64 (3 * r1340.1)))) r1346.2 r1340.2.2.2.2.2.2.2.2.2.1 r1340.2.2.2.2.2.2.2.2.1 r1340.2.2.2.2.2.2.2.2.2.2.1 r1340.2.2.2.2.2.2.2.2.2.2.2) p_b0.fsent p_b0.freport).freport))) fun r2212 h2213 =>
 .say [.resH [0, 9, 10, 11, 12] (.tup []) [.box 97 (aggS (.agg ((GReplicaNode.lf1 r2212).map AV.lf)) [(8, .own 5), (10, .own 6), (11, .own 7), (12, .own 8)]), .dead, .dead, .dead, .dead, .row 54 82 (r2212.fmember.fLog.map GEntry.lf), .row 3 1 (r2212.fmember.fNext.map lfI), .row 3 1 (r2212.fmember.fMatch.map lfI), .row 63 9 (r2212.fsent.map GMessage.lf)]] (ok1 (Q66_ok _ _ _ h2213)) <|
 .ret ⟨[.kill 5, .mvn 13, .mvn 14, .mvn 15, .mvn 16], [], [(17, 5), (18, 6), (19, 7), (20, 8)], 9⟩ (r2212)
def Q23 (p_x : GMessage) (p_b0 : GReplicaNode) : Option (GReplicaNode) := Mo.den (Q23_T p_x p_b0)
theorem Q23_ok (p_x : GMessage) (p_b0 : GReplicaNode) (r : GReplicaNode) (h : Q23 p_x p_b0 = some r) : FnH Tryz.prog GI 45 [.ptr 0 0, .dat (GMessage.lf1 p_x)] [.box 97 (aggS (.agg ((GReplicaNode.lf1 p_b0).map AV.lf)) [(8, .own 1), (10, .own 2), (11, .own 3), (12, .own 4)]), .row 54 82 (p_b0.fmember.fLog.map GEntry.lf), .row 3 1 (p_b0.fmember.fNext.map lfI), .row 3 1 (p_b0.fmember.fMatch.map lfI), .row 63 9 (p_b0.fsent.map GMessage.lf)] (.tup []) [.box 97 (aggS (.agg ((GReplicaNode.lf1 r).map AV.lf)) [(8, .own 5), (10, .own 6), (11, .own 7), (12, .own 8)]), .dead, .dead, .dead, .dead, .row 54 82 (r.fmember.fLog.map GEntry.lf), .row 3 1 (r.fmember.fNext.map lfI), .row 3 1 (r.fmember.fMatch.map lfI), .row 63 9 (r.fsent.map GMessage.lf)] :=
 fn_TH BaseK Tryz.func45 (by kernel_rfl) (by kernel_rfl) (by kernel_rfl) (Q23_T p_x p_b0) (fun r => []) (fun r => [.box 97 (aggS (.agg ((GReplicaNode.lf1 r).map AV.lf)) [(8, .own 5), (10, .own 6), (11, .own 7), (12, .own 8)]), .dead, .dead, .dead, .dead, .row 54 82 (r.fmember.fLog.map GEntry.lf), .row 3 1 (r.fmember.fNext.map lfI), .row 3 1 (r.fmember.fMatch.map lfI), .row 63 9 (r.fsent.map GMessage.lf)]) (by kernel_rfl) h
def Q39_J0_T (p_m : GMember) (p_x : GMessage) : Mo (Bool) :=
 .ite (p_x.fTo != p_m.fID) (fun c454 =>
 .say [.gd 4005 true] (ok1 c454) <|
 .ret ⟨[], [2, 3, 4, 6, 20], [], 4⟩ (true)) fun c454 =>
 .say [.gd 4005 false] (ok1 c454) <|
 .ret ⟨[], [2, 3, 4, 6, 20], [], 4⟩ (p_x.fFrom == p_m.fID)
def Q39_J0 (p_m : GMember) (p_x : GMessage) : Option (Bool) := Mo.den (Q39_J0_T p_m p_x)
def Q39_J0_S (p_m : GMember) (p_x : GMessage) (r_ : Bool) : St := ⟨[(2, .ptr 0 0), (3, .ptr 1 0), (4, .ptr 2 0), (6, .ptr 3 0), (20, .lf (.bool r_))], [.box 25 (.dat (GMember.lf1 p_m)), .box 63 (.dat (GMessage.lf1 p_x)), .box 25 (Z25), .box 67 (.agg [.lf (.int .i64 0), .lf (.int .i64 0), .lf (.int .i64 0), .nils 82])]⟩
theorem Q39_J0_W {p_m : GMember} {p_x : GMessage} {r_ : Bool} (h : Q39_J0 p_m p_x = some r_) : AWoa_ Tryz.f16 0 [1, 0, 0] [0, 1, 2, 3, 4, 5, 6, 7, 8, 9, 10, 11] (Q39_J0_S p_m p_x r_) ⟨[(2, .ptr 0 0), (3, .ptr 1 0), (4, .ptr 2 0), (6, .ptr 3 0)], [.box 25 (.dat (GMember.lf1 p_m)), .box 63 (.dat (GMessage.lf1 p_x)), .box 25 (Z25), .box 67 (.agg [.lf (.int .i64 0), .lf (.int .i64 0), .lf (.int .i64 0), .nils 82])]⟩ :=
 seg_T BaseK (Q39_J0_T p_m p_x) (Q39_J0_S p_m p_x) (by kernel_rfl) h
def Q39_J5_T (p_m : GMember) (p_x : GMessage) (r456 : Bool) : Mo (Bool) :=
 .ite (r456) (fun c458 =>
 .say [.gd 4012 true] (ok1 c458) <|
 .ret ⟨[], [2, 3, 4, 6, 25], [], 4⟩ (true)) fun c458 =>
 .say [.gd 4012 false] (ok1 c458) <|
 .ret ⟨[], [2, 3, 4, 6, 25], [], 4⟩ (decide ((p_x.fFrom : Int) < 0))
def Q39_J5 (p_m : GMember) (p_x : GMessage) (r456 : Bool) : Option (Bool) := Mo.den (Q39_J5_T p_m p_x r456)
def Q39_J5_S (p_m : GMember) (p_x : GMessage) (r_ : Bool) : St := ⟨[(2, .ptr 0 0), (3, .ptr 1 0), (4, .ptr 2 0), (6, .ptr 3 0), (25, .lf (.bool r_))], [.box 25 (.dat (GMember.lf1 p_m)), .box 63 (.dat (GMessage.lf1 p_x)), .box 25 (Z25), .box 67 (.agg [.lf (.int .i64 0), .lf (.int .i64 0), .lf (.int .i64 0), .nils 82])]⟩
theorem Q39_J5_W {p_m : GMember} {p_x : GMessage} {r456 : Bool} {r_ : Bool} (h : Q39_J5 p_m p_x r456 = some r_) : AWoa_ Tryz.f16 0 [1, 0, 0] [12, 13, 14, 15, 16] (Q39_J5_S p_m p_x r_) ⟨[(2, .ptr 0 0), (3, .ptr 1 0), (4, .ptr 2 0), (6, .ptr 3 0), (20, .lf (.bool r456))], [.box 25 (.dat (GMember.lf1 p_m)), .box 63 (.dat (GMessage.lf1 p_x)), .box 25 (Z25), .box 67 (.agg [.lf (.int .i64 0), .lf (.int .i64 0), .lf (.int .i64 0), .nils 82])]⟩ :=
 seg_T BaseK (Q39_J5_T p_m p_x r456) (Q39_J5_S p_m p_x) (by kernel_rfl) h
def Q39_J10_T (p_m : GMember) (p_x : GMessage) (r460 : Bool) : Mo (Bool) :=
 .ite (r460) (fun c462 =>
 .say [.gd 4017 true] (ok1 c462) <|
 .ret ⟨[], [2, 3, 4, 6, 32], [], 4⟩ (true)) fun c462 =>
 .say [.gd 4017 false] (ok1 c462) <|
 .ret ⟨[], [2, 3, 4, 6, 32], [], 4⟩ (decide ((p_m.fSize : Int) ≤ p_x.fFrom))
def Q39_J10 (p_m : GMember) (p_x : GMessage) (r460 : Bool) : Option (Bool) := Mo.den (Q39_J10_T p_m p_x r460)
def Q39_J10_S (p_m : GMember) (p_x : GMessage) (r_ : Bool) : St := ⟨[(2, .ptr 0 0), (3, .ptr 1 0), (4, .ptr 2 0), (6, .ptr 3 0), (32, .lf (.bool r_))], [.box 25 (.dat (GMember.lf1 p_m)), .box 63 (.dat (GMessage.lf1 p_x)), .box 25 (Z25), .box 67 (.agg [.lf (.int .i64 0), .lf (.int .i64 0), .lf (.int .i64 0), .nils 82])]⟩
theorem Q39_J10_W {p_m : GMember} {p_x : GMessage} {r460 : Bool} {r_ : Bool} (h : Q39_J10 p_m p_x r460 = some r_) : AWoa_ Tryz.f16 0 [1, 0, 0] [17, 18, 19, 20, 21, 22, 23] (Q39_J10_S p_m p_x r_) ⟨[(2, .ptr 0 0), (3, .ptr 1 0), (4, .ptr 2 0), (6, .ptr 3 0), (25, .lf (.bool r460))], [.box 25 (.dat (GMember.lf1 p_m)), .box 63 (.dat (GMessage.lf1 p_x)), .box 25 (Z25), .box 67 (.agg [.lf (.int .i64 0), .lf (.int .i64 0), .lf (.int .i64 0), .nils 82])]⟩ :=
 seg_T BaseK (Q39_J10_T p_m p_x r460) (Q39_J10_S p_m p_x) (by kernel_rfl) h
def Q39_T (p_m : GMember) (p_x : GMessage) : Mo (GMember × (List GMessage) × GReport) :=
 .ask (Q39_J0 p_m p_x) fun r456 h457 =>
 .say [.sg_ 1 12 [2, 3, 4, 6] 4 (Q39_J0_S p_m p_x r456)] (ok1 (Q39_J0_W h457)) <|
 .ask (Q39_J5 p_m p_x r456) fun r460 h461 =>
 .say [.sg_ 1 5 [2, 3, 4, 6, 20] 4 (Q39_J5_S p_m p_x r460)] (ok1 (Q39_J5_W h461)) <|
 .ask (Q39_J10 p_m p_x r460) fun r464 h465 =>
 .say [.sg_ 1 7 [2, 3, 4, 6, 25] 4 (Q39_J10_S p_m p_x r464)] (ok1 (Q39_J10_W h465)) <|
 .ite (r464) (fun c1178 =>
 .say [.br true] (ok1 c1178) <|
 .ask (Q79 p_m) fun r1183 h1184 =>
 .say [.resH [] (aggS (.agg ((GMember.lf1 r1183).map AV.lf)) [(8, .own 0), (10, .own 1), (11, .own 2)]) [.row 54 82 (r1183.fLog.map GEntry.lf), .row 3 1 (r1183.fNext.map lfI), .row 3 1 (r1183.fMatch.map lfI)]] (ok1 (Q79_ok _ _ h1184)) <|
 .ask (Q110) fun r1185 h1186 =>
 .say [.res (.dat (GReport.lf1 r1185)), .at_ 0 0, .frz 4, .frz 5, .frz 6] (ok1 (Q110_ok  _ h1186)) <|
 .ret ⟨[.nil 1 9, .tod 1], [0, 1, 2], [], 0⟩ (r1183, [], r1185)) fun c1178 =>
 .say [.br false, .br false, .br false] (ok1 c1178) <|
 .ite (p_x.fKind == 1) (fun c1219 =>
 .stop) fun c1219 =>
 .say [] (ok1 c1219) <|
 .ite (p_x.fKind == 2) (fun c1242 =>
 .stop) fun c1242 =>
 .say [] (ok1 c1242) <|
 .ite (p_x.fKind == 3) (fun c1259 =>
 .say [.br true] (ok1 c1259) <|
 .ask (Q79 p_m) fun r1260 h1261 =>
 .say [.resH [] (aggS (.agg ((GMember.lf1 r1260).map AV.lf)) [(8, .own 0), (10, .own 1), (11, .own 2)]) [.row 54 82 (r1260.fLog.map GEntry.lf), .row 3 1 (r1260.fNext.map lfI), .row 3 1 (r1260.fMatch.map lfI)]] (ok1 (Q79_ok _ _ h1261)) <|
 .ask (Q110) fun r1262 h1263 =>
 .say [.res (.dat (GReport.lf1 r1262)), .at_ 32 3, .brow 7 12 63, .rerow 8 (([] : List GMessage).map GMessage.lf)] (okc (Q110_ok  _ h1263) (okc (by simp [GMessage.lf_eq] : (([] : List GMessage).map GMessage.lf) = []) ok0)) <|
 .ask (Q23 p_x (GReplicaNode.mk r1260 ([] : List GMessage) r1262)) fun r2216 h2217 =>
 .say [.resH [7, 4, 5, 6, 8] (.tup []) [.box 97 (aggS (.agg ((GReplicaNode.lf1 r2216).map AV.lf)) [(8, .own 5), (10, .own 6), (11, .own 7), (12, .own 8)]), .dead, .dead, .dead, .dead, .row 54 82 (r2216.fmember.fLog.map GEntry.lf), .row 3 1 (r2216.fmember.fNext.map lfI), .row 3 1 (r2216.fmember.fMatch.map lfI), .row 63 9 (r2216.fsent.map GMessage.lf)], .order [(true, 0), (true, 1), (true, 2), (true, 3), (true, 4), (true, 5), (true, 6), (true, 7), (true, 8), (true, 9), (true, 10), (true, 11), (false, 12), (true, 13), (false, 14)] (some 14) [2], .at_ 0 0, .frz 9, .frz 10, .frz 11, .frz 12] (ok1 (Q23_ok _ _ _ h2217)) <|
 .ret (fitN 3) (r2216.fmember, r2216.fsent, r2216.freport)) fun c1259 =>
 .say [.br false, .br false] (ok1 c1259) <|
 .ite (p_x.fKind == 4) (fun c2223 =>
 .stop) fun c2223 =>
 .say [] (ok1 c2223) <|
 .ask (Q79 p_m) fun r2232 h2233 =>
 .say [.resH [] (aggS (.agg ((GMember.lf1 r2232).map AV.lf)) [(8, .own 0), (10, .own 1), (11, .own 2)]) [.row 54 82 (r2232.fLog.map GEntry.lf), .row 3 1 (r2232.fNext.map lfI), .row 3 1 (r2232.fMatch.map lfI)]] (ok1 (Q79_ok _ _ h2233)) <|
 .ask (Q110) fun r2234 h2235 =>
 .say [.res (.dat (GReport.lf1 r2234)), .at_ 0 0, .frz 4, .frz 5, .frz 6] (ok1 (Q110_ok  _ h2235)) <|
 .ret ⟨[.nil 1 9, .tod 1], [0, 1, 2], [], 0⟩ (r2232, [], r2234)
def Q39 (p_m : GMember) (p_x : GMessage) : Option (GMember × (List GMessage) × GReport) := Mo.den (Q39_T p_m p_x)
theorem Q39_ok (p_m : GMember) (p_x : GMessage) (r : GMember × (List GMessage) × GReport) (h : Q39 p_m p_x = some r) : Fn Tryz.prog GI 16 [.dat (GMember.lf1 p_m), .dat (GMessage.lf1 p_x)] (.tup [.dat (GMember.lf1 r.1), .lf (.rows 9 (r.2.1.map GMessage.lf)), .dat (GReport.lf1 r.2.2)]) :=
 fn_T BaseK Tryz.func16 (by kernel_rfl) (by kernel_rfl) (by kernel_rfl) (Q39_T p_m p_x) (fun r => [.dat (GMember.lf1 r.1), .lf (.rows 9 (r.2.1.map GMessage.lf)), .dat (GReport.lf1 r.2.2)]) (by kernel_rfl) h
def Q121_T (p_m : GMember) (p_e : GEntry) : Mo (GMember × Int) :=
 .say [.br true] ok0 <|
 .ite (p_m.fRole != 2) (fun c2243 =>
 .say [] (ok1 c2243) <|
 .ret (fitN 2) (GMember.z, 25)) fun c2243 =>
 .stop
def Q121 (p_m : GMember) (p_e : GEntry) : Option (GMember × Int) := Mo.den (Q121_T p_m p_e)
theorem Q121_ok (p_m : GMember) (p_e : GEntry) (r : GMember × Int) (h : Q121 p_m p_e = some r) : Fn Tryz.prog GI 12 [.dat (GMember.lf1 p_m), .dat (GEntry.lf1 p_e)] (.tup [.dat (GMember.lf1 r.1), .lf (.int .i64 r.2)]) :=
 fn_T BaseK Tryz.func12 (by kernel_rfl) (by kernel_rfl) (by kernel_rfl) (Q121_T p_m p_e) (fun r => [.dat (GMember.lf1 r.1), .lf (.int .i64 r.2)]) (by kernel_rfl) h
def Q27_J0_T (p_m : GMember) : Mo (Bool) :=
 .ite (decide ((1 : Int) ≤ p_m.fSize)) (fun c2263 =>
 .say [.gd 4003 true] (ok1 c2263) <|
 .ret ⟨[], [1, 2, 10], [], 1⟩ (decide ((p_m.fSize : Int) ≤ 7))) fun c2263 =>
 .say [.gd 4003 false] (ok1 c2263) <|
 .ret ⟨[], [1, 2, 10], [], 1⟩ (false)
def Q27_J0 (p_m : GMember) : Option (Bool) := Mo.den (Q27_J0_T p_m)
def Q27_J0_S (p_m : GMember) (r_ : Bool) : St := ⟨[(1, .ptr 0 0), (2, .lf (.bool false)), (10, .lf (.bool r_))], [.box 25 (.dat (GMember.lf1 p_m))]⟩
theorem Q27_J0_W {p_m : GMember} {r_ : Bool} (h : Q27_J0 p_m = some r_) : AWoa_ Tryz.f89 0 [1, 0] [0, 1, 2, 3, 4, 5, 6, 7] (Q27_J0_S p_m r_) ⟨[(1, .ptr 0 0), (2, .lf (.bool false))], [.box 25 (.dat (GMember.lf1 p_m))]⟩ :=
 seg_T BaseK (Q27_J0_T p_m) (Q27_J0_S p_m) (by kernel_rfl) h
def Q27_J5_T (p_m : GMember) (r2265 : Bool) : Mo (Bool) :=
 .ite (r2265) (fun c2267 =>
 .say [.gd 4008 true] (ok1 c2267) <|
 .ret ⟨[], [1, 2, 15], [], 1⟩ (decide ((0 : Int) ≤ p_m.fID))) fun c2267 =>
 .say [.gd 4008 false] (ok1 c2267) <|
 .ret ⟨[], [1, 2, 15], [], 1⟩ (false)
def Q27_J5 (p_m : GMember) (r2265 : Bool) : Option (Bool) := Mo.den (Q27_J5_T p_m r2265)
def Q27_J5_S (p_m : GMember) (r_ : Bool) : St := ⟨[(1, .ptr 0 0), (2, .lf (.bool false)), (15, .lf (.bool r_))], [.box 25 (.dat (GMember.lf1 p_m))]⟩
theorem Q27_J5_W {p_m : GMember} {r2265 : Bool} {r_ : Bool} (h : Q27_J5 p_m r2265 = some r_) : AWoa_ Tryz.f89 0 [1, 0] [8, 9, 10, 11, 12] (Q27_J5_S p_m r_) ⟨[(1, .ptr 0 0), (2, .lf (.bool false)), (10, .lf (.bool r2265))], [.box 25 (.dat (GMember.lf1 p_m))]⟩ :=
 seg_T BaseK (Q27_J5_T p_m r2265) (Q27_J5_S p_m) (by kernel_rfl) h
def Q27_J10_T (p_m : GMember) (r2269 : Bool) : Mo (Bool) :=
 .ite (r2269) (fun c2271 =>
 .say [.gd 4013 true] (ok1 c2271) <|
 .ret ⟨[.kill 0], [2, 22], [], 1⟩ (decide ((p_m.fID : Int) < p_m.fSize))) fun c2271 =>
 .say [.gd 4013 false] (ok1 c2271) <|
 .ret ⟨[.kill 0], [2, 22], [], 1⟩ (false)
def Q27_J10 (p_m : GMember) (r2269 : Bool) : Option (Bool) := Mo.den (Q27_J10_T p_m r2269)
def Q27_J10_S  (r_ : Bool) : St := ⟨[(2, .lf (.bool false)), (22, .lf (.bool r_))], [.dead]⟩
theorem Q27_J10_W {p_m : GMember} {r2269 : Bool} {r_ : Bool} (h : Q27_J10 p_m r2269 = some r_) : AWoa_ Tryz.f89 0 [1, 0] [13, 14, 15, 16, 17, 18, 19] (Q27_J10_S r_) ⟨[(1, .ptr 0 0), (2, .lf (.bool false)), (15, .lf (.bool r2269))], [.box 25 (.dat (GMember.lf1 p_m))]⟩ :=
 seg_T BaseK (Q27_J10_T p_m r2269) Q27_J10_S (by kernel_rfl) h
def Q27_J15_T (r2275 : Bool) : Mo (Unit) :=
 .ret ⟨[], [2], [], 1⟩ ()
def Q27_J15 (r2275 : Bool) : Option (Unit) := Mo.den (Q27_J15_T r2275)
def Q27_J15_S (r2275 : Bool) (r_ : Unit) : St := ⟨[(2, .lf (.bool r2275))], [.dead]⟩
theorem Q27_J15_W {r2275 : Bool} {r_ : Unit} (h : Q27_J15 r2275 = some r_) : AWoa_ Tryz.f89 0 [1, 0] [20] (Q27_J15_S r2275 r_) ⟨[(2, .lf (.bool false)), (22, .lf (.bool r2275))], [.dead]⟩ :=
 seg_T BaseK (Q27_J15_T r2275) (Q27_J15_S r2275) (by kernel_rfl) h
def Q27_T (p_m : GMember) : Mo (Bool) :=
 .ask (Q27_J0 p_m) fun r2265 h2266 =>
 .say [.sg_ 1 8 [1, 2] 1 (Q27_J0_S p_m r2265)] (ok1 (Q27_J0_W h2266)) <|
 .ask (Q27_J5 p_m r2265) fun r2269 h2270 =>
 .say [.sg_ 1 5 [1, 2, 10] 1 (Q27_J5_S p_m r2269)] (ok1 (Q27_J5_W h2270)) <|
 .ask (Q27_J10 p_m r2269) fun r2275 h2276 =>
 .say [.sg_ 1 7 [1, 2, 15] 1 (Q27_J10_S r2275)] (ok1 (Q27_J10_W h2276)) <|
 .ask (Q27_J15 r2275) fun r2277 h2278 =>
 .say [.sg_ 1 1 [2, 22] 1 (Q27_J15_S r2275 r2277)] (ok1 (Q27_J15_W h2278)) <|
 .ret (fitN 1) (r2275)
def Q27 (p_m : GMember) : Option (Bool) := Mo.den (Q27_T p_m)
theorem Q27_ok (p_m : GMember) (r : Bool) (h : Q27 p_m = some r) : Fn Tryz.prog GI 89 [.dat (GMember.lf1 p_m)] (.lf (.bool r)) :=
 fn_T BaseK Tryz.func89 (by kernel_rfl) (by kernel_rfl) (by kernel_rfl) (Q27_T p_m) (fun r => [.lf (.bool r)]) (by kernel_rfl) h
def Q82_L0_T (p_m : GMember) : (Int × (List Int)) → Mo ((Int × (List Int)) ⊕ ((List Int))) := fun (v2315, l2316) =>
 .ite (decide ((v2315 : Int) < ((List.replicate p_m.fSize.toNat 0).length : Int))) (fun c2317 =>
 .say [.br true, .num p_m.fLog.length] (okc c2317 (okc (by simp : p_m.fLog.length = (p_m.fLog.map GEntry.lf).length) ok0)) <|
 .ask (gidx l2316 v2315) fun x2318 h2319 =>
 .say [.row (lfI x2318), .rows ((l2316.set v2315.toNat (p_m.fLog.length : Int)).map lfI)] (okc (gidx_lt (fun _ => rfl) h2319 : (0 : Int) ≤ v2315 ∧ v2315.toNat < (l2316.map lfI).length) (okc (by simp [lfI, lfK] : (l2316.set v2315.toNat (p_m.fLog.length : Int)).map lfI = (l2316.map lfI).set v2315.toNat (lfI (p_m.fLog.length : Int))) (okc ((gidx_ok (fun _ => rfl) h2319).2 : (l2316.map lfI)[v2315.toNat]? = some (lfI x2318)) ok0))) <|
 .ret ⟨[], [1, 2, 19, 20], [], 4⟩ (.inl (IntKind.wrap .i64 (v2315 + 1), l2316.set v2315.toNat (p_m.fLog.length : Int)))) fun c2317 =>
 .say [.br false] (ok1 c2317) <|
 .ret ⟨[], [1, 2], [], 4⟩ (.inr (l2316))
def Q82_L0 (p_m : GMember) (v2315 : Int) (l2316 : List Int) : Option (((List Int))) := loopM (fun v_ => (Q82_L0_T p_m v_).den) FU (v2315, l2316)
def Q82_L0_H (p_m : GMember) : (Int × (List Int)) → St := fun (v2315, l2316) => ⟨[(1, .ptr 0 0), (2, .ptr 1 0), (19, .lf (.int .i64 ((List.replicate p_m.fSize.toNat 0).length : Int))), (20, .lf (.int .i64 v2315))], [.box 25 (aggS (.agg ((GMember.lf1 p_m).map AV.lf)) [(4, .lf (.int .i64 2)), (5, .lf (.int .i64 p_m.fID)), (6, .lf (.int .i64 1)), (10, .own 2), (11, .own 3)]), .box 25 (Z25), .row 3 1 (l2316.map lfI), .row 3 1 ((List.replicate p_m.fSize.toNat 0).map lfI)]⟩
def Q82_L0_S (p_m : GMember) (r_ : ((List Int))) : St := ⟨[(1, .ptr 0 0), (2, .ptr 1 0)], [.box 25 (aggS (.agg ((GMember.lf1 p_m).map AV.lf)) [(4, .lf (.int .i64 2)), (5, .lf (.int .i64 p_m.fID)), (6, .lf (.int .i64 1)), (10, .own 2), (11, .own 3)]), .box 25 (Z25), .row 3 1 (r_.map lfI), .row 3 1 ((List.replicate p_m.fSize.toNat 0).map lfI)]⟩
theorem Q82_L0_W {p_m : GMember} {v2315 : Int} {l2316 : List Int} {r_ : ((List Int))} (h : Q82_L0 p_m v2315 l2316 = some r_) : AWa_ Tryz.f90 0 [1, 1, 1, 1, 0, 1, 0] (.exit 0) (Q82_L0_S p_m r_) (Q82_L0_H p_m (v2315, l2316)) :=
 loop_T BaseK (body := (Code.sub (bodyC Tryz.f90) [1, 1, 1, 1, 0, 1, 0, 0])) (by kernel_rfl) (Q82_L0_T p_m) (Q82_L0_H p_m) (fun _ => .exit 0) (Q82_L0_S p_m) (fun r_ => rfl) (fun v_ => by kernel_rfl) h
def Q82_T (p_m : GMember) : Mo (GMember) :=
 .say [.rows ((List.replicate p_m.fSize.toNat 0).map lfI), .rows ((List.replicate p_m.fSize.toNat 0).map lfI), .num (List.replicate p_m.fSize.toNat 0).length] (okc (by simp [lfI, lfK] : (List.replicate p_m.fSize.toNat 0).map lfI = List.replicate p_m.fSize.toNat (lfI 0)) ok0) <|
 .grd ((0 : Int) ≤ p_m.fSize ∧ 8 * p_m.fSize.toNat ≤ 281474976710656 ∧ p_m.fSize.toNat ≤ maxLen) fun h2293 =>
 .say [] (okc (⟨rfl, h2293⟩ : (p_m.fSize : Int) = p_m.fSize ∧ (0 : Int) ≤ p_m.fSize ∧ 8 * p_m.fSize.toNat ≤ 281474976710656 ∧ p_m.fSize.toNat ≤ maxLen) (okc (by simp [lfI, lfK] : (List.replicate p_m.fSize.toNat 0).map lfI = List.replicate p_m.fSize.toNat (lfI 0)) ok0)) <|
 .grd ((0 : Int) ≤ p_m.fSize ∧ 8 * p_m.fSize.toNat ≤ 281474976710656 ∧ p_m.fSize.toNat ≤ maxLen) fun h2295 =>
 .say [] (okc (⟨rfl, h2295⟩ : (p_m.fSize : Int) = p_m.fSize ∧ (0 : Int) ≤ p_m.fSize ∧ 8 * p_m.fSize.toNat ≤ 281474976710656 ∧ p_m.fSize.toNat ≤ maxLen) (okc (by simp : (List.replicate p_m.fSize.toNat 0).length = ((List.replicate p_m.fSize.toNat 0).map lfI).length) ok0)) <|
 .ask (Q82_L0 p_m 0 (List.replicate p_m.fSize.toNat 0)) fun r2321 h2322 =>
 .say [.pt_ 0 [1, 2, 19, 20] 4 (.exit 0) (Q82_L0_S p_m r2321), .num p_m.fLog.length] (okc (Q82_L0_W h2322) (okc (by simp : p_m.fLog.length = (p_m.fLog.map GEntry.lf).length) ok0)) <|
 .ask (gidx (List.replicate p_m.fSize.toNat 0) p_m.fID) fun x2325 h2326 =>
 .say [.row (lfI x2325), .rows (((List.replicate p_m.fSize.toNat 0).set p_m.fID.toNat (p_m.fLog.length : Int)).map lfI), .at_ 0 0, .frz 2, .frz 3] (okc (gidx_lt (fun _ => rfl) h2326 : (0 : Int) ≤ p_m.fID ∧ p_m.fID.toNat < ((List.replicate p_m.fSize.toNat 0).map lfI).length) (okc (by simp [lfI, lfK] : ((List.replicate p_m.fSize.toNat 0).set p_m.fID.toNat (p_m.fLog.length : Int)).map lfI = ((List.replicate p_m.fSize.toNat 0).map lfI).set p_m.fID.toNat (lfI (p_m.fLog.length : Int))) (okc ((gidx_ok (fun _ => rfl) h2326).2 : ((List.replicate p_m.fSize.toNat 0).map lfI)[p_m.fID.toNat]? = some (lfI x2325)) ok0))) <|
 .ret (fitN 1) (GMember.sMatch (GMember.sNext (GMember.sTimer (GMember.sLeader (GMember.sRole p_m 2) p_m.fID) 1) r2321) ((List.replicate p_m.fSize.toNat 0).set p_m.fID.toNat (p_m.fLog.length : Int)))
def Q82 (p_m : GMember) : Option (GMember) := Mo.den (Q82_T p_m)
theorem Q82_ok (p_m : GMember) (r : GMember) (h : Q82 p_m = some r) : Fn Tryz.prog GI 90 [.dat (GMember.lf1 p_m)] (.dat (GMember.lf1 r)) :=
 fn_T BaseK Tryz.func90 (by kernel_rfl) (by kernel_rfl) (by kernel_rfl) (Q82_T p_m) (fun r => [.dat (GMember.lf1 r)]) (by kernel_rfl) h
def Q123_T (p_l : List GEntry) : Mo (Int) :=
 .say [.num p_l.length] (okc (by simp : p_l.length = (p_l.map GEntry.lf).length) ok0) <|
 .ite ((p_l.length : Int) == 0) (fun c2338 =>
 .say [.br true] (ok1 c2338) <|
 .ret (fitN 1) (0)) fun c2338 =>
 .say [.br false, .num p_l.length] (okc c2338 (okc (by simp : p_l.length = (p_l.map GEntry.lf).length) ok0)) <|
 .ask (gidx p_l (IntKind.wrap .i64 ((p_l.length : Int) - 1))) fun x2339 h2340 =>
 .say [.row (GEntry.lf1 x2339)] (okc (gidx_ok GEntry.lf_eq h2340 : (0 : Int) ≤ (IntKind.wrap .i64 ((p_l.length : Int) - 1)) ∧ (p_l.map GEntry.lf)[(IntKind.wrap .i64 ((p_l.length : Int) - 1)).toNat]? = some (GEntry.lf1 x2339)) ok0) <|
 .ret (fitN 1) (x2339.fTerm)
def Q123 (p_l : List GEntry) : Option (Int) := Mo.den (Q123_T p_l)
theorem Q123_ok (p_l : List GEntry) (r : Int) (h : Q123 p_l = some r) : Fn Tryz.prog GI 91 [.lf (.rows 82 (p_l.map GEntry.lf))] (.lf (.int .i64 r)) :=
 fn_T BaseK Tryz.func91 (by kernel_rfl) (by kernel_rfl) (by kernel_rfl) (Q123_T p_l) (fun r => [.lf (.int .i64 r)]) (by kernel_rfl) h
def Q52_J0_T (l2415 : List GMessage) (r2261 : GMember) (r2289 : Int) (v2414 : Int) : Mo (((List GMessage))) :=
 .ite (v2414 != r2261.fID) (fun c2417 =>
 .say [.br true] (okc c2417 (okc (by simp : r2261.fLog.length = (r2261.fLog.map GEntry.lf).length) ok0)) <|
 .ask (Q123 r2261.fLog) fun r2418 h2419 =>
 .say [.orderT (.q 0 (.q 1 (.q 2 (.q 3 (.q 4 (.q 5 (.q 6 (.q 7 (.q 8 (.q 9 (.q 10 (.l 11 (.q 12 (.l 13 (.l 14 (.q 15 .fin)))))))))))))))) (some 14) [6] [.num r2261.fLog.length, .at_ 32 11, .resv 2, .res (.lf (.int .i64 r2418)), .slot 6, .rows ((l2415 ++ [GMessage.sLast (GMessage.sIndex (GMessage.sTerm (GMessage.sKind (GMessage.sTo (GMessage.sFrom GMessage.z r2261.fID) v2414) 1) (IntKind.wrap .i64 (r2261.fTerm + 1))) (r2261.fLog.length : Int)) r2418]).map GMessage.lf), .slot 7] [1, 2, 4, 37, 38] 8 [(1, .ptr 0 0), (2, .ptr 1 0), (4, .own 7), (37, .lf (.int .i64 r2261.fSize)), (38, .lf (.int .i64 v2414))] [.box 25 (aggS (.agg ((GMember.lf1 r2261).map AV.lf)) [(2, .lf (.int .i64 (IntKind.wrap .i64 (r2261.fTerm + 1)))), (3, .lf (.int .i64 r2261.fID)), (4, .lf (.int .i64 1)), (5, .lf (.int .i64 (-1))), (6, .lf (.int .i64 r2289)), (7, .lf (.int .i64 (ishl .i64 1 r2261.fID))), (10, .nils 1), (11, .nils 1)]), .box 25 (Z25), .dead, .dead, .dead, .dead, .row 63 9 [(GMessage.lf1 (GMessage.sLast (GMessage.sIndex (GMessage.sTerm (GMessage.sKind (GMessage.sTo (GMessage.sFrom GMessage.z r2261.fID) v2414) 1) (IntKind.wrap .i64 (r2261.fTerm + 1))) (r2261.fLog.length : Int)) r2418))], .row 63 9 ((l2415 ++ [GMessage.sLast (GMessage.sIndex (GMessage.sTerm (GMessage.sKind (GMessage.sTo (GMessage.sFrom GMessage.z r2261.fID) v2414) 1) (IntKind.wrap .i64 (r2261.fTerm + 1))) (r2261.fLog.length : Int)) r2418]).map GMessage.lf)]] (okc (Q123_ok _ _ h2419) (okc (by simp [GMessage.lf_eq] : (l2415 ++ [GMessage.sLast (GMessage.sIndex (GMessage.sTerm (GMessage.sKind (GMessage.sTo (GMessage.sFrom GMessage.z r2261.fID) v2414) 1) (IntKind.wrap .i64 (r2261.fTerm + 1))) (r2261.fLog.length : Int)) r2418]).map GMessage.lf = (l2415.map GMessage.lf) ++ [(GMessage.lf1 (GMessage.sLast (GMessage.sIndex (GMessage.sTerm (GMessage.sKind (GMessage.sTo (GMessage.sFrom GMessage.z r2261.fID) v2414) 1) (IntKind.wrap .i64 (r2261.fTerm + 1))) (r2261.fLog.length : Int)) r2418))]) ok0)) <|
 .grd ((l2415.length + [GMessage.sLast (GMessage.sIndex (GMessage.sTerm (GMessage.sKind (GMessage.sTo (GMessage.sFrom GMessage.z r2261.fID) v2414) 1) (IntKind.wrap .i64 (r2261.fTerm + 1))) (r2261.fLog.length : Int)) r2418].length) * 88 ≤ 140737488355328) fun h2420 =>
 .say [] (okc (by simpa using h2420 : ((l2415.map GMessage.lf).length + [(GMessage.lf1 (GMessage.sLast (GMessage.sIndex (GMessage.sTerm (GMessage.sKind (GMessage.sTo (GMessage.sFrom GMessage.z r2261.fID) v2414) 1) (IntKind.wrap .i64 (r2261.fTerm + 1))) (r2261.fLog.length : Int)) r2418))].length) * 88 ≤ 140737488355328) (okc (rfl : (some ⟨[(1, .ptr 0 0), (2, .ptr 1 0), (4, .own 7), (37, .lf (.int .i64 r2261.fSize)), (38, .lf (.int .i64 v2414))], [.box 25 (aggS (.agg ((GMember.lf1 r2261).map AV.lf)) [(2, .lf (.int .i64 (IntKind.wrap .i64 (r2261.fTerm + 1)))), (3, .lf (.int .i64 r2261.fID)), (4, .lf (.int .i64 1)), (5, .lf (.int .i64 (-1))), (6, .lf (.int .i64 r2289)), (7, .lf (.int .i64 (ishl .i64 1 r2261.fID))), (10, .nils 1), (11, .nils 1)]), .box 25 (Z25), .dead, .dead, .dead, .dead, .row 63 9 [(GMessage.lf1 (GMessage.sLast (GMessage.sIndex (GMessage.sTerm (GMessage.sKind (GMessage.sTo (GMessage.sFrom GMessage.z r2261.fID) v2414) 1) (IntKind.wrap .i64 (r2261.fTerm + 1))) (r2261.fLog.length : Int)) r2418))], .row 63 9 ((l2415 ++ [GMessage.sLast (GMessage.sIndex (GMessage.sTerm (GMessage.sKind (GMessage.sTo (GMessage.sFrom GMessage.z r2261.fID) v2414) 1) (IntKind.wrap .i64 (r2261.fTerm + 1))) (r2261.fLog.length : Int)) r2418]).map GMessage.lf)]⟩ : Option St) = some ⟨[(1, .ptr 0 0), (2, .ptr 1 0), (4, .own 7), (37, .lf (.int .i64 r2261.fSize)), (38, .lf (.int .i64 v2414))], [.box 25 (aggS (.agg ((GMember.lf1 r2261).map AV.lf)) [(2, .lf (.int .i64 (IntKind.wrap .i64 (r2261.fTerm + 1)))), (3, .lf (.int .i64 r2261.fID)), (4, .lf (.int .i64 1)), (5, .lf (.int .i64 (-1))), (6, .lf (.int .i64 r2289)), (7, .lf (.int .i64 (ishl .i64 1 r2261.fID))), (10, .nils 1), (11, .nils 1)]), .box 25 (Z25), .dead, .dead, .dead, .dead, .row 63 9 [(GMessage.lf1 (GMessage.sLast (GMessage.sIndex (GMessage.sTerm (GMessage.sKind (GMessage.sTo (GMessage.sFrom GMessage.z r2261.fID) v2414) 1) (IntKind.wrap .i64 (r2261.fTerm + 1))) (r2261.fLog.length : Int)) r2418))], .row 63 9 ((l2415 ++ [GMessage.sLast (GMessage.sIndex (GMessage.sTerm (GMessage.sKind (GMessage.sTo (GMessage.sFrom GMessage.z r2261.fID) v2414) 1) (IntKind.wrap .i64 (r2261.fTerm + 1))) (r2261.fLog.length : Int)) r2418]).map GMessage.lf)]⟩) ok0)) <|
 .ret ⟨[], [1, 2, 4, 37, 38], [(7, 5)], 6⟩ (l2415 ++ [GMessage.sLast (GMessage.sIndex (GMessage.sTerm (GMessage.sKind (GMessage.sTo (GMessage.sFrom GMessage.z r2261.fID) v2414) 1) (IntKind.wrap .i64 (r2261.fTerm + 1))) (r2261.fLog.length : Int)) r2418])) fun c2417 =>
 .say [.br false] (ok1 c2417) <|
 .ret ⟨[], [1, 2, 4, 37, 38], [], 6⟩ (l2415)
def Q52_J0 (l2415 : List GMessage) (r2261 : GMember) (r2289 : Int) (v2414 : Int) : Option (((List GMessage))) := Mo.den (Q52_J0_T l2415 r2261 r2289 v2414)
def Q52_J0_S (r2261 : GMember) (r2289 : Int) (v2414 : Int) (r_ : ((List GMessage))) : St := ⟨[(1, .ptr 0 0), (2, .ptr 1 0), (4, .own 5), (37, .lf (.int .i64 r2261.fSize)), (38, .lf (.int .i64 v2414))], [.box 25 (aggS (.agg ((GMember.lf1 r2261).map AV.lf)) [(2, .lf (.int .i64 (IntKind.wrap .i64 (r2261.fTerm + 1)))), (3, .lf (.int .i64 r2261.fID)), (4, .lf (.int .i64 1)), (5, .lf (.int .i64 (-1))), (6, .lf (.int .i64 r2289)), (7, .lf (.int .i64 (ishl .i64 1 r2261.fID))), (10, .nils 1), (11, .nils 1)]), .box 25 (Z25), .dead, .dead, .dead, .row 63 9 (r_.map GMessage.lf)]⟩
theorem Q52_J0_W {l2415 : List GMessage} {r2261 : GMember} {r2289 : Int} {v2414 : Int} {r_ : ((List GMessage))} (h : Q52_J0 l2415 r2261 r2289 v2414 = some r_) : AWa_ Tryz.f51 0 [1, 1, 1, 1, 1, 1, 1, 1, 1, 0, 1, 0, 0, 1, 1, 0] (.normal) (Q52_J0_S r2261 r2289 v2414 r_) ⟨[(1, .ptr 0 0), (2, .ptr 1 0), (4, .own 5), (37, .lf (.int .i64 r2261.fSize)), (38, .lf (.int .i64 v2414))], [.box 25 (aggS (.agg ((GMember.lf1 r2261).map AV.lf)) [(2, .lf (.int .i64 (IntKind.wrap .i64 (r2261.fTerm + 1)))), (3, .lf (.int .i64 r2261.fID)), (4, .lf (.int .i64 1)), (5, .lf (.int .i64 (-1))), (6, .lf (.int .i64 r2289)), (7, .lf (.int .i64 (ishl .i64 1 r2261.fID))), (10, .nils 1), (11, .nils 1)]), .box 25 (Z25), .dead, .dead, .dead, .row 63 9 (l2415.map GMessage.lf)]⟩ :=
 part_T BaseK (Q52_J0_T l2415 r2261 r2289 v2414) (fun _ => .normal) (Q52_J0_S r2261 r2289 v2414) (by kernel_rfl) h
def Q52_L5_T (r2261 : GMember) (r2289 : Int) : (Int × (List GMessage)) → Mo ((Int × (List GMessage)) ⊕ ((List GMessage))) := fun (v2414, l2415) =>
 .ite (decide ((v2414 : Int) < r2261.fSize)) (fun c2416 =>
 .say [.br true] (ok1 c2416) <|
 .ask (Q52_J0 l2415 r2261 r2289 v2414) fun r2422 h2423 =>
 .say [.pt_ 8 [1, 2, 4, 37, 38] 6 (.normal) (Q52_J0_S r2261 r2289 v2414 r2422)] (ok1 (Q52_J0_W h2423)) <|
 .ret ⟨[], [1, 2, 4, 37, 38], [], 6⟩ (.inl (IntKind.wrap .i64 (v2414 + 1), r2422))) fun c2416 =>
 .say [.br false] (ok1 c2416) <|
 .ret ⟨[], [1, 2, 4], [], 6⟩ (.inr (l2415))
def Q52_L5 (r2261 : GMember) (r2289 : Int) (v2414 : Int) (l2415 : List GMessage) : Option (((List GMessage))) := loopM (fun v_ => (Q52_L5_T r2261 r2289 v_).den) FU (v2414, l2415)
def Q52_L5_H (r2261 : GMember) (r2289 : Int) : (Int × (List GMessage)) → St := fun (v2414, l2415) => ⟨[(1, .ptr 0 0), (2, .ptr 1 0), (4, .own 5), (37, .lf (.int .i64 r2261.fSize)), (38, .lf (.int .i64 v2414))], [.box 25 (aggS (.agg ((GMember.lf1 r2261).map AV.lf)) [(2, .lf (.int .i64 (IntKind.wrap .i64 (r2261.fTerm + 1)))), (3, .lf (.int .i64 r2261.fID)), (4, .lf (.int .i64 1)), (5, .lf (.int .i64 (-1))), (6, .lf (.int .i64 r2289)), (7, .lf (.int .i64 (ishl .i64 1 r2261.fID))), (10, .nils 1), (11, .nils 1)]), .box 25 (Z25), .dead, .dead, .dead, .row 63 9 (l2415.map GMessage.lf)]⟩
def Q52_L5_S (r2261 : GMember) (r2289 : Int) (r_ : ((List GMessage))) : St := ⟨[(1, .ptr 0 0), (2, .ptr 1 0), (4, .own 5)], [.box 25 (aggS (.agg ((GMember.lf1 r2261).map AV.lf)) [(2, .lf (.int .i64 (IntKind.wrap .i64 (r2261.fTerm + 1)))), (3, .lf (.int .i64 r2261.fID)), (4, .lf (.int .i64 1)), (5, .lf (.int .i64 (-1))), (6, .lf (.int .i64 r2289)), (7, .lf (.int .i64 (ishl .i64 1 r2261.fID))), (10, .nils 1), (11, .nils 1)]), .box 25 (Z25), .dead, .dead, .dead, .row 63 9 (r_.map GMessage.lf)]⟩
theorem Q52_L5_W {r2261 : GMember} {r2289 : Int} {v2414 : Int} {l2415 : List GMessage} {r_ : ((List GMessage))} (h : Q52_L5 r2261 r2289 v2414 l2415 = some r_) : AWa_ Tryz.f51 0 [1, 1, 1, 1, 1, 1, 1, 1, 1, 0, 1, 0] (.exit 0) (Q52_L5_S r2261 r2289 r_) (Q52_L5_H r2261 r2289 (v2414, l2415)) :=
 loop_T BaseK (body := (Code.sub (bodyC Tryz.f51) [1, 1, 1, 1, 1, 1, 1, 1, 1, 0, 1, 0, 0])) (by kernel_rfl) (Q52_L5_T r2261 r2289) (Q52_L5_H r2261 r2289) (fun _ => .exit 0) (Q52_L5_S r2261 r2289) (fun r_ => rfl) (fun v_ => by kernel_rfl) h
def Q52_T (p_m : GMember) : Mo (GMember × List GMessage) :=
 .ask (Q91 p_m) fun r2261 h2262 =>
 .say [.resH [] (aggS (.agg ((GMember.lf1 r2261).map AV.lf)) [(8, .own 0), (10, .own 1), (11, .own 2)]) [.row 54 82 (r2261.fLog.map GEntry.lf), .row 3 1 (r2261.fNext.map lfI), .row 3 1 (r2261.fMatch.map lfI)], .at_ 6 1, .frz 2, .frz 3, .frz 4] (ok1 (Q91_ok _ _ h2262)) <|
 .ask (Q27 r2261) fun r2281 h2282 =>
 .say [.res (.lf (.bool r2281))] (ok1 (Q27_ok _ _ h2282)) <|
 .ite (!r2281) (fun c2284 =>
 .say [.br true] (ok1 c2284) <|
 .ret ⟨[.nil 1 9, .tod 1], [0, 1], [], 0⟩ (r2261, [])) fun c2284 =>
 .say [.br false, .orderT (.q 0 (.q 2 (.alt 1 (.l 3 (.q 4 (.q 5 (.l 6 (.q 7 (.l 8 (.q 9 (.l 10 (.q 11 (.l 12 .fin)))))))))) (.l 3 (.q 4 (.l 1 (.q 5 (.l 6 (.q 7 (.l 8 (.q 9 (.l 10 (.q 11 (.l 12 .fin)))))))))))))) (some 12) [0] [.both [] []] [1, 2] 5 [(1, .ptr 0 0), (2, .ptr 1 0)] [.box 25 (aggS (.agg ((GMember.lf1 r2261).map AV.lf)) [(2, .lf (.int .i64 (IntKind.wrap .i64 (r2261.fTerm + 1)))), (3, .lf (.int .i64 r2261.fID)), (4, .lf (.int .i64 1)), (5, .lf (.int .i64 (-1))), (7, .lf (.int .i64 (ishl .i64 1 r2261.fID)))]), .box 25 (Z25), .dead, .dead, .dead]] (ok1 c2284) <|
 .grd ((0 : Int) ≤ r2261.fID) fun h2286 =>
 .say [] (okc h2286 (okc (rfl : (some ⟨[(1, .ptr 0 0), (2, .ptr 1 0)], [.box 25 (aggS (.agg ((GMember.lf1 r2261).map AV.lf)) [(2, .lf (.int .i64 (IntKind.wrap .i64 (r2261.fTerm + 1)))), (3, .lf (.int .i64 r2261.fID)), (4, .lf (.int .i64 1)), (5, .lf (.int .i64 (-1))), (7, .lf (.int .i64 (ishl .i64 1 r2261.fID)))]), .box 25 (Z25), .dead, .dead, .dead]⟩ : Option St) = some ⟨[(1, .ptr 0 0), (2, .ptr 1 0)], [.box 25 (aggS (.agg ((GMember.lf1 r2261).map AV.lf)) [(2, .lf (.int .i64 (IntKind.wrap .i64 (r2261.fTerm + 1)))), (3, .lf (.int .i64 r2261.fID)), (4, .lf (.int .i64 1)), (5, .lf (.int .i64 (-1))), (7, .lf (.int .i64 (ishl .i64 1 r2261.fID)))]), .box 25 (Z25), .dead, .dead, .dead]⟩) (okc h2286 (okc (rfl : (some ⟨[(1, .ptr 0 0), (2, .ptr 1 0)], [.box 25 (aggS (.agg ((GMember.lf1 r2261).map AV.lf)) [(2, .lf (.int .i64 (IntKind.wrap .i64 (r2261.fTerm + 1)))), (3, .lf (.int .i64 r2261.fID)), (4, .lf (.int .i64 1)), (5, .lf (.int .i64 (-1))), (7, .lf (.int .i64 (ishl .i64 1 r2261.fID)))]), .box 25 (Z25), .dead, .dead, .dead]⟩ : Option St) = some ⟨[(1, .ptr 0 0), (2, .ptr 1 0)], [.box 25 (aggS (.agg ((GMember.lf1 r2261).map AV.lf)) [(2, .lf (.int .i64 (IntKind.wrap .i64 (r2261.fTerm + 1)))), (3, .lf (.int .i64 r2261.fID)), (4, .lf (.int .i64 1)), (5, .lf (.int .i64 (-1))), (7, .lf (.int .i64 (ishl .i64 1 r2261.fID)))]), .box 25 (Z25), .dead, .dead, .dead]⟩) ok0)))) <|
 .ask (Q122 r2261.fID) fun r2289 h2290 =>
 .say [.res (.lf (.int .i64 r2289))] (ok1 (Q122_ok _ _ h2290)) <|
 .ite (r2261.fSize == 1) (fun c2329 =>
 .say [.br true] (ok1 c2329) <|
 .ask (Q82 (GMember.mk r2261.fID r2261.fSize (IntKind.wrap .i64 (r2261.fTerm + 1)) r2261.fID 1 (-1) r2289 (ishl .i64 1 r2261.fID) r2261.fLog r2261.fCommit [] [])) fun r2332 h2333 =>
 .say [.res (.dat (GMember.lf1 r2332))] (ok1 (Q82_ok _ _ h2333)) <|
 .ret ⟨[.nil 1 9, .tod 1], [0, 1], [], 0⟩ (r2332, [])) fun c2329 =>
 .say [.br false] (okc c2329 (okc (by simp [GMessage.lf_eq] : (([] : List GMessage).map GMessage.lf) = []) ok0)) <|
 .ask (Q52_L5 r2261 r2289 0 ([] : List GMessage)) fun r2425 h2426 =>
 .say [.part [.nrow 4 63 9, .rerow 5 (([] : List GMessage).map GMessage.lf)] 0 [1, 2, 4, 37, 38] 6 (.exit 0) (Q52_L5_S r2261 r2289 r2425).T (Q52_L5_S r2261 r2289 r2425).H, .at_ 0 0, .frz 5] (ok1 (Q52_L5_W h2426)) <|
 .ret (fitN 2) (GMember.mk r2261.fID r2261.fSize (IntKind.wrap .i64 (r2261.fTerm + 1)) r2261.fID 1 (-1) r2289 (ishl .i64 1 r2261.fID) r2261.fLog r2261.fCommit [] [], r2425)
def Q52 (p_m : GMember) : Option (GMember × List GMessage) := Mo.den (Q52_T p_m)
theorem Q52_ok (p_m : GMember) (r : GMember × List GMessage) (h : Q52 p_m = some r) : Fn Tryz.prog GI 51 [.dat (GMember.lf1 p_m)] (.tup [.dat (GMember.lf1 r.1), .lf (.rows 9 (r.2.map GMessage.lf))]) :=
 fn_T BaseK Tryz.func51 (by kernel_rfl) (by kernel_rfl) (by kernel_rfl) (Q52_T p_m) (fun r => [.dat (GMember.lf1 r.1), .lf (.rows 9 (r.2.map GMessage.lf))]) (by kernel_rfl) h
def Q71_J0_T (p_l : List GEntry) (p_n : Int) : Mo (Bool) :=
 .ite (decide ((p_n : Int) < 1)) (fun c2459 =>
 .say [.gd 4002 true] (ok1 c2459) <|
 .ret ⟨[], [0, 1, 12], [], 0⟩ (true)) fun c2459 =>
 .say [.gd 4002 false, .num p_l.length] (okc c2459 (okc (by simp : p_l.length = (p_l.map GEntry.lf).length) ok0)) <|
 .ret ⟨[], [0, 1, 12], [], 0⟩ (decide (((p_l.length : Int) : Int) < p_n))
def Q71_J0 (p_l : List GEntry) (p_n : Int) : Option (Bool) := Mo.den (Q71_J0_T p_l p_n)
def Q71_J0_S (p_l : List GEntry) (p_n : Int) (r_ : Bool) : St := ⟨[(0, .lf (.rows 82 (p_l.map GEntry.lf))), (1, .lf (.int .i64 p_n)), (12, .lf (.bool r_))], []⟩
theorem Q71_J0_W {p_l : List GEntry} {p_n : Int} {r_ : Bool} (h : Q71_J0 p_l p_n = some r_) : AWa_ Tryz.f53 0 [1, 0, 0] (.normal) (Q71_J0_S p_l p_n r_) ⟨[(0, .lf (.rows 82 (p_l.map GEntry.lf))), (1, .lf (.int .i64 p_n))], []⟩ :=
 part_T BaseK (Q71_J0_T p_l p_n) (fun _ => .normal) (Q71_J0_S p_l p_n) (by kernel_rfl) h
def Q71_T (p_l : List GEntry) (p_n : Int) : Mo (Int) :=
 .ask (Q71_J0 p_l p_n) fun r2461 h2462 =>
 .say [.pt_ 9 [0, 1] 0 (.normal) (Q71_J0_S p_l p_n r2461)] (ok1 (Q71_J0_W h2462)) <|
 .ite (r2461) (fun c2464 =>
 .say [.br true] (ok1 c2464) <|
 .ret (fitN 1) (0)) fun c2464 =>
 .say [.br false] (ok1 c2464) <|
 .ask (gidx p_l (IntKind.wrap .i64 (p_n - 1))) fun x2465 h2466 =>
 .say [.row (GEntry.lf1 x2465)] (okc (gidx_ok GEntry.lf_eq h2466 : (0 : Int) ≤ (IntKind.wrap .i64 (p_n - 1)) ∧ (p_l.map GEntry.lf)[(IntKind.wrap .i64 (p_n - 1)).toNat]? = some (GEntry.lf1 x2465)) ok0) <|
 .ret (fitN 1) (x2465.fTerm)
def Q71 (p_l : List GEntry) (p_n : Int) : Option (Int) := Mo.den (Q71_T p_l p_n)
theorem Q71_ok (p_l : List GEntry) (p_n : Int) (r : Int) (h : Q71 p_l p_n = some r) : Fn Tryz.prog GI 53 [.lf (.rows 82 (p_l.map GEntry.lf)), .lf (.int .i64 p_n)] (.lf (.int .i64 r)) :=
 fn_T BaseK Tryz.func53 (by kernel_rfl) (by kernel_rfl) (by kernel_rfl) (Q71_T p_l p_n) (fun r => [.lf (.int .i64 r)]) (by kernel_rfl) h
def Q26_J0_T (l2649 : List GMessage) (p_m : GMember) (v2648 : Int) : Mo (Bool) :=
 .ite (decide ((v2648 : Int) < p_m.fSize)) (fun c2650 =>
 .say [.gd 12004 true, .num p_m.fNext.length] (okc c2650 (okc (by simp : p_m.fNext.length = (p_m.fNext.map lfI).length) ok0)) <|
 .ret ⟨[], [1, 3, 4, 20], [], 2⟩ (decide ((v2648 : Int) < (p_m.fNext.length : Int)))) fun c2650 =>
 .say [.gd 12004 false] (ok1 c2650) <|
 .ret ⟨[], [1, 3, 4, 20], [], 2⟩ (false)
def Q26_J0 (l2649 : List GMessage) (p_m : GMember) (v2648 : Int) : Option (Bool) := Mo.den (Q26_J0_T l2649 p_m v2648)
def Q26_J0_S (l2649 : List GMessage) (p_m : GMember) (v2648 : Int) (r_ : Bool) : St := ⟨[(1, .ptr 0 0), (3, .own 1), (4, .lf (.int .i64 v2648)), (20, .lf (.bool r_))], [.box 25 (.dat (GMember.lf1 p_m)), .row 63 9 (l2649.map GMessage.lf)]⟩
theorem Q26_J0_W {l2649 : List GMessage} {p_m : GMember} {v2648 : Int} {r_ : Bool} (h : Q26_J0 l2649 p_m v2648 = some r_) : AWa_ Tryz.f22 0 [1, 1, 1, 0, 1, 0, 0, 0, 0] (.normal) (Q26_J0_S l2649 p_m v2648 r_) ⟨[(1, .ptr 0 0), (3, .own 1), (4, .lf (.int .i64 v2648))], [.box 25 (.dat (GMember.lf1 p_m)), .row 63 9 (l2649.map GMessage.lf)]⟩ :=
 part_T BaseK (Q26_J0_T l2649 p_m v2648) (fun _ => .normal) (Q26_J0_S l2649 p_m v2648) (by kernel_rfl) h
def Q26_J5_T (l2649 : List GMessage) (p_m : GMember) (v2648 : Int) : Mo (((List GMessage))) :=
 .ite (v2648 == p_m.fID) (fun c2655 =>
 .say [.br true] (ok1 c2655) <|
 .ret ⟨[], [1, 3, 4], [], 2⟩ (l2649)) fun c2655 =>
 .say [.br false, .order [(true, 0), (true, 1), (true, 2), (true, 3), (true, 4), (true, 5), (true, 6), (true, 7), (true, 8), (true, 9), (true, 10)] none []] (ok1 c2655) <|
 .ask (gidx p_m.fNext v2648) fun x2656 h2657 =>
 .say [.row (lfI x2656), .num p_m.fLog.length, .num p_m.fLog.length] (okc (gidx_ok (fun _ => rfl) h2657 : (0 : Int) ≤ v2648 ∧ (p_m.fNext.map lfI)[v2648.toNat]? = some (lfI x2656)) (okc (by simp : p_m.fLog.length = (p_m.fLog.map GEntry.lf).length) (okc (by simp : p_m.fLog.length = (p_m.fLog.map GEntry.lf).length) ok0))) <|
 .ask (gidx p_m.fNext v2648) fun x2658 h2659 =>
 .say [] (okc (gidx_ok (fun _ => rfl) h2659 : (0 : Int) ≤ v2648 ∧ (p_m.fNext.map lfI)[v2648.toNat]? = some (lfI x2658)) ok0) <|
 .ask (gidx p_m.fNext v2648) fun x2660 h2661 =>
 .say [] (okc (gidx_ok (fun _ => rfl) h2661 : (0 : Int) ≤ v2648 ∧ (p_m.fNext.map lfI)[v2648.toNat]? = some (lfI x2660)) (okc (by simp [GEntry.lf_eq] : ((p_m.fLog.take (if (p_m.fLog.length : Int) < (IntKind.wrap .i64 ((if (if (p_m.fLog.length : Int) < x2656 then (p_m.fLog.length : Int) else x2656) > 0 then (if (p_m.fLog.length : Int) < x2656 then (p_m.fLog.length : Int) else x2656) else 0) + 16)) then (p_m.fLog.length : Int) else (IntKind.wrap .i64 ((if (if (p_m.fLog.length : Int) < x2656 then (p_m.fLog.length : Int) else x2656) > 0 then (if (p_m.fLog.length : Int) < x2656 then (p_m.fLog.length : Int) else x2656) else 0) + 16))).toNat).drop (if (if (p_m.fLog.length : Int) < x2656 then (p_m.fLog.length : Int) else x2656) > 0 then (if (p_m.fLog.length : Int) < x2656 then (p_m.fLog.length : Int) else x2656) else 0).toNat).map GEntry.lf = ((p_m.fLog.map GEntry.lf).take (if (p_m.fLog.length : Int) < (IntKind.wrap .i64 ((if (if (p_m.fLog.length : Int) < x2656 then (p_m.fLog.length : Int) else x2656) > 0 then (if (p_m.fLog.length : Int) < x2656 then (p_m.fLog.length : Int) else x2656) else 0) + 16)) then (p_m.fLog.length : Int) else (IntKind.wrap .i64 ((if (if (p_m.fLog.length : Int) < x2656 then (p_m.fLog.length : Int) else x2656) > 0 then (if (p_m.fLog.length : Int) < x2656 then (p_m.fLog.length : Int) else x2656) else 0) + 16))).toNat).drop (if (if (p_m.fLog.length : Int) < x2656 then (p_m.fLog.length : Int) else x2656) > 0 then (if (p_m.fLog.length : Int) < x2656 then (p_m.fLog.length : Int) else x2656) else 0).toNat) ok0)) <|
 .grd ((0 : Int) ≤ (if (if (p_m.fLog.length : Int) < x2656 then (p_m.fLog.length : Int) else x2656) > 0 then (if (p_m.fLog.length : Int) < x2656 then (p_m.fLog.length : Int) else x2656) else 0) ∧ (if (if (p_m.fLog.length : Int) < x2656 then (p_m.fLog.length : Int) else x2656) > 0 then (if (p_m.fLog.length : Int) < x2656 then (p_m.fLog.length : Int) else x2656) else 0) ≤ (if (p_m.fLog.length : Int) < (IntKind.wrap .i64 ((if (if (p_m.fLog.length : Int) < x2656 then (p_m.fLog.length : Int) else x2656) > 0 then (if (p_m.fLog.length : Int) < x2656 then (p_m.fLog.length : Int) else x2656) else 0) + 16)) then (p_m.fLog.length : Int) else (IntKind.wrap .i64 ((if (if (p_m.fLog.length : Int) < x2656 then (p_m.fLog.length : Int) else x2656) > 0 then (if (p_m.fLog.length : Int) < x2656 then (p_m.fLog.length : Int) else x2656) else 0) + 16))) ∧ (if (p_m.fLog.length : Int) < (IntKind.wrap .i64 ((if (if (p_m.fLog.length : Int) < x2656 then (p_m.fLog.length : Int) else x2656) > 0 then (if (p_m.fLog.length : Int) < x2656 then (p_m.fLog.length : Int) else x2656) else 0) + 16)) then (p_m.fLog.length : Int) else (IntKind.wrap .i64 ((if (if (p_m.fLog.length : Int) < x2656 then (p_m.fLog.length : Int) else x2656) > 0 then (if (p_m.fLog.length : Int) < x2656 then (p_m.fLog.length : Int) else x2656) else 0) + 16))) ≤ (p_m.fLog.length : Int)) fun h2662 =>
 .say [] (okc (by simpa using h2662 : (0 : Int) ≤ (if (if (p_m.fLog.length : Int) < x2656 then (p_m.fLog.length : Int) else x2656) > 0 then (if (p_m.fLog.length : Int) < x2656 then (p_m.fLog.length : Int) else x2656) else 0) ∧ (if (if (p_m.fLog.length : Int) < x2656 then (p_m.fLog.length : Int) else x2656) > 0 then (if (p_m.fLog.length : Int) < x2656 then (p_m.fLog.length : Int) else x2656) else 0) ≤ (if (p_m.fLog.length : Int) < (IntKind.wrap .i64 ((if (if (p_m.fLog.length : Int) < x2656 then (p_m.fLog.length : Int) else x2656) > 0 then (if (p_m.fLog.length : Int) < x2656 then (p_m.fLog.length : Int) else x2656) else 0) + 16)) then (p_m.fLog.length : Int) else (IntKind.wrap .i64 ((if (if (p_m.fLog.length : Int) < x2656 then (p_m.fLog.length : Int) else x2656) > 0 then (if (p_m.fLog.length : Int) < x2656 then (p_m.fLog.length : Int) else x2656) else 0) + 16))) ∧ (if (p_m.fLog.length : Int) < (IntKind.wrap .i64 ((if (if (p_m.fLog.length : Int) < x2656 then (p_m.fLog.length : Int) else x2656) > 0 then (if (p_m.fLog.length : Int) < x2656 then (p_m.fLog.length : Int) else x2656) else 0) + 16)) then (p_m.fLog.length : Int) else (IntKind.wrap .i64 ((if (if (p_m.fLog.length : Int) < x2656 then (p_m.fLog.length : Int) else x2656) > 0 then (if (p_m.fLog.length : Int) < x2656 then (p_m.fLog.length : Int) else x2656) else 0) + 16))) ≤ ((p_m.fLog.map GEntry.lf).length : Int)) ok0) <|
 .ask (Q71 p_m.fLog x2660) fun r2663 h2664 =>
 .say [] (ok1 (Q71_ok _ _ _ h2664)) <|
 .ask (Q83 ((p_m.fLog.take (if (p_m.fLog.length : Int) < (IntKind.wrap .i64 ((if (if (p_m.fLog.length : Int) < x2656 then (p_m.fLog.length : Int) else x2656) > 0 then (if (p_m.fLog.length : Int) < x2656 then (p_m.fLog.length : Int) else x2656) else 0) + 16)) then (p_m.fLog.length : Int) else (IntKind.wrap .i64 ((if (if (p_m.fLog.length : Int) < x2656 then (p_m.fLog.length : Int) else x2656) > 0 then (if (p_m.fLog.length : Int) < x2656 then (p_m.fLog.length : Int) else x2656) else 0) + 16))).toNat).drop (if (if (p_m.fLog.length : Int) < x2656 then (p_m.fLog.length : Int) else x2656) > 0 then (if (p_m.fLog.length : Int) < x2656 then (p_m.fLog.length : Int) else x2656) else 0).toNat)) fun r2665 h2666 =>
 .say [.orderT (.q 0 (.q 1 (.q 2 (.q 3 (.q 4 (.q 5 (.q 6 (.q 7 (.q 8 (.q 9 (.q 10 (.q 11 (.q 12 (.q 13 (.q 14 (.q 15 (.q 16 (.q 17 (.q 19 (.q 20 (.q 21 (.q 22 (.q 23 (.q 24 (.q 25 (.l 18 (.l 26 (.q 27 (.l 28 (.l 29 (.q 30 .fin))))))))))))))))))))))))))))))) (some 29) [2, 4] [.row (lfI x2658), .row (lfI x2660), .rows (((p_m.fLog.take (if (p_m.fLog.length : Int) < (IntKind.wrap .i64 ((if (if (p_m.fLog.length : Int) < x2656 then (p_m.fLog.length : Int) else x2656) > 0 then (if (p_m.fLog.length : Int) < x2656 then (p_m.fLog.length : Int) else x2656) else 0) + 16)) then (p_m.fLog.length : Int) else (IntKind.wrap .i64 ((if (if (p_m.fLog.length : Int) < x2656 then (p_m.fLog.length : Int) else x2656) > 0 then (if (p_m.fLog.length : Int) < x2656 then (p_m.fLog.length : Int) else x2656) else 0) + 16))).toNat).drop (if (if (p_m.fLog.length : Int) < x2656 then (p_m.fLog.length : Int) else x2656) > 0 then (if (p_m.fLog.length : Int) < x2656 then (p_m.fLog.length : Int) else x2656) else 0).toNat).map GEntry.lf), .at_ 22 18, .resv 2, .res (.lf (.int .i64 r2663)), .resH [] (.own 0) [.row 54 82 (r2665.map GEntry.lf)], .at_ 22 28, .frz 4, .slot 2, .rows ((l2649 ++ [GMessage.mk p_m.fID v2648 3 p_m.fTerm x2658 r2663 p_m.fCommit r2665 false]).map GMessage.lf), .slot 3] [1, 3, 4] 5 [(1, .ptr 0 0), (3, .own 3), (4, .lf (.int .i64 v2648))] [.box 25 (.dat (GMember.lf1 p_m)), .dead, .row 63 9 [(GMessage.lf1 (GMessage.mk p_m.fID v2648 3 p_m.fTerm x2658 r2663 p_m.fCommit r2665 false))], .row 63 9 ((l2649 ++ [GMessage.mk p_m.fID v2648 3 p_m.fTerm x2658 r2663 p_m.fCommit r2665 false]).map GMessage.lf), .dead]] (okc (Q83_ok _ _ h2666) (okc (by simp [GMessage.lf_eq] : (l2649 ++ [GMessage.mk p_m.fID v2648 3 p_m.fTerm x2658 r2663 p_m.fCommit r2665 false]).map GMessage.lf = (l2649.map GMessage.lf) ++ [(GMessage.lf1 (GMessage.mk p_m.fID v2648 3 p_m.fTerm x2658 r2663 p_m.fCommit r2665 false))]) ok0)) <|
 .grd ((l2649.length + [GMessage.mk p_m.fID v2648 3 p_m.fTerm x2658 r2663 p_m.fCommit r2665 false].length) * 88 ≤ 140737488355328) fun h2667 =>
 .say [] (okc (by simpa using h2667 : ((l2649.map GMessage.lf).length + [(GMessage.lf1 (GMessage.mk p_m.fID v2648 3 p_m.fTerm x2658 r2663 p_m.fCommit r2665 false))].length) * 88 ≤ 140737488355328) (okc (rfl : (some ⟨[(1, .ptr 0 0), (3, .own 3), (4, .lf (.int .i64 v2648))], [.box 25 (.dat (GMember.lf1 p_m)), .dead, .row 63 9 [(GMessage.lf1 (GMessage.mk p_m.fID v2648 3 p_m.fTerm x2658 r2663 p_m.fCommit r2665 false))], .row 63 9 ((l2649 ++ [GMessage.mk p_m.fID v2648 3 p_m.fTerm x2658 r2663 p_m.fCommit r2665 false]).map GMessage.lf), .dead]⟩ : Option St) = some ⟨[(1, .ptr 0 0), (3, .own 3), (4, .lf (.int .i64 v2648))], [.box 25 (.dat (GMember.lf1 p_m)), .dead, .row 63 9 [(GMessage.lf1 (GMessage.mk p_m.fID v2648 3 p_m.fTerm x2658 r2663 p_m.fCommit r2665 false))], .row 63 9 ((l2649 ++ [GMessage.mk p_m.fID v2648 3 p_m.fTerm x2658 r2663 p_m.fCommit r2665 false]).map GMessage.lf), .dead]⟩) ok0)) <|
 .ret ⟨[], [1, 3, 4], [(3, 1)], 2⟩ (l2649 ++ [GMessage.mk p_m.fID v2648 3 p_m.fTerm x2658 r2663 p_m.fCommit r2665 false])
def Q26_J5 (l2649 : List GMessage) (p_m : GMember) (v2648 : Int) : Option (((List GMessage))) := Mo.den (Q26_J5_T l2649 p_m v2648)
def Q26_J5_S (p_m : GMember) (v2648 : Int) (r_ : ((List GMessage))) : St := ⟨[(1, .ptr 0 0), (3, .own 1), (4, .lf (.int .i64 v2648))], [.box 25 (.dat (GMember.lf1 p_m)), .row 63 9 (r_.map GMessage.lf)]⟩
theorem Q26_J5_W {l2649 : List GMessage} {p_m : GMember} {v2648 : Int} {r_ : ((List GMessage))} (h : Q26_J5 l2649 p_m v2648 = some r_) : AWa_ Tryz.f22 0 [1, 1, 1, 0, 1, 0, 0, 1, 0] (.normal) (Q26_J5_S p_m v2648 r_) ⟨[(1, .ptr 0 0), (3, .own 1), (4, .lf (.int .i64 v2648))], [.box 25 (.dat (GMember.lf1 p_m)), .row 63 9 (l2649.map GMessage.lf)]⟩ :=
 part_T BaseK (Q26_J5_T l2649 p_m v2648) (fun _ => .normal) (Q26_J5_S p_m v2648) (by kernel_rfl) h
def Q26_L10_T (p_m : GMember) : (Int × (List GMessage)) → Mo ((Int × (List GMessage)) ⊕ ((List GMessage))) := fun (v2648, l2649) =>
 .ask (Q26_J0 l2649 p_m v2648) fun r2652 h2653 =>
 .say [.pt_ 17 [1, 3, 4] 2 (.normal) (Q26_J0_S l2649 p_m v2648 r2652)] (ok1 (Q26_J0_W h2653)) <|
 .ite (r2652) (fun c2654 =>
 .say [.br true] (ok1 c2654) <|
 .ask (Q26_J5 l2649 p_m v2648) fun r2669 h2670 =>
 .say [.pt_ 8 [1, 3, 4] 2 (.normal) (Q26_J5_S p_m v2648 r2669)] (ok1 (Q26_J5_W h2670)) <|
 .ret ⟨[], [1, 3, 4], [], 2⟩ (.inl (IntKind.wrap .i64 (v2648 + 1), r2669))) fun c2654 =>
 .say [.br false] (ok1 c2654) <|
 .ret ⟨[.kill 0], [3], [], 2⟩ (.inr (l2649))
def Q26_L10 (p_m : GMember) (v2648 : Int) (l2649 : List GMessage) : Option (((List GMessage))) := loopM (fun v_ => (Q26_L10_T p_m v_).den) FU (v2648, l2649)
def Q26_L10_H (p_m : GMember) : (Int × (List GMessage)) → St := fun (v2648, l2649) => ⟨[(1, .ptr 0 0), (3, .own 1), (4, .lf (.int .i64 v2648))], [.box 25 (.dat (GMember.lf1 p_m)), .row 63 9 (l2649.map GMessage.lf)]⟩
def Q26_L10_S  (r_ : ((List GMessage))) : St := ⟨[(3, .own 1)], [.dead, .row 63 9 (r_.map GMessage.lf)]⟩
theorem Q26_L10_W {p_m : GMember} {v2648 : Int} {l2649 : List GMessage} {r_ : ((List GMessage))} (h : Q26_L10 p_m v2648 l2649 = some r_) : AWa_ Tryz.f22 0 [1, 1, 1, 0, 1, 0] (.exit 0) (Q26_L10_S r_) (Q26_L10_H p_m (v2648, l2649)) :=
 loop_T BaseK (body := (Code.sub (bodyC Tryz.f22) [1, 1, 1, 0, 1, 0, 0])) (by kernel_rfl) (Q26_L10_T p_m) (Q26_L10_H p_m) (fun _ => .exit 0) Q26_L10_S (fun r_ => rfl) (fun v_ => by kernel_rfl) h
def Q26_T (p_m : GMember) : Mo (List GMessage) :=
 .ite (p_m.fRole != 2) (fun c2439 =>
 .say [.br true] (ok1 c2439) <|
 .ret ⟨[.nil 0 9, .tod 0], [0], [], 0⟩ ([])) fun c2439 =>
 .say [.br false] (okc c2439 (okc (by simp [GMessage.lf_eq] : (([] : List GMessage).map GMessage.lf) = []) ok0)) <|
 .ask (Q26_L10 p_m 0 ([] : List GMessage)) fun r2673 h2674 =>
 .say [.part [.nrow 3 63 9, .rerow 1 (([] : List GMessage).map GMessage.lf)] 0 [1, 3, 4] 2 (.exit 0) (Q26_L10_S r2673).T (Q26_L10_S r2673).H, .at_ 0 0, .frz 1] (ok1 (Q26_L10_W h2674)) <|
 .ret (fitN 1) (r2673)
def Q26 (p_m : GMember) : Option (List GMessage) := Mo.den (Q26_T p_m)
theorem Q26_ok (p_m : GMember) (r : List GMessage) (h : Q26 p_m = some r) : Fn Tryz.prog GI 22 [.dat (GMember.lf1 p_m)] (.lf (.rows 9 (r.map GMessage.lf))) :=
 fn_T BaseK Tryz.func22 (by kernel_rfl) (by kernel_rfl) (by kernel_rfl) (Q26_T p_m) (fun r => [.lf (.rows 9 (r.map GMessage.lf))]) (by kernel_rfl) h
def Q131_T (p_m : GMember) : Mo (GMember × List GMessage) :=
 .ite (decide ((1 : Int) < p_m.fTimer)) (fun c2255 =>
 .say [.br true] (ok1 c2255) <|
 .ask (Q79 p_m) fun r2256 h2257 =>
 .say [.resH [] (aggS (.agg ((GMember.lf1 r2256).map AV.lf)) [(8, .own 0), (10, .own 1), (11, .own 2)]) [.row 54 82 (r2256.fLog.map GEntry.lf), .row 3 1 (r2256.fNext.map lfI), .row 3 1 (r2256.fMatch.map lfI)], .at_ 0 0, .frz 2, .frz 3, .frz 4] (ok1 (Q79_ok _ _ h2257)) <|
 .ret ⟨[.nil 1 9, .tod 1], [0, 1], [], 0⟩ (GMember.sTimer r2256 (IntKind.wrap .i64 (r2256.fTimer - 1)), [])) fun c2255 =>
 .say [.br false] (ok1 c2255) <|
 .ite (p_m.fRole != 2) (fun c2429 =>
 .say [.br true] (ok1 c2429) <|
 .ask (Q52 p_m) fun r2432 h2433 =>
 .say [.res (.tup [.dat (GMember.lf1 r2432.1), .lf (.rows 9 (r2432.2.map GMessage.lf))])] (ok1 (Q52_ok _ _ h2433)) <|
 .ret (fitN 2) (r2432.1, r2432.2)) fun c2429 =>
 .say [.br false] (ok1 c2429) <|
 .ask (Q79 p_m) fun r2436 h2437 =>
 .say [.resH [] (aggS (.agg ((GMember.lf1 r2436).map AV.lf)) [(8, .own 0), (10, .own 1), (11, .own 2)]) [.row 54 82 (r2436.fLog.map GEntry.lf), .row 3 1 (r2436.fNext.map lfI), .row 3 1 (r2436.fMatch.map lfI)]] (ok1 (Q79_ok _ _ h2437)) <|
 .ask (Q26 (GMember.sTimer r2436 2)) fun r2675 h2676 =>
 .say [.orderT (.alt 0 (.l 1 (.l 2 (.l 3 (.q 4 .fin)))) (.l 1 (.alt 0 (.l 2 (.l 3 (.q 4 .fin))) (.l 2 (.l 0 (.l 3 (.q 4 .fin))))))) (some 3) [0, 2, 3, 4] [.both [.at_ 20 2, .frz 2, .frz 3, .frz 4, .res (.lf (.rows 9 (r2675.map GMessage.lf)))] [.both [.at_ 20 2, .frz 2, .frz 3, .frz 4, .res (.lf (.rows 9 (r2675.map GMessage.lf)))] [.at_ 20 2, .frz 2, .frz 3, .frz 4, .res (.lf (.rows 9 (r2675.map GMessage.lf)))]]] [2, 3] 5 [(2, .ptr 1 0), (3, .lf (.rows 9 (r2675.map GMessage.lf)))] [.box 25 (aggS (.agg ((GMember.lf1 r2436).map AV.lf)) [(6, .lf (.int .i64 2))]), .box 25 (aggS (.agg ((GMember.lf1 r2436).map AV.lf)) [(6, .lf (.int .i64 2))]), .dead, .dead, .dead]] (okc (Q26_ok _ _ h2676) (okc (rfl : (some ⟨[(2, .ptr 1 0), (3, .lf (.rows 9 (r2675.map GMessage.lf)))], [.box 25 (aggS (.agg ((GMember.lf1 r2436).map AV.lf)) [(6, .lf (.int .i64 2))]), .box 25 (aggS (.agg ((GMember.lf1 r2436).map AV.lf)) [(6, .lf (.int .i64 2))]), .dead, .dead, .dead]⟩ : Option St) = some ⟨[(2, .ptr 1 0), (3, .lf (.rows 9 (r2675.map GMessage.lf)))], [.box 25 (aggS (.agg ((GMember.lf1 r2436).map AV.lf)) [(6, .lf (.int .i64 2))]), .box 25 (aggS (.agg ((GMember.lf1 r2436).map AV.lf)) [(6, .lf (.int .i64 2))]), .dead, .dead, .dead]⟩) (okc (Q26_ok _ _ h2676) (okc (rfl : (some ⟨[(2, .ptr 1 0), (3, .lf (.rows 9 (r2675.map GMessage.lf)))], [.box 25 (aggS (.agg ((GMember.lf1 r2436).map AV.lf)) [(6, .lf (.int .i64 2))]), .box 25 (aggS (.agg ((GMember.lf1 r2436).map AV.lf)) [(6, .lf (.int .i64 2))]), .dead, .dead, .dead]⟩ : Option St) = some ⟨[(2, .ptr 1 0), (3, .lf (.rows 9 (r2675.map GMessage.lf)))], [.box 25 (aggS (.agg ((GMember.lf1 r2436).map AV.lf)) [(6, .lf (.int .i64 2))]), .box 25 (aggS (.agg ((GMember.lf1 r2436).map AV.lf)) [(6, .lf (.int .i64 2))]), .dead, .dead, .dead]⟩) (okc (Q26_ok _ _ h2676) (okc (rfl : (some ⟨[(2, .ptr 1 0), (3, .lf (.rows 9 (r2675.map GMessage.lf)))], [.box 25 (aggS (.agg ((GMember.lf1 r2436).map AV.lf)) [(6, .lf (.int .i64 2))]), .box 25 (aggS (.agg ((GMember.lf1 r2436).map AV.lf)) [(6, .lf (.int .i64 2))]), .dead, .dead, .dead]⟩ : Option St) = some ⟨[(2, .ptr 1 0), (3, .lf (.rows 9 (r2675.map GMessage.lf)))], [.box 25 (aggS (.agg ((GMember.lf1 r2436).map AV.lf)) [(6, .lf (.int .i64 2))]), .box 25 (aggS (.agg ((GMember.lf1 r2436).map AV.lf)) [(6, .lf (.int .i64 2))]), .dead, .dead, .dead]⟩) ok0)))))) <|
 .ret (fitN 2) (GMember.sTimer r2436 2, r2675)
def Q131 (p_m : GMember) : Option (GMember × List GMessage) := Mo.den (Q131_T p_m)
theorem Q131_ok (p_m : GMember) (r : GMember × List GMessage) (h : Q131 p_m = some r) : Fn Tryz.prog GI 20 [.dat (GMember.lf1 p_m)] (.tup [.dat (GMember.lf1 r.1), .lf (.rows 9 (r.2.map GMessage.lf))]) :=
 fn_T BaseK Tryz.func20 (by kernel_rfl) (by kernel_rfl) (by kernel_rfl) (Q131_T p_m) (fun r => [.dat (GMember.lf1 r.1), .lf (.rows 9 (r.2.map GMessage.lf))]) (by kernel_rfl) h
def Q6_J0_T (r2238 : GMember × (List GMessage) × GReport) (r2248 : GMember × Int) (r2679 : GMember × List GMessage) : Mo (Bool) :=
 .say [.num r2238.1.fLog.length] (okc (by simp : r2238.1.fLog.length = (r2238.1.fLog.map GEntry.lf).length) ok0) <|
 .ite ((r2238.1.fLog.length : Int) == 1) (fun c2681 =>
 .say [.gd 18004 true] (ok1 c2681) <|
 .ret ⟨[.kill 3], [5, 6, 8, 9, 10, 46], [], 7⟩ (r2238.1.fCommit == 1)) fun c2681 =>
 .say [.gd 18004 false] (ok1 c2681) <|
 .ret ⟨[.kill 3], [5, 6, 8, 9, 10, 46], [], 7⟩ (false)
def Q6_J0 (r2238 : GMember × (List GMessage) × GReport) (r2248 : GMember × Int) (r2679 : GMember × List GMessage) : Option (Bool) := Mo.den (Q6_J0_T r2238 r2248 r2679)
def Q6_J0_S (r2238 : GMember × (List GMessage) × GReport) (r2248 : GMember × Int) (r2679 : GMember × List GMessage) (r_ : Bool) : St := ⟨[(5, .lf (.rows 9 (r2238.2.1.map GMessage.lf))), (6, .ptr 4 0), (8, .lf (.int .i64 r2248.2)), (9, .ptr 6 0), (10, .lf (.rows 9 (r2679.2.map GMessage.lf))), (46, .lf (.bool r_))], [.dead, .dead, .dead, .dead, .box 67 (.agg [.lf (.int .i64 r2238.2.2.fMember), .lf (.int .i64 r2238.2.2.fTerm), .lf (.int .i64 r2238.2.2.fAt), .lf (.rows 82 (r2238.2.2.fEntries.map GEntry.lf))]), .dead, .box 25 (.agg ((GMember.lf1 r2679.1).map AV.lf))]⟩
theorem Q6_J0_W {r2238 : GMember × (List GMessage) × GReport} {r2248 : GMember × Int} {r2679 : GMember × List GMessage} {r_ : Bool} (h : Q6_J0 r2238 r2248 r2679 = some r_) : AWoa_ Tryz.f11 0 [1, 1, 1, 1, 1, 1, 1, 0] [0, 1, 2, 3, 4, 5, 6, 7, 8] (Q6_J0_S r2238 r2248 r2679 r_) ⟨[(4, .ptr 3 0), (5, .lf (.rows 9 (r2238.2.1.map GMessage.lf))), (6, .ptr 4 0), (8, .lf (.int .i64 r2248.2)), (9, .ptr 6 0), (10, .lf (.rows 9 (r2679.2.map GMessage.lf)))], [.dead, .dead, .dead, .box 25 (.agg ((GMember.lf1 r2238.1).map AV.lf)), .box 67 (.agg [.lf (.int .i64 r2238.2.2.fMember), .lf (.int .i64 r2238.2.2.fTerm), .lf (.int .i64 r2238.2.2.fAt), .lf (.rows 82 (r2238.2.2.fEntries.map GEntry.lf))]), .dead, .box 25 (.agg ((GMember.lf1 r2679.1).map AV.lf))]⟩ :=
 seg_T BaseK (Q6_J0_T r2238 r2248 r2679) (Q6_J0_S r2238 r2248 r2679) (by kernel_rfl) h
def Q6_J5_T (r2238 : GMember × (List GMessage) × GReport) (r2248 : GMember × Int) (r2679 : GMember × List GMessage) (r2685 : Bool) : Mo (Bool) :=
 .ite (r2685) (fun c2687 =>
 .say [.gd 18009 true, .num r2238.2.1.length] (okc c2687 (okc (by simp : r2238.2.1.length = (r2238.2.1.map GMessage.lf).length) ok0)) <|
 .ret ⟨[], [5, 6, 8, 9, 10, 51], [], 7⟩ ((r2238.2.1.length : Int) == 1)) fun c2687 =>
 .say [.gd 18009 false] (ok1 c2687) <|
 .ret ⟨[], [5, 6, 8, 9, 10, 51], [], 7⟩ (false)
def Q6_J5 (r2238 : GMember × (List GMessage) × GReport) (r2248 : GMember × Int) (r2679 : GMember × List GMessage) (r2685 : Bool) : Option (Bool) := Mo.den (Q6_J5_T r2238 r2248 r2679 r2685)
def Q6_J5_S (r2238 : GMember × (List GMessage) × GReport) (r2248 : GMember × Int) (r2679 : GMember × List GMessage) (r_ : Bool) : St := ⟨[(5, .lf (.rows 9 (r2238.2.1.map GMessage.lf))), (6, .ptr 4 0), (8, .lf (.int .i64 r2248.2)), (9, .ptr 6 0), (10, .lf (.rows 9 (r2679.2.map GMessage.lf))), (51, .lf (.bool r_))], [.dead, .dead, .dead, .dead, .box 67 (.agg [.lf (.int .i64 r2238.2.2.fMember), .lf (.int .i64 r2238.2.2.fTerm), .lf (.int .i64 r2238.2.2.fAt), .lf (.rows 82 (r2238.2.2.fEntries.map GEntry.lf))]), .dead, .box 25 (.agg ((GMember.lf1 r2679.1).map AV.lf))]⟩
theorem Q6_J5_W {r2238 : GMember × (List GMessage) × GReport} {r2248 : GMember × Int} {r2679 : GMember × List GMessage} {r2685 : Bool} {r_ : Bool} (h : Q6_J5 r2238 r2248 r2679 r2685 = some r_) : AWoa_ Tryz.f11 0 [1, 1, 1, 1, 1, 1, 1, 0] [9, 10, 11, 12, 13] (Q6_J5_S r2238 r2248 r2679 r_) ⟨[(5, .lf (.rows 9 (r2238.2.1.map GMessage.lf))), (6, .ptr 4 0), (8, .lf (.int .i64 r2248.2)), (9, .ptr 6 0), (10, .lf (.rows 9 (r2679.2.map GMessage.lf))), (46, .lf (.bool r2685))], [.dead, .dead, .dead, .dead, .box 67 (.agg [.lf (.int .i64 r2238.2.2.fMember), .lf (.int .i64 r2238.2.2.fTerm), .lf (.int .i64 r2238.2.2.fAt), .lf (.rows 82 (r2238.2.2.fEntries.map GEntry.lf))]), .dead, .box 25 (.agg ((GMember.lf1 r2679.1).map AV.lf))]⟩ :=
 seg_T BaseK (Q6_J5_T r2238 r2248 r2679 r2685) (Q6_J5_S r2238 r2248 r2679) (by kernel_rfl) h
def Q6_J10_T (r2238 : GMember × (List GMessage) × GReport) (r2248 : GMember × Int) (r2679 : GMember × List GMessage) (r2689 : Bool) : Mo (Bool) :=
 .ite (r2689) (fun c2691 =>
 .say [.gd 18014 true] (ok1 c2691) <|
 .ask (gidx r2238.2.1 0) fun x2692 h2693 =>
 .say [.row (GMessage.lf1 x2692)] (okc (gidx_ok GMessage.lf_eq h2693 : (0 : Int) ≤ 0 ∧ (r2238.2.1.map GMessage.lf)[(0 : Int).toNat]? = some (GMessage.lf1 x2692)) ok0) <|
 .ret ⟨[], [5, 6, 8, 9, 10, 57], [], 7⟩ (x2692.fOK)) fun c2691 =>
 .say [.gd 18014 false] (ok1 c2691) <|
 .ret ⟨[], [5, 6, 8, 9, 10, 57], [], 7⟩ (false)
def Q6_J10 (r2238 : GMember × (List GMessage) × GReport) (r2248 : GMember × Int) (r2679 : GMember × List GMessage) (r2689 : Bool) : Option (Bool) := Mo.den (Q6_J10_T r2238 r2248 r2679 r2689)
def Q6_J10_S (r2238 : GMember × (List GMessage) × GReport) (r2248 : GMember × Int) (r2679 : GMember × List GMessage) (r_ : Bool) : St := ⟨[(5, .lf (.rows 9 (r2238.2.1.map GMessage.lf))), (6, .ptr 4 0), (8, .lf (.int .i64 r2248.2)), (9, .ptr 6 0), (10, .lf (.rows 9 (r2679.2.map GMessage.lf))), (57, .lf (.bool r_))], [.dead, .dead, .dead, .dead, .box 67 (.agg [.lf (.int .i64 r2238.2.2.fMember), .lf (.int .i64 r2238.2.2.fTerm), .lf (.int .i64 r2238.2.2.fAt), .lf (.rows 82 (r2238.2.2.fEntries.map GEntry.lf))]), .dead, .box 25 (.agg ((GMember.lf1 r2679.1).map AV.lf))]⟩
theorem Q6_J10_W {r2238 : GMember × (List GMessage) × GReport} {r2248 : GMember × Int} {r2679 : GMember × List GMessage} {r2689 : Bool} {r_ : Bool} (h : Q6_J10 r2238 r2248 r2679 r2689 = some r_) : AWoa_ Tryz.f11 0 [1, 1, 1, 1, 1, 1, 1, 0] [14, 15, 16, 17, 18, 19] (Q6_J10_S r2238 r2248 r2679 r_) ⟨[(5, .lf (.rows 9 (r2238.2.1.map GMessage.lf))), (6, .ptr 4 0), (8, .lf (.int .i64 r2248.2)), (9, .ptr 6 0), (10, .lf (.rows 9 (r2679.2.map GMessage.lf))), (51, .lf (.bool r2689))], [.dead, .dead, .dead, .dead, .box 67 (.agg [.lf (.int .i64 r2238.2.2.fMember), .lf (.int .i64 r2238.2.2.fTerm), .lf (.int .i64 r2238.2.2.fAt), .lf (.rows 82 (r2238.2.2.fEntries.map GEntry.lf))]), .dead, .box 25 (.agg ((GMember.lf1 r2679.1).map AV.lf))]⟩ :=
 seg_T BaseK (Q6_J10_T r2238 r2248 r2679 r2689) (Q6_J10_S r2238 r2248 r2679) (by kernel_rfl) h
def Q6_J15_T (r2238 : GMember × (List GMessage) × GReport) (r2248 : GMember × Int) (r2679 : GMember × List GMessage) (r2695 : Bool) : Mo (Bool) :=
 .ite (r2695) (fun c2697 =>
 .say [.gd 18020 true] (ok1 c2697) <|
 .ask (gidx r2238.2.1 0) fun x2698 h2699 =>
 .say [.row (GMessage.lf1 x2698)] (okc (gidx_ok GMessage.lf_eq h2699 : (0 : Int) ≤ 0 ∧ (r2238.2.1.map GMessage.lf)[(0 : Int).toNat]? = some (GMessage.lf1 x2698)) ok0) <|
 .ret ⟨[], [6, 8, 9, 10, 64], [], 7⟩ (x2698.fIndex == 1)) fun c2697 =>
 .say [.gd 18020 false] (ok1 c2697) <|
 .ret ⟨[], [6, 8, 9, 10, 64], [], 7⟩ (false)
def Q6_J15 (r2238 : GMember × (List GMessage) × GReport) (r2248 : GMember × Int) (r2679 : GMember × List GMessage) (r2695 : Bool) : Option (Bool) := Mo.den (Q6_J15_T r2238 r2248 r2679 r2695)
def Q6_J15_S (r2238 : GMember × (List GMessage) × GReport) (r2248 : GMember × Int) (r2679 : GMember × List GMessage) (r_ : Bool) : St := ⟨[(6, .ptr 4 0), (8, .lf (.int .i64 r2248.2)), (9, .ptr 6 0), (10, .lf (.rows 9 (r2679.2.map GMessage.lf))), (64, .lf (.bool r_))], [.dead, .dead, .dead, .dead, .box 67 (.agg [.lf (.int .i64 r2238.2.2.fMember), .lf (.int .i64 r2238.2.2.fTerm), .lf (.int .i64 r2238.2.2.fAt), .lf (.rows 82 (r2238.2.2.fEntries.map GEntry.lf))]), .dead, .box 25 (.agg ((GMember.lf1 r2679.1).map AV.lf))]⟩
theorem Q6_J15_W {r2238 : GMember × (List GMessage) × GReport} {r2248 : GMember × Int} {r2679 : GMember × List GMessage} {r2695 : Bool} {r_ : Bool} (h : Q6_J15 r2238 r2248 r2679 r2695 = some r_) : AWoa_ Tryz.f11 0 [1, 1, 1, 1, 1, 1, 1, 0] [20, 21, 22, 23, 24, 25, 26] (Q6_J15_S r2238 r2248 r2679 r_) ⟨[(5, .lf (.rows 9 (r2238.2.1.map GMessage.lf))), (6, .ptr 4 0), (8, .lf (.int .i64 r2248.2)), (9, .ptr 6 0), (10, .lf (.rows 9 (r2679.2.map GMessage.lf))), (57, .lf (.bool r2695))], [.dead, .dead, .dead, .dead, .box 67 (.agg [.lf (.int .i64 r2238.2.2.fMember), .lf (.int .i64 r2238.2.2.fTerm), .lf (.int .i64 r2238.2.2.fAt), .lf (.rows 82 (r2238.2.2.fEntries.map GEntry.lf))]), .dead, .box 25 (.agg ((GMember.lf1 r2679.1).map AV.lf))]⟩ :=
 seg_T BaseK (Q6_J15_T r2238 r2248 r2679 r2695) (Q6_J15_S r2238 r2248 r2679) (by kernel_rfl) h
def Q6_J20_T (r2238 : GMember × (List GMessage) × GReport) (r2248 : GMember × Int) (r2679 : GMember × List GMessage) (r2701 : Bool) : Mo (Bool) :=
 .ite (r2701) (fun c2703 =>
 .say [.gd 18027 true] (ok1 c2703) <|
 .ret ⟨[.kill 4], [8, 9, 10, 69], [], 7⟩ (r2238.2.2.fMember == (-1))) fun c2703 =>
 .say [.gd 18027 false] (ok1 c2703) <|
 .ret ⟨[.kill 4], [8, 9, 10, 69], [], 7⟩ (false)
def Q6_J20 (r2238 : GMember × (List GMessage) × GReport) (r2248 : GMember × Int) (r2679 : GMember × List GMessage) (r2701 : Bool) : Option (Bool) := Mo.den (Q6_J20_T r2238 r2248 r2679 r2701)
def Q6_J20_S (r2248 : GMember × Int) (r2679 : GMember × List GMessage) (r_ : Bool) : St := ⟨[(8, .lf (.int .i64 r2248.2)), (9, .ptr 6 0), (10, .lf (.rows 9 (r2679.2.map GMessage.lf))), (69, .lf (.bool r_))], [.dead, .dead, .dead, .dead, .dead, .dead, .box 25 (.agg ((GMember.lf1 r2679.1).map AV.lf))]⟩
theorem Q6_J20_W {r2238 : GMember × (List GMessage) × GReport} {r2248 : GMember × Int} {r2679 : GMember × List GMessage} {r2701 : Bool} {r_ : Bool} (h : Q6_J20 r2238 r2248 r2679 r2701 = some r_) : AWoa_ Tryz.f11 0 [1, 1, 1, 1, 1, 1, 1, 0] [27, 28, 29, 30, 31] (Q6_J20_S r2248 r2679 r_) ⟨[(6, .ptr 4 0), (8, .lf (.int .i64 r2248.2)), (9, .ptr 6 0), (10, .lf (.rows 9 (r2679.2.map GMessage.lf))), (64, .lf (.bool r2701))], [.dead, .dead, .dead, .dead, .box 67 (.agg [.lf (.int .i64 r2238.2.2.fMember), .lf (.int .i64 r2238.2.2.fTerm), .lf (.int .i64 r2238.2.2.fAt), .lf (.rows 82 (r2238.2.2.fEntries.map GEntry.lf))]), .dead, .box 25 (.agg ((GMember.lf1 r2679.1).map AV.lf))]⟩ :=
 seg_T BaseK (Q6_J20_T r2238 r2248 r2679 r2701) (Q6_J20_S r2248 r2679) (by kernel_rfl) h
def Q6_J25_T (r2248 : GMember × Int) (r2679 : GMember × List GMessage) (r2707 : Bool) : Mo (Bool) :=
 .ite (r2707) (fun c2709 =>
 .say [.gd 18032 true] (ok1 c2709) <|
 .ret ⟨[], [9, 10, 73], [], 7⟩ (r2248.2 == 25)) fun c2709 =>
 .say [.gd 18032 false] (ok1 c2709) <|
 .ret ⟨[], [9, 10, 73], [], 7⟩ (false)
def Q6_J25 (r2248 : GMember × Int) (r2679 : GMember × List GMessage) (r2707 : Bool) : Option (Bool) := Mo.den (Q6_J25_T r2248 r2679 r2707)
def Q6_J25_S (r2679 : GMember × List GMessage) (r_ : Bool) : St := ⟨[(9, .ptr 6 0), (10, .lf (.rows 9 (r2679.2.map GMessage.lf))), (73, .lf (.bool r_))], [.dead, .dead, .dead, .dead, .dead, .dead, .box 25 (.agg ((GMember.lf1 r2679.1).map AV.lf))]⟩
theorem Q6_J25_W {r2248 : GMember × Int} {r2679 : GMember × List GMessage} {r2707 : Bool} {r_ : Bool} (h : Q6_J25 r2248 r2679 r2707 = some r_) : AWoa_ Tryz.f11 0 [1, 1, 1, 1, 1, 1, 1, 0] [32, 33, 34, 35] (Q6_J25_S r2679 r_) ⟨[(8, .lf (.int .i64 r2248.2)), (9, .ptr 6 0), (10, .lf (.rows 9 (r2679.2.map GMessage.lf))), (69, .lf (.bool r2707))], [.dead, .dead, .dead, .dead, .dead, .dead, .box 25 (.agg ((GMember.lf1 r2679.1).map AV.lf))]⟩ :=
 seg_T BaseK (Q6_J25_T r2248 r2679 r2707) (Q6_J25_S r2679) (by kernel_rfl) h
def Q6_J30_T (r2679 : GMember × List GMessage) (r2711 : Bool) : Mo (Bool) :=
 .ite (r2711) (fun c2713 =>
 .say [.gd 18036 true] (ok1 c2713) <|
 .ret ⟨[.kill 6], [10, 78], [], 7⟩ (r2679.1.fTimer == 12)) fun c2713 =>
 .say [.gd 18036 false] (ok1 c2713) <|
 .ret ⟨[.kill 6], [10, 78], [], 7⟩ (false)
def Q6_J30 (r2679 : GMember × List GMessage) (r2711 : Bool) : Option (Bool) := Mo.den (Q6_J30_T r2679 r2711)
def Q6_J30_S (r2679 : GMember × List GMessage) (r_ : Bool) : St := ⟨[(10, .lf (.rows 9 (r2679.2.map GMessage.lf))), (78, .lf (.bool r_))], [.dead, .dead, .dead, .dead, .dead, .dead, .dead]⟩
theorem Q6_J30_W {r2679 : GMember × List GMessage} {r2711 : Bool} {r_ : Bool} (h : Q6_J30 r2679 r2711 = some r_) : AWoa_ Tryz.f11 0 [1, 1, 1, 1, 1, 1, 1, 0] [36, 37, 38, 39, 40] (Q6_J30_S r2679 r_) ⟨[(9, .ptr 6 0), (10, .lf (.rows 9 (r2679.2.map GMessage.lf))), (73, .lf (.bool r2711))], [.dead, .dead, .dead, .dead, .dead, .dead, .box 25 (.agg ((GMember.lf1 r2679.1).map AV.lf))]⟩ :=
 seg_T BaseK (Q6_J30_T r2679 r2711) (Q6_J30_S r2679) (by kernel_rfl) h
def Q6_J35_T (r2679 : GMember × List GMessage) (r2717 : Bool) : Mo (Bool) :=
 .ite (r2717) (fun c2719 =>
 .say [.gd 18041 true, .num r2679.2.length] (okc c2719 (okc (by simp : r2679.2.length = (r2679.2.map GMessage.lf).length) ok0)) <|
 .ret ⟨[], [83], [], 7⟩ ((r2679.2.length : Int) == 0)) fun c2719 =>
 .say [.gd 18041 false] (ok1 c2719) <|
 .ret ⟨[], [83], [], 7⟩ (false)
def Q6_J35 (r2679 : GMember × List GMessage) (r2717 : Bool) : Option (Bool) := Mo.den (Q6_J35_T r2679 r2717)
def Q6_J35_S  (r_ : Bool) : St := ⟨[(83, .lf (.bool r_))], [.dead, .dead, .dead, .dead, .dead, .dead, .dead]⟩
theorem Q6_J35_W {r2679 : GMember × List GMessage} {r2717 : Bool} {r_ : Bool} (h : Q6_J35 r2679 r2717 = some r_) : AWoa_ Tryz.f11 0 [1, 1, 1, 1, 1, 1, 1, 0] [41, 42, 43, 44, 45] (Q6_J35_S r_) ⟨[(10, .lf (.rows 9 (r2679.2.map GMessage.lf))), (78, .lf (.bool r2717))], [.dead, .dead, .dead, .dead, .dead, .dead, .dead]⟩ :=
 seg_T BaseK (Q6_J35_T r2679 r2717) Q6_J35_S (by kernel_rfl) h
def Q6_J40_T (r2721 : Bool) : Mo (Unit) :=
 .ret ⟨[], [0], [], 7⟩ ()
def Q6_J40 (r2721 : Bool) : Option (Unit) := Mo.den (Q6_J40_T r2721)
def Q6_J40_S (r2721 : Bool) (r_ : Unit) : St := ⟨[(0, .lf (.bool r2721))], [.dead, .dead, .dead, .dead, .dead, .dead, .dead]⟩
theorem Q6_J40_W {r2721 : Bool} {r_ : Unit} (h : Q6_J40 r2721 = some r_) : AWoa_ Tryz.f11 0 [1, 1, 1, 1, 1, 1, 1, 0] [46] (Q6_J40_S r2721 r_) ⟨[(83, .lf (.bool r2721))], [.dead, .dead, .dead, .dead, .dead, .dead, .dead]⟩ :=
 seg_T BaseK (Q6_J40_T r2721) (Q6_J40_S r2721) (by kernel_rfl) h
def Q6_T  : Mo (Bool) :=
 .ask (Q29 1 3) fun r434 h435 =>
 .say [.res (.tup [.dat (GMember.lf1 r434.1), .lf (.int .i64 r434.2)])] (ok1 (Q29_ok _ _ _ h435)) <|
 .ite (r434.2 != 0) (fun c437 =>
 .say [.br true] (ok1 c437) <|
 .ret (fitN 1) (false)) fun c437 =>
 .say [.br false] (ok1 c437) <|
 .ask (Q107 1 1) fun r440 h441 =>
 .say [.res (.dat (GEntry.lf1 r440)), .at_ 12 2, .frzr 1 ([r440].map GEntry.lf)] (okc (Q107_ok _ _ _ h441) (okc (by simp [GEntry.lf_eq] : [r440].map GEntry.lf = [(GEntry.lf1 r440)]) ok0)) <|
 .ask (Q39 r434.1 (GMessage.sEntries (GMessage.sCommit (GMessage.sTerm (GMessage.sKind (GMessage.sTo GMessage.z 1) 3) 1) 1) [r440])) fun r2238 h2239 =>
 .say [.res (.tup [.dat (GMember.lf1 r2238.1), .lf (.rows 9 (r2238.2.1.map GMessage.lf)), .dat (GReport.lf1 r2238.2.2)])] (ok1 (Q39_ok _ _ _ h2239)) <|
 .ask (Q107 0 1) fun r2246 h2247 =>
 .say [] (ok1 (Q107_ok _ _ _ h2247)) <|
 .ask (Q121 r434.1 r2246) fun r2248 h2249 =>
 .say [.orderT (.q 0 (.alt 1 (.alt 2 (.q 3 (.q 4 (.q 5 (.l 6 (.l 7 (.q 8 .fin)))))) (.l 6 (.l 2 (.q 3 (.q 4 (.q 5 (.l 7 (.q 8 .fin)))))))) (.l 6 (.l 1 (.l 2 (.q 3 (.q 4 (.q 5 (.l 7 (.q 8 .fin)))))))))) none [5] [.both [.at_ 14 1, .resv 1, .res (.dat (GEntry.lf1 r2246)), .both [.res (.tup [.dat (GMember.lf1 r2248.1), .lf (.int .i64 r2248.2)]), .slot 5] [.slot 5, .res (.tup [.dat (GMember.lf1 r2248.1), .lf (.int .i64 r2248.2)])]] [.at_ 14 6, .resv 1, .slot 5, .res (.dat (GEntry.lf1 r2246)), .res (.tup [.dat (GMember.lf1 r2248.1), .lf (.int .i64 r2248.2)])]] [1, 4, 5, 6, 8] 6 [(1, .ptr 0 0), (4, .ptr 3 0), (5, .lf (.rows 9 (r2238.2.1.map GMessage.lf))), (6, .ptr 4 0), (8, .lf (.int .i64 r2248.2))] [.box 25 (.agg ((GMember.lf1 r434.1).map AV.lf)), .dead, .box 63 (.agg [.lf (.int .i64 0), .lf (.int .i64 1), .lf (.int .i64 3), .lf (.int .i64 1), .lf (.int .i64 0), .lf (.int .i64 0), .lf (.int .i64 1), .lf (.rows 82 ([r440].map GEntry.lf)), .lf (.bool false)]), .box 25 (.agg ((GMember.lf1 r2238.1).map AV.lf)), .box 67 (.agg [.lf (.int .i64 r2238.2.2.fMember), .lf (.int .i64 r2238.2.2.fTerm), .lf (.int .i64 r2238.2.2.fAt), .lf (.rows 82 (r2238.2.2.fEntries.map GEntry.lf))]), .box 25 (.agg ((GMember.lf1 r2248.1).map AV.lf))]] (okc (Q121_ok _ _ _ h2249) (okc (rfl : (some ⟨[(1, .ptr 0 0), (4, .ptr 3 0), (5, .lf (.rows 9 (r2238.2.1.map GMessage.lf))), (6, .ptr 4 0), (8, .lf (.int .i64 r2248.2))], [.box 25 (.agg ((GMember.lf1 r434.1).map AV.lf)), .dead, .box 63 (.agg [.lf (.int .i64 0), .lf (.int .i64 1), .lf (.int .i64 3), .lf (.int .i64 1), .lf (.int .i64 0), .lf (.int .i64 0), .lf (.int .i64 1), .lf (.rows 82 ([r440].map GEntry.lf)), .lf (.bool false)]), .box 25 (.agg ((GMember.lf1 r2238.1).map AV.lf)), .box 67 (.agg [.lf (.int .i64 r2238.2.2.fMember), .lf (.int .i64 r2238.2.2.fTerm), .lf (.int .i64 r2238.2.2.fAt), .lf (.rows 82 (r2238.2.2.fEntries.map GEntry.lf))]), .box 25 (.agg ((GMember.lf1 r2248.1).map AV.lf))]⟩ : Option St) = some ⟨[(1, .ptr 0 0), (4, .ptr 3 0), (5, .lf (.rows 9 (r2238.2.1.map GMessage.lf))), (6, .ptr 4 0), (8, .lf (.int .i64 r2248.2))], [.box 25 (.agg ((GMember.lf1 r434.1).map AV.lf)), .dead, .box 63 (.agg [.lf (.int .i64 0), .lf (.int .i64 1), .lf (.int .i64 3), .lf (.int .i64 1), .lf (.int .i64 0), .lf (.int .i64 0), .lf (.int .i64 1), .lf (.rows 82 ([r440].map GEntry.lf)), .lf (.bool false)]), .box 25 (.agg ((GMember.lf1 r2238.1).map AV.lf)), .box 67 (.agg [.lf (.int .i64 r2238.2.2.fMember), .lf (.int .i64 r2238.2.2.fTerm), .lf (.int .i64 r2238.2.2.fAt), .lf (.rows 82 (r2238.2.2.fEntries.map GEntry.lf))]), .box 25 (.agg ((GMember.lf1 r2248.1).map AV.lf))]⟩) (okc (Q121_ok _ _ _ h2249) (okc (rfl : (some ⟨[(1, .ptr 0 0), (4, .ptr 3 0), (5, .lf (.rows 9 (r2238.2.1.map GMessage.lf))), (6, .ptr 4 0), (8, .lf (.int .i64 r2248.2))], [.box 25 (.agg ((GMember.lf1 r434.1).map AV.lf)), .dead, .box 63 (.agg [.lf (.int .i64 0), .lf (.int .i64 1), .lf (.int .i64 3), .lf (.int .i64 1), .lf (.int .i64 0), .lf (.int .i64 0), .lf (.int .i64 1), .lf (.rows 82 ([r440].map GEntry.lf)), .lf (.bool false)]), .box 25 (.agg ((GMember.lf1 r2238.1).map AV.lf)), .box 67 (.agg [.lf (.int .i64 r2238.2.2.fMember), .lf (.int .i64 r2238.2.2.fTerm), .lf (.int .i64 r2238.2.2.fAt), .lf (.rows 82 (r2238.2.2.fEntries.map GEntry.lf))]), .box 25 (.agg ((GMember.lf1 r2248.1).map AV.lf))]⟩ : Option St) = some ⟨[(1, .ptr 0 0), (4, .ptr 3 0), (5, .lf (.rows 9 (r2238.2.1.map GMessage.lf))), (6, .ptr 4 0), (8, .lf (.int .i64 r2248.2))], [.box 25 (.agg ((GMember.lf1 r434.1).map AV.lf)), .dead, .box 63 (.agg [.lf (.int .i64 0), .lf (.int .i64 1), .lf (.int .i64 3), .lf (.int .i64 1), .lf (.int .i64 0), .lf (.int .i64 0), .lf (.int .i64 1), .lf (.rows 82 ([r440].map GEntry.lf)), .lf (.bool false)]), .box 25 (.agg ((GMember.lf1 r2238.1).map AV.lf)), .box 67 (.agg [.lf (.int .i64 r2238.2.2.fMember), .lf (.int .i64 r2238.2.2.fTerm), .lf (.int .i64 r2238.2.2.fAt), .lf (.rows 82 (r2238.2.2.fEntries.map GEntry.lf))]), .box 25 (.agg ((GMember.lf1 r2248.1).map AV.lf))]⟩) (okc (Q107_ok _ _ _ h2247) (okc (Q121_ok _ _ _ h2249) (okc (rfl : (some ⟨[(1, .ptr 0 0), (4, .ptr 3 0), (5, .lf (.rows 9 (r2238.2.1.map GMessage.lf))), (6, .ptr 4 0), (8, .lf (.int .i64 r2248.2))], [.box 25 (.agg ((GMember.lf1 r434.1).map AV.lf)), .dead, .box 63 (.agg [.lf (.int .i64 0), .lf (.int .i64 1), .lf (.int .i64 3), .lf (.int .i64 1), .lf (.int .i64 0), .lf (.int .i64 0), .lf (.int .i64 1), .lf (.rows 82 ([r440].map GEntry.lf)), .lf (.bool false)]), .box 25 (.agg ((GMember.lf1 r2238.1).map AV.lf)), .box 67 (.agg [.lf (.int .i64 r2238.2.2.fMember), .lf (.int .i64 r2238.2.2.fTerm), .lf (.int .i64 r2238.2.2.fAt), .lf (.rows 82 (r2238.2.2.fEntries.map GEntry.lf))]), .box 25 (.agg ((GMember.lf1 r2248.1).map AV.lf))]⟩ : Option St) = some ⟨[(1, .ptr 0 0), (4, .ptr 3 0), (5, .lf (.rows 9 (r2238.2.1.map GMessage.lf))), (6, .ptr 4 0), (8, .lf (.int .i64 r2248.2))], [.box 25 (.agg ((GMember.lf1 r434.1).map AV.lf)), .dead, .box 63 (.agg [.lf (.int .i64 0), .lf (.int .i64 1), .lf (.int .i64 3), .lf (.int .i64 1), .lf (.int .i64 0), .lf (.int .i64 0), .lf (.int .i64 1), .lf (.rows 82 ([r440].map GEntry.lf)), .lf (.bool false)]), .box 25 (.agg ((GMember.lf1 r2238.1).map AV.lf)), .box 67 (.agg [.lf (.int .i64 r2238.2.2.fMember), .lf (.int .i64 r2238.2.2.fTerm), .lf (.int .i64 r2238.2.2.fAt), .lf (.rows 82 (r2238.2.2.fEntries.map GEntry.lf))]), .box 25 (.agg ((GMember.lf1 r2248.1).map AV.lf))]⟩) ok0))))))) <|
 .ask (Q131 r434.1) fun r2679 h2680 =>
 .say [.res (.tup [.dat (GMember.lf1 r2679.1), .lf (.rows 9 (r2679.2.map GMessage.lf))])] (ok1 (Q131_ok _ _ h2680)) <|
 .ask (Q6_J0 r2238 r2248 r2679) fun r2685 h2686 =>
 .say [.seg 8 [.kill 0, .kill 2, .kill 5] 9 [4, 5, 6, 8, 9, 10] 7 (Q6_J0_S r2238 r2248 r2679 r2685).T (Q6_J0_S r2238 r2248 r2679 r2685).H] (ok1 (Q6_J0_W h2686)) <|
 .ask (Q6_J5 r2238 r2248 r2679 r2685) fun r2689 h2690 =>
 .say [.sg_ 8 5 [5, 6, 8, 9, 10, 46] 7 (Q6_J5_S r2238 r2248 r2679 r2689)] (ok1 (Q6_J5_W h2690)) <|
 .ask (Q6_J10 r2238 r2248 r2679 r2689) fun r2695 h2696 =>
 .say [.sg_ 8 6 [5, 6, 8, 9, 10, 51] 7 (Q6_J10_S r2238 r2248 r2679 r2695)] (ok1 (Q6_J10_W h2696)) <|
 .ask (Q6_J15 r2238 r2248 r2679 r2695) fun r2701 h2702 =>
 .say [.sg_ 8 7 [5, 6, 8, 9, 10, 57] 7 (Q6_J15_S r2238 r2248 r2679 r2701)] (ok1 (Q6_J15_W h2702)) <|
 .ask (Q6_J20 r2238 r2248 r2679 r2701) fun r2707 h2708 =>
 .say [.sg_ 8 5 [6, 8, 9, 10, 64] 7 (Q6_J20_S r2248 r2679 r2707)] (ok1 (Q6_J20_W h2708)) <|
 .ask (Q6_J25 r2248 r2679 r2707) fun r2711 h2712 =>
 .say [.sg_ 8 4 [8, 9, 10, 69] 7 (Q6_J25_S r2679 r2711)] (ok1 (Q6_J25_W h2712)) <|
 .ask (Q6_J30 r2679 r2711) fun r2717 h2718 =>
 .say [.sg_ 8 5 [9, 10, 73] 7 (Q6_J30_S r2679 r2717)] (ok1 (Q6_J30_W h2718)) <|
 .ask (Q6_J35 r2679 r2717) fun r2721 h2722 =>
 .say [.sg_ 8 5 [10, 78] 7 (Q6_J35_S r2721)] (ok1 (Q6_J35_W h2722)) <|
 .ask (Q6_J40 r2721) fun r2723 h2724 =>
 .say [.sg_ 8 1 [83] 7 (Q6_J40_S r2721 r2723)] (ok1 (Q6_J40_W h2724)) <|
 .ret (fitN 1) (r2721)
def Q6  : Option (Bool) := Mo.den (Q6_T )
theorem Q6_ok  (r : Bool) (h : Q6  = some r) : Fn Tryz.prog GI 11 [] (.lf (.bool r)) :=
 fn_T BaseK Tryz.func11 (by kernel_rfl) (by kernel_rfl) (by kernel_rfl) (Q6_T ) (fun r => [.lf (.bool r)]) (by kernel_rfl) h
def Q74_J0_T (p_i : Int) (p_l : List Int) : Mo (Bool) :=
 .ite (decide ((p_i : Int) < 0)) (fun c2746 =>
 .say [.gd 4002 true] (ok1 c2746) <|
 .ret ⟨[], [0, 1, 12], [], 0⟩ (true)) fun c2746 =>
 .say [.gd 4002 false, .num p_l.length] (okc c2746 (okc (by simp : p_l.length = (p_l.map lfI).length) ok0)) <|
 .ret ⟨[], [0, 1, 12], [], 0⟩ (decide (((p_l.length : Int) : Int) ≤ p_i))
def Q74_J0 (p_i : Int) (p_l : List Int) : Option (Bool) := Mo.den (Q74_J0_T p_i p_l)
def Q74_J0_S (p_i : Int) (p_l : List Int) (r_ : Bool) : St := ⟨[(0, .lf (.rows 1 (p_l.map lfI))), (1, .lf (.int .i64 p_i)), (12, .lf (.bool r_))], []⟩
theorem Q74_J0_W {p_i : Int} {p_l : List Int} {r_ : Bool} (h : Q74_J0 p_i p_l = some r_) : AWa_ Tryz.f54 0 [1, 0, 0] (.normal) (Q74_J0_S p_i p_l r_) ⟨[(0, .lf (.rows 1 (p_l.map lfI))), (1, .lf (.int .i64 p_i))], []⟩ :=
 part_T BaseK (Q74_J0_T p_i p_l) (fun _ => .normal) (Q74_J0_S p_i p_l) (by kernel_rfl) h
def Q74_T (p_l : List Int) (p_i : Int) : Mo (Int) :=
 .ask (Q74_J0 p_i p_l) fun r2748 h2749 =>
 .say [.pt_ 9 [0, 1] 0 (.normal) (Q74_J0_S p_i p_l r2748)] (ok1 (Q74_J0_W h2749)) <|
 .ite (r2748) (fun c2751 =>
 .say [.br true] (ok1 c2751) <|
 .ret (fitN 1) (0)) fun c2751 =>
 .say [.br false] (ok1 c2751) <|
 .ask (gidx p_l p_i) fun x2752 h2753 =>
 .say [.row (lfI x2752)] (okc (gidx_ok (fun _ => rfl) h2753 : (0 : Int) ≤ p_i ∧ (p_l.map lfI)[p_i.toNat]? = some (lfI x2752)) ok0) <|
 .ret (fitN 1) (x2752)
def Q74 (p_l : List Int) (p_i : Int) : Option (Int) := Mo.den (Q74_T p_l p_i)
theorem Q74_ok (p_l : List Int) (p_i : Int) (r : Int) (h : Q74 p_l p_i = some r) : Fn Tryz.prog GI 54 [.lf (.rows 1 (p_l.map lfI)), .lf (.int .i64 p_i)] (.lf (.int .i64 r)) :=
 fn_T BaseK Tryz.func54 (by kernel_rfl) (by kernel_rfl) (by kernel_rfl) (Q74_T p_l p_i) (fun r => [.lf (.int .i64 r)]) (by kernel_rfl) h
def Q70_J0_T (p_l : List GEntry) (p_n : Int) : Mo (Bool) :=
 .ite (decide ((p_n : Int) < 1)) (fun c2759 =>
 .say [.gd 4002 true] (ok1 c2759) <|
 .ret ⟨[], [0, 1, 12], [], 0⟩ (true)) fun c2759 =>
 .say [.gd 4002 false, .num p_l.length] (okc c2759 (okc (by simp : p_l.length = (p_l.map GEntry.lf).length) ok0)) <|
 .ret ⟨[], [0, 1, 12], [], 0⟩ (decide (((p_l.length : Int) : Int) < p_n))
def Q70_J0 (p_l : List GEntry) (p_n : Int) : Option (Bool) := Mo.den (Q70_J0_T p_l p_n)
def Q70_J0_S (p_l : List GEntry) (p_n : Int) (r_ : Bool) : St := ⟨[(0, .lf (.rows 82 (p_l.map GEntry.lf))), (1, .lf (.int .i64 p_n)), (12, .lf (.bool r_))], []⟩
theorem Q70_J0_W {p_l : List GEntry} {p_n : Int} {r_ : Bool} (h : Q70_J0 p_l p_n = some r_) : AWa_ Tryz.f55 0 [1, 0, 0] (.normal) (Q70_J0_S p_l p_n r_) ⟨[(0, .lf (.rows 82 (p_l.map GEntry.lf))), (1, .lf (.int .i64 p_n))], []⟩ :=
 part_T BaseK (Q70_J0_T p_l p_n) (fun _ => .normal) (Q70_J0_S p_l p_n) (by kernel_rfl) h
def Q70_T (p_l : List GEntry) (p_n : Int) : Mo (Int) :=
 .ask (Q70_J0 p_l p_n) fun r2761 h2762 =>
 .say [.pt_ 9 [0, 1] 0 (.normal) (Q70_J0_S p_l p_n r2761)] (ok1 (Q70_J0_W h2762)) <|
 .ite (r2761) (fun c2764 =>
 .say [.br true] (ok1 c2764) <|
 .ret (fitN 1) (0)) fun c2764 =>
 .say [.br false] (ok1 c2764) <|
 .ask (gidx p_l (IntKind.wrap .i64 (p_n - 1))) fun x2765 h2766 =>
 .say [.row (GEntry.lf1 x2765)] (okc (gidx_ok GEntry.lf_eq h2766 : (0 : Int) ≤ (IntKind.wrap .i64 (p_n - 1)) ∧ (p_l.map GEntry.lf)[(IntKind.wrap .i64 (p_n - 1)).toNat]? = some (GEntry.lf1 x2765)) ok0) <|
 .ret (fitN 1) (x2765.fTerm)
def Q70 (p_l : List GEntry) (p_n : Int) : Option (Int) := Mo.den (Q70_T p_l p_n)
theorem Q70_ok (p_l : List GEntry) (p_n : Int) (r : Int) (h : Q70 p_l p_n = some r) : Fn Tryz.prog GI 55 [.lf (.rows 82 (p_l.map GEntry.lf)), .lf (.int .i64 p_n)] (.lf (.int .i64 r)) :=
 fn_T BaseK Tryz.func55 (by kernel_rfl) (by kernel_rfl) (by kernel_rfl) (Q70_T p_l p_n) (fun r => [.lf (.int .i64 r)]) (by kernel_rfl) h
def Q20_J0_T (l2908 : List GMessage) (p_m : GMember) (v2907 : Int) : Mo (Bool) :=
 .ite (decide ((v2907 : Int) < p_m.fSize)) (fun c2909 =>
 .say [.gd 12004 true] (ok1 c2909) <|
 .ret ⟨[], [1, 3, 4, 17], [], 2⟩ (decide ((v2907 : Int) < 7))) fun c2909 =>
 .say [.gd 12004 false] (ok1 c2909) <|
 .ret ⟨[], [1, 3, 4, 17], [], 2⟩ (false)
def Q20_J0 (l2908 : List GMessage) (p_m : GMember) (v2907 : Int) : Option (Bool) := Mo.den (Q20_J0_T l2908 p_m v2907)
def Q20_J0_S (l2908 : List GMessage) (p_m : GMember) (v2907 : Int) (r_ : Bool) : St := ⟨[(1, .ptr 0 0), (3, .own 1), (4, .lf (.int .i64 v2907)), (17, .lf (.bool r_))], [.box 25 (.dat (GMember.lf1 p_m)), .row 63 9 (l2908.map GMessage.lf)]⟩
theorem Q20_J0_W {l2908 : List GMessage} {p_m : GMember} {v2907 : Int} {r_ : Bool} (h : Q20_J0 l2908 p_m v2907 = some r_) : AWa_ Tryz.f23 0 [1, 1, 1, 0, 1, 0, 0, 0, 0] (.normal) (Q20_J0_S l2908 p_m v2907 r_) ⟨[(1, .ptr 0 0), (3, .own 1), (4, .lf (.int .i64 v2907))], [.box 25 (.dat (GMember.lf1 p_m)), .row 63 9 (l2908.map GMessage.lf)]⟩ :=
 part_T BaseK (Q20_J0_T l2908 p_m v2907) (fun _ => .normal) (Q20_J0_S l2908 p_m v2907) (by kernel_rfl) h
def Q20_J5_T (l2908 : List GMessage) (p_m : GMember) (v2907 : Int) : Mo (((List GMessage))) :=
 .ite (v2907 == p_m.fID) (fun c2914 =>
 .say [.br true] (ok1 c2914) <|
 .ret ⟨[], [1, 3, 4], [], 2⟩ (l2908)) fun c2914 =>
 .say [.br false, .order [(true, 0), (true, 1), (true, 2), (true, 5), (true, 6), (true, 7), (false, 3), (true, 4), (true, 8), (true, 9)] none [], .num p_m.fLog.length] (okc c2914 (okc (by simp : p_m.fLog.length = (p_m.fLog.map GEntry.lf).length) ok0)) <|
 .ask (Q74 p_m.fNext v2907) fun r2915 h2916 =>
 .say [.res (.lf (.int .i64 r2915))] (ok1 (Q74_ok _ _ _ h2916)) <|
 .ask (Q70 p_m.fLog (if (p_m.fLog.length : Int) < (if 0 > r2915 then 0 else r2915) then (p_m.fLog.length : Int) else (if 0 > r2915 then 0 else r2915))) fun r2917 h2918 =>
 .say [.orderT (.q 0 (.q 1 (.q 2 (.q 3 (.q 4 (.q 5 (.q 6 (.q 7 (.q 8 (.q 10 (.q 11 (.alt 9 (.q 12 (.l 13 (.l 14 .fin))) (.l 13 (.l 9 (.q 12 (.l 14 .fin)))))))))))))))) (some 14) [2] [.both [.at_ 20 9, .resv 1, .res (.lf (.int .i64 r2917)), .slot 2] [.at_ 20 13, .resv 1, .slot 2, .res (.lf (.int .i64 r2917))]] [1, 3, 4, 5, 6] 3 [(1, .ptr 0 0), (3, .own 1), (4, .lf (.int .i64 v2907)), (5, .lf (.int .i64 (if (p_m.fLog.length : Int) < (if 0 > r2915 then 0 else r2915) then (p_m.fLog.length : Int) else (if 0 > r2915 then 0 else r2915)))), (6, .ptr 2 0)] [.box 25 (.dat (GMember.lf1 p_m)), .row 63 9 (l2908.map GMessage.lf), .box 63 (.agg [.lf (.int .i64 p_m.fID), .lf (.int .i64 v2907), .lf (.int .i64 3), .lf (.int .i64 p_m.fTerm), .lf (.int .i64 (if (p_m.fLog.length : Int) < (if 0 > r2915 then 0 else r2915) then (p_m.fLog.length : Int) else (if 0 > r2915 then 0 else r2915))), .lf (.int .i64 r2917), .lf (.int .i64 p_m.fCommit), .nils 82, .lf (.bool false)])], .order [(true, 0), (true, 1), (true, 2), (true, 3), (true, 4), (true, 5), (true, 6), (true, 7), (true, 8), (true, 9), (true, 10), (true, 11), (false, 12), (true, 13), (false, 14)] (some 14) [3], .num p_m.fLog.length, .rows (((p_m.fLog.take (if (p_m.fLog.length : Int) < (IntKind.wrap .i64 ((if (p_m.fLog.length : Int) < (if 0 > r2915 then 0 else r2915) then (p_m.fLog.length : Int) else (if 0 > r2915 then 0 else r2915)) + 16)) then (p_m.fLog.length : Int) else (IntKind.wrap .i64 ((if (p_m.fLog.length : Int) < (if 0 > r2915 then 0 else r2915) then (p_m.fLog.length : Int) else (if 0 > r2915 then 0 else r2915)) + 16))).toNat).drop (if (p_m.fLog.length : Int) < (if 0 > r2915 then 0 else r2915) then (p_m.fLog.length : Int) else (if 0 > r2915 then 0 else r2915)).toNat).map GEntry.lf), .rows (((p_m.fLog.take (if (p_m.fLog.length : Int) < (IntKind.wrap .i64 ((if (p_m.fLog.length : Int) < (if 0 > r2915 then 0 else r2915) then (p_m.fLog.length : Int) else (if 0 > r2915 then 0 else r2915)) + 16)) then (p_m.fLog.length : Int) else (IntKind.wrap .i64 ((if (p_m.fLog.length : Int) < (if 0 > r2915 then 0 else r2915) then (p_m.fLog.length : Int) else (if 0 > r2915 then 0 else r2915)) + 16))).toNat).drop (if (p_m.fLog.length : Int) < (if 0 > r2915 then 0 else r2915) then (p_m.fLog.length : Int) else (if 0 > r2915 then 0 else r2915)).toNat).map GEntry.lf), .at_ 24 2, .frz 3, .rows ((l2908 ++ [GMessage.mk p_m.fID v2907 3 p_m.fTerm (if (p_m.fLog.length : Int) < (if 0 > r2915 then 0 else r2915) then (p_m.fLog.length : Int) else (if 0 > r2915 then 0 else r2915)) r2917 p_m.fCommit ((p_m.fLog.take (if (p_m.fLog.length : Int) < (IntKind.wrap .i64 ((if (p_m.fLog.length : Int) < (if 0 > r2915 then 0 else r2915) then (p_m.fLog.length : Int) else (if 0 > r2915 then 0 else r2915)) + 16)) then (p_m.fLog.length : Int) else (IntKind.wrap .i64 ((if (p_m.fLog.length : Int) < (if 0 > r2915 then 0 else r2915) then (p_m.fLog.length : Int) else (if 0 > r2915 then 0 else r2915)) + 16))).toNat).drop (if (p_m.fLog.length : Int) < (if 0 > r2915 then 0 else r2915) then (p_m.fLog.length : Int) else (if 0 > r2915 then 0 else r2915)).toNat) false]).map GMessage.lf)] (okc (Q70_ok _ _ _ h2918) (okc (rfl : (some ⟨[(1, .ptr 0 0), (3, .own 1), (4, .lf (.int .i64 v2907)), (5, .lf (.int .i64 (if (p_m.fLog.length : Int) < (if 0 > r2915 then 0 else r2915) then (p_m.fLog.length : Int) else (if 0 > r2915 then 0 else r2915)))), (6, .ptr 2 0)], [.box 25 (.dat (GMember.lf1 p_m)), .row 63 9 (l2908.map GMessage.lf), .box 63 (.agg [.lf (.int .i64 p_m.fID), .lf (.int .i64 v2907), .lf (.int .i64 3), .lf (.int .i64 p_m.fTerm), .lf (.int .i64 (if (p_m.fLog.length : Int) < (if 0 > r2915 then 0 else r2915) then (p_m.fLog.length : Int) else (if 0 > r2915 then 0 else r2915))), .lf (.int .i64 r2917), .lf (.int .i64 p_m.fCommit), .nils 82, .lf (.bool false)])]⟩ : Option St) = some ⟨[(1, .ptr 0 0), (3, .own 1), (4, .lf (.int .i64 v2907)), (5, .lf (.int .i64 (if (p_m.fLog.length : Int) < (if 0 > r2915 then 0 else r2915) then (p_m.fLog.length : Int) else (if 0 > r2915 then 0 else r2915)))), (6, .ptr 2 0)], [.box 25 (.dat (GMember.lf1 p_m)), .row 63 9 (l2908.map GMessage.lf), .box 63 (.agg [.lf (.int .i64 p_m.fID), .lf (.int .i64 v2907), .lf (.int .i64 3), .lf (.int .i64 p_m.fTerm), .lf (.int .i64 (if (p_m.fLog.length : Int) < (if 0 > r2915 then 0 else r2915) then (p_m.fLog.length : Int) else (if 0 > r2915 then 0 else r2915))), .lf (.int .i64 r2917), .lf (.int .i64 p_m.fCommit), .nils 82, .lf (.bool false)])]⟩) (okc (Q70_ok _ _ _ h2918) (okc (rfl : (some ⟨[(1, .ptr 0 0), (3, .own 1), (4, .lf (.int .i64 v2907)), (5, .lf (.int .i64 (if (p_m.fLog.length : Int) < (if 0 > r2915 then 0 else r2915) then (p_m.fLog.length : Int) else (if 0 > r2915 then 0 else r2915)))), (6, .ptr 2 0)], [.box 25 (.dat (GMember.lf1 p_m)), .row 63 9 (l2908.map GMessage.lf), .box 63 (.agg [.lf (.int .i64 p_m.fID), .lf (.int .i64 v2907), .lf (.int .i64 3), .lf (.int .i64 p_m.fTerm), .lf (.int .i64 (if (p_m.fLog.length : Int) < (if 0 > r2915 then 0 else r2915) then (p_m.fLog.length : Int) else (if 0 > r2915 then 0 else r2915))), .lf (.int .i64 r2917), .lf (.int .i64 p_m.fCommit), .nils 82, .lf (.bool false)])]⟩ : Option St) = some ⟨[(1, .ptr 0 0), (3, .own 1), (4, .lf (.int .i64 v2907)), (5, .lf (.int .i64 (if (p_m.fLog.length : Int) < (if 0 > r2915 then 0 else r2915) then (p_m.fLog.length : Int) else (if 0 > r2915 then 0 else r2915)))), (6, .ptr 2 0)], [.box 25 (.dat (GMember.lf1 p_m)), .row 63 9 (l2908.map GMessage.lf), .box 63 (.agg [.lf (.int .i64 p_m.fID), .lf (.int .i64 v2907), .lf (.int .i64 3), .lf (.int .i64 p_m.fTerm), .lf (.int .i64 (if (p_m.fLog.length : Int) < (if 0 > r2915 then 0 else r2915) then (p_m.fLog.length : Int) else (if 0 > r2915 then 0 else r2915))), .lf (.int .i64 r2917), .lf (.int .i64 p_m.fCommit), .nils 82, .lf (.bool false)])]⟩) (okc (by simp : p_m.fLog.length = (p_m.fLog.map GEntry.lf).length) (okc (by simp [GEntry.lf_eq] : ((p_m.fLog.take (if (p_m.fLog.length : Int) < (IntKind.wrap .i64 ((if (p_m.fLog.length : Int) < (if 0 > r2915 then 0 else r2915) then (p_m.fLog.length : Int) else (if 0 > r2915 then 0 else r2915)) + 16)) then (p_m.fLog.length : Int) else (IntKind.wrap .i64 ((if (p_m.fLog.length : Int) < (if 0 > r2915 then 0 else r2915) then (p_m.fLog.length : Int) else (if 0 > r2915 then 0 else r2915)) + 16))).toNat).drop (if (p_m.fLog.length : Int) < (if 0 > r2915 then 0 else r2915) then (p_m.fLog.length : Int) else (if 0 > r2915 then 0 else r2915)).toNat).map GEntry.lf = ((p_m.fLog.map GEntry.lf).take (if (p_m.fLog.length : Int) < (IntKind.wrap .i64 ((if (p_m.fLog.length : Int) < (if 0 > r2915 then 0 else r2915) then (p_m.fLog.length : Int) else (if 0 > r2915 then 0 else r2915)) + 16)) then (p_m.fLog.length : Int) else (IntKind.wrap .i64 ((if (p_m.fLog.length : Int) < (if 0 > r2915 then 0 else r2915) then (p_m.fLog.length : Int) else (if 0 > r2915 then 0 else r2915)) + 16))).toNat).drop (if (p_m.fLog.length : Int) < (if 0 > r2915 then 0 else r2915) then (p_m.fLog.length : Int) else (if 0 > r2915 then 0 else r2915)).toNat) ok0)))))) <|
 .grd ((0 : Int) ≤ (if (p_m.fLog.length : Int) < (if 0 > r2915 then 0 else r2915) then (p_m.fLog.length : Int) else (if 0 > r2915 then 0 else r2915)) ∧ (if (p_m.fLog.length : Int) < (if 0 > r2915 then 0 else r2915) then (p_m.fLog.length : Int) else (if 0 > r2915 then 0 else r2915)) ≤ (if (p_m.fLog.length : Int) < (IntKind.wrap .i64 ((if (p_m.fLog.length : Int) < (if 0 > r2915 then 0 else r2915) then (p_m.fLog.length : Int) else (if 0 > r2915 then 0 else r2915)) + 16)) then (p_m.fLog.length : Int) else (IntKind.wrap .i64 ((if (p_m.fLog.length : Int) < (if 0 > r2915 then 0 else r2915) then (p_m.fLog.length : Int) else (if 0 > r2915 then 0 else r2915)) + 16))) ∧ (if (p_m.fLog.length : Int) < (IntKind.wrap .i64 ((if (p_m.fLog.length : Int) < (if 0 > r2915 then 0 else r2915) then (p_m.fLog.length : Int) else (if 0 > r2915 then 0 else r2915)) + 16)) then (p_m.fLog.length : Int) else (IntKind.wrap .i64 ((if (p_m.fLog.length : Int) < (if 0 > r2915 then 0 else r2915) then (p_m.fLog.length : Int) else (if 0 > r2915 then 0 else r2915)) + 16))) ≤ (p_m.fLog.length : Int)) fun h2919 =>
 .say [] (okc (by simpa using h2919 : (0 : Int) ≤ (if (p_m.fLog.length : Int) < (if 0 > r2915 then 0 else r2915) then (p_m.fLog.length : Int) else (if 0 > r2915 then 0 else r2915)) ∧ (if (p_m.fLog.length : Int) < (if 0 > r2915 then 0 else r2915) then (p_m.fLog.length : Int) else (if 0 > r2915 then 0 else r2915)) ≤ (if (p_m.fLog.length : Int) < (IntKind.wrap .i64 ((if (p_m.fLog.length : Int) < (if 0 > r2915 then 0 else r2915) then (p_m.fLog.length : Int) else (if 0 > r2915 then 0 else r2915)) + 16)) then (p_m.fLog.length : Int) else (IntKind.wrap .i64 ((if (p_m.fLog.length : Int) < (if 0 > r2915 then 0 else r2915) then (p_m.fLog.length : Int) else (if 0 > r2915 then 0 else r2915)) + 16))) ∧ (if (p_m.fLog.length : Int) < (IntKind.wrap .i64 ((if (p_m.fLog.length : Int) < (if 0 > r2915 then 0 else r2915) then (p_m.fLog.length : Int) else (if 0 > r2915 then 0 else r2915)) + 16)) then (p_m.fLog.length : Int) else (IntKind.wrap .i64 ((if (p_m.fLog.length : Int) < (if 0 > r2915 then 0 else r2915) then (p_m.fLog.length : Int) else (if 0 > r2915 then 0 else r2915)) + 16))) ≤ ((p_m.fLog.map GEntry.lf).length : Int)) (okc (by simp [GEntry.lf_eq] : ((p_m.fLog.take (if (p_m.fLog.length : Int) < (IntKind.wrap .i64 ((if (p_m.fLog.length : Int) < (if 0 > r2915 then 0 else r2915) then (p_m.fLog.length : Int) else (if 0 > r2915 then 0 else r2915)) + 16)) then (p_m.fLog.length : Int) else (IntKind.wrap .i64 ((if (p_m.fLog.length : Int) < (if 0 > r2915 then 0 else r2915) then (p_m.fLog.length : Int) else (if 0 > r2915 then 0 else r2915)) + 16))).toNat).drop (if (p_m.fLog.length : Int) < (if 0 > r2915 then 0 else r2915) then (p_m.fLog.length : Int) else (if 0 > r2915 then 0 else r2915)).toNat).map GEntry.lf = [] ++ (((p_m.fLog.take (if (p_m.fLog.length : Int) < (IntKind.wrap .i64 ((if (p_m.fLog.length : Int) < (if 0 > r2915 then 0 else r2915) then (p_m.fLog.length : Int) else (if 0 > r2915 then 0 else r2915)) + 16)) then (p_m.fLog.length : Int) else (IntKind.wrap .i64 ((if (p_m.fLog.length : Int) < (if 0 > r2915 then 0 else r2915) then (p_m.fLog.length : Int) else (if 0 > r2915 then 0 else r2915)) + 16))).toNat).drop (if (p_m.fLog.length : Int) < (if 0 > r2915 then 0 else r2915) then (p_m.fLog.length : Int) else (if 0 > r2915 then 0 else r2915)).toNat).map GEntry.lf)) ok0)) <|
 .grd ((([] : List GEntry).length + ((p_m.fLog.take (if (p_m.fLog.length : Int) < (IntKind.wrap .i64 ((if (p_m.fLog.length : Int) < (if 0 > r2915 then 0 else r2915) then (p_m.fLog.length : Int) else (if 0 > r2915 then 0 else r2915)) + 16)) then (p_m.fLog.length : Int) else (IntKind.wrap .i64 ((if (p_m.fLog.length : Int) < (if 0 > r2915 then 0 else r2915) then (p_m.fLog.length : Int) else (if 0 > r2915 then 0 else r2915)) + 16))).toNat).drop (if (p_m.fLog.length : Int) < (if 0 > r2915 then 0 else r2915) then (p_m.fLog.length : Int) else (if 0 > r2915 then 0 else r2915)).toNat).length) * 1208 ≤ 140737488355328) fun h2920 =>
 .say [] (okc (by simpa using h2920 : (([] : List (List Lf)).length + (((p_m.fLog.take (if (p_m.fLog.length : Int) < (IntKind.wrap .i64 ((if (p_m.fLog.length : Int) < (if 0 > r2915 then 0 else r2915) then (p_m.fLog.length : Int) else (if 0 > r2915 then 0 else r2915)) + 16)) then (p_m.fLog.length : Int) else (IntKind.wrap .i64 ((if (p_m.fLog.length : Int) < (if 0 > r2915 then 0 else r2915) then (p_m.fLog.length : Int) else (if 0 > r2915 then 0 else r2915)) + 16))).toNat).drop (if (p_m.fLog.length : Int) < (if 0 > r2915 then 0 else r2915) then (p_m.fLog.length : Int) else (if 0 > r2915 then 0 else r2915)).toNat).map GEntry.lf).length) * 1208 ≤ 140737488355328) (okc (by simp [GMessage.lf_eq] : (l2908 ++ [GMessage.mk p_m.fID v2907 3 p_m.fTerm (if (p_m.fLog.length : Int) < (if 0 > r2915 then 0 else r2915) then (p_m.fLog.length : Int) else (if 0 > r2915 then 0 else r2915)) r2917 p_m.fCommit ((p_m.fLog.take (if (p_m.fLog.length : Int) < (IntKind.wrap .i64 ((if (p_m.fLog.length : Int) < (if 0 > r2915 then 0 else r2915) then (p_m.fLog.length : Int) else (if 0 > r2915 then 0 else r2915)) + 16)) then (p_m.fLog.length : Int) else (IntKind.wrap .i64 ((if (p_m.fLog.length : Int) < (if 0 > r2915 then 0 else r2915) then (p_m.fLog.length : Int) else (if 0 > r2915 then 0 else r2915)) + 16))).toNat).drop (if (p_m.fLog.length : Int) < (if 0 > r2915 then 0 else r2915) then (p_m.fLog.length : Int) else (if 0 > r2915 then 0 else r2915)).toNat) false]).map GMessage.lf = (l2908.map GMessage.lf) ++ [(GMessage.lf1 (GMessage.mk p_m.fID v2907 3 p_m.fTerm (if (p_m.fLog.length : Int) < (if 0 > r2915 then 0 else r2915) then (p_m.fLog.length : Int) else (if 0 > r2915 then 0 else r2915)) r2917 p_m.fCommit ((p_m.fLog.take (if (p_m.fLog.length : Int) < (IntKind.wrap .i64 ((if (p_m.fLog.length : Int) < (if 0 > r2915 then 0 else r2915) then (p_m.fLog.length : Int) else (if 0 > r2915 then 0 else r2915)) + 16)) then (p_m.fLog.length : Int) else (IntKind.wrap .i64 ((if (p_m.fLog.length : Int) < (if 0 > r2915 then 0 else r2915) then (p_m.fLog.length : Int) else (if 0 > r2915 then 0 else r2915)) + 16))).toNat).drop (if (p_m.fLog.length : Int) < (if 0 > r2915 then 0 else r2915) then (p_m.fLog.length : Int) else (if 0 > r2915 then 0 else r2915)).toNat) false))]) ok0)) <|
 .grd ((l2908.length + [GMessage.mk p_m.fID v2907 3 p_m.fTerm (if (p_m.fLog.length : Int) < (if 0 > r2915 then 0 else r2915) then (p_m.fLog.length : Int) else (if 0 > r2915 then 0 else r2915)) r2917 p_m.fCommit ((p_m.fLog.take (if (p_m.fLog.length : Int) < (IntKind.wrap .i64 ((if (p_m.fLog.length : Int) < (if 0 > r2915 then 0 else r2915) then (p_m.fLog.length : Int) else (if 0 > r2915 then 0 else r2915)) + 16)) then (p_m.fLog.length : Int) else (IntKind.wrap .i64 ((if (p_m.fLog.length : Int) < (if 0 > r2915 then 0 else r2915) then (p_m.fLog.length : Int) else (if 0 > r2915 then 0 else r2915)) + 16))).toNat).drop (if (p_m.fLog.length : Int) < (if 0 > r2915 then 0 else r2915) then (p_m.fLog.length : Int) else (if 0 > r2915 then 0 else r2915)).toNat) false].length) * 88 ≤ 140737488355328) fun h2921 =>
 .say [] (okc (by simpa using h2921 : ((l2908.map GMessage.lf).length + [(GMessage.lf1 (GMessage.mk p_m.fID v2907 3 p_m.fTerm (if (p_m.fLog.length : Int) < (if 0 > r2915 then 0 else r2915) then (p_m.fLog.length : Int) else (if 0 > r2915 then 0 else r2915)) r2917 p_m.fCommit ((p_m.fLog.take (if (p_m.fLog.length : Int) < (IntKind.wrap .i64 ((if (p_m.fLog.length : Int) < (if 0 > r2915 then 0 else r2915) then (p_m.fLog.length : Int) else (if 0 > r2915 then 0 else r2915)) + 16)) then (p_m.fLog.length : Int) else (IntKind.wrap .i64 ((if (p_m.fLog.length : Int) < (if 0 > r2915 then 0 else r2915) then (p_m.fLog.length : Int) else (if 0 > r2915 then 0 else r2915)) + 16))).toNat).drop (if (p_m.fLog.length : Int) < (if 0 > r2915 then 0 else r2915) then (p_m.fLog.length : Int) else (if 0 > r2915 then 0 else r2915)).toNat) false))].length) * 88 ≤ 140737488355328) ok0) <|
 .ret ⟨[], [1, 3, 4], [(5, 1)], 2⟩ (l2908 ++ [GMessage.mk p_m.fID v2907 3 p_m.fTerm (if (p_m.fLog.length : Int) < (if 0 > r2915 then 0 else r2915) then (p_m.fLog.length : Int) else (if 0 > r2915 then 0 else r2915)) r2917 p_m.fCommit ((p_m.fLog.take (if (p_m.fLog.length : Int) < (IntKind.wrap .i64 ((if (p_m.fLog.length : Int) < (if 0 > r2915 then 0 else r2915) then (p_m.fLog.length : Int) else (if 0 > r2915 then 0 else r2915)) + 16)) then (p_m.fLog.length : Int) else (IntKind.wrap .i64 ((if (p_m.fLog.length : Int) < (if 0 > r2915 then 0 else r2915) then (p_m.fLog.length : Int) else (if 0 > r2915 then 0 else r2915)) + 16))).toNat).drop (if (p_m.fLog.length : Int) < (if 0 > r2915 then 0 else r2915) then (p_m.fLog.length : Int) else (if 0 > r2915 then 0 else r2915)).toNat) false])
def Q20_J5 (l2908 : List GMessage) (p_m : GMember) (v2907 : Int) : Option (((List GMessage))) := Mo.den (Q20_J5_T l2908 p_m v2907)
def Q20_J5_S (p_m : GMember) (v2907 : Int) (r_ : ((List GMessage))) : St := ⟨[(1, .ptr 0 0), (3, .own 1), (4, .lf (.int .i64 v2907))], [.box 25 (.dat (GMember.lf1 p_m)), .row 63 9 (r_.map GMessage.lf)]⟩
theorem Q20_J5_W {l2908 : List GMessage} {p_m : GMember} {v2907 : Int} {r_ : ((List GMessage))} (h : Q20_J5 l2908 p_m v2907 = some r_) : AWa_ Tryz.f23 0 [1, 1, 1, 0, 1, 0, 0, 1, 0] (.normal) (Q20_J5_S p_m v2907 r_) ⟨[(1, .ptr 0 0), (3, .own 1), (4, .lf (.int .i64 v2907))], [.box 25 (.dat (GMember.lf1 p_m)), .row 63 9 (l2908.map GMessage.lf)]⟩ :=
 part_T BaseK (Q20_J5_T l2908 p_m v2907) (fun _ => .normal) (Q20_J5_S p_m v2907) (by kernel_rfl) h
def Q20_L10_T (p_m : GMember) : (Int × (List GMessage)) → Mo ((Int × (List GMessage)) ⊕ ((List GMessage))) := fun (v2907, l2908) =>
 .ask (Q20_J0 l2908 p_m v2907) fun r2911 h2912 =>
 .say [.pt_ 17 [1, 3, 4] 2 (.normal) (Q20_J0_S l2908 p_m v2907 r2911)] (ok1 (Q20_J0_W h2912)) <|
 .ite (r2911) (fun c2913 =>
 .say [.br true] (ok1 c2913) <|
 .ask (Q20_J5 l2908 p_m v2907) fun r2923 h2924 =>
 .say [.pt_ 8 [1, 3, 4] 2 (.normal) (Q20_J5_S p_m v2907 r2923)] (ok1 (Q20_J5_W h2924)) <|
 .ret ⟨[], [1, 3, 4], [], 2⟩ (.inl (IntKind.wrap .i64 (v2907 + 1), r2923))) fun c2913 =>
 .say [.br false] (ok1 c2913) <|
 .ret ⟨[.kill 0], [3], [], 2⟩ (.inr (l2908))
def Q20_L10 (p_m : GMember) (v2907 : Int) (l2908 : List GMessage) : Option (((List GMessage))) := loopM (fun v_ => (Q20_L10_T p_m v_).den) FU (v2907, l2908)
def Q20_L10_H (p_m : GMember) : (Int × (List GMessage)) → St := fun (v2907, l2908) => ⟨[(1, .ptr 0 0), (3, .own 1), (4, .lf (.int .i64 v2907))], [.box 25 (.dat (GMember.lf1 p_m)), .row 63 9 (l2908.map GMessage.lf)]⟩
def Q20_L10_S  (r_ : ((List GMessage))) : St := ⟨[(3, .own 1)], [.dead, .row 63 9 (r_.map GMessage.lf)]⟩
theorem Q20_L10_W {p_m : GMember} {v2907 : Int} {l2908 : List GMessage} {r_ : ((List GMessage))} (h : Q20_L10 p_m v2907 l2908 = some r_) : AWa_ Tryz.f23 0 [1, 1, 1, 0, 1, 0] (.exit 0) (Q20_L10_S r_) (Q20_L10_H p_m (v2907, l2908)) :=
 loop_T BaseK (body := (Code.sub (bodyC Tryz.f23) [1, 1, 1, 0, 1, 0, 0])) (by kernel_rfl) (Q20_L10_T p_m) (Q20_L10_H p_m) (fun _ => .exit 0) Q20_L10_S (fun r_ => rfl) (fun v_ => by kernel_rfl) h
def Q20_T (p_m : GMember) : Mo (List GMessage) :=
 .ite (p_m.fRole != 2) (fun c2735 =>
 .say [.br true] (ok1 c2735) <|
 .ret ⟨[.nil 0 9, .tod 0], [0], [], 0⟩ ([])) fun c2735 =>
 .say [.br false] (okc c2735 (okc (by simp [GMessage.lf_eq] : (([] : List GMessage).map GMessage.lf) = []) ok0)) <|
 .ask (Q20_L10 p_m 0 ([] : List GMessage)) fun r2927 h2928 =>
 .say [.part [.nrow 3 63 9, .rerow 1 (([] : List GMessage).map GMessage.lf)] 0 [1, 3, 4] 2 (.exit 0) (Q20_L10_S r2927).T (Q20_L10_S r2927).H, .at_ 0 0, .frz 1] (ok1 (Q20_L10_W h2928)) <|
 .ret (fitN 1) (r2927)
def Q20 (p_m : GMember) : Option (List GMessage) := Mo.den (Q20_T p_m)
theorem Q20_ok (p_m : GMember) (r : List GMessage) (h : Q20 p_m = some r) : Fn Tryz.prog GI 23 [.dat (GMember.lf1 p_m)] (.lf (.rows 9 (r.map GMessage.lf))) :=
 fn_T BaseK Tryz.func23 (by kernel_rfl) (by kernel_rfl) (by kernel_rfl) (Q20_T p_m) (fun r => [.lf (.rows 9 (r.map GMessage.lf))]) (by kernel_rfl) h
def Q17_J0_T (p_n : Int) : Mo (Int) :=
 .ite (decide ((p_n : Int) < 0)) (fun c2981 =>
 .say [.br true] (ok1 c2981) <|
 .ret ⟨[], [3], [], 0⟩ (ibits .xor .u64 (IntKind.max .u64) (ishl .u64 (IntKind.wrap .u64 p_n) 1))) fun c2981 =>
 .say [.br false] (ok1 c2981) <|
 .ret ⟨[], [3], [], 0⟩ (ishl .u64 (IntKind.wrap .u64 p_n) 1)
def Q17_J0 (p_n : Int) : Option (Int) := Mo.den (Q17_J0_T p_n)
def Q17_J0_S  (r_ : Int) : St := ⟨[(3, .lf (.int .u64 r_))], []⟩
theorem Q17_J0_W {p_n : Int} {r_ : Int} (h : Q17_J0 p_n = some r_) : AWa_ Tryz.f166 0 [1, 1, 0, 1] (.normal) (Q17_J0_S r_) ⟨[(3, .lf (.int .u64 (ishl .u64 (IntKind.wrap .u64 p_n) 1))), (10, .lf (.bool (decide ((p_n : Int) < 0))))], []⟩ :=
 part_T BaseK (Q17_J0_T p_n) (fun _ => .normal) Q17_J0_S (by kernel_rfl) h
def Q17_J5_T (v3014 : Int) (v3015 : ByteArray) (v3016 : Int) : Mo (Bool) :=
 .ite (decide ((v3016 : Int) < 10)) (fun c3017 =>
 .say [.gd 14002 true] (ok1 c3017) <|
 .ret ⟨[], [3, 4, 5, 18], [], 0⟩ (decide ((128 : Int) ≤ v3014))) fun c3017 =>
 .say [.gd 14002 false] (ok1 c3017) <|
 .ret ⟨[], [3, 4, 5, 18], [], 0⟩ (false)
def Q17_J5 (v3014 : Int) (v3015 : ByteArray) (v3016 : Int) : Option (Bool) := Mo.den (Q17_J5_T v3014 v3015 v3016)
def Q17_J5_S (v3014 : Int) (v3015 : ByteArray) (v3016 : Int) (r_ : Bool) : St := ⟨[(3, .lf (.int .u64 v3014)), (4, .lf (.str v3015)), (5, .lf (.int .i64 v3016)), (18, .lf (.bool r_))], []⟩
theorem Q17_J5_W {v3014 : Int} {v3015 : ByteArray} {v3016 : Int} {r_ : Bool} (h : Q17_J5 v3014 v3015 v3016 = some r_) : AWa_ Tryz.f166 0 [1, 1, 1, 1, 0, 1, 0, 0, 0, 0] (.normal) (Q17_J5_S v3014 v3015 v3016 r_) ⟨[(3, .lf (.int .u64 v3014)), (4, .lf (.str v3015)), (5, .lf (.int .i64 v3016))], []⟩ :=
 part_T BaseK (Q17_J5_T v3014 v3015 v3016) (fun _ => .normal) (Q17_J5_S v3014 v3015 v3016) (by kernel_rfl) h
def Q17_L10_T  : (Int × ByteArray × Int) → Mo ((Int × ByteArray × Int) ⊕ (Int × ByteArray)) := fun (v3014, v3015, v3016) =>
 .ask (Q17_J5 v3014 v3015 v3016) fun r3019 h3020 =>
 .say [.pt_ 19 [3, 4, 5] 0 (.normal) (Q17_J5_S v3014 v3015 v3016 r3019)] (ok1 (Q17_J5_W h3020)) <|
 .ite (r3019) (fun c3021 =>
 .say [.br true, .nums [ibits .or .u8 (IntKind.wrap .u8 (Int.tmod v3014 128)) 128]] (okc c3021 (okc (by decide : (128 : Int) ≠ 0) (okc (by simp [lfI, lfK] : [(lfK .u8 (ibits .or .u8 (IntKind.wrap .u8 (Int.tmod v3014 128)) 128))] = [ibits .or .u8 (IntKind.wrap .u8 (Int.tmod v3014 128)) 128].map fun n => [Lf.int .u8 n]) ok0))) <|
 .grd (v3015.size + (strOfNums [ibits .or .u8 (IntKind.wrap .u8 (Int.tmod v3014 128)) 128]).size ≤ 9223372036854775807) fun h3022 =>
 .say [] (okc h3022 (okc (by decide : (128 : Int) ≠ 0) ok0)) <|
 .ret ⟨[], [3, 4, 5], [], 0⟩ (.inl (IntKind.wrap .u64 (Int.tdiv v3014 128), v3015 ++ (strOfNums [ibits .or .u8 (IntKind.wrap .u8 (Int.tmod v3014 128)) 128]), IntKind.wrap .i64 (v3016 + 1)))) fun c3021 =>
 .say [.br false] (ok1 c3021) <|
 .ret ⟨[], [3, 4], [], 0⟩ (.inr (v3014, v3015))
def Q17_L10 (v3014 : Int) (v3015 : ByteArray) (v3016 : Int) : Option ((Int × ByteArray)) := loopM (fun v_ => (Q17_L10_T  v_).den) FU (v3014, v3015, v3016)
def Q17_L10_H  : (Int × ByteArray × Int) → St := fun (v3014, v3015, v3016) => ⟨[(3, .lf (.int .u64 v3014)), (4, .lf (.str v3015)), (5, .lf (.int .i64 v3016))], []⟩
def Q17_L10_S  (r_ : (Int × ByteArray)) : St := ⟨[(3, .lf (.int .u64 r_.1)), (4, .lf (.str r_.2))], []⟩
theorem Q17_L10_W {v3014 : Int} {v3015 : ByteArray} {v3016 : Int} {r_ : (Int × ByteArray)} (h : Q17_L10 v3014 v3015 v3016 = some r_) : AWa_ Tryz.f166 0 [1, 1, 1, 1, 0, 1, 0] (.exit 0) (Q17_L10_S r_) (Q17_L10_H  (v3014, v3015, v3016)) :=
 loop_T BaseK (body := (Code.sub (bodyC Tryz.f166) [1, 1, 1, 1, 0, 1, 0, 0])) (by kernel_rfl) (Q17_L10_T ) (Q17_L10_H ) (fun _ => .exit 0) Q17_L10_S (fun r_ => rfl) (fun v_ => by kernel_rfl) h
def Q17_T (p_n : Int) : Mo (ByteArray) :=
 .say [] (okc (by decide : (0 : Int) ≤ 1) ok0) <|
 .ask (Q17_J0 p_n) fun r2983 h2984 =>
 .say [.pt_ 1 [3, 10] 0 (.normal) (Q17_J0_S r2983)] (ok1 (Q17_J0_W h2984)) <|
 .ask (Q17_L10 r2983 ⟨#[]⟩ 0) fun r3025 h3026 =>
 .say [.pt_ 0 [3, 4, 5] 0 (.exit 0) (Q17_L10_S r3025), .nums [IntKind.wrap .u8 r3025.1]] (okc (Q17_L10_W h3026) (okc (by simp [lfI, lfK] : [(lfK .u8 (IntKind.wrap .u8 r3025.1))] = [IntKind.wrap .u8 r3025.1].map fun n => [Lf.int .u8 n]) ok0)) <|
 .grd (r3025.2.size + (strOfNums [IntKind.wrap .u8 r3025.1]).size ≤ 9223372036854775807) fun h3027 =>
 .say [] (ok1 h3027) <|
 .ret (fitN 1) (r3025.2 ++ (strOfNums [IntKind.wrap .u8 r3025.1]))
def Q17 (p_n : Int) : Option (ByteArray) := Mo.den (Q17_T p_n)
theorem Q17_ok (p_n : Int) (r : ByteArray) (h : Q17 p_n = some r) : Fn Tryz.prog GI 166 [.lf (.int .i64 p_n)] (.lf (.str r)) :=
 fn_T BaseK Tryz.func166 (by kernel_rfl) (by kernel_rfl) (by kernel_rfl) (Q17_T p_n) (fun r => [.lf (.str r)]) (by kernel_rfl) h
def Q10_T (p_n : Int) (p_b0 : GRef40Out) : Mo (GRef40Out) :=
 .say [.order [(true, 0), (true, 1), (true, 2), (true, 3), (true, 4), (false, 5), (true, 6), (true, 7), (true, 8), (false, 9)] (some 9) []] ok0 <|
 .ask (Q17 p_n) fun r3028 h3029 =>
 .say [.res (.lf (.str r3028))] (ok1 (Q17_ok _ _ h3029)) <|
 .grd (p_b0.fS.size + r3028.size ≤ 9223372036854775807) fun h3030 =>
 .say [] (ok1 h3030) <|
 .ret ⟨[], [], [], 1⟩ (GRef40Out.mk (p_b0.fS ++ r3028) p_b0.fBad p_b0.fRaw)
def Q10 (p_n : Int) (p_b0 : GRef40Out) : Option (GRef40Out) := Mo.den (Q10_T p_n p_b0)
theorem Q10_ok (p_n : Int) (p_b0 : GRef40Out) (r : GRef40Out) (h : Q10 p_n p_b0 = some r) : FnH Tryz.prog GI 123 [.ptr 0 0, .lf (.int .i64 p_n)] [.box 124 (.dat (GRef40Out.lf1 p_b0))] (.tup []) [.box 124 (.dat (GRef40Out.lf1 r))] :=
 fn_TH BaseK Tryz.func123 (by kernel_rfl) (by kernel_rfl) (by kernel_rfl) (Q10_T p_n p_b0) (fun r => []) (fun r => [.box 124 (.dat (GRef40Out.lf1 r))]) (by kernel_rfl) h
def Q55_T (p_s : ByteArray) (p_b0 : GRef40Out) : Mo (GRef40Out) :=
 .ask (Q10 (p_s.size : Int) p_b0) fun r3041 h3042 =>
 .say [.resH [0] (.tup []) [.box 124 (.dat (GRef40Out.lf1 r3041))]] (ok1 (Q10_ok _ _ _ h3042)) <|
 .grd (r3041.fS.size + p_s.size ≤ 9223372036854775807) fun h3043 =>
 .say [] (ok1 h3043) <|
 .ret ⟨[], [], [], 1⟩ (GRef40Out.mk (r3041.fS ++ p_s) r3041.fBad r3041.fRaw)
def Q55 (p_s : ByteArray) (p_b0 : GRef40Out) : Option (GRef40Out) := Mo.den (Q55_T p_s p_b0)
theorem Q55_ok (p_s : ByteArray) (p_b0 : GRef40Out) (r : GRef40Out) (h : Q55 p_s p_b0 = some r) : FnH Tryz.prog GI 124 [.ptr 0 0, .lf (.str p_s)] [.box 124 (.dat (GRef40Out.lf1 p_b0))] (.tup []) [.box 124 (.dat (GRef40Out.lf1 r))] :=
 fn_TH BaseK Tryz.func124 (by kernel_rfl) (by kernel_rfl) (by kernel_rfl) (Q55_T p_s p_b0) (fun r => []) (fun r => [.box 124 (.dat (GRef40Out.lf1 r))]) (by kernel_rfl) h
def Q13_J0_T (p_v : GValue) : Mo (Bool) :=
 .ite (p_v.fKind == 0) (fun c3181 =>
 .say [.gd 4003 true] (ok1 c3181) <|
 .ret ⟨[], [1, 2, 10], [], 1⟩ (p_v.fInt == 0)) fun c3181 =>
 .say [.gd 4003 false] (ok1 c3181) <|
 .ret ⟨[], [1, 2, 10], [], 1⟩ (false)
def Q13_J0 (p_v : GValue) : Option (Bool) := Mo.den (Q13_J0_T p_v)
def Q13_J0_S (p_v : GValue) (r_ : Bool) : St := ⟨[(1, .ptr 0 0), (2, .lf (.bool false)), (10, .lf (.bool r_))], [.box 29 (.dat (GValue.lf1 p_v))]⟩
theorem Q13_J0_W {p_v : GValue} {r_ : Bool} (h : Q13_J0 p_v = some r_) : AWoa_ Tryz.f115 0 [1, 0] [0, 1, 2, 3, 4, 5, 6, 7] (Q13_J0_S p_v r_) ⟨[(1, .ptr 0 0), (2, .lf (.bool false))], [.box 29 (.dat (GValue.lf1 p_v))]⟩ :=
 seg_T BaseK (Q13_J0_T p_v) (Q13_J0_S p_v) (by kernel_rfl) h
def Q13_J5_T (p_v : GValue) (r3183 : Bool) : Mo (Bool) :=
 .ite (r3183) (fun c3185 =>
 .say [.gd 4008 true] (ok1 c3185) <|
 .ret ⟨[], [1, 2, 15], [], 1⟩ (decide ((p_v.fText : ByteArray) = (⟨#[]⟩ : ByteArray)))) fun c3185 =>
 .say [.gd 4008 false] (ok1 c3185) <|
 .ret ⟨[], [1, 2, 15], [], 1⟩ (false)
def Q13_J5 (p_v : GValue) (r3183 : Bool) : Option (Bool) := Mo.den (Q13_J5_T p_v r3183)
def Q13_J5_S (p_v : GValue) (r_ : Bool) : St := ⟨[(1, .ptr 0 0), (2, .lf (.bool false)), (15, .lf (.bool r_))], [.box 29 (.dat (GValue.lf1 p_v))]⟩
theorem Q13_J5_W {p_v : GValue} {r3183 : Bool} {r_ : Bool} (h : Q13_J5 p_v r3183 = some r_) : AWoa_ Tryz.f115 0 [1, 0] [8, 9, 10, 11, 12] (Q13_J5_S p_v r_) ⟨[(1, .ptr 0 0), (2, .lf (.bool false)), (10, .lf (.bool r3183))], [.box 29 (.dat (GValue.lf1 p_v))]⟩ :=
 seg_T BaseK (Q13_J5_T p_v r3183) (Q13_J5_S p_v) (by kernel_rfl) h
def Q13_J10_T (p_v : GValue) (r3187 : Bool) : Mo (Bool) :=
 .ite (r3187) (fun c3189 =>
 .say [.gd 4013 true, .num p_v.fList.length] (okc c3189 (okc (by simp : p_v.fList.length = (p_v.fList.map GValue.lf).length) ok0)) <|
 .ret ⟨[], [1, 2, 21], [], 1⟩ ((p_v.fList.length : Int) == 0)) fun c3189 =>
 .say [.gd 4013 false] (ok1 c3189) <|
 .ret ⟨[], [1, 2, 21], [], 1⟩ (false)
def Q13_J10 (p_v : GValue) (r3187 : Bool) : Option (Bool) := Mo.den (Q13_J10_T p_v r3187)
def Q13_J10_S (p_v : GValue) (r_ : Bool) : St := ⟨[(1, .ptr 0 0), (2, .lf (.bool false)), (21, .lf (.bool r_))], [.box 29 (.dat (GValue.lf1 p_v))]⟩
theorem Q13_J10_W {p_v : GValue} {r3187 : Bool} {r_ : Bool} (h : Q13_J10 p_v r3187 = some r_) : AWoa_ Tryz.f115 0 [1, 0] [13, 14, 15, 16, 17, 18] (Q13_J10_S p_v r_) ⟨[(1, .ptr 0 0), (2, .lf (.bool false)), (15, .lf (.bool r3187))], [.box 29 (.dat (GValue.lf1 p_v))]⟩ :=
 seg_T BaseK (Q13_J10_T p_v r3187) (Q13_J10_S p_v) (by kernel_rfl) h
def Q13_J15_T (p_v : GValue) (r3191 : Bool) : Mo (Bool) :=
 .ite (r3191) (fun c3193 =>
 .say [.gd 4019 true, .num p_v.fDoc.length] (okc c3193 (okc (by simp : p_v.fDoc.length = (p_v.fDoc.map GField.lf).length) ok0)) <|
 .ret ⟨[.kill 0], [2, 27], [], 1⟩ ((p_v.fDoc.length : Int) == 0)) fun c3193 =>
 .say [.gd 4019 false] (ok1 c3193) <|
 .ret ⟨[.kill 0], [2, 27], [], 1⟩ (false)
def Q13_J15 (p_v : GValue) (r3191 : Bool) : Option (Bool) := Mo.den (Q13_J15_T p_v r3191)
def Q13_J15_S  (r_ : Bool) : St := ⟨[(2, .lf (.bool false)), (27, .lf (.bool r_))], [.dead]⟩
theorem Q13_J15_W {p_v : GValue} {r3191 : Bool} {r_ : Bool} (h : Q13_J15 p_v r3191 = some r_) : AWoa_ Tryz.f115 0 [1, 0] [19, 20, 21, 22, 23, 24] (Q13_J15_S r_) ⟨[(1, .ptr 0 0), (2, .lf (.bool false)), (21, .lf (.bool r3191))], [.box 29 (.dat (GValue.lf1 p_v))]⟩ :=
 seg_T BaseK (Q13_J15_T p_v r3191) Q13_J15_S (by kernel_rfl) h
def Q13_J20_T (r3197 : Bool) : Mo (Unit) :=
 .ret ⟨[], [2], [], 1⟩ ()
def Q13_J20 (r3197 : Bool) : Option (Unit) := Mo.den (Q13_J20_T r3197)
def Q13_J20_S (r3197 : Bool) (r_ : Unit) : St := ⟨[(2, .lf (.bool r3197))], [.dead]⟩
theorem Q13_J20_W {r3197 : Bool} {r_ : Unit} (h : Q13_J20 r3197 = some r_) : AWoa_ Tryz.f115 0 [1, 0] [25] (Q13_J20_S r3197 r_) ⟨[(2, .lf (.bool false)), (27, .lf (.bool r3197))], [.dead]⟩ :=
 seg_T BaseK (Q13_J20_T r3197) (Q13_J20_S r3197) (by kernel_rfl) h
def Q13_T (p_v : GValue) : Mo (Bool) :=
 .ask (Q13_J0 p_v) fun r3183 h3184 =>
 .say [.sg_ 1 8 [1, 2] 1 (Q13_J0_S p_v r3183)] (ok1 (Q13_J0_W h3184)) <|
 .ask (Q13_J5 p_v r3183) fun r3187 h3188 =>
 .say [.sg_ 1 5 [1, 2, 10] 1 (Q13_J5_S p_v r3187)] (ok1 (Q13_J5_W h3188)) <|
 .ask (Q13_J10 p_v r3187) fun r3191 h3192 =>
 .say [.sg_ 1 6 [1, 2, 15] 1 (Q13_J10_S p_v r3191)] (ok1 (Q13_J10_W h3192)) <|
 .ask (Q13_J15 p_v r3191) fun r3197 h3198 =>
 .say [.sg_ 1 6 [1, 2, 21] 1 (Q13_J15_S r3197)] (ok1 (Q13_J15_W h3198)) <|
 .ask (Q13_J20 r3197) fun r3199 h3200 =>
 .say [.sg_ 1 1 [2, 27] 1 (Q13_J20_S r3197 r3199)] (ok1 (Q13_J20_W h3200)) <|
 .ret (fitN 1) (r3197)
def Q13 (p_v : GValue) : Option (Bool) := Mo.den (Q13_T p_v)
theorem Q13_ok (p_v : GValue) (r : Bool) (h : Q13 p_v = some r) : Fn Tryz.prog GI 115 [.dat (GValue.lf1 p_v)] (.lf (.bool r)) :=
 fn_T BaseK Tryz.func115 (by kernel_rfl) (by kernel_rfl) (by kernel_rfl) (Q13_T p_v) (fun r => [.lf (.bool r)]) (by kernel_rfl) h
def Q14_L0_T (p_v : GValue) : (Int × (List GValue)) → Mo ((Int × (List GValue)) ⊕ ((List GValue))) := fun (v3273, l3274) =>
 .say [.num p_v.fList.length] (okc (by simp : p_v.fList.length = (p_v.fList.map GValue.lf).length) ok0) <|
 .ite (decide ((v3273 : Int) < (p_v.fList.length : Int))) (fun c3275 =>
 .say [.br true] (ok1 c3275) <|
 .ask (gidx p_v.fList v3273) fun x3276 h3277 =>
 .say [.row (GValue.lf1 x3276), .rows ((l3274 ++ [x3276]).map GValue.lf)] (okc (gidx_ok GValue.lf_eq h3277 : (0 : Int) ≤ v3273 ∧ (p_v.fList.map GValue.lf)[v3273.toNat]? = some (GValue.lf1 x3276)) (okc (by simp [GValue.lf_eq] : (l3274 ++ [x3276]).map GValue.lf = (l3274.map GValue.lf) ++ [(GValue.lf1 x3276)]) ok0)) <|
 .grd ((l3274.length + [x3276].length) * 80 ≤ 140737488355328) fun h3278 =>
 .say [] (okc (by simpa using h3278 : ((l3274.map GValue.lf).length + [(GValue.lf1 x3276)].length) * 80 ≤ 140737488355328) ok0) <|
 .ret ⟨[], [1, 3, 4], [(3, 1)], 2⟩ (.inl (IntKind.wrap .i64 (v3273 + 1), l3274 ++ [x3276]))) fun c3275 =>
 .say [.br false] (ok1 c3275) <|
 .ret ⟨[], [1, 3], [], 2⟩ (.inr (l3274))
def Q14_L0 (p_v : GValue) (v3273 : Int) (l3274 : List GValue) : Option (((List GValue))) := loopM (fun v_ => (Q14_L0_T p_v v_).den) FU (v3273, l3274)
def Q14_L0_H (p_v : GValue) : (Int × (List GValue)) → St := fun (v3273, l3274) => ⟨[(1, .ptr 0 0), (3, .own 1), (4, .lf (.int .i64 v3273))], [.box 29 (.dat (GValue.lf1 p_v)), .row 29 5 (l3274.map GValue.lf)]⟩
def Q14_L0_S (p_v : GValue) (r_ : ((List GValue))) : St := ⟨[(1, .ptr 0 0), (3, .own 1)], [.box 29 (.dat (GValue.lf1 p_v)), .row 29 5 (r_.map GValue.lf)]⟩
theorem Q14_L0_W {p_v : GValue} {v3273 : Int} {l3274 : List GValue} {r_ : ((List GValue))} (h : Q14_L0 p_v v3273 l3274 = some r_) : AWa_ Tryz.f288 0 [1, 1, 0, 1, 0, 1, 0] (.exit 0) (Q14_L0_S p_v r_) (Q14_L0_H p_v (v3273, l3274)) :=
 loop_T BaseK (body := (Code.sub (bodyC Tryz.f288) [1, 1, 0, 1, 0, 1, 0, 0])) (by kernel_rfl) (Q14_L0_T p_v) (Q14_L0_H p_v) (fun _ => .exit 0) (Q14_L0_S p_v) (fun r_ => rfl) (fun v_ => by kernel_rfl) h
def Q14_J6_T (p_v : GValue) : Mo (((List GValue))) :=
 .ite (p_v.fKind == 6) (fun c3263 =>
 .say [.br true] (okc c3263 (okc (by simp [GValue.lf_eq] : (([] : List GValue).map GValue.lf) = []) ok0)) <|
 .ask (Q14_L0 p_v 0 ([] : List GValue)) fun r3280 h3281 =>
 .say [.part [.rerow 1 (([] : List GValue).map GValue.lf)] 0 [1, 3, 4] 2 (.exit 0) (Q14_L0_S p_v r3280).T (Q14_L0_S p_v r3280).H] (ok1 (Q14_L0_W h3281)) <|
 .ret ⟨[], [1, 3], [], 2⟩ (r3280)) fun c3263 =>
 .say [.br false] (okc c3263 (okc (by simp [GValue.lf_eq] : (([] : List GValue).map GValue.lf) = []) ok0)) <|
 .ret ⟨[.rerow 1 (([] : List GValue).map GValue.lf)], [1, 3], [], 2⟩ (([] : List GValue))
def Q14_J6 (p_v : GValue) : Option (((List GValue))) := Mo.den (Q14_J6_T p_v)
def Q14_J6_S (p_v : GValue) (r_ : ((List GValue))) : St := ⟨[(1, .ptr 0 0), (3, .own 1)], [.box 29 (.dat (GValue.lf1 p_v)), .row 29 5 (r_.map GValue.lf)]⟩
theorem Q14_J6_W {p_v : GValue} {r_ : ((List GValue))} (h : Q14_J6 p_v = some r_) : AWa_ Tryz.f288 0 [1, 1, 0, 1] (.normal) (Q14_J6_S p_v r_) ⟨[(1, .ptr 0 0), (3, .own 1), (8, .lf (.bool (p_v.fKind == 6)))], [.box 29 (.dat (GValue.lf1 p_v)), .row 29 5 []]⟩ :=
 part_T BaseK (Q14_J6_T p_v) (fun _ => .normal) (Q14_J6_S p_v) (by kernel_rfl) h
def Q14_L11_T (p_v : GValue) : (Int × (List GValue)) → Mo ((Int × (List GValue)) ⊕ ((List GValue))) := fun (v3312, l3313) =>
 .say [.num p_v.fDoc.length] (okc (by simp : p_v.fDoc.length = (p_v.fDoc.map GField.lf).length) ok0) <|
 .ite (decide ((v3312 : Int) < (p_v.fDoc.length : Int))) (fun c3314 =>
 .say [.br true] (ok1 c3314) <|
 .ask (gidx p_v.fDoc v3312) fun x3315 h3316 =>
 .say [.row (GField.lf1 x3315), .rows ((l3313 ++ [x3315.fValue]).map GValue.lf)] (okc (gidx_ok GField.lf_eq h3316 : (0 : Int) ≤ v3312 ∧ (p_v.fDoc.map GField.lf)[v3312.toNat]? = some (GField.lf1 x3315)) (okc (by simp [GValue.lf_eq] : (l3313 ++ [x3315.fValue]).map GValue.lf = (l3313.map GValue.lf) ++ [(GValue.lf1 x3315.fValue)]) ok0)) <|
 .grd ((l3313.length + [x3315.fValue].length) * 80 ≤ 140737488355328) fun h3317 =>
 .say [] (okc (by simpa using h3317 : ((l3313.map GValue.lf).length + [(GValue.lf1 x3315.fValue)].length) * 80 ≤ 140737488355328) ok0) <|
 .ret ⟨[], [1, 3, 5], [(3, 1)], 2⟩ (.inl (IntKind.wrap .i64 (v3312 + 1), l3313 ++ [x3315.fValue]))) fun c3314 =>
 .say [.br false] (ok1 c3314) <|
 .ret ⟨[.kill 0], [3], [], 2⟩ (.inr (l3313))
def Q14_L11 (p_v : GValue) (v3312 : Int) (l3313 : List GValue) : Option (((List GValue))) := loopM (fun v_ => (Q14_L11_T p_v v_).den) FU (v3312, l3313)
def Q14_L11_H (p_v : GValue) : (Int × (List GValue)) → St := fun (v3312, l3313) => ⟨[(1, .ptr 0 0), (3, .own 1), (5, .lf (.int .i64 v3312))], [.box 29 (.dat (GValue.lf1 p_v)), .row 29 5 (l3313.map GValue.lf)]⟩
def Q14_L11_S  (r_ : ((List GValue))) : St := ⟨[(3, .own 1)], [.dead, .row 29 5 (r_.map GValue.lf)]⟩
theorem Q14_L11_W {p_v : GValue} {v3312 : Int} {l3313 : List GValue} {r_ : ((List GValue))} (h : Q14_L11 p_v v3312 l3313 = some r_) : AWa_ Tryz.f288 0 [1, 1, 1, 0, 1, 0, 1, 0] (.exit 2) (Q14_L11_S r_) (Q14_L11_H p_v (v3312, l3313)) :=
 loop_T BaseK (body := (Code.sub (bodyC Tryz.f288) [1, 1, 1, 0, 1, 0, 1, 0, 0])) (by kernel_rfl) (Q14_L11_T p_v) (Q14_L11_H p_v) (fun _ => .exit 2) Q14_L11_S (fun r_ => rfl) (fun v_ => by kernel_rfl) h
def Q14_J17_T (p_v : GValue) (r3283 : ((List GValue))) : Mo (((List GValue))) :=
 .ite (p_v.fKind == 5) (fun c3307 =>
 .say [.br true] (ok1 c3307) <|
 .ask (Q14_L11 p_v 0 r3283) fun r3320 h3321 =>
 .say [.pt_ 0 [1, 3, 5] 2 (.exit 2) (Q14_L11_S r3320)] (ok1 (Q14_L11_W h3321)) <|
 .ret ⟨[], [3], [], 2⟩ (r3320)) fun c3307 =>
 .say [.br false] (ok1 c3307) <|
 .ret ⟨[.kill 0], [3], [], 2⟩ (r3283)
def Q14_J17 (p_v : GValue) (r3283 : ((List GValue))) : Option (((List GValue))) := Mo.den (Q14_J17_T p_v r3283)
def Q14_J17_S  (r_ : ((List GValue))) : St := ⟨[(3, .own 1)], [.dead, .row 29 5 (r_.map GValue.lf)]⟩
theorem Q14_J17_W {p_v : GValue} {r3283 : ((List GValue))} {r_ : ((List GValue))} (h : Q14_J17 p_v r3283 = some r_) : AWa_ Tryz.f288 0 [1, 1, 1, 0, 1] (.normal) (Q14_J17_S r_) ⟨[(1, .ptr 0 0), (3, .own 1), (26, .lf (.bool (p_v.fKind == 5)))], [.box 29 (.dat (GValue.lf1 p_v)), .row 29 5 (r3283.map GValue.lf)]⟩ :=
 part_T BaseK (Q14_J17_T p_v r3283) (fun _ => .normal) Q14_J17_S (by kernel_rfl) h
def Q14_T (p_v : GValue) : Mo (List GValue) :=
 .ask (Q14_J6 p_v) fun r3283 h3284 =>
 .say [.part [.nrow 3 29 5] 1 [1, 3, 8] 2 (.normal) (Q14_J6_S p_v r3283).T (Q14_J6_S p_v r3283).H] (ok1 (Q14_J6_W h3284)) <|
 .ask (Q14_J17 p_v r3283) fun r3324 h3325 =>
 .say [.pt_ 1 [1, 3, 26] 2 (.normal) (Q14_J17_S r3324), .at_ 0 0, .frz 1] (ok1 (Q14_J17_W h3325)) <|
 .ret (fitN 1) (r3324)
def Q14 (p_v : GValue) : Option (List GValue) := Mo.den (Q14_T p_v)
theorem Q14_ok (p_v : GValue) (r : List GValue) (h : Q14 p_v = some r) : Fn Tryz.prog GI 288 [.dat (GValue.lf1 p_v)] (.lf (.rows 5 (r.map GValue.lf))) :=
 fn_T BaseK Tryz.func288 (by kernel_rfl) (by kernel_rfl) (by kernel_rfl) (Q14_T p_v) (fun r => [.lf (.rows 5 (r.map GValue.lf))]) (by kernel_rfl) h
structure RB13 where
 m1 : (p_v : GValue) → (p_most : Int) → Option (Int)
 ok1 : ∀ (p_v : GValue) (p_most : Int) (r : Int), m1 p_v p_most = some r → Fn Tryz.prog GI 237 [.dat (GValue.lf1 p_v), .lf (.int .i64 p_most)] (.lf (.int .i64 r))
def Q31_J0_T (R_ : RB13) (p_most : Int) (r3328 : List GValue) : Mo (Bool) :=
 .ite (decide ((p_most : Int) < 2)) (fun c3331 =>
 .say [.gd 6002 true] (ok1 c3331) <|
 .ret ⟨[], [1, 5, 16], [], 1⟩ (true)) fun c3331 =>
 .say [.gd 6002 false, .num r3328.length] (okc c3331 (okc (by simp : r3328.length = (r3328.map GValue.lf).length) ok0)) <|
 .ret ⟨[], [1, 5, 16], [], 1⟩ ((r3328.length : Int) == 0)
def Q31_J0 (R_ : RB13) (p_most : Int) (r3328 : List GValue) : Option (Bool) := Mo.den (Q31_J0_T R_ p_most r3328)
def Q31_J0_S (p_most : Int) (r3328 : List GValue) (r_ : Bool) : St := ⟨[(1, .lf (.int .i64 p_most)), (5, .lf (.rows 5 (r3328.map GValue.lf))), (16, .lf (.bool r_))], [.dead]⟩
theorem Q31_J0_W {R_ : RB13} {p_most : Int} {r3328 : List GValue} {r_ : Bool} (h : Q31_J0 R_ p_most r3328 = some r_) : AWa_ Tryz.f237 0 [1, 1, 0, 0] (.normal) (Q31_J0_S p_most r3328 r_) ⟨[(1, .lf (.int .i64 p_most)), (5, .lf (.rows 5 (r3328.map GValue.lf)))], [.dead]⟩ :=
 part_T BaseK (Q31_J0_T R_ p_most r3328) (fun _ => .normal) (Q31_J0_S p_most r3328) (by kernel_rfl) h
def Q31_L5_T (R_ : RB13) (p_most : Int) (r3328 : List GValue) : (Int × Int) → Mo ((Int × Int) ⊕ (Int)) := fun (v3366, v3367) =>
 .say [.num r3328.length] (okc (by simp : r3328.length = (r3328.map GValue.lf).length) ok0) <|
 .ite (decide ((v3367 : Int) < (r3328.length : Int))) (fun c3368 =>
 .say [.br true] (ok1 c3368) <|
 .ask (gidx r3328 v3367) fun x3369 h3370 =>
 .say [.row (GValue.lf1 x3369)] (okc (gidx_ok GValue.lf_eq h3370 : (0 : Int) ≤ v3367 ∧ (r3328.map GValue.lf)[v3367.toNat]? = some (GValue.lf1 x3369)) ok0) <|
 .ask (R_.m1 x3369 (IntKind.wrap .i64 (p_most - 1))) fun r3371 h3372 =>
 .say [.res (.lf (.int .i64 r3371))] (ok1 (R_.ok1 _ _ _ h3372)) <|
 .ret ⟨[], [1, 5, 6, 7], [], 1⟩ (.inl ((if r3371 > v3366 then r3371 else v3366), IntKind.wrap .i64 (v3367 + 1)))) fun c3368 =>
 .say [.br false] (ok1 c3368) <|
 .ret ⟨[], [6], [], 1⟩ (.inr (v3366))
def Q31_L5 (R_ : RB13) (p_most : Int) (r3328 : List GValue) (v3366 : Int) (v3367 : Int) : Option (Int) := loopM (fun v_ => (Q31_L5_T R_ p_most r3328 v_).den) FU (v3366, v3367)
def Q31_L5_H (R_ : RB13) (p_most : Int) (r3328 : List GValue) : (Int × Int) → St := fun (v3366, v3367) => ⟨[(1, .lf (.int .i64 p_most)), (5, .lf (.rows 5 (r3328.map GValue.lf))), (6, .lf (.int .i64 v3366)), (7, .lf (.int .i64 v3367))], [.dead]⟩
def Q31_L5_S  (r_ : Int) : St := ⟨[(6, .lf (.int .i64 r_))], [.dead]⟩
theorem Q31_L5_W {R_ : RB13} {p_most : Int} {r3328 : List GValue} {v3366 : Int} {v3367 : Int} {r_ : Int} (h : Q31_L5 R_ p_most r3328 v3366 v3367 = some r_) : AWa_ Tryz.f237 0 [1, 1, 1, 1, 0, 1, 0] (.exit 0) (Q31_L5_S r_) (Q31_L5_H R_ p_most r3328 (v3366, v3367)) :=
 loop_T BaseK (body := (Code.sub (bodyC Tryz.f237) [1, 1, 1, 1, 0, 1, 0, 0])) (by kernel_rfl) (Q31_L5_T R_ p_most r3328) (Q31_L5_H R_ p_most r3328) (fun _ => .exit 0) Q31_L5_S (fun r_ => rfl) (fun v_ => by kernel_rfl) h
def Q31_T (R_ : RB13) (p_v : GValue) (p_most : Int) : Mo (Int) :=
 .ask (Q14 p_v) fun r3328 h3329 =>
 .say [.res (.lf (.rows 5 (r3328.map GValue.lf)))] (ok1 (Q14_ok _ _ h3329)) <|
 .ask (Q31_J0 R_ p_most r3328) fun r3333 h3334 =>
 .say [.part [.kill 0] 11 [1, 5] 1 (.normal) (Q31_J0_S p_most r3328 r3333).T (Q31_J0_S p_most r3328 r3333).H] (ok1 (Q31_J0_W h3334)) <|
 .ite (r3333) (fun c3336 =>
 .say [.br true] (ok1 c3336) <|
 .ret (fitN 1) (1)) fun c3336 =>
 .say [.br false] (ok1 c3336) <|
 .ask (Q31_L5 R_ p_most r3328 0 0) fun r3374 h3375 =>
 .say [.pt_ 0 [1, 5, 6, 7] 1 (.exit 0) (Q31_L5_S r3374)] (ok1 (Q31_L5_W h3375)) <|
 .ret (fitN 1) (IntKind.wrap .i64 (r3374 + 1))
theorem Q31_okT (R_ : RB13) (p_v : GValue) (p_most : Int) (r : Int) (h : Mo.den (Q31_T R_ p_v p_most) = some r) : Fn Tryz.prog GI 237 [.dat (GValue.lf1 p_v), .lf (.int .i64 p_most)] (.lf (.int .i64 r)) :=
 fn_T BaseK Tryz.func237 (by kernel_rfl) (by kernel_rfl) (by kernel_rfl) (Q31_T R_ p_v p_most) (fun r => [.lf (.int .i64 r)]) (by kernel_rfl) h
def RB13_F : Nat → RB13
 | 0 => { m1 := fun p_v p_most => none, ok1 := fun _ _ _ h => (by cases h) }
 | n_ + 1 => { m1 := fun p_v p_most => Mo.den (Q31_T (RB13_F n_) p_v p_most), ok1 := fun p_v p_most r h => Q31_okT (RB13_F n_) p_v p_most r h }
def Q31 (p_v : GValue) (p_most : Int) : Option (Int) := (RB13_F FU).m1 p_v p_most
theorem Q31_ok (p_v : GValue) (p_most : Int) (r : Int) (h : Q31 p_v p_most = some r) : Fn Tryz.prog GI 237 [.dat (GValue.lf1 p_v), .lf (.int .i64 p_most)] (.lf (.int .i64 r)) := (RB13_F FU).ok1 p_v p_most r h
def Q118_T (p_v : GValue) : Mo (Int) :=
 .ask (Q31 p_v 17) fun r3376 h3377 =>
 .say [.res (.lf (.int .i64 r3376))] (ok1 (Q31_ok _ _ _ h3377)) <|
 .ret (fitN 1) (r3376)
def Q118 (p_v : GValue) : Option (Int) := Mo.den (Q118_T p_v)
theorem Q118_ok (p_v : GValue) (r : Int) (h : Q118 p_v = some r) : Fn Tryz.prog GI 196 [.dat (GValue.lf1 p_v)] (.lf (.int .i64 r)) :=
 fn_T BaseK Tryz.func196 (by kernel_rfl) (by kernel_rfl) (by kernel_rfl) (Q118_T p_v) (fun r => [.lf (.int .i64 r)]) (by kernel_rfl) h
end
end Go.Proofs.YtdnafbfmaphhhaaGreatDoor
