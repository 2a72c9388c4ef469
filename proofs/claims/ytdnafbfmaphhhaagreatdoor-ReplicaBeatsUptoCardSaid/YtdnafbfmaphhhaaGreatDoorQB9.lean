/- Printed by dec.py. -/
import Derived.Test.YtdnafbfmaphhhaaGreatDoorQB8
import Derived.Test.YtdnafbfmaphhhaaGreatDoorQB5
import Derived.Test.YtdnafbfmaphhhaaGreatDoorQBName
import Derived.Test.YtdnafbfmaphhhaaGreatDoorQB4
set_option linter.unusedSimpArgs false
set_option linter.unusedVariables false
namespace Go.Proofs.YtdnafbfmaphhhaaGreatDoor
open Go.RowKit
set_option maxRecDepth 20000
set_option maxHeartbeats 4000000
noncomputable section
def Q9_J0_T (l5938 : List Int) (p_a : Int) (p_b : Int) (v5915 : Int) (v5937 : Int) : Mo (Bool) :=
 .ite (decide ((p_a : Int) < v5937)) (fun c5939 =>
 .say [] (ok1 c5939) <|
 .ask (gidx l5938 v5937) fun x5940 h5941 =>
 .say [] (okc (gidx_lt (fun _ => rfl) h5941 : (0 : Int) ≤ v5937 ∧ v5937.toNat < (l5938.map lfI).length) (okc ((gidx_ok (fun _ => rfl) h5941).2 : (l5938.map lfI)[v5937.toNat]? = some (lfI x5940)) ok0)) <|
 .ask (gidx l5938 (IntKind.wrap .i64 (v5937 - 1))) fun x5942 h5943 =>
 .say [] (okc (gidx_lt (fun _ => rfl) h5943 : (0 : Int) ≤ (IntKind.wrap .i64 (v5937 - 1)) ∧ (IntKind.wrap .i64 (v5937 - 1)).toNat < (l5938.map lfI).length) (okc ((gidx_ok (fun _ => rfl) h5943).2 : (l5938.map lfI)[(IntKind.wrap .i64 (v5937 - 1)).toNat]? = some (lfI x5942)) ok0)) <|
 .ask (Q37 x5940 x5942) fun r5944 h5945 =>
 .say [.orderT (.q 0 (.q 1 (.q 2 (.q 3 (.q 4 (.q 5 (.q 6 (.q 7 (.q 8 (.q 9 (.q 10 (.q 11 (.q 12 (.l 13 (.q 14 .fin))))))))))))))) (some 13) [] [.gd 10003 true, .row (lfI x5940), .row (lfI x5942), .res (.lf (.bool r5944))] [0, 1, 2, 6, 7, 30] 1 [(0, .own 0), (1, .lf (.int .i64 p_a)), (2, .lf (.int .i64 p_b)), (6, .lf (.int .i64 v5915)), (7, .lf (.int .i64 v5937)), (30, .lf (.bool r5944))] [.row 3 1 (l5938.map lfI)]] (okc (Q37_ok _ _ _ h5945) (okc (rfl : (some ⟨[(0, .own 0), (1, .lf (.int .i64 p_a)), (2, .lf (.int .i64 p_b)), (6, .lf (.int .i64 v5915)), (7, .lf (.int .i64 v5937)), (30, .lf (.bool r5944))], [.row 3 1 (l5938.map lfI)]⟩ : Option St) = some ⟨[(0, .own 0), (1, .lf (.int .i64 p_a)), (2, .lf (.int .i64 p_b)), (6, .lf (.int .i64 v5915)), (7, .lf (.int .i64 v5937)), (30, .lf (.bool r5944))], [.row 3 1 (l5938.map lfI)]⟩) ok0)) <|
 .ret ⟨[], [0, 1, 2, 6, 7, 30], [], 1⟩ (r5944)) fun c5939 =>
 .say [.orderT (.q 0 (.q 1 (.q 2 (.q 3 (.q 4 (.q 5 (.q 6 (.q 7 (.q 8 (.q 9 (.q 10 (.q 11 (.q 12 (.l 13 (.q 14 .fin))))))))))))))) (some 13) [] [.gd 10003 false] [0, 1, 2, 6, 7, 30] 1 [(0, .own 0), (1, .lf (.int .i64 p_a)), (2, .lf (.int .i64 p_b)), (6, .lf (.int .i64 v5915)), (7, .lf (.int .i64 v5937)), (30, .lf (.bool false))] [.row 3 1 (l5938.map lfI)]] (okc c5939 (okc (rfl : (some ⟨[(0, .own 0), (1, .lf (.int .i64 p_a)), (2, .lf (.int .i64 p_b)), (6, .lf (.int .i64 v5915)), (7, .lf (.int .i64 v5937)), (30, .lf (.bool false))], [.row 3 1 (l5938.map lfI)]⟩ : Option St) = some ⟨[(0, .own 0), (1, .lf (.int .i64 p_a)), (2, .lf (.int .i64 p_b)), (6, .lf (.int .i64 v5915)), (7, .lf (.int .i64 v5937)), (30, .lf (.bool false))], [.row 3 1 (l5938.map lfI)]⟩) ok0)) <|
 .ret ⟨[], [0, 1, 2, 6, 7, 30], [], 1⟩ (false)
def Q9_J0 (l5938 : List Int) (p_a : Int) (p_b : Int) (v5915 : Int) (v5937 : Int) : Option (Bool) := Mo.den (Q9_J0_T l5938 p_a p_b v5915 v5937)
def Q9_J0_S (l5938 : List Int) (p_a : Int) (p_b : Int) (v5915 : Int) (v5937 : Int) (r_ : Bool) : St := ⟨[(0, .own 0), (1, .lf (.int .i64 p_a)), (2, .lf (.int .i64 p_b)), (6, .lf (.int .i64 v5915)), (7, .lf (.int .i64 v5937)), (30, .lf (.bool r_))], [.row 3 1 (l5938.map lfI)]⟩
theorem Q9_J0_W {l5938 : List Int} {p_a : Int} {p_b : Int} {v5915 : Int} {v5937 : Int} {r_ : Bool} (h : Q9_J0 l5938 p_a p_b v5915 v5937 = some r_) : AWa_ Tryz.f139 1 [1, 0, 0, 1, 0, 0, 1, 0, 0, 0, 0] (.normal) (Q9_J0_S l5938 p_a p_b v5915 v5937 r_) ⟨[(0, .own 0), (1, .lf (.int .i64 p_a)), (2, .lf (.int .i64 p_b)), (6, .lf (.int .i64 v5915)), (7, .lf (.int .i64 v5937))], [.row 3 1 (l5938.map lfI)]⟩ :=
 part_T BaseK (Q9_J0_T l5938 p_a p_b v5915 v5937) (fun _ => .normal) (Q9_J0_S l5938 p_a p_b v5915 v5937) (by kernel_rfl) h
def Q9_L5_T (p_a : Int) (p_b : Int) (v5915 : Int) : (Int × (List Int)) → Mo ((Int × (List Int)) ⊕ ((List Int))) := fun (v5937, l5938) =>
 .ask (Q9_J0 l5938 p_a p_b v5915 v5937) fun r5947 h5948 =>
 .say [.pt_ 15 [0, 1, 2, 6, 7] 1 (.normal) (Q9_J0_S l5938 p_a p_b v5915 v5937 r5947)] (ok1 (Q9_J0_W h5948)) <|
 .ite (r5947) (fun c5949 =>
 .say [.br true] (ok1 c5949) <|
 .ask (gidx l5938 (IntKind.wrap .i64 (v5937 - 1))) fun x5950 h5951 =>
 .say [] (okc (gidx_lt (fun _ => rfl) h5951 : (0 : Int) ≤ (IntKind.wrap .i64 (v5937 - 1)) ∧ (IntKind.wrap .i64 (v5937 - 1)).toNat < (l5938.map lfI).length) (okc ((gidx_ok (fun _ => rfl) h5951).2 : (l5938.map lfI)[(IntKind.wrap .i64 (v5937 - 1)).toNat]? = some (lfI x5950)) ok0)) <|
 .ask (gidx l5938 v5937) fun x5952 h5953 =>
 .say [] (okc (gidx_lt (fun _ => rfl) h5953 : (0 : Int) ≤ v5937 ∧ v5937.toNat < (l5938.map lfI).length) (okc ((gidx_ok (fun _ => rfl) h5953).2 : (l5938.map lfI)[v5937.toNat]? = some (lfI x5952)) ok0)) <|
 .ask (gidx l5938 v5937) fun x5954 h5955 =>
 .say [] (okc (gidx_lt (fun _ => rfl) h5955 : (0 : Int) ≤ v5937 ∧ v5937.toNat < (l5938.map lfI).length) (okc (by simp [lfI, lfK] : (l5938.set v5937.toNat x5950).map lfI = (l5938.map lfI).set v5937.toNat (lfI x5950)) (okc ((gidx_ok (fun _ => rfl) h5955).2 : (l5938.map lfI)[v5937.toNat]? = some (lfI x5954)) ok0))) <|
 .ask (gidx (l5938.set v5937.toNat x5950) (IntKind.wrap .i64 (v5937 - 1))) fun x5956 h5957 =>
 .say [.orderT (.q 0 (.q 1 (.q 2 (.q 3 (.q 4 (.q 5 (.q 6 (.q 7 (.q 10 (.q 11 (.alt 8 (.alt 9 (.l 12 (.l 13 (.l 14 (.l 15 (.l 16 (.l 17 .fin)))))) (.l 12 (.alt 9 (.l 13 (.l 14 (.l 15 (.l 16 (.l 17 .fin))))) (.l 13 (.l 9 (.l 14 (.l 15 (.l 16 (.l 17 .fin))))))))) (.l 12 (.alt 8 (.alt 9 (.l 13 (.l 14 (.l 15 (.l 16 (.l 17 .fin))))) (.l 13 (.l 9 (.l 14 (.l 15 (.l 16 (.l 17 .fin))))))) (.l 13 (.l 8 (.l 9 (.l 14 (.l 15 (.l 16 (.l 17 .fin)))))))))))))))))))) (some 17) [0] [.both [.both [.row (lfI x5950), .row (lfI x5952), .row (lfI x5954), .rows ((l5938.set v5937.toNat x5950).map lfI), .row (lfI x5956), .rows (((l5938.set v5937.toNat x5950).set ((IntKind.wrap .i64 (v5937 - 1)).toNat) x5952).map lfI)] [.both [.row (lfI x5950), .row (lfI x5952), .row (lfI x5954), .rows ((l5938.set v5937.toNat x5950).map lfI), .row (lfI x5956), .rows (((l5938.set v5937.toNat x5950).set ((IntKind.wrap .i64 (v5937 - 1)).toNat) x5952).map lfI)] [.row (lfI x5952), .row (lfI x5950), .row (lfI x5954), .rows ((l5938.set v5937.toNat x5950).map lfI), .row (lfI x5956), .rows (((l5938.set v5937.toNat x5950).set ((IntKind.wrap .i64 (v5937 - 1)).toNat) x5952).map lfI)]]] [.both [.both [.row (lfI x5950), .row (lfI x5952), .row (lfI x5954), .rows ((l5938.set v5937.toNat x5950).map lfI), .row (lfI x5956), .rows (((l5938.set v5937.toNat x5950).set ((IntKind.wrap .i64 (v5937 - 1)).toNat) x5952).map lfI)] [.row (lfI x5952), .row (lfI x5950), .row (lfI x5954), .rows ((l5938.set v5937.toNat x5950).map lfI), .row (lfI x5956), .rows (((l5938.set v5937.toNat x5950).set ((IntKind.wrap .i64 (v5937 - 1)).toNat) x5952).map lfI)]] [.row (lfI x5952), .row (lfI x5950), .row (lfI x5954), .rows ((l5938.set v5937.toNat x5950).map lfI), .row (lfI x5956), .rows (((l5938.set v5937.toNat x5950).set ((IntKind.wrap .i64 (v5937 - 1)).toNat) x5952).map lfI)]]] [0, 1, 2, 6, 7] 1 [(0, .own 0), (1, .lf (.int .i64 p_a)), (2, .lf (.int .i64 p_b)), (6, .lf (.int .i64 v5915)), (7, .lf (.int .i64 v5937))] [.row 3 1 (((l5938.set v5937.toNat x5950).set ((IntKind.wrap .i64 (v5937 - 1)).toNat) x5952).map lfI)]] (okc (gidx_lt (fun _ => rfl) h5957 : (0 : Int) ≤ (IntKind.wrap .i64 (v5937 - 1)) ∧ (IntKind.wrap .i64 (v5937 - 1)).toNat < ((l5938.set v5937.toNat x5950).map lfI).length) (okc (by simp [lfI, lfK] : ((l5938.set v5937.toNat x5950).set ((IntKind.wrap .i64 (v5937 - 1)).toNat) x5952).map lfI = ((l5938.set v5937.toNat x5950).map lfI).set ((IntKind.wrap .i64 (v5937 - 1)).toNat) (lfI x5952)) (okc ((gidx_ok (fun _ => rfl) h5957).2 : ((l5938.set v5937.toNat x5950).map lfI)[(IntKind.wrap .i64 (v5937 - 1)).toNat]? = some (lfI x5956)) (okc (rfl : (some ⟨[(0, .own 0), (1, .lf (.int .i64 p_a)), (2, .lf (.int .i64 p_b)), (6, .lf (.int .i64 v5915)), (7, .lf (.int .i64 v5937))], [.row 3 1 (((l5938.set v5937.toNat x5950).set ((IntKind.wrap .i64 (v5937 - 1)).toNat) x5952).map lfI)]⟩ : Option St) = some ⟨[(0, .own 0), (1, .lf (.int .i64 p_a)), (2, .lf (.int .i64 p_b)), (6, .lf (.int .i64 v5915)), (7, .lf (.int .i64 v5937))], [.row 3 1 (((l5938.set v5937.toNat x5950).set ((IntKind.wrap .i64 (v5937 - 1)).toNat) x5952).map lfI)]⟩) (okc (gidx_lt (fun _ => rfl) h5953 : (0 : Int) ≤ v5937 ∧ v5937.toNat < (l5938.map lfI).length) (okc ((gidx_ok (fun _ => rfl) h5951).2 : (l5938.map lfI)[(IntKind.wrap .i64 (v5937 - 1)).toNat]? = some (lfI x5950)) (okc ((gidx_ok (fun _ => rfl) h5953).2 : (l5938.map lfI)[v5937.toNat]? = some (lfI x5952)) (okc (gidx_lt (fun _ => rfl) h5955 : (0 : Int) ≤ v5937 ∧ v5937.toNat < (l5938.map lfI).length) (okc (by simp [lfI, lfK] : (l5938.set v5937.toNat x5950).map lfI = (l5938.map lfI).set v5937.toNat (lfI x5950)) (okc ((gidx_ok (fun _ => rfl) h5955).2 : (l5938.map lfI)[v5937.toNat]? = some (lfI x5954)) (okc (gidx_lt (fun _ => rfl) h5957 : (0 : Int) ≤ (IntKind.wrap .i64 (v5937 - 1)) ∧ (IntKind.wrap .i64 (v5937 - 1)).toNat < ((l5938.set v5937.toNat x5950).map lfI).length) (okc (by simp [lfI, lfK] : ((l5938.set v5937.toNat x5950).set ((IntKind.wrap .i64 (v5937 - 1)).toNat) x5952).map lfI = ((l5938.set v5937.toNat x5950).map lfI).set ((IntKind.wrap .i64 (v5937 - 1)).toNat) (lfI x5952)) (okc ((gidx_ok (fun _ => rfl) h5957).2 : ((l5938.set v5937.toNat x5950).map lfI)[(IntKind.wrap .i64 (v5937 - 1)).toNat]? = some (lfI x5956)) (okc (rfl : (some ⟨[(0, .own 0), (1, .lf (.int .i64 p_a)), (2, .lf (.int .i64 p_b)), (6, .lf (.int .i64 v5915)), (7, .lf (.int .i64 v5937))], [.row 3 1 (((l5938.set v5937.toNat x5950).set ((IntKind.wrap .i64 (v5937 - 1)).toNat) x5952).map lfI)]⟩ : Option St) = some ⟨[(0, .own 0), (1, .lf (.int .i64 p_a)), (2, .lf (.int .i64 p_b)), (6, .lf (.int .i64 v5915)), (7, .lf (.int .i64 v5937))], [.row 3 1 (((l5938.set v5937.toNat x5950).set ((IntKind.wrap .i64 (v5937 - 1)).toNat) x5952).map lfI)]⟩) (okc ((gidx_ok (fun _ => rfl) h5953).2 : (l5938.map lfI)[v5937.toNat]? = some (lfI x5952)) (okc ((gidx_ok (fun _ => rfl) h5951).2 : (l5938.map lfI)[(IntKind.wrap .i64 (v5937 - 1)).toNat]? = some (lfI x5950)) (okc (gidx_lt (fun _ => rfl) h5955 : (0 : Int) ≤ v5937 ∧ v5937.toNat < (l5938.map lfI).length) (okc (by simp [lfI, lfK] : (l5938.set v5937.toNat x5950).map lfI = (l5938.map lfI).set v5937.toNat (lfI x5950)) (okc ((gidx_ok (fun _ => rfl) h5955).2 : (l5938.map lfI)[v5937.toNat]? = some (lfI x5954)) (okc (gidx_lt (fun _ => rfl) h5957 : (0 : Int) ≤ (IntKind.wrap .i64 (v5937 - 1)) ∧ (IntKind.wrap .i64 (v5937 - 1)).toNat < ((l5938.set v5937.toNat x5950).map lfI).length) (okc (by simp [lfI, lfK] : ((l5938.set v5937.toNat x5950).set ((IntKind.wrap .i64 (v5937 - 1)).toNat) x5952).map lfI = ((l5938.set v5937.toNat x5950).map lfI).set ((IntKind.wrap .i64 (v5937 - 1)).toNat) (lfI x5952)) (okc ((gidx_ok (fun _ => rfl) h5957).2 : ((l5938.set v5937.toNat x5950).map lfI)[(IntKind.wrap .i64 (v5937 - 1)).toNat]? = some (lfI x5956)) (okc (rfl : (some ⟨[(0, .own 0), (1, .lf (.int .i64 p_a)), (2, .lf (.int .i64 p_b)), (6, .lf (.int .i64 v5915)), (7, .lf (.int .i64 v5937))], [.row 3 1 (((l5938.set v5937.toNat x5950).set ((IntKind.wrap .i64 (v5937 - 1)).toNat) x5952).map lfI)]⟩ : Option St) = some ⟨[(0, .own 0), (1, .lf (.int .i64 p_a)), (2, .lf (.int .i64 p_b)), (6, .lf (.int .i64 v5915)), (7, .lf (.int .i64 v5937))], [.row 3 1 (((l5938.set v5937.toNat x5950).set ((IntKind.wrap .i64 (v5937 - 1)).toNat) x5952).map lfI)]⟩) (okc (gidx_lt (fun _ => rfl) h5953 : (0 : Int) ≤ v5937 ∧ v5937.toNat < (l5938.map lfI).length) (okc (gidx_lt (fun _ => rfl) h5951 : (0 : Int) ≤ (IntKind.wrap .i64 (v5937 - 1)) ∧ (IntKind.wrap .i64 (v5937 - 1)).toNat < (l5938.map lfI).length) (okc ((gidx_ok (fun _ => rfl) h5951).2 : (l5938.map lfI)[(IntKind.wrap .i64 (v5937 - 1)).toNat]? = some (lfI x5950)) (okc ((gidx_ok (fun _ => rfl) h5953).2 : (l5938.map lfI)[v5937.toNat]? = some (lfI x5952)) (okc (gidx_lt (fun _ => rfl) h5955 : (0 : Int) ≤ v5937 ∧ v5937.toNat < (l5938.map lfI).length) (okc (by simp [lfI, lfK] : (l5938.set v5937.toNat x5950).map lfI = (l5938.map lfI).set v5937.toNat (lfI x5950)) (okc ((gidx_ok (fun _ => rfl) h5955).2 : (l5938.map lfI)[v5937.toNat]? = some (lfI x5954)) (okc (gidx_lt (fun _ => rfl) h5957 : (0 : Int) ≤ (IntKind.wrap .i64 (v5937 - 1)) ∧ (IntKind.wrap .i64 (v5937 - 1)).toNat < ((l5938.set v5937.toNat x5950).map lfI).length) (okc (by simp [lfI, lfK] : ((l5938.set v5937.toNat x5950).set ((IntKind.wrap .i64 (v5937 - 1)).toNat) x5952).map lfI = ((l5938.set v5937.toNat x5950).map lfI).set ((IntKind.wrap .i64 (v5937 - 1)).toNat) (lfI x5952)) (okc ((gidx_ok (fun _ => rfl) h5957).2 : ((l5938.set v5937.toNat x5950).map lfI)[(IntKind.wrap .i64 (v5937 - 1)).toNat]? = some (lfI x5956)) (okc (rfl : (some ⟨[(0, .own 0), (1, .lf (.int .i64 p_a)), (2, .lf (.int .i64 p_b)), (6, .lf (.int .i64 v5915)), (7, .lf (.int .i64 v5937))], [.row 3 1 (((l5938.set v5937.toNat x5950).set ((IntKind.wrap .i64 (v5937 - 1)).toNat) x5952).map lfI)]⟩ : Option St) = some ⟨[(0, .own 0), (1, .lf (.int .i64 p_a)), (2, .lf (.int .i64 p_b)), (6, .lf (.int .i64 v5915)), (7, .lf (.int .i64 v5937))], [.row 3 1 (((l5938.set v5937.toNat x5950).set ((IntKind.wrap .i64 (v5937 - 1)).toNat) x5952).map lfI)]⟩) (okc ((gidx_ok (fun _ => rfl) h5953).2 : (l5938.map lfI)[v5937.toNat]? = some (lfI x5952)) (okc ((gidx_ok (fun _ => rfl) h5951).2 : (l5938.map lfI)[(IntKind.wrap .i64 (v5937 - 1)).toNat]? = some (lfI x5950)) (okc (gidx_lt (fun _ => rfl) h5955 : (0 : Int) ≤ v5937 ∧ v5937.toNat < (l5938.map lfI).length) (okc (by simp [lfI, lfK] : (l5938.set v5937.toNat x5950).map lfI = (l5938.map lfI).set v5937.toNat (lfI x5950)) (okc ((gidx_ok (fun _ => rfl) h5955).2 : (l5938.map lfI)[v5937.toNat]? = some (lfI x5954)) (okc (gidx_lt (fun _ => rfl) h5957 : (0 : Int) ≤ (IntKind.wrap .i64 (v5937 - 1)) ∧ (IntKind.wrap .i64 (v5937 - 1)).toNat < ((l5938.set v5937.toNat x5950).map lfI).length) (okc (by simp [lfI, lfK] : ((l5938.set v5937.toNat x5950).set ((IntKind.wrap .i64 (v5937 - 1)).toNat) x5952).map lfI = ((l5938.set v5937.toNat x5950).map lfI).set ((IntKind.wrap .i64 (v5937 - 1)).toNat) (lfI x5952)) (okc ((gidx_ok (fun _ => rfl) h5957).2 : ((l5938.set v5937.toNat x5950).map lfI)[(IntKind.wrap .i64 (v5937 - 1)).toNat]? = some (lfI x5956)) (okc (rfl : (some ⟨[(0, .own 0), (1, .lf (.int .i64 p_a)), (2, .lf (.int .i64 p_b)), (6, .lf (.int .i64 v5915)), (7, .lf (.int .i64 v5937))], [.row 3 1 (((l5938.set v5937.toNat x5950).set ((IntKind.wrap .i64 (v5937 - 1)).toNat) x5952).map lfI)]⟩ : Option St) = some ⟨[(0, .own 0), (1, .lf (.int .i64 p_a)), (2, .lf (.int .i64 p_b)), (6, .lf (.int .i64 v5915)), (7, .lf (.int .i64 v5937))], [.row 3 1 (((l5938.set v5937.toNat x5950).set ((IntKind.wrap .i64 (v5937 - 1)).toNat) x5952).map lfI)]⟩) (okc ((gidx_ok (fun _ => rfl) h5953).2 : (l5938.map lfI)[v5937.toNat]? = some (lfI x5952)) (okc (gidx_lt (fun _ => rfl) h5951 : (0 : Int) ≤ (IntKind.wrap .i64 (v5937 - 1)) ∧ (IntKind.wrap .i64 (v5937 - 1)).toNat < (l5938.map lfI).length) (okc ((gidx_ok (fun _ => rfl) h5951).2 : (l5938.map lfI)[(IntKind.wrap .i64 (v5937 - 1)).toNat]? = some (lfI x5950)) (okc (gidx_lt (fun _ => rfl) h5955 : (0 : Int) ≤ v5937 ∧ v5937.toNat < (l5938.map lfI).length) (okc (by simp [lfI, lfK] : (l5938.set v5937.toNat x5950).map lfI = (l5938.map lfI).set v5937.toNat (lfI x5950)) (okc ((gidx_ok (fun _ => rfl) h5955).2 : (l5938.map lfI)[v5937.toNat]? = some (lfI x5954)) (okc (gidx_lt (fun _ => rfl) h5957 : (0 : Int) ≤ (IntKind.wrap .i64 (v5937 - 1)) ∧ (IntKind.wrap .i64 (v5937 - 1)).toNat < ((l5938.set v5937.toNat x5950).map lfI).length) (okc (by simp [lfI, lfK] : ((l5938.set v5937.toNat x5950).set ((IntKind.wrap .i64 (v5937 - 1)).toNat) x5952).map lfI = ((l5938.set v5937.toNat x5950).map lfI).set ((IntKind.wrap .i64 (v5937 - 1)).toNat) (lfI x5952)) (okc ((gidx_ok (fun _ => rfl) h5957).2 : ((l5938.set v5937.toNat x5950).map lfI)[(IntKind.wrap .i64 (v5937 - 1)).toNat]? = some (lfI x5956)) (okc (rfl : (some ⟨[(0, .own 0), (1, .lf (.int .i64 p_a)), (2, .lf (.int .i64 p_b)), (6, .lf (.int .i64 v5915)), (7, .lf (.int .i64 v5937))], [.row 3 1 (((l5938.set v5937.toNat x5950).set ((IntKind.wrap .i64 (v5937 - 1)).toNat) x5952).map lfI)]⟩ : Option St) = some ⟨[(0, .own 0), (1, .lf (.int .i64 p_a)), (2, .lf (.int .i64 p_b)), (6, .lf (.int .i64 v5915)), (7, .lf (.int .i64 v5937))], [.row 3 1 (((l5938.set v5937.toNat x5950).set ((IntKind.wrap .i64 (v5937 - 1)).toNat) x5952).map lfI)]⟩) ok0))))))))))))))))))))))))))))))))))))))))))))))))))))) <|
 .ret ⟨[], [0, 1, 2, 6, 7], [], 1⟩ (.inl (IntKind.wrap .i64 (v5937 - 1), (l5938.set v5937.toNat x5950).set ((IntKind.wrap .i64 (v5937 - 1)).toNat) x5952))) fun c5949 =>
 .say [.br false] (ok1 c5949) <|
 .ret ⟨[], [0, 1, 2, 6], [], 1⟩ (.inr (l5938))
def Q9_L5 (p_a : Int) (p_b : Int) (v5915 : Int) (v5937 : Int) (l5938 : List Int) : Option (((List Int))) := loopM (fun v_ => (Q9_L5_T p_a p_b v5915 v_).den) FU (v5937, l5938)
def Q9_L5_H (p_a : Int) (p_b : Int) (v5915 : Int) : (Int × (List Int)) → St := fun (v5937, l5938) => ⟨[(0, .own 0), (1, .lf (.int .i64 p_a)), (2, .lf (.int .i64 p_b)), (6, .lf (.int .i64 v5915)), (7, .lf (.int .i64 v5937))], [.row 3 1 (l5938.map lfI)]⟩
def Q9_L5_S (p_a : Int) (p_b : Int) (v5915 : Int) (r_ : ((List Int))) : St := ⟨[(0, .own 0), (1, .lf (.int .i64 p_a)), (2, .lf (.int .i64 p_b)), (6, .lf (.int .i64 v5915))], [.row 3 1 (r_.map lfI)]⟩
theorem Q9_L5_W {p_a : Int} {p_b : Int} {v5915 : Int} {v5937 : Int} {l5938 : List Int} {r_ : ((List Int))} (h : Q9_L5 p_a p_b v5915 v5937 l5938 = some r_) : AWa_ Tryz.f139 1 [1, 0, 0, 1, 0, 0, 1, 0] (.exit 2) (Q9_L5_S p_a p_b v5915 r_) (Q9_L5_H p_a p_b v5915 (v5937, l5938)) :=
 loop_T BaseK (body := (Code.sub (bodyC Tryz.f139) [1, 0, 0, 1, 0, 0, 1, 0, 0])) (by kernel_rfl) (Q9_L5_T p_a p_b v5915) (Q9_L5_H p_a p_b v5915) (fun _ => .exit 2) (Q9_L5_S p_a p_b v5915) (fun r_ => rfl) (fun v_ => by kernel_rfl) h
def Q9_L11_T (p_a : Int) (p_b : Int) : (Int × (List Int)) → Mo ((Int × (List Int)) ⊕ ((List Int))) := fun (v5915, l5916) =>
 .ite (decide ((v5915 : Int) < p_b)) (fun c5917 =>
 .say [.br true] (ok1 c5917) <|
 .ask (Q9_L5 p_a p_b v5915 v5915 l5916) fun r5959 h5960 =>
 .say [.pt_ 0 [0, 1, 2, 6, 7] 1 (.exit 2) (Q9_L5_S p_a p_b v5915 r5959)] (ok1 (Q9_L5_W h5960)) <|
 .ret ⟨[], [0, 1, 2, 6], [], 1⟩ (.inl (IntKind.wrap .i64 (v5915 + 1), r5959))) fun c5917 =>
 .say [.br false] (ok1 c5917) <|
 .ret ⟨[], [], [], 1⟩ (.inr (l5916))
def Q9_L11 (p_a : Int) (p_b : Int) (v5915 : Int) (l5916 : List Int) : Option (((List Int))) := loopM (fun v_ => (Q9_L11_T p_a p_b v_).den) FU (v5915, l5916)
def Q9_L11_H (p_a : Int) (p_b : Int) : (Int × (List Int)) → St := fun (v5915, l5916) => ⟨[(0, .own 0), (1, .lf (.int .i64 p_a)), (2, .lf (.int .i64 p_b)), (6, .lf (.int .i64 v5915))], [.row 3 1 (l5916.map lfI)]⟩
def Q9_L11_S  (r_ : ((List Int))) : St := ⟨[], [.row 3 1 (r_.map lfI)]⟩
theorem Q9_L11_W {p_a : Int} {p_b : Int} {v5915 : Int} {l5916 : List Int} {r_ : ((List Int))} (h : Q9_L11 p_a p_b v5915 l5916 = some r_) : AWa_ Tryz.f139 1 [1, 0] (.exit 0) (Q9_L11_S r_) (Q9_L11_H p_a p_b (v5915, l5916)) :=
 loop_T BaseK (body := (Code.sub (bodyC Tryz.f139) [1, 0, 0])) (by kernel_rfl) (Q9_L11_T p_a p_b) (Q9_L11_H p_a p_b) (fun _ => .exit 0) Q9_L11_S (fun r_ => rfl) (fun v_ => by kernel_rfl) h
def Q9_T (p_a : Int) (p_b : Int) (p_s0 : List Int) : Mo (List Int) :=
 .ask (Q9_L11 p_a p_b (IntKind.wrap .i64 (p_a + 1)) p_s0) fun r5962 h5963 =>
 .say [.pt_ 0 [0, 1, 2, 6] 1 (.exit 0) (Q9_L11_S r5962)] (ok1 (Q9_L11_W h5963)) <|
 .ret ⟨[], [], [], 1⟩ (r5962)
def Q9 (p_a : Int) (p_b : Int) (p_s0 : List Int) : Option (List Int) := Mo.den (Q9_T p_a p_b p_s0)
theorem Q9_ok (p_a : Int) (p_b : Int) (p_s0 : List Int) (r : List Int) (h : Q9 p_a p_b p_s0 = some r) : FnH Tryz.prog GI 139 [.own 0, .lf (.int .i64 p_a), .lf (.int .i64 p_b)] [.row 3 1 (p_s0.map lfI)] (.tup []) [.row 3 1 (r.map lfI)] :=
 fn_TH BaseK Tryz.func139 (by kernel_rfl) (by kernel_rfl) (by kernel_rfl) (Q9_T p_a p_b p_s0) (fun r => []) (fun r => [.row 3 1 (r.map lfI)]) (by kernel_rfl) h
structure RB20 where
 m1 : (p_a : Int) → (p_b : Int) → (p_limit : Int) → (p_s0 : List Int) → Option (List Int)
 ok1 : ∀ (p_a : Int) (p_b : Int) (p_limit : Int) (p_s0 : List Int) (r : List Int), m1 p_a p_b p_limit p_s0 = some r → FnH Tryz.prog GI 104 [.own 0, .lf (.int .i64 p_a), .lf (.int .i64 p_b), .lf (.int .i64 p_limit)] [.row 3 1 (p_s0.map lfI)] (.tup []) [.row 3 1 (r.map lfI)]
def Q38_L0_T (R_ : RB20) (p_a : Int) (p_b : Int) (p_limit : Int) (p_s0 : List Int) : Unit → Mo (Unit ⊕ ((List Int))) := fun _ =>
 .say [.br true] ok0 <|
 .ite (decide ((IntKind.wrap .i64 (p_b - p_a) : Int) ≤ 12)) (fun c5973 =>
 .say [] (ok1 c5973) <|
 .ask (Q9 p_a p_b p_s0) fun r5974 h5975 =>
 .say [.resH [0] (.tup []) [.row 3 1 (r5974.map lfI)]] (ok1 (Q9_ok _ _ _ _ h5975)) <|
 .ret ⟨[], [], [], 1⟩ (.inr (r5974))) fun c5973 =>
 .stop
def Q38_L0 (R_ : RB20) (p_a : Int) (p_b : Int) (p_limit : Int) (p_s0 : List Int) : Option (((List Int))) := loopM (fun v_ => (Q38_L0_T R_ p_a p_b p_limit p_s0 v_).den) FU ()
def Q38_L0_H (R_ : RB20) (p_a : Int) (p_b : Int) (p_limit : Int) (p_s0 : List Int) : Unit → St := fun _ => ⟨[(0, .own 0), (1, .lf (.int .i64 p_a)), (2, .lf (.int .i64 p_b)), (3, .lf (.int .i64 p_limit)), (8, .lf (.bool true)), (9, .lf (.bool true))], [.row 3 1 (p_s0.map lfI)]⟩
def Q38_L0_S  (r_ : ((List Int))) : St := ⟨[], [.row 3 1 (r_.map lfI)]⟩
theorem Q38_L0_W {R_ : RB20} {p_a : Int} {p_b : Int} {p_limit : Int} {p_s0 : List Int} {r_ : ((List Int))} (h : Q38_L0 R_ p_a p_b p_limit p_s0 = some r_) : AWa_ Tryz.f104 1 [1, 1, 0] (.ret) (Q38_L0_S r_) (Q38_L0_H R_ p_a p_b p_limit p_s0 ()) :=
 loop_T BaseK (body := (Code.sub (bodyC Tryz.f104) [1, 1, 0, 0])) (by kernel_rfl) (Q38_L0_T R_ p_a p_b p_limit p_s0) (Q38_L0_H R_ p_a p_b p_limit p_s0) (fun _ => .ret) Q38_L0_S (fun r_ => rfl) (fun v_ => by kernel_rfl) h
def Q38_T (R_ : RB20) (p_a : Int) (p_b : Int) (p_limit : Int) (p_s0 : List Int) : Mo (List Int) :=
 .ask (Q38_L0 R_ p_a p_b p_limit p_s0) fun r5978 h5979 =>
 .say [.pt_ 0 [0, 1, 2, 3, 8, 9] 1 (.ret) (Q38_L0_S r5978)] (ok1 (Q38_L0_W h5979)) <|
 .ret ⟨[], [], [], 1⟩ (r5978)
theorem Q38_okT (R_ : RB20) (p_a : Int) (p_b : Int) (p_limit : Int) (p_s0 : List Int) (r : List Int) (h : Mo.den (Q38_T R_ p_a p_b p_limit p_s0) = some r) : FnH Tryz.prog GI 104 [.own 0, .lf (.int .i64 p_a), .lf (.int .i64 p_b), .lf (.int .i64 p_limit)] [.row 3 1 (p_s0.map lfI)] (.tup []) [.row 3 1 (r.map lfI)] :=
 fn_TH BaseK Tryz.func104 (by kernel_rfl) (by kernel_rfl) (by kernel_rfl) (Q38_T R_ p_a p_b p_limit p_s0) (fun r => []) (fun r => [.row 3 1 (r.map lfI)]) (by kernel_rfl) h
def RB20_F : Nat → RB20
 | 0 => { m1 := fun p_a p_b p_limit p_s0 => none, ok1 := fun _ _ _ _ _ h => (by cases h) }
 | n_ + 1 => { m1 := fun p_a p_b p_limit p_s0 => Mo.den (Q38_T (RB20_F n_) p_a p_b p_limit p_s0), ok1 := fun p_a p_b p_limit p_s0 r h => Q38_okT (RB20_F n_) p_a p_b p_limit p_s0 r h }
def Q38 (p_a : Int) (p_b : Int) (p_limit : Int) (p_s0 : List Int) : Option (List Int) := (RB20_F FU).m1 p_a p_b p_limit p_s0
theorem Q38_ok (p_a : Int) (p_b : Int) (p_limit : Int) (p_s0 : List Int) (r : List Int) (h : Q38 p_a p_b p_limit p_s0 = some r) : FnH Tryz.prog GI 104 [.own 0, .lf (.int .i64 p_a), .lf (.int .i64 p_b), .lf (.int .i64 p_limit)] [.row 3 1 (p_s0.map lfI)] (.tup []) [.row 3 1 (r.map lfI)] := (RB20_F FU).ok1 p_a p_b p_limit p_s0 r h
def Q112_T (p_s0 : List Int) : Mo (List Int) :=
 .say [.num p_s0.length] (okc (by simp : p_s0.length = (p_s0.map lfI).length) ok0) <|
 .ask (Q128 (IntKind.wrap .u64 (p_s0.length : Int))) fun r5743 h5744 =>
 .say [.res (.lf (.int .i64 r5743))] (ok1 (Q128_ok _ _ h5744)) <|
 .ask (Q38 0 (p_s0.length : Int) r5743 p_s0) fun r5980 h5981 =>
 .say [.resH [0] (.tup []) [.row 3 1 (r5980.map lfI)]] (ok1 (Q38_ok _ _ _ _ _ h5981)) <|
 .ret ⟨[], [], [], 1⟩ (r5980)
def Q112 (p_s0 : List Int) : Option (List Int) := Mo.den (Q112_T p_s0)
theorem Q112_ok (p_s0 : List Int) (r : List Int) (h : Q112 p_s0 = some r) : FnH Tryz.prog GI 76 [.own 0] [.row 3 1 (p_s0.map lfI)] (.tup []) [.row 3 1 (r.map lfI)] :=
 fn_TH BaseK Tryz.func76 (by kernel_rfl) (by kernel_rfl) (by kernel_rfl) (Q112_T p_s0) (fun r => []) (fun r => [.row 3 1 (r.map lfI)]) (by kernel_rfl) h
def Q16_J0_T (p_m : GMember) (r5697 : Int) : Mo (Bool) :=
 .ite (p_m.fRole != 2) (fun c5707 =>
 .say [.gd 6003 true] (ok1 c5707) <|
 .ret ⟨[], [1, 2, 3, 15], [], 5⟩ (true)) fun c5707 =>
 .say [.gd 6003 false] (ok1 c5707) <|
 .ret ⟨[], [1, 2, 3, 15], [], 5⟩ (r5697 == 0)
def Q16_J0 (p_m : GMember) (r5697 : Int) : Option (Bool) := Mo.den (Q16_J0_T p_m r5697)
def Q16_J0_S (p_m : GMember) (r5697 : Int) (r_ : Bool) : St := ⟨[(1, .ptr 3 0), (2, .ptr 4 0), (3, .lf (.int .i64 r5697)), (15, .lf (.bool r_))], [.row 54 82 (p_m.fLog.map GEntry.lf), .row 3 1 (p_m.fNext.map lfI), .row 3 1 (p_m.fMatch.map lfI), .box 25 (aggS (.agg ((GMember.lf1 p_m).map AV.lf)) [(8, .own 0), (10, .own 1), (11, .own 2)]), .box 25 (Z25)]⟩
theorem Q16_J0_W {p_m : GMember} {r5697 : Int} {r_ : Bool} (h : Q16_J0 p_m r5697 = some r_) : AWoa_ Tryz.f38 3 [1, 1, 0, 0] [0, 1, 2, 3, 4, 5, 6] (Q16_J0_S p_m r5697 r_) ⟨[(1, .ptr 3 0), (2, .ptr 4 0), (3, .lf (.int .i64 r5697))], [.row 54 82 (p_m.fLog.map GEntry.lf), .row 3 1 (p_m.fNext.map lfI), .row 3 1 (p_m.fMatch.map lfI), .box 25 (aggS (.agg ((GMember.lf1 p_m).map AV.lf)) [(8, .own 0), (10, .own 1), (11, .own 2)]), .box 25 (Z25)]⟩ :=
 seg_T BaseK (Q16_J0_T p_m r5697) (Q16_J0_S p_m r5697) (by kernel_rfl) h
def Q16_J5_T (p_m : GMember) (r5697 : Int) (r5709 : Bool) : Mo (Bool) :=
 .ite (r5709) (fun c5711 =>
 .say [.gd 6007 true] (ok1 c5711) <|
 .ret ⟨[], [1, 2, 3, 22], [], 5⟩ (true)) fun c5711 =>
 .say [.gd 6007 false, .num p_m.fMatch.length] (okc c5711 (okc (by simp : p_m.fMatch.length = (p_m.fMatch.map lfI).length) ok0)) <|
 .ret ⟨[], [1, 2, 3, 22], [], 5⟩ (decide (((p_m.fMatch.length : Int) : Int) < r5697))
def Q16_J5 (p_m : GMember) (r5697 : Int) (r5709 : Bool) : Option (Bool) := Mo.den (Q16_J5_T p_m r5697 r5709)
def Q16_J5_S (p_m : GMember) (r5697 : Int) (r_ : Bool) : St := ⟨[(1, .ptr 3 0), (2, .ptr 4 0), (3, .lf (.int .i64 r5697)), (22, .lf (.bool r_))], [.row 54 82 (p_m.fLog.map GEntry.lf), .row 3 1 (p_m.fNext.map lfI), .row 3 1 (p_m.fMatch.map lfI), .box 25 (aggS (.agg ((GMember.lf1 p_m).map AV.lf)) [(8, .own 0), (10, .own 1), (11, .own 2)]), .box 25 (Z25)]⟩
theorem Q16_J5_W {p_m : GMember} {r5697 : Int} {r5709 : Bool} {r_ : Bool} (h : Q16_J5 p_m r5697 r5709 = some r_) : AWoa_ Tryz.f38 3 [1, 1, 0, 0] [7, 8, 9, 10, 11, 12, 13] (Q16_J5_S p_m r5697 r_) ⟨[(1, .ptr 3 0), (2, .ptr 4 0), (3, .lf (.int .i64 r5697)), (15, .lf (.bool r5709))], [.row 54 82 (p_m.fLog.map GEntry.lf), .row 3 1 (p_m.fNext.map lfI), .row 3 1 (p_m.fMatch.map lfI), .box 25 (aggS (.agg ((GMember.lf1 p_m).map AV.lf)) [(8, .own 0), (10, .own 1), (11, .own 2)]), .box 25 (Z25)]⟩ :=
 seg_T BaseK (Q16_J5_T p_m r5697 r5709) (Q16_J5_S p_m r5697) (by kernel_rfl) h
def Q16_J10_T (p_m : GMember) (v6023 : Int) : Mo (Bool) :=
 .say [.order [(true, 0), (true, 1), (true, 2), (true, 3), (true, 4), (true, 5), (true, 6), (true, 7), (true, 8), (true, 9), (true, 10), (true, 11), (true, 12), (true, 13), (true, 14), (true, 15), (true, 16), (true, 17), (true, 18), (true, 19)] none []] ok0 <|
 .ite (decide ((p_m.fCommit : Int) < v6023)) (fun c6024 =>
 .say [.gd 16004 true] (ok1 c6024) <|
 .ite (decide ((0 : Int) < v6023)) (fun c6025 =>
 .say [.gd 16008 true] (ok1 c6025) <|
 .ask (gidx p_m.fLog (IntKind.wrap .i64 (v6023 - 1))) fun x6026 h6027 =>
 .say [.row (GEntry.lf1 x6026)] (okc (gidx_lt GEntry.lf_eq h6027 : (0 : Int) ≤ (IntKind.wrap .i64 (v6023 - 1)) ∧ (IntKind.wrap .i64 (v6023 - 1)).toNat < (p_m.fLog.map GEntry.lf).length) (okc ((gidx_ok GEntry.lf_eq h6027).2 : (p_m.fLog.map GEntry.lf)[(IntKind.wrap .i64 (v6023 - 1)).toNat]? = some (GEntry.lf1 x6026)) ok0)) <|
 .ret ⟨[], [1, 2, 5, 59], [], 6⟩ (x6026.fTerm != p_m.fTerm)) fun c6025 =>
 .say [.gd 16008 false] (ok1 c6025) <|
 .ret ⟨[], [1, 2, 5, 59], [], 6⟩ (false)) fun c6024 =>
 .say [.gd 16004 false] (ok1 c6024) <|
 .ret ⟨[], [1, 2, 5, 59], [], 6⟩ (false)
def Q16_J10 (p_m : GMember) (v6023 : Int) : Option (Bool) := Mo.den (Q16_J10_T p_m v6023)
def Q16_J10_S (p_m : GMember) (v6023 : Int) (r_ : Bool) : St := ⟨[(1, .ptr 3 0), (2, .ptr 4 0), (5, .lf (.int .i64 v6023)), (59, .lf (.bool r_))], [.row 54 82 (p_m.fLog.map GEntry.lf), .row 3 1 (p_m.fNext.map lfI), .dead, .box 25 (aggS (.agg ((GMember.lf1 p_m).map AV.lf)) [(8, .own 0), (10, .own 1)]), .box 25 (Z25), .dead]⟩
theorem Q16_J10_W {p_m : GMember} {v6023 : Int} {r_ : Bool} (h : Q16_J10 p_m v6023 = some r_) : AWa_ Tryz.f38 3 [1, 1, 1, 1, 1, 1, 0, 0, 0, 0, 0] (.normal) (Q16_J10_S p_m v6023 r_) ⟨[(1, .ptr 3 0), (2, .ptr 4 0), (5, .lf (.int .i64 v6023))], [.row 54 82 (p_m.fLog.map GEntry.lf), .row 3 1 (p_m.fNext.map lfI), .dead, .box 25 (aggS (.agg ((GMember.lf1 p_m).map AV.lf)) [(8, .own 0), (10, .own 1)]), .box 25 (Z25), .dead]⟩ :=
 part_T BaseK (Q16_J10_T p_m v6023) (fun _ => .normal) (Q16_J10_S p_m v6023) (by kernel_rfl) h
def Q16_L15_T (p_m : GMember) : (Int) → Mo ((Int) ⊕ (Int)) := fun (v6023) =>
 .ask (Q16_J10 p_m v6023) fun r6029 h6030 =>
 .say [.pt_ 21 [1, 2, 5] 6 (.normal) (Q16_J10_S p_m v6023 r6029)] (ok1 (Q16_J10_W h6030)) <|
 .ite (r6029) (fun c6031 =>
 .say [.br true] (ok1 c6031) <|
 .ret ⟨[], [1, 2, 5], [], 6⟩ (.inl (IntKind.wrap .i64 (v6023 - 1)))) fun c6031 =>
 .say [.br false] (ok1 c6031) <|
 .ret ⟨[], [1, 2, 5], [], 6⟩ (.inr (v6023))
def Q16_L15 (p_m : GMember) (v6023 : Int) : Option (Int) := loopM (fun v_ => (Q16_L15_T p_m v_).den) FU (v6023)
def Q16_L15_H (p_m : GMember) : (Int) → St := fun (v6023) => ⟨[(1, .ptr 3 0), (2, .ptr 4 0), (5, .lf (.int .i64 v6023))], [.row 54 82 (p_m.fLog.map GEntry.lf), .row 3 1 (p_m.fNext.map lfI), .dead, .box 25 (aggS (.agg ((GMember.lf1 p_m).map AV.lf)) [(8, .own 0), (10, .own 1)]), .box 25 (Z25), .dead]⟩
def Q16_L15_S (p_m : GMember) (r_ : Int) : St := ⟨[(1, .ptr 3 0), (2, .ptr 4 0), (5, .lf (.int .i64 r_))], [.row 54 82 (p_m.fLog.map GEntry.lf), .row 3 1 (p_m.fNext.map lfI), .dead, .box 25 (aggS (.agg ((GMember.lf1 p_m).map AV.lf)) [(8, .own 0), (10, .own 1)]), .box 25 (Z25), .dead]⟩
theorem Q16_L15_W {p_m : GMember} {v6023 : Int} {r_ : Int} (h : Q16_L15 p_m v6023 = some r_) : AWa_ Tryz.f38 3 [1, 1, 1, 1, 1, 1, 0, 0] (.exit 0) (Q16_L15_S p_m r_) (Q16_L15_H p_m (v6023)) :=
 loop_T BaseK (body := (Code.sub (bodyC Tryz.f38) [1, 1, 1, 1, 1, 1, 0, 0, 0])) (by kernel_rfl) (Q16_L15_T p_m) (Q16_L15_H p_m) (fun _ => .exit 0) (Q16_L15_S p_m) (fun r_ => rfl) (fun v_ => by kernel_rfl) h
def Q16_T (p_m : GMember) : Mo (GMember) :=
 .ask (Q78 p_m.fSize) fun r5697 h5698 =>
 .say [.res (.lf (.int .i64 r5697))] (ok1 (Q78_ok _ _ h5698)) <|
 .ask (Q16_J0 p_m r5697) fun r5709 h5710 =>
 .say [.sg_ 2 7 [1, 2, 3] 5 (Q16_J0_S p_m r5697 r5709)] (ok1 (Q16_J0_W h5710)) <|
 .ask (Q16_J5 p_m r5697 r5709) fun r5713 h5714 =>
 .say [.sg_ 2 7 [1, 2, 3, 15] 5 (Q16_J5_S p_m r5697 r5713)] (ok1 (Q16_J5_W h5714)) <|
 .ite (r5713) (fun c5716 =>
 .say [.br true] (ok1 c5716) <|
 .ret ⟨[.frz 2, .kill 3, .kill 4, .mvn 0, .mvn 1], [0], [(5, 3), (6, 4)], 5⟩ (p_m)) fun c5716 =>
 .say [.br false, .at_ 10 2, .frz 2] (ok1 c5716) <|
 .ask (Q129 p_m.fMatch) fun r5719 h5720 =>
 .say [.resH [] (.own 0) [.row 3 1 (r5719.map lfI)]] (ok1 (Q129_ok _ _ h5720)) <|
 .ask (Q112 r5719) fun r5984 h5985 =>
 .say [.resH [5] (.tup []) [.row 3 1 (r5984.map lfI)], .order [(true, 0), (true, 1), (true, 2), (true, 3), (true, 4), (true, 5), (true, 6), (true, 7), (true, 8), (true, 9), (true, 10), (true, 11)] none [], .num r5984.length] (okc (Q112_ok _ _ h5985) (okc (by simp : r5984.length = (r5984.map lfI).length) ok0)) <|
 .ask (gidx r5984 (IntKind.wrap .i64 ((r5984.length : Int) - r5697))) fun x5988 h5989 =>
 .say [.row (lfI x5988), .num p_m.fLog.length] (okc (gidx_lt (fun _ => rfl) h5989 : (0 : Int) ≤ (IntKind.wrap .i64 ((r5984.length : Int) - r5697)) ∧ (IntKind.wrap .i64 ((r5984.length : Int) - r5697)).toNat < (r5984.map lfI).length) (okc ((gidx_ok (fun _ => rfl) h5989).2 : (r5984.map lfI)[(IntKind.wrap .i64 ((r5984.length : Int) - r5697)).toNat]? = some (lfI x5988)) (okc (by simp : p_m.fLog.length = (p_m.fLog.map GEntry.lf).length) ok0))) <|
 .ask (Q16_L15 p_m (if (p_m.fLog.length : Int) < x5988 then (p_m.fLog.length : Int) else x5988)) fun r6033 h6034 =>
 .say [.part [.kill 5] 0 [1, 2, 5] 6 (.exit 0) (Q16_L15_S p_m r6033).T (Q16_L15_S p_m r6033).H] (ok1 (Q16_L15_W h6034)) <|
 .ret ⟨[.kill 3, .kill 4, .mvn 0, .mvn 1], [0], [(6, 3), (7, 4)], 5⟩ (GMember.sCommit p_m (if p_m.fCommit > r6033 then p_m.fCommit else r6033))
def Q16 (p_m : GMember) : Option (GMember) := Mo.den (Q16_T p_m)
theorem Q16_ok (p_m : GMember) (r : GMember) (h : Q16 p_m = some r) : FnH Tryz.prog GI 38 [aggS (.agg ((GMember.lf1 p_m).map AV.lf)) [(8, .own 0), (10, .own 1), (11, .own 2)]] [.row 54 82 (p_m.fLog.map GEntry.lf), .row 3 1 (p_m.fNext.map lfI), .row 3 1 (p_m.fMatch.map lfI)] (aggS (.agg ((GMember.lf1 r).map AV.lf)) [(8, .own 3), (10, .own 4)]) [.dead, .dead, .dead, .row 54 82 (r.fLog.map GEntry.lf), .row 3 1 (r.fNext.map lfI)] :=
 fn_TH BaseK Tryz.func38 (by kernel_rfl) (by kernel_rfl) (by kernel_rfl) (Q16_T p_m) (fun r => [aggS (.agg ((GMember.lf1 r).map AV.lf)) [(8, .own 3), (10, .own 4)]]) (fun r => [.dead, .dead, .dead, .row 54 82 (r.fLog.map GEntry.lf), .row 3 1 (r.fNext.map lfI)]) (by kernel_rfl) h
def Q95_T (p_m : GMember) : Mo (GMember) :=
 .ask (Q79 p_m) fun r5686 h5687 =>
 .say [.resH [] (aggS (.agg ((GMember.lf1 r5686).map AV.lf)) [(8, .own 0), (10, .own 1), (11, .own 2)]) [.row 54 82 (r5686.fLog.map GEntry.lf), .row 3 1 (r5686.fNext.map lfI), .row 3 1 (r5686.fMatch.map lfI)]] (ok1 (Q79_ok _ _ h5687)) <|
 .ask (Q16 r5686) fun r6035 h6036 =>
 .say [.resH [2, 3, 4] (aggS (.agg ((GMember.lf1 r6035).map AV.lf)) [(8, .own 3), (10, .own 4)]) [.dead, .dead, .dead, .row 54 82 (r6035.fLog.map GEntry.lf), .row 3 1 (r6035.fNext.map lfI)], .at_ 0 0, .frz 5, .frz 6] (ok1 (Q16_ok _ _ h6036)) <|
 .ret (fitN 1) (r6035)
def Q95 (p_m : GMember) : Option (GMember) := Mo.den (Q95_T p_m)
theorem Q95_ok (p_m : GMember) (r : GMember) (h : Q95 p_m = some r) : Fn Tryz.prog GI 24 [.dat (GMember.lf1 p_m)] (.dat (GMember.lf1 r)) :=
 fn_T BaseK Tryz.func24 (by kernel_rfl) (by kernel_rfl) (by kernel_rfl) (Q95_T p_m) (fun r => [.dat (GMember.lf1 r)]) (by kernel_rfl) h
def Q7_J0_T (p_m : GMember) (v6195 : Int) (v6204 : Int) (v6205 : Int) : Mo (Int) :=
 .ask (gidx p_m.fMatch v6205) fun x6207 h6208 =>
 .say [.row (lfI x6207)] (okc (gidx_ok (fun _ => rfl) h6208 : (0 : Int) ≤ v6205 ∧ (p_m.fMatch.map lfI)[v6205.toNat]? = some (lfI x6207)) ok0) <|
 .ite (decide ((v6195 : Int) ≤ x6207)) (fun c6209 =>
 .say [.br true] (ok1 c6209) <|
 .ret ⟨[], [1, 2, 3, 4, 5], [], 2⟩ (IntKind.wrap .i64 (v6204 + 1))) fun c6209 =>
 .say [.br false] (ok1 c6209) <|
 .ret ⟨[], [1, 2, 3, 4, 5], [], 2⟩ (v6204)
def Q7_J0 (p_m : GMember) (v6195 : Int) (v6204 : Int) (v6205 : Int) : Option (Int) := Mo.den (Q7_J0_T p_m v6195 v6204 v6205)
def Q7_J0_S (p_m : GMember) (v6195 : Int) (v6205 : Int) (r_ : Int) : St := ⟨[(1, .ptr 0 0), (2, .ptr 1 0), (3, .lf (.int .i64 v6195)), (4, .lf (.int .i64 r_)), (5, .lf (.int .i64 v6205))], [.box 25 (.dat (GMember.lf1 p_m)), .box 25 (Z25)]⟩
theorem Q7_J0_W {p_m : GMember} {v6195 : Int} {v6204 : Int} {v6205 : Int} {r_ : Int} (h : Q7_J0 p_m v6195 v6204 v6205 = some r_) : AWa_ Tryz.f25 0 [1, 1, 0, 1, 0, 0, 1, 0, 0, 1, 0, 1, 0, 0, 1, 0] (.normal) (Q7_J0_S p_m v6195 v6205 r_) ⟨[(1, .ptr 0 0), (2, .ptr 1 0), (3, .lf (.int .i64 v6195)), (4, .lf (.int .i64 v6204)), (5, .lf (.int .i64 v6205))], [.box 25 (.dat (GMember.lf1 p_m)), .box 25 (Z25)]⟩ :=
 part_T BaseK (Q7_J0_T p_m v6195 v6204 v6205) (fun _ => .normal) (Q7_J0_S p_m v6195 v6205) (by kernel_rfl) h
def Q7_L5_T (p_m : GMember) (v6195 : Int) : (Int × Int) → Mo ((Int × Int) ⊕ (Int)) := fun (v6204, v6205) =>
 .say [.num p_m.fMatch.length] (okc (by simp : p_m.fMatch.length = (p_m.fMatch.map lfI).length) ok0) <|
 .ite (decide ((v6205 : Int) < (p_m.fMatch.length : Int))) (fun c6206 =>
 .say [.br true] (ok1 c6206) <|
 .ask (Q7_J0 p_m v6195 v6204 v6205) fun r6211 h6212 =>
 .say [.pt_ 12 [1, 2, 3, 4, 5] 2 (.normal) (Q7_J0_S p_m v6195 v6205 r6211)] (ok1 (Q7_J0_W h6212)) <|
 .ret ⟨[], [1, 2, 3, 4, 5], [], 2⟩ (.inl (r6211, IntKind.wrap .i64 (v6205 + 1)))) fun c6206 =>
 .say [.br false] (ok1 c6206) <|
 .ret ⟨[], [1, 2, 3, 4], [], 2⟩ (.inr (v6204))
def Q7_L5 (p_m : GMember) (v6195 : Int) (v6204 : Int) (v6205 : Int) : Option (Int) := loopM (fun v_ => (Q7_L5_T p_m v6195 v_).den) FU (v6204, v6205)
def Q7_L5_H (p_m : GMember) (v6195 : Int) : (Int × Int) → St := fun (v6204, v6205) => ⟨[(1, .ptr 0 0), (2, .ptr 1 0), (3, .lf (.int .i64 v6195)), (4, .lf (.int .i64 v6204)), (5, .lf (.int .i64 v6205))], [.box 25 (.dat (GMember.lf1 p_m)), .box 25 (Z25)]⟩
def Q7_L5_S (p_m : GMember) (v6195 : Int) (r_ : Int) : St := ⟨[(1, .ptr 0 0), (2, .ptr 1 0), (3, .lf (.int .i64 v6195)), (4, .lf (.int .i64 r_))], [.box 25 (.dat (GMember.lf1 p_m)), .box 25 (Z25)]⟩
theorem Q7_L5_W {p_m : GMember} {v6195 : Int} {v6204 : Int} {v6205 : Int} {r_ : Int} (h : Q7_L5 p_m v6195 v6204 v6205 = some r_) : AWa_ Tryz.f25 0 [1, 1, 0, 1, 0, 0, 1, 0, 0, 1, 0, 1, 0] (.exit 2) (Q7_L5_S p_m v6195 r_) (Q7_L5_H p_m v6195 (v6204, v6205)) :=
 loop_T BaseK (body := (Code.sub (bodyC Tryz.f25) [1, 1, 0, 1, 0, 0, 1, 0, 0, 1, 0, 1, 0, 0])) (by kernel_rfl) (Q7_L5_T p_m v6195) (Q7_L5_H p_m v6195) (fun _ => .exit 2) (Q7_L5_S p_m v6195) (fun r_ => rfl) (fun v_ => by kernel_rfl) h
def Q7_J11_T (p_m : GMember) (r6214 : Int) (v6195 : Int) : Mo (Bool) :=
 .ask (Q67 p_m.fSize) fun r6216 h6217 =>
 .say [] (ok1 (Q67_ok _ _ h6217)) <|
 .ite (decide ((r6216 : Int) ≤ r6214)) (fun c6218 =>
 .say [] (ok1 c6218) <|
 .ask (gidx p_m.fLog (IntKind.wrap .i64 (v6195 - 1))) fun x6219 h6220 =>
 .say [.orderT (.q 0 (.q 1 (.q 2 (.l 3 (.q 4 (.q 5 (.q 6 (.q 8 (.q 9 (.q 13 (.alt 7 (.alt 10 (.q 11 (.alt 12 (.l 14 (.q 15 (.q 16 .fin))) (.l 14 (.l 12 (.q 15 (.q 16 .fin)))))) (.l 14 (.l 10 (.q 11 (.l 12 (.q 15 (.q 16 .fin))))))) (.l 14 (.l 7 (.l 10 (.q 11 (.l 12 (.q 15 (.q 16 .fin)))))))))))))))))) none [] [.res (.lf (.int .i64 r6216)), .gd 26005 true, .both [.both [.row (GEntry.lf1 x6219), .both [] []] [.row (GEntry.lf1 x6219)]] [.row (GEntry.lf1 x6219)]] [1, 2, 3, 51] 2 [(1, .ptr 0 0), (2, .ptr 1 0), (3, .lf (.int .i64 v6195)), (51, .lf (.bool (x6219.fTerm == p_m.fTerm)))] [.box 25 (.dat (GMember.lf1 p_m)), .box 25 (Z25)]] (okc (gidx_ok GEntry.lf_eq h6220 : (0 : Int) ≤ (IntKind.wrap .i64 (v6195 - 1)) ∧ (p_m.fLog.map GEntry.lf)[(IntKind.wrap .i64 (v6195 - 1)).toNat]? = some (GEntry.lf1 x6219)) (okc (rfl : (some ⟨[(1, .ptr 0 0), (2, .ptr 1 0), (3, .lf (.int .i64 v6195)), (51, .lf (.bool (x6219.fTerm == p_m.fTerm)))], [.box 25 (.dat (GMember.lf1 p_m)), .box 25 (Z25)]⟩ : Option St) = some ⟨[(1, .ptr 0 0), (2, .ptr 1 0), (3, .lf (.int .i64 v6195)), (51, .lf (.bool (x6219.fTerm == p_m.fTerm)))], [.box 25 (.dat (GMember.lf1 p_m)), .box 25 (Z25)]⟩) (okc (rfl : (some ⟨[(1, .ptr 0 0), (2, .ptr 1 0), (3, .lf (.int .i64 v6195)), (51, .lf (.bool (x6219.fTerm == p_m.fTerm)))], [.box 25 (.dat (GMember.lf1 p_m)), .box 25 (Z25)]⟩ : Option St) = some ⟨[(1, .ptr 0 0), (2, .ptr 1 0), (3, .lf (.int .i64 v6195)), (51, .lf (.bool (x6219.fTerm == p_m.fTerm)))], [.box 25 (.dat (GMember.lf1 p_m)), .box 25 (Z25)]⟩) (okc (gidx_ok GEntry.lf_eq h6220 : (0 : Int) ≤ (IntKind.wrap .i64 (v6195 - 1)) ∧ (p_m.fLog.map GEntry.lf)[(IntKind.wrap .i64 (v6195 - 1)).toNat]? = some (GEntry.lf1 x6219)) (okc (rfl : (some ⟨[(1, .ptr 0 0), (2, .ptr 1 0), (3, .lf (.int .i64 v6195)), (51, .lf (.bool (x6219.fTerm == p_m.fTerm)))], [.box 25 (.dat (GMember.lf1 p_m)), .box 25 (Z25)]⟩ : Option St) = some ⟨[(1, .ptr 0 0), (2, .ptr 1 0), (3, .lf (.int .i64 v6195)), (51, .lf (.bool (x6219.fTerm == p_m.fTerm)))], [.box 25 (.dat (GMember.lf1 p_m)), .box 25 (Z25)]⟩) (okc (gidx_ok GEntry.lf_eq h6220 : (0 : Int) ≤ (IntKind.wrap .i64 (v6195 - 1)) ∧ (p_m.fLog.map GEntry.lf)[(IntKind.wrap .i64 (v6195 - 1)).toNat]? = some (GEntry.lf1 x6219)) (okc (rfl : (some ⟨[(1, .ptr 0 0), (2, .ptr 1 0), (3, .lf (.int .i64 v6195)), (51, .lf (.bool (x6219.fTerm == p_m.fTerm)))], [.box 25 (.dat (GMember.lf1 p_m)), .box 25 (Z25)]⟩ : Option St) = some ⟨[(1, .ptr 0 0), (2, .ptr 1 0), (3, .lf (.int .i64 v6195)), (51, .lf (.bool (x6219.fTerm == p_m.fTerm)))], [.box 25 (.dat (GMember.lf1 p_m)), .box 25 (Z25)]⟩) ok0))))))) <|
 .ret ⟨[], [1, 2, 3, 51], [], 2⟩ (x6219.fTerm == p_m.fTerm)) fun c6218 =>
 .say [.orderT (.q 0 (.q 1 (.q 2 (.l 3 (.q 4 (.q 5 (.q 6 (.q 8 (.q 9 (.q 13 (.alt 7 (.alt 10 (.q 11 (.alt 12 (.l 14 (.q 15 (.q 16 .fin))) (.l 14 (.l 12 (.q 15 (.q 16 .fin)))))) (.l 14 (.l 10 (.q 11 (.l 12 (.q 15 (.q 16 .fin))))))) (.l 14 (.l 7 (.l 10 (.q 11 (.l 12 (.q 15 (.q 16 .fin)))))))))))))))))) none [] [.res (.lf (.int .i64 r6216)), .gd 26005 false, .both [.both [.both [] []] []] []] [1, 2, 3, 51] 2 [(1, .ptr 0 0), (2, .ptr 1 0), (3, .lf (.int .i64 v6195)), (51, .lf (.bool false))] [.box 25 (.dat (GMember.lf1 p_m)), .box 25 (Z25)]] (okc c6218 (okc (rfl : (some ⟨[(1, .ptr 0 0), (2, .ptr 1 0), (3, .lf (.int .i64 v6195)), (51, .lf (.bool false))], [.box 25 (.dat (GMember.lf1 p_m)), .box 25 (Z25)]⟩ : Option St) = some ⟨[(1, .ptr 0 0), (2, .ptr 1 0), (3, .lf (.int .i64 v6195)), (51, .lf (.bool false))], [.box 25 (.dat (GMember.lf1 p_m)), .box 25 (Z25)]⟩) (okc (rfl : (some ⟨[(1, .ptr 0 0), (2, .ptr 1 0), (3, .lf (.int .i64 v6195)), (51, .lf (.bool false))], [.box 25 (.dat (GMember.lf1 p_m)), .box 25 (Z25)]⟩ : Option St) = some ⟨[(1, .ptr 0 0), (2, .ptr 1 0), (3, .lf (.int .i64 v6195)), (51, .lf (.bool false))], [.box 25 (.dat (GMember.lf1 p_m)), .box 25 (Z25)]⟩) (okc (rfl : (some ⟨[(1, .ptr 0 0), (2, .ptr 1 0), (3, .lf (.int .i64 v6195)), (51, .lf (.bool false))], [.box 25 (.dat (GMember.lf1 p_m)), .box 25 (Z25)]⟩ : Option St) = some ⟨[(1, .ptr 0 0), (2, .ptr 1 0), (3, .lf (.int .i64 v6195)), (51, .lf (.bool false))], [.box 25 (.dat (GMember.lf1 p_m)), .box 25 (Z25)]⟩) (okc (rfl : (some ⟨[(1, .ptr 0 0), (2, .ptr 1 0), (3, .lf (.int .i64 v6195)), (51, .lf (.bool false))], [.box 25 (.dat (GMember.lf1 p_m)), .box 25 (Z25)]⟩ : Option St) = some ⟨[(1, .ptr 0 0), (2, .ptr 1 0), (3, .lf (.int .i64 v6195)), (51, .lf (.bool false))], [.box 25 (.dat (GMember.lf1 p_m)), .box 25 (Z25)]⟩) ok0))))) <|
 .ret ⟨[], [1, 2, 3, 51], [], 2⟩ (false)
def Q7_J11 (p_m : GMember) (r6214 : Int) (v6195 : Int) : Option (Bool) := Mo.den (Q7_J11_T p_m r6214 v6195)
def Q7_J11_S (p_m : GMember) (v6195 : Int) (r_ : Bool) : St := ⟨[(1, .ptr 0 0), (2, .ptr 1 0), (3, .lf (.int .i64 v6195)), (51, .lf (.bool r_))], [.box 25 (.dat (GMember.lf1 p_m)), .box 25 (Z25)]⟩
theorem Q7_J11_W {p_m : GMember} {r6214 : Int} {v6195 : Int} {r_ : Bool} (h : Q7_J11 p_m r6214 v6195 = some r_) : AWa_ Tryz.f25 0 [1, 1, 0, 1, 0, 0, 1, 0, 0, 1, 1, 0] (.normal) (Q7_J11_S p_m v6195 r_) ⟨[(1, .ptr 0 0), (2, .ptr 1 0), (3, .lf (.int .i64 v6195)), (4, .lf (.int .i64 r6214))], [.box 25 (.dat (GMember.lf1 p_m)), .box 25 (Z25)]⟩ :=
 part_T BaseK (Q7_J11_T p_m r6214 v6195) (fun _ => .normal) (Q7_J11_S p_m v6195) (by kernel_rfl) h
def Q7_L16_T (p_m : GMember) : (Int) → Mo ((Int) ⊕ (Int) ⊕ Unit) := fun (v6195) =>
 .ite (decide ((p_m.fCommit : Int) < v6195)) (fun c6196 =>
 .say [.br true] (ok1 c6196) <|
 .ask (Q7_L5 p_m v6195 0 0) fun r6214 h6215 =>
 .say [.pt_ 0 [1, 2, 3, 4, 5] 2 (.exit 2) (Q7_L5_S p_m v6195 r6214)] (ok1 (Q7_L5_W h6215)) <|
 .ask (Q7_J11 p_m r6214 v6195) fun r6222 h6223 =>
 .say [.pt_ 31 [1, 2, 3, 4] 2 (.normal) (Q7_J11_S p_m v6195 r6222)] (ok1 (Q7_J11_W h6223)) <|
 .ite (r6222) (fun c6224 =>
 .say [.br true] (ok1 c6224) <|
 .ret ⟨[.kill 0], [2], [], 2⟩ (.inr (.inl (v6195)))) fun c6224 =>
 .say [.br false] (ok1 c6224) <|
 .ret ⟨[], [1, 2, 3], [], 2⟩ (.inl (IntKind.wrap .i64 (v6195 - 1)))) fun c6196 =>
 .say [.br false] (ok1 c6196) <|
 .ret ⟨[], [1, 2], [], 2⟩ (.inr (.inr (())))
def Q7_L16 (p_m : GMember) (v6195 : Int) : Option ((Int) ⊕ Unit) := loopM (fun v_ => (Q7_L16_T p_m v_).den) FU (v6195)
def Q7_L16_H (p_m : GMember) : (Int) → St := fun (v6195) => ⟨[(1, .ptr 0 0), (2, .ptr 1 0), (3, .lf (.int .i64 v6195))], [.box 25 (.dat (GMember.lf1 p_m)), .box 25 (Z25)]⟩
def Q7_L16_X (r_ : (Int) ⊕ Unit) : Exit := match r_ with
 | .inl o_ => .ret
 | .inr (o_) => .exit 0
def Q7_L16_S (p_m : GMember) (r_ : (Int) ⊕ Unit) : St := match r_ with
 | .inl o_ => ⟨[(2, .ptr 1 0)], [.dead, .box 25 (aggS (.agg ((GMember.lf1 p_m).map AV.lf)) [(9, .lf (.int .i64 o_))])]⟩
 | .inr (o_) => ⟨[(1, .ptr 0 0), (2, .ptr 1 0)], [.box 25 (.dat (GMember.lf1 p_m)), .box 25 (Z25)]⟩
theorem Q7_L16_W {p_m : GMember} {v6195 : Int} {r_ : (Int) ⊕ Unit} (h : Q7_L16 p_m v6195 = some r_) : AWa_ Tryz.f25 0 [1, 1, 0, 1, 0] (Q7_L16_X r_) (Q7_L16_S p_m r_) (Q7_L16_H p_m (v6195)) :=
 loop_T BaseK (body := (Code.sub (bodyC Tryz.f25) [1, 1, 0, 1, 0, 0])) (by kernel_rfl) (Q7_L16_T p_m) (Q7_L16_H p_m) Q7_L16_X (Q7_L16_S p_m) (fun r_ => by rcases r_ with _ | _ <;> rfl) (fun v_ => by kernel_rfl) h
def Q7_T (p_m : GMember) : Mo (GMember) :=
 .ite (p_m.fRole != 2) (fun c6040 =>
 .say [.br true] (ok1 c6040) <|
 .ret (fitN 1) (p_m)) fun c6040 =>
 .say [.br false, .num p_m.fLog.length] (okc c6040 (okc (by simp : p_m.fLog.length = (p_m.fLog.map GEntry.lf).length) ok0)) <|
 .ask2 (Q7_L16 p_m (p_m.fLog.length : Int)) (fun o6229 h6228 =>
 .say [.pt_ 0 [1, 2, 3] 2 (Q7_L16_X (.inl o6229)) (Q7_L16_S p_m (.inl o6229))] (ok1 (Q7_L16_W h6228)) <|
 .ret (fitN 1) (GMember.sCommit p_m o6229)) fun o6230 h6228 =>
 .say [.pt_ 0 [1, 2, 3] 2 (Q7_L16_X (.inr (o6230))) (Q7_L16_S p_m (.inr (o6230)))] (ok1 (Q7_L16_W h6228)) <|
 .ret (fitN 1) (p_m)
def Q7 (p_m : GMember) : Option (GMember) := Mo.den (Q7_T p_m)
theorem Q7_ok (p_m : GMember) (r : GMember) (h : Q7 p_m = some r) : Fn Tryz.prog GI 25 [.dat (GMember.lf1 p_m)] (.dat (GMember.lf1 r)) :=
 fn_T BaseK Tryz.func25 (by kernel_rfl) (by kernel_rfl) (by kernel_rfl) (Q7_T p_m) (fun r => [.dat (GMember.lf1 r)]) (by kernel_rfl) h
def Q25_L0_T (p_a : List Int) (p_b : List Int) : (Int) → Mo ((Int) ⊕ (Unit ⊕ Unit)) := fun (v6302) =>
 .say [.num p_a.length] (okc (by simp : p_a.length = (p_a.map lfI).length) ok0) <|
 .ite (decide ((v6302 : Int) < (p_a.length : Int))) (fun c6303 =>
 .say [.br true, .order [(true, 0), (true, 1), (true, 2), (true, 3), (true, 4), (true, 5), (true, 6), (true, 7), (true, 8)] none []] (ok1 c6303) <|
 .ask (gidx p_a v6302) fun x6304 h6305 =>
 .say [.row (lfI x6304)] (okc (gidx_ok (fun _ => rfl) h6305 : (0 : Int) ≤ v6302 ∧ (p_a.map lfI)[v6302.toNat]? = some (lfI x6304)) ok0) <|
 .ask (gidx p_b v6302) fun x6306 h6307 =>
 .say [.row (lfI x6306)] (okc (gidx_ok (fun _ => rfl) h6307 : (0 : Int) ≤ v6302 ∧ (p_b.map lfI)[v6302.toNat]? = some (lfI x6306)) ok0) <|
 .ite (x6304 != x6306) (fun c6308 =>
 .say [.br true] (ok1 c6308) <|
 .ret ⟨[], [4], [], 0⟩ (.inr (.inl ()))) fun c6308 =>
 .say [.br false] (ok1 c6308) <|
 .ret ⟨[], [0, 1, 5], [], 0⟩ (.inl (IntKind.wrap .i64 (v6302 + 1)))) fun c6303 =>
 .say [.br false] (ok1 c6303) <|
 .ret ⟨[], [], [], 0⟩ (.inr (.inr (())))
def Q25_L0 (p_a : List Int) (p_b : List Int) (v6302 : Int) : Option (Unit ⊕ Unit) := loopM (fun v_ => (Q25_L0_T p_a p_b v_).den) FU (v6302)
def Q25_L0_H (p_a : List Int) (p_b : List Int) : (Int) → St := fun (v6302) => ⟨[(0, .lf (.rows 1 (p_a.map lfI))), (1, .lf (.rows 1 (p_b.map lfI))), (5, .lf (.int .i64 v6302))], []⟩
def Q25_L0_X (r_ : Unit ⊕ Unit) : Exit := match r_ with
 | .inl o_ => .ret
 | .inr (o_) => .exit 0
def Q25_L0_S  (r_ : Unit ⊕ Unit) : St := match r_ with
 | .inl o_ => ⟨[(4, .lf (.bool false))], []⟩
 | .inr (o_) => ⟨[], []⟩
theorem Q25_L0_W {p_a : List Int} {p_b : List Int} {v6302 : Int} {r_ : Unit ⊕ Unit} (h : Q25_L0 p_a p_b v6302 = some r_) : AWa_ Tryz.f41 0 [1, 1, 0, 1, 0] (Q25_L0_X r_) (Q25_L0_S r_) (Q25_L0_H p_a p_b (v6302)) :=
 loop_T BaseK (body := (Code.sub (bodyC Tryz.f41) [1, 1, 0, 1, 0, 0])) (by kernel_rfl) (Q25_L0_T p_a p_b) (Q25_L0_H p_a p_b) Q25_L0_X Q25_L0_S (fun r_ => by rcases r_ with _ | _ <;> rfl) (fun v_ => by kernel_rfl) h
def Q25_T (p_a : List Int) (p_b : List Int) : Mo (Bool) :=
 .say [.num p_a.length, .num p_b.length] (okc (by simp : p_a.length = (p_a.map lfI).length) (okc (by simp : p_b.length = (p_b.map lfI).length) ok0)) <|
 .ite ((p_a.length : Int) != (p_b.length : Int)) (fun c6267 =>
 .say [.br true] (ok1 c6267) <|
 .ret (fitN 1) (false)) fun c6267 =>
 .say [.br false] (ok1 c6267) <|
 .ask2 (Q25_L0 p_a p_b 0) (fun o6311 h6310 =>
 .say [.pt_ 0 [0, 1, 5] 0 (Q25_L0_X (.inl o6311)) (Q25_L0_S (.inl o6311))] (ok1 (Q25_L0_W h6310)) <|
 .ret (fitN 1) (false)) fun o6312 h6310 =>
 .say [.pt_ 0 [0, 1, 5] 0 (Q25_L0_X (.inr (o6312))) (Q25_L0_S (.inr (o6312)))] (ok1 (Q25_L0_W h6310)) <|
 .ret (fitN 1) (true)
def Q25 (p_a : List Int) (p_b : List Int) : Option (Bool) := Mo.den (Q25_T p_a p_b)
theorem Q25_ok (p_a : List Int) (p_b : List Int) (r : Bool) (h : Q25 p_a p_b = some r) : Fn Tryz.prog GI 41 [.lf (.rows 1 (p_a.map lfI)), .lf (.rows 1 (p_b.map lfI))] (.lf (.bool r)) :=
 fn_T BaseK Tryz.func41 (by kernel_rfl) (by kernel_rfl) (by kernel_rfl) (Q25_T p_a p_b) (fun r => [.lf (.bool r)]) (by kernel_rfl) h
def Q1_J0_T (p_a : GMember) (p_b : GMember) : Mo (Bool) :=
 .ite (p_a.fID == p_b.fID) (fun c6233 =>
 .say [.gd 4005 true] (ok1 c6233) <|
 .ret ⟨[], [2, 3, 4, 16], [], 2⟩ (p_a.fSize == p_b.fSize)) fun c6233 =>
 .say [.gd 4005 false] (ok1 c6233) <|
 .ret ⟨[], [2, 3, 4, 16], [], 2⟩ (false)
def Q1_J0 (p_a : GMember) (p_b : GMember) : Option (Bool) := Mo.den (Q1_J0_T p_a p_b)
def Q1_J0_S (p_a : GMember) (p_b : GMember) (r_ : Bool) : St := ⟨[(2, .ptr 0 0), (3, .ptr 1 0), (4, .lf (.bool false)), (16, .lf (.bool r_))], [.box 25 (.dat (GMember.lf1 p_a)), .box 25 (.dat (GMember.lf1 p_b))]⟩
theorem Q1_J0_W {p_a : GMember} {p_b : GMember} {r_ : Bool} (h : Q1_J0 p_a p_b = some r_) : AWoa_ Tryz.f14 0 [1, 0] [0, 1, 2, 3, 4, 5, 6, 7, 8, 9, 10, 11] (Q1_J0_S p_a p_b r_) ⟨[(2, .ptr 0 0), (3, .ptr 1 0), (4, .lf (.bool false))], [.box 25 (.dat (GMember.lf1 p_a)), .box 25 (.dat (GMember.lf1 p_b))]⟩ :=
 seg_T BaseK (Q1_J0_T p_a p_b) (Q1_J0_S p_a p_b) (by kernel_rfl) h
def Q1_J5_T (p_a : GMember) (p_b : GMember) (r6235 : Bool) : Mo (Bool) :=
 .ite (r6235) (fun c6237 =>
 .say [.gd 4012 true] (ok1 c6237) <|
 .ret ⟨[], [2, 3, 4, 23], [], 2⟩ (p_a.fTerm == p_b.fTerm)) fun c6237 =>
 .say [.gd 4012 false] (ok1 c6237) <|
 .ret ⟨[], [2, 3, 4, 23], [], 2⟩ (false)
def Q1_J5 (p_a : GMember) (p_b : GMember) (r6235 : Bool) : Option (Bool) := Mo.den (Q1_J5_T p_a p_b r6235)
def Q1_J5_S (p_a : GMember) (p_b : GMember) (r_ : Bool) : St := ⟨[(2, .ptr 0 0), (3, .ptr 1 0), (4, .lf (.bool false)), (23, .lf (.bool r_))], [.box 25 (.dat (GMember.lf1 p_a)), .box 25 (.dat (GMember.lf1 p_b))]⟩
theorem Q1_J5_W {p_a : GMember} {p_b : GMember} {r6235 : Bool} {r_ : Bool} (h : Q1_J5 p_a p_b r6235 = some r_) : AWoa_ Tryz.f14 0 [1, 0] [12, 13, 14, 15, 16, 17, 18] (Q1_J5_S p_a p_b r_) ⟨[(2, .ptr 0 0), (3, .ptr 1 0), (4, .lf (.bool false)), (16, .lf (.bool r6235))], [.box 25 (.dat (GMember.lf1 p_a)), .box 25 (.dat (GMember.lf1 p_b))]⟩ :=
 seg_T BaseK (Q1_J5_T p_a p_b r6235) (Q1_J5_S p_a p_b) (by kernel_rfl) h
def Q1_J10_T (p_a : GMember) (p_b : GMember) (r6239 : Bool) : Mo (Bool) :=
 .ite (r6239) (fun c6241 =>
 .say [.gd 4019 true] (ok1 c6241) <|
 .ret ⟨[], [2, 3, 4, 30], [], 2⟩ (p_a.fVote == p_b.fVote)) fun c6241 =>
 .say [.gd 4019 false] (ok1 c6241) <|
 .ret ⟨[], [2, 3, 4, 30], [], 2⟩ (false)
def Q1_J10 (p_a : GMember) (p_b : GMember) (r6239 : Bool) : Option (Bool) := Mo.den (Q1_J10_T p_a p_b r6239)
def Q1_J10_S (p_a : GMember) (p_b : GMember) (r_ : Bool) : St := ⟨[(2, .ptr 0 0), (3, .ptr 1 0), (4, .lf (.bool false)), (30, .lf (.bool r_))], [.box 25 (.dat (GMember.lf1 p_a)), .box 25 (.dat (GMember.lf1 p_b))]⟩
theorem Q1_J10_W {p_a : GMember} {p_b : GMember} {r6239 : Bool} {r_ : Bool} (h : Q1_J10 p_a p_b r6239 = some r_) : AWoa_ Tryz.f14 0 [1, 0] [19, 20, 21, 22, 23, 24, 25] (Q1_J10_S p_a p_b r_) ⟨[(2, .ptr 0 0), (3, .ptr 1 0), (4, .lf (.bool false)), (23, .lf (.bool r6239))], [.box 25 (.dat (GMember.lf1 p_a)), .box 25 (.dat (GMember.lf1 p_b))]⟩ :=
 seg_T BaseK (Q1_J10_T p_a p_b r6239) (Q1_J10_S p_a p_b) (by kernel_rfl) h
def Q1_J15_T (p_a : GMember) (p_b : GMember) (r6243 : Bool) : Mo (Bool) :=
 .ite (r6243) (fun c6245 =>
 .say [.gd 4026 true] (ok1 c6245) <|
 .ret ⟨[], [2, 3, 4, 37], [], 2⟩ (p_a.fRole == p_b.fRole)) fun c6245 =>
 .say [.gd 4026 false] (ok1 c6245) <|
 .ret ⟨[], [2, 3, 4, 37], [], 2⟩ (false)
def Q1_J15 (p_a : GMember) (p_b : GMember) (r6243 : Bool) : Option (Bool) := Mo.den (Q1_J15_T p_a p_b r6243)
def Q1_J15_S (p_a : GMember) (p_b : GMember) (r_ : Bool) : St := ⟨[(2, .ptr 0 0), (3, .ptr 1 0), (4, .lf (.bool false)), (37, .lf (.bool r_))], [.box 25 (.dat (GMember.lf1 p_a)), .box 25 (.dat (GMember.lf1 p_b))]⟩
theorem Q1_J15_W {p_a : GMember} {p_b : GMember} {r6243 : Bool} {r_ : Bool} (h : Q1_J15 p_a p_b r6243 = some r_) : AWoa_ Tryz.f14 0 [1, 0] [26, 27, 28, 29, 30, 31, 32] (Q1_J15_S p_a p_b r_) ⟨[(2, .ptr 0 0), (3, .ptr 1 0), (4, .lf (.bool false)), (30, .lf (.bool r6243))], [.box 25 (.dat (GMember.lf1 p_a)), .box 25 (.dat (GMember.lf1 p_b))]⟩ :=
 seg_T BaseK (Q1_J15_T p_a p_b r6243) (Q1_J15_S p_a p_b) (by kernel_rfl) h
def Q1_J20_T (p_a : GMember) (p_b : GMember) (r6247 : Bool) : Mo (Bool) :=
 .ite (r6247) (fun c6249 =>
 .say [.gd 4033 true] (ok1 c6249) <|
 .ret ⟨[], [2, 3, 4, 44], [], 2⟩ (p_a.fLeader == p_b.fLeader)) fun c6249 =>
 .say [.gd 4033 false] (ok1 c6249) <|
 .ret ⟨[], [2, 3, 4, 44], [], 2⟩ (false)
def Q1_J20 (p_a : GMember) (p_b : GMember) (r6247 : Bool) : Option (Bool) := Mo.den (Q1_J20_T p_a p_b r6247)
def Q1_J20_S (p_a : GMember) (p_b : GMember) (r_ : Bool) : St := ⟨[(2, .ptr 0 0), (3, .ptr 1 0), (4, .lf (.bool false)), (44, .lf (.bool r_))], [.box 25 (.dat (GMember.lf1 p_a)), .box 25 (.dat (GMember.lf1 p_b))]⟩
theorem Q1_J20_W {p_a : GMember} {p_b : GMember} {r6247 : Bool} {r_ : Bool} (h : Q1_J20 p_a p_b r6247 = some r_) : AWoa_ Tryz.f14 0 [1, 0] [33, 34, 35, 36, 37, 38, 39] (Q1_J20_S p_a p_b r_) ⟨[(2, .ptr 0 0), (3, .ptr 1 0), (4, .lf (.bool false)), (37, .lf (.bool r6247))], [.box 25 (.dat (GMember.lf1 p_a)), .box 25 (.dat (GMember.lf1 p_b))]⟩ :=
 seg_T BaseK (Q1_J20_T p_a p_b r6247) (Q1_J20_S p_a p_b) (by kernel_rfl) h
def Q1_J25_T (p_a : GMember) (p_b : GMember) (r6251 : Bool) : Mo (Bool) :=
 .ite (r6251) (fun c6253 =>
 .say [.gd 4040 true] (ok1 c6253) <|
 .ret ⟨[], [2, 3, 4, 51], [], 2⟩ (p_a.fTimer == p_b.fTimer)) fun c6253 =>
 .say [.gd 4040 false] (ok1 c6253) <|
 .ret ⟨[], [2, 3, 4, 51], [], 2⟩ (false)
def Q1_J25 (p_a : GMember) (p_b : GMember) (r6251 : Bool) : Option (Bool) := Mo.den (Q1_J25_T p_a p_b r6251)
def Q1_J25_S (p_a : GMember) (p_b : GMember) (r_ : Bool) : St := ⟨[(2, .ptr 0 0), (3, .ptr 1 0), (4, .lf (.bool false)), (51, .lf (.bool r_))], [.box 25 (.dat (GMember.lf1 p_a)), .box 25 (.dat (GMember.lf1 p_b))]⟩
theorem Q1_J25_W {p_a : GMember} {p_b : GMember} {r6251 : Bool} {r_ : Bool} (h : Q1_J25 p_a p_b r6251 = some r_) : AWoa_ Tryz.f14 0 [1, 0] [40, 41, 42, 43, 44, 45, 46] (Q1_J25_S p_a p_b r_) ⟨[(2, .ptr 0 0), (3, .ptr 1 0), (4, .lf (.bool false)), (44, .lf (.bool r6251))], [.box 25 (.dat (GMember.lf1 p_a)), .box 25 (.dat (GMember.lf1 p_b))]⟩ :=
 seg_T BaseK (Q1_J25_T p_a p_b r6251) (Q1_J25_S p_a p_b) (by kernel_rfl) h
def Q1_J30_T (p_a : GMember) (p_b : GMember) (r6255 : Bool) : Mo (Bool) :=
 .ite (r6255) (fun c6257 =>
 .say [.gd 4047 true] (ok1 c6257) <|
 .ret ⟨[], [2, 3, 4, 58], [], 2⟩ (p_a.fVotes == p_b.fVotes)) fun c6257 =>
 .say [.gd 4047 false] (ok1 c6257) <|
 .ret ⟨[], [2, 3, 4, 58], [], 2⟩ (false)
def Q1_J30 (p_a : GMember) (p_b : GMember) (r6255 : Bool) : Option (Bool) := Mo.den (Q1_J30_T p_a p_b r6255)
def Q1_J30_S (p_a : GMember) (p_b : GMember) (r_ : Bool) : St := ⟨[(2, .ptr 0 0), (3, .ptr 1 0), (4, .lf (.bool false)), (58, .lf (.bool r_))], [.box 25 (.dat (GMember.lf1 p_a)), .box 25 (.dat (GMember.lf1 p_b))]⟩
theorem Q1_J30_W {p_a : GMember} {p_b : GMember} {r6255 : Bool} {r_ : Bool} (h : Q1_J30 p_a p_b r6255 = some r_) : AWoa_ Tryz.f14 0 [1, 0] [47, 48, 49, 50, 51, 52, 53] (Q1_J30_S p_a p_b r_) ⟨[(2, .ptr 0 0), (3, .ptr 1 0), (4, .lf (.bool false)), (51, .lf (.bool r6255))], [.box 25 (.dat (GMember.lf1 p_a)), .box 25 (.dat (GMember.lf1 p_b))]⟩ :=
 seg_T BaseK (Q1_J30_T p_a p_b r6255) (Q1_J30_S p_a p_b) (by kernel_rfl) h
def Q1_J35_T (p_a : GMember) (p_b : GMember) (r6259 : Bool) : Mo (Bool) :=
 .ite (r6259) (fun c6261 =>
 .say [.gd 4054 true] (ok1 c6261) <|
 .ret ⟨[], [2, 3, 4, 65], [], 2⟩ (p_a.fCommit == p_b.fCommit)) fun c6261 =>
 .say [.gd 4054 false] (ok1 c6261) <|
 .ret ⟨[], [2, 3, 4, 65], [], 2⟩ (false)
def Q1_J35 (p_a : GMember) (p_b : GMember) (r6259 : Bool) : Option (Bool) := Mo.den (Q1_J35_T p_a p_b r6259)
def Q1_J35_S (p_a : GMember) (p_b : GMember) (r_ : Bool) : St := ⟨[(2, .ptr 0 0), (3, .ptr 1 0), (4, .lf (.bool false)), (65, .lf (.bool r_))], [.box 25 (.dat (GMember.lf1 p_a)), .box 25 (.dat (GMember.lf1 p_b))]⟩
theorem Q1_J35_W {p_a : GMember} {p_b : GMember} {r6259 : Bool} {r_ : Bool} (h : Q1_J35 p_a p_b r6259 = some r_) : AWoa_ Tryz.f14 0 [1, 0] [54, 55, 56, 57, 58, 59, 60] (Q1_J35_S p_a p_b r_) ⟨[(2, .ptr 0 0), (3, .ptr 1 0), (4, .lf (.bool false)), (58, .lf (.bool r6259))], [.box 25 (.dat (GMember.lf1 p_a)), .box 25 (.dat (GMember.lf1 p_b))]⟩ :=
 seg_T BaseK (Q1_J35_T p_a p_b r6259) (Q1_J35_S p_a p_b) (by kernel_rfl) h
def Q1_J40_T (p_a : GMember) (p_b : GMember) (r6263 : Bool) : Mo (Bool) :=
 .ite (r6263) (fun c6265 =>
 .say [.gd 4061 true] (ok1 c6265) <|
 .ask (Q25 p_a.fNext p_b.fNext) fun r6313 h6314 =>
 .say [.res (.lf (.bool r6313))] (ok1 (Q25_ok _ _ _ h6314)) <|
 .ret ⟨[], [2, 3, 4, 72], [], 2⟩ (r6313)) fun c6265 =>
 .say [.gd 4061 false] (ok1 c6265) <|
 .ret ⟨[], [2, 3, 4, 72], [], 2⟩ (false)
def Q1_J40 (p_a : GMember) (p_b : GMember) (r6263 : Bool) : Option (Bool) := Mo.den (Q1_J40_T p_a p_b r6263)
def Q1_J40_S (p_a : GMember) (p_b : GMember) (r_ : Bool) : St := ⟨[(2, .ptr 0 0), (3, .ptr 1 0), (4, .lf (.bool false)), (72, .lf (.bool r_))], [.box 25 (.dat (GMember.lf1 p_a)), .box 25 (.dat (GMember.lf1 p_b))]⟩
theorem Q1_J40_W {p_a : GMember} {p_b : GMember} {r6263 : Bool} {r_ : Bool} (h : Q1_J40 p_a p_b r6263 = some r_) : AWoa_ Tryz.f14 0 [1, 0] [61, 62, 63, 64, 65, 66, 67] (Q1_J40_S p_a p_b r_) ⟨[(2, .ptr 0 0), (3, .ptr 1 0), (4, .lf (.bool false)), (65, .lf (.bool r6263))], [.box 25 (.dat (GMember.lf1 p_a)), .box 25 (.dat (GMember.lf1 p_b))]⟩ :=
 seg_T BaseK (Q1_J40_T p_a p_b r6263) (Q1_J40_S p_a p_b) (by kernel_rfl) h
def Q1_J45_T (p_a : GMember) (p_b : GMember) (r6316 : Bool) : Mo (Bool) :=
 .ite (r6316) (fun c6318 =>
 .say [.gd 4068 true] (ok1 c6318) <|
 .ask (Q25 p_a.fMatch p_b.fMatch) fun r6319 h6320 =>
 .say [.res (.lf (.bool r6319))] (ok1 (Q25_ok _ _ _ h6320)) <|
 .ret ⟨[], [2, 3, 4, 79], [], 2⟩ (r6319)) fun c6318 =>
 .say [.gd 4068 false] (ok1 c6318) <|
 .ret ⟨[], [2, 3, 4, 79], [], 2⟩ (false)
def Q1_J45 (p_a : GMember) (p_b : GMember) (r6316 : Bool) : Option (Bool) := Mo.den (Q1_J45_T p_a p_b r6316)
def Q1_J45_S (p_a : GMember) (p_b : GMember) (r_ : Bool) : St := ⟨[(2, .ptr 0 0), (3, .ptr 1 0), (4, .lf (.bool false)), (79, .lf (.bool r_))], [.box 25 (.dat (GMember.lf1 p_a)), .box 25 (.dat (GMember.lf1 p_b))]⟩
theorem Q1_J45_W {p_a : GMember} {p_b : GMember} {r6316 : Bool} {r_ : Bool} (h : Q1_J45 p_a p_b r6316 = some r_) : AWoa_ Tryz.f14 0 [1, 0] [68, 69, 70, 71, 72, 73, 74] (Q1_J45_S p_a p_b r_) ⟨[(2, .ptr 0 0), (3, .ptr 1 0), (4, .lf (.bool false)), (72, .lf (.bool r6316))], [.box 25 (.dat (GMember.lf1 p_a)), .box 25 (.dat (GMember.lf1 p_b))]⟩ :=
 seg_T BaseK (Q1_J45_T p_a p_b r6316) (Q1_J45_S p_a p_b) (by kernel_rfl) h
def Q1_J50_T (p_a : GMember) (p_b : GMember) (r6322 : Bool) : Mo (Bool) :=
 .ite (r6322) (fun c6324 =>
 .say [.gd 4075 true] (ok1 c6324) <|
 .ask (Q24 p_a.fLog p_b.fLog) fun r6325 h6326 =>
 .say [.res (.lf (.bool r6325))] (ok1 (Q24_ok _ _ _ h6326)) <|
 .ret ⟨[.kill 0, .kill 1], [4, 86], [], 2⟩ (r6325)) fun c6324 =>
 .say [.gd 4075 false] (ok1 c6324) <|
 .ret ⟨[.kill 0, .kill 1], [4, 86], [], 2⟩ (false)
def Q1_J50 (p_a : GMember) (p_b : GMember) (r6322 : Bool) : Option (Bool) := Mo.den (Q1_J50_T p_a p_b r6322)
def Q1_J50_S  (r_ : Bool) : St := ⟨[(4, .lf (.bool false)), (86, .lf (.bool r_))], [.dead, .dead]⟩
theorem Q1_J50_W {p_a : GMember} {p_b : GMember} {r6322 : Bool} {r_ : Bool} (h : Q1_J50 p_a p_b r6322 = some r_) : AWoa_ Tryz.f14 0 [1, 0] [75, 76, 77, 78, 79, 80, 81] (Q1_J50_S r_) ⟨[(2, .ptr 0 0), (3, .ptr 1 0), (4, .lf (.bool false)), (79, .lf (.bool r6322))], [.box 25 (.dat (GMember.lf1 p_a)), .box 25 (.dat (GMember.lf1 p_b))]⟩ :=
 seg_T BaseK (Q1_J50_T p_a p_b r6322) Q1_J50_S (by kernel_rfl) h
def Q1_J55_T (r6332 : Bool) : Mo (Unit) :=
 .ret ⟨[], [4], [], 2⟩ ()
def Q1_J55 (r6332 : Bool) : Option (Unit) := Mo.den (Q1_J55_T r6332)
def Q1_J55_S (r6332 : Bool) (r_ : Unit) : St := ⟨[(4, .lf (.bool r6332))], [.dead, .dead]⟩
theorem Q1_J55_W {r6332 : Bool} {r_ : Unit} (h : Q1_J55 r6332 = some r_) : AWoa_ Tryz.f14 0 [1, 0] [82] (Q1_J55_S r6332 r_) ⟨[(4, .lf (.bool false)), (86, .lf (.bool r6332))], [.dead, .dead]⟩ :=
 seg_T BaseK (Q1_J55_T r6332) (Q1_J55_S r6332) (by kernel_rfl) h
def Q1_T (p_a : GMember) (p_b : GMember) : Mo (Bool) :=
 .ask (Q1_J0 p_a p_b) fun r6235 h6236 =>
 .say [.sg_ 1 12 [2, 3, 4] 2 (Q1_J0_S p_a p_b r6235)] (ok1 (Q1_J0_W h6236)) <|
 .ask (Q1_J5 p_a p_b r6235) fun r6239 h6240 =>
 .say [.sg_ 1 7 [2, 3, 4, 16] 2 (Q1_J5_S p_a p_b r6239)] (ok1 (Q1_J5_W h6240)) <|
 .ask (Q1_J10 p_a p_b r6239) fun r6243 h6244 =>
 .say [.sg_ 1 7 [2, 3, 4, 23] 2 (Q1_J10_S p_a p_b r6243)] (ok1 (Q1_J10_W h6244)) <|
 .ask (Q1_J15 p_a p_b r6243) fun r6247 h6248 =>
 .say [.sg_ 1 7 [2, 3, 4, 30] 2 (Q1_J15_S p_a p_b r6247)] (ok1 (Q1_J15_W h6248)) <|
 .ask (Q1_J20 p_a p_b r6247) fun r6251 h6252 =>
 .say [.sg_ 1 7 [2, 3, 4, 37] 2 (Q1_J20_S p_a p_b r6251)] (ok1 (Q1_J20_W h6252)) <|
 .ask (Q1_J25 p_a p_b r6251) fun r6255 h6256 =>
 .say [.sg_ 1 7 [2, 3, 4, 44] 2 (Q1_J25_S p_a p_b r6255)] (ok1 (Q1_J25_W h6256)) <|
 .ask (Q1_J30 p_a p_b r6255) fun r6259 h6260 =>
 .say [.sg_ 1 7 [2, 3, 4, 51] 2 (Q1_J30_S p_a p_b r6259)] (ok1 (Q1_J30_W h6260)) <|
 .ask (Q1_J35 p_a p_b r6259) fun r6263 h6264 =>
 .say [.sg_ 1 7 [2, 3, 4, 58] 2 (Q1_J35_S p_a p_b r6263)] (ok1 (Q1_J35_W h6264)) <|
 .ask (Q1_J40 p_a p_b r6263) fun r6316 h6317 =>
 .say [.sg_ 1 7 [2, 3, 4, 65] 2 (Q1_J40_S p_a p_b r6316)] (ok1 (Q1_J40_W h6317)) <|
 .ask (Q1_J45 p_a p_b r6316) fun r6322 h6323 =>
 .say [.sg_ 1 7 [2, 3, 4, 72] 2 (Q1_J45_S p_a p_b r6322)] (ok1 (Q1_J45_W h6323)) <|
 .ask (Q1_J50 p_a p_b r6322) fun r6332 h6333 =>
 .say [.sg_ 1 7 [2, 3, 4, 79] 2 (Q1_J50_S r6332)] (ok1 (Q1_J50_W h6333)) <|
 .ask (Q1_J55 r6332) fun r6334 h6335 =>
 .say [.sg_ 1 1 [4, 86] 2 (Q1_J55_S r6332 r6334)] (ok1 (Q1_J55_W h6335)) <|
 .ret (fitN 1) (r6332)
def Q1 (p_a : GMember) (p_b : GMember) : Option (Bool) := Mo.den (Q1_T p_a p_b)
theorem Q1_ok (p_a : GMember) (p_b : GMember) (r : Bool) (h : Q1 p_a p_b = some r) : Fn Tryz.prog GI 14 [.dat (GMember.lf1 p_a), .dat (GMember.lf1 p_b)] (.lf (.bool r)) :=
 fn_T BaseK Tryz.func14 (by kernel_rfl) (by kernel_rfl) (by kernel_rfl) (Q1_T p_a p_b) (fun r => [.lf (.bool r)]) (by kernel_rfl) h
def Q90_T (p_m : GMember) : Mo (Bool) :=
 .ask (Q108 p_m) fun r401 h402 =>
 .say [.res (.lf (.bool r401))] (ok1 (Q108_ok _ _ h402)) <|
 .ite (!r401) (fun c2727 =>
 .say [.br true] (ok1 c2727) <|
 .ask (Q6) fun r2730 h2731 =>
 .say [.res (.lf (.bool r2730))] (ok1 (Q6_ok  _ h2731)) <|
 .ret (fitN 1) (r2730)) fun c2727 =>
 .say [.br false] (ok1 c2727) <|
 .ask (Q26 p_m) fun r2732 h2733 =>
 .say [] (ok1 (Q26_ok _ _ h2733)) <|
 .ask (Q20 p_m) fun r2929 h2930 =>
 .say [] (ok1 (Q20_ok _ _ h2930)) <|
 .ask (Q2 r2732 r2929) fun r5683 h5684 =>
 .say [] (ok1 (Q2_ok _ _ _ h5684)) <|
 .ite (r5683) (fun c5685 =>
 .say [] (ok1 c5685) <|
 .ask (Q95 p_m) fun r6037 h6038 =>
 .say [] (ok1 (Q95_ok _ _ h6038)) <|
 .ask (Q7 p_m) fun r6231 h6232 =>
 .say [] (ok1 (Q7_ok _ _ h6232)) <|
 .ask (Q1 r6037 r6231) fun r6336 h6337 =>
 .say [] (ok1 (Q1_ok _ _ _ h6337)) <|
 .ite (r6336) (fun c6338 =>
 .say [] (ok1 c6338) <|
 .ask (Q6) fun r6339 h6340 =>
 .say [.orderT (.q 0 (.q 2 (.l 1 (.l 3 (.l 4 (.q 5 (.alt 6 (.alt 7 (.l 8 (.l 9 (.l 10 (.q 11 (.q 12 (.l 13 (.q 14 (.q 15 .fin)))))))) (.l 8 (.l 7 (.l 9 (.l 10 (.q 11 (.q 12 (.l 13 (.q 14 (.q 15 .fin)))))))))) (.l 8 (.l 6 (.l 7 (.l 9 (.l 10 (.q 11 (.q 12 (.l 13 (.q 14 (.q 15 .fin))))))))))))))))) (some 13) [] [.res (.lf (.rows 9 (r2732.map GMessage.lf))), .res (.lf (.rows 9 (r2929.map GMessage.lf))), .res (.lf (.bool r5683)), .both [.gd 8005 true, .both [.res (.dat (GMember.lf1 r6037)), .res (.dat (GMember.lf1 r6231)), .res (.lf (.bool r6336)), .gd 8012 true, .res (.lf (.bool r6339))] [.res (.dat (GMember.lf1 r6037)), .res (.dat (GMember.lf1 r6231)), .res (.lf (.bool r6336)), .gd 8012 true, .res (.lf (.bool r6339))]] [.gd 8005 true, .res (.dat (GMember.lf1 r6037)), .res (.dat (GMember.lf1 r6231)), .res (.lf (.bool r6336)), .gd 8012 true, .res (.lf (.bool r6339))]] [2] 1 [(2, .lf (.bool r6339))] [.box 25 (.dat (GMember.lf1 p_m))]] (okc (Q6_ok  _ h6340) (okc (rfl : (some ⟨[(2, .lf (.bool r6339))], [.box 25 (.dat (GMember.lf1 p_m))]⟩ : Option St) = some ⟨[(2, .lf (.bool r6339))], [.box 25 (.dat (GMember.lf1 p_m))]⟩) (okc (Q95_ok _ _ h6038) (okc (Q7_ok _ _ h6232) (okc (Q1_ok _ _ _ h6337) (okc c6338 (okc (Q6_ok  _ h6340) (okc (rfl : (some ⟨[(2, .lf (.bool r6339))], [.box 25 (.dat (GMember.lf1 p_m))]⟩ : Option St) = some ⟨[(2, .lf (.bool r6339))], [.box 25 (.dat (GMember.lf1 p_m))]⟩) (okc c5685 (okc (Q95_ok _ _ h6038) (okc (Q7_ok _ _ h6232) (okc (Q1_ok _ _ _ h6337) (okc c6338 (okc (Q6_ok  _ h6340) (okc (rfl : (some ⟨[(2, .lf (.bool r6339))], [.box 25 (.dat (GMember.lf1 p_m))]⟩ : Option St) = some ⟨[(2, .lf (.bool r6339))], [.box 25 (.dat (GMember.lf1 p_m))]⟩) ok0))))))))))))))) <|
 .ret (fitN 1) (r6339)) fun c6338 =>
 .say [.orderT (.q 0 (.q 2 (.l 1 (.l 3 (.l 4 (.q 5 (.alt 6 (.alt 7 (.l 8 (.l 9 (.l 10 (.q 11 (.q 12 (.l 13 (.q 14 (.q 15 .fin)))))))) (.l 8 (.l 7 (.l 9 (.l 10 (.q 11 (.q 12 (.l 13 (.q 14 (.q 15 .fin)))))))))) (.l 8 (.l 6 (.l 7 (.l 9 (.l 10 (.q 11 (.q 12 (.l 13 (.q 14 (.q 15 .fin))))))))))))))))) (some 13) [] [.res (.lf (.rows 9 (r2732.map GMessage.lf))), .res (.lf (.rows 9 (r2929.map GMessage.lf))), .res (.lf (.bool r5683)), .both [.gd 8005 true, .both [.res (.dat (GMember.lf1 r6037)), .res (.dat (GMember.lf1 r6231)), .res (.lf (.bool r6336)), .gd 8012 false] [.res (.dat (GMember.lf1 r6037)), .res (.dat (GMember.lf1 r6231)), .res (.lf (.bool r6336)), .gd 8012 false]] [.gd 8005 true, .res (.dat (GMember.lf1 r6037)), .res (.dat (GMember.lf1 r6231)), .res (.lf (.bool r6336)), .gd 8012 false]] [2] 1 [(2, .lf (.bool false))] [.box 25 (.dat (GMember.lf1 p_m))]] (okc c6338 (okc (rfl : (some ⟨[(2, .lf (.bool false))], [.box 25 (.dat (GMember.lf1 p_m))]⟩ : Option St) = some ⟨[(2, .lf (.bool false))], [.box 25 (.dat (GMember.lf1 p_m))]⟩) (okc (Q95_ok _ _ h6038) (okc (Q7_ok _ _ h6232) (okc (Q1_ok _ _ _ h6337) (okc c6338 (okc (rfl : (some ⟨[(2, .lf (.bool false))], [.box 25 (.dat (GMember.lf1 p_m))]⟩ : Option St) = some ⟨[(2, .lf (.bool false))], [.box 25 (.dat (GMember.lf1 p_m))]⟩) (okc c5685 (okc (Q95_ok _ _ h6038) (okc (Q7_ok _ _ h6232) (okc (Q1_ok _ _ _ h6337) (okc c6338 (okc (rfl : (some ⟨[(2, .lf (.bool false))], [.box 25 (.dat (GMember.lf1 p_m))]⟩ : Option St) = some ⟨[(2, .lf (.bool false))], [.box 25 (.dat (GMember.lf1 p_m))]⟩) ok0))))))))))))) <|
 .ret (fitN 1) (false)) fun c5685 =>
 .say [.orderT (.q 0 (.q 2 (.l 1 (.l 3 (.l 4 (.q 5 (.alt 6 (.alt 7 (.l 8 (.l 9 (.l 10 (.q 11 (.q 12 (.l 13 (.q 14 (.q 15 .fin)))))))) (.l 8 (.l 7 (.l 9 (.l 10 (.q 11 (.q 12 (.l 13 (.q 14 (.q 15 .fin)))))))))) (.l 8 (.l 6 (.l 7 (.l 9 (.l 10 (.q 11 (.q 12 (.l 13 (.q 14 (.q 15 .fin))))))))))))))))) (some 13) [] [.res (.lf (.rows 9 (r2732.map GMessage.lf))), .res (.lf (.rows 9 (r2929.map GMessage.lf))), .res (.lf (.bool r5683)), .both [.gd 8005 false, .both [] []] [.gd 8005 false]] [2] 1 [(2, .lf (.bool false))] [.box 25 (.dat (GMember.lf1 p_m))]] (okc c5685 (okc (rfl : (some ⟨[(2, .lf (.bool false))], [.box 25 (.dat (GMember.lf1 p_m))]⟩ : Option St) = some ⟨[(2, .lf (.bool false))], [.box 25 (.dat (GMember.lf1 p_m))]⟩) (okc (rfl : (some ⟨[(2, .lf (.bool false))], [.box 25 (.dat (GMember.lf1 p_m))]⟩ : Option St) = some ⟨[(2, .lf (.bool false))], [.box 25 (.dat (GMember.lf1 p_m))]⟩) (okc c5685 (okc (rfl : (some ⟨[(2, .lf (.bool false))], [.box 25 (.dat (GMember.lf1 p_m))]⟩ : Option St) = some ⟨[(2, .lf (.bool false))], [.box 25 (.dat (GMember.lf1 p_m))]⟩) ok0))))) <|
 .ret (fitN 1) (false)
def Q90 (p_m : GMember) : Option (Bool) := Mo.den (Q90_T p_m)
theorem Q90_ok (p_m : GMember) (r : Bool) (h : Q90 p_m = some r) : Fn Tryz.prog GI 6 [.dat (GMember.lf1 p_m)] (.lf (.bool r)) :=
 fn_T BaseK Tryz.func6 (by kernel_rfl) (by kernel_rfl) (by kernel_rfl) (Q90_T p_m) (fun r => [.lf (.bool r)]) (by kernel_rfl) h
end
end Go.Proofs.YtdnafbfmaphhhaaGreatDoor
set_option linter.unusedSimpArgs false
set_option linter.unusedVariables false
namespace Go.Proofs.YtdnafbfmaphhhaaGreatDoor
open Go.RowKit
theorem bulkR_mem {α : Type} (f : α → List Lf) {x : α} : ∀ {l : List α}, x ∈ l → bulkL (f x) ≤ bulkR (l.map f)
  | y :: r, h => by
    simp only [List.map_cons, bulkR]
    rcases List.mem_cons.1 h with rfl | h
    · omega
    · have := bulkR_mem f h; omega
theorem bulkR_len1 {α : Type} (f : α → List Lf) (hf : ∀ x, 1 ≤ bulkL (f x)) : ∀ l : List α, l.length ≤ bulkR (l.map f)
  | [] => by simp
  | x :: r => by have := bulkR_len1 f hf r; have := hf x; simp only [List.map_cons, List.length_cons, bulkR]; omega
theorem bulk_val (v : GValue) : bulkL v.lf1 = 5 + v.fText.size + bulkR (v.fList.map GValue.lf) + bulkR (v.fDoc.map GField.lf) := by simp only [GValue.lf1, bulkL, Lf.bulk]; omega
theorem bulk_field (v : GField) : bulkL v.lf1 = 1 + v.fName.size + bulkL v.fValue.lf1 := by simp only [GField.lf1, bulkL_app, bulkL, Lf.bulk]; omega
theorem bulk_order (v : GOrder) : bulkL v.lf1 = 2 + bulkR (v.fPath.map lfS) := by simp only [GOrder.lf1, bulkL, Lf.bulk]; omega
theorem bulk_point (v : GPoint) : bulkL v.lf1 = 2 := by simp only [GPoint.lf1, bulkL, Lf.bulk]
theorem bulk_shape (v : GShape) : bulkL v.lf1 = 3 + bulkR (v.fPoints.map GPoint.lf) := by simp only [GShape.lf1, bulkL, Lf.bulk]; omega
theorem bulk_expr (v : GExpr) : bulkL v.lf1 = 6 + bulkR (v.fPath.map lfS) + v.fName.size + bulkR (v.fNames.map lfS) + bulkL v.fArg.lf1 + bulkR (v.fKids.map GExpr.lf) := by simp only [GExpr.lf1, bulkL_app, bulkL, Lf.bulk]; omega
theorem bulk_pred (v : GPred) : bulkL v.lf1 = 6 + bulkR (v.fPath.map lfS) + bulkL v.fArg.lf1 + bulkR (v.fArgs.map GValue.lf) + bulkL v.fShape.lf1 + bulkL v.fExpr.lf1 + bulkR (v.fKids.map GPred.lf) := by simp only [GPred.lf1, bulkL_app, bulkL, Lf.bulk]; omega
theorem bulk_index (v : GIndex) : bulkL v.lf1 = 6 + v.fName.size + bulkR (v.fKeys.map GOrder.lf) + bulkL v.fWhere.lf1 := by simp only [GIndex.lf1, bulkL_app, bulkL, Lf.bulk]; omega
theorem bulk_prop (v : GProp) : bulkL v.lf1 = 1 + v.fName.size + bulkL v.fSchema.lf1 := by simp only [GProp.lf1, bulkL_app, bulkL, Lf.bulk]; omega
theorem bulk_schema (v : GSchema) : bulkL v.lf1 = 11 + bulkL v.fMin.lf1 + bulkL v.fMax.lf1 + bulkR (v.fEnum.map GValue.lf) + bulkR (v.fRequired.map lfS) + bulkR (v.fProps.map GProp.lf) + bulkR (v.fItems.map GSchema.lf) := by simp only [GSchema.lf1, bulkL_app, bulkL, Lf.bulk]; omega
theorem bulk_space (v : GSpace) : bulkL v.lf1 = 4 + v.fName.size + bulkR (v.fIndexes.map GIndex.lf) + bulkL v.fSchema.lf1 := by simp only [GSpace.lf1, bulkL_app, bulkL, Lf.bulk]; omega
theorem bulk_write (v : GWrite) : bulkL v.lf1 = 7 + v.fSpace.size + bulkL v.fKey.lf1 + bulkL v.fDoc.lf1 + bulkL v.fBefore.lf1 + bulkL v.fDef.lf1 + bulkL v.fIndex.lf1 + v.fTxn.size + bulkR (v.fWrites.map GWrite.lf) + bulkR (v.fShards.map lfI) := by simp only [GWrite.lf1, bulkL_app, bulkL, Lf.bulk]; omega
theorem bulk_entry (v : GEntry) : bulkL v.lf1 = 4 + v.fSession.size + bulkL v.fWrite.lf1 := by simp only [GEntry.lf1, bulkL_app, bulkL, Lf.bulk]; omega
theorem bulk_S (s : ByteArray) : bulkL (lfS s) = s.size + 1 := by simp only [lfS, bulkL, Lf.bulk, Nat.add_zero]
theorem bulk_I (n : Int) : bulkL (lfI n) = 1 := by simp only [lfI, bulkL, Lf.bulk]
theorem len_vals (l : List GValue) : l.length ≤ bulkR (l.map GValue.lf) := bulkR_len1 _ (fun x => by rw [GValue.lf_eq, bulk_val]; omega) l
theorem len_fields (l : List GField) : l.length ≤ bulkR (l.map GField.lf) := bulkR_len1 _ (fun x => by rw [GField.lf_eq, bulk_field]; omega) l
theorem len_orders (l : List GOrder) : l.length ≤ bulkR (l.map GOrder.lf) := bulkR_len1 _ (fun x => by rw [GOrder.lf_eq, bulk_order]; omega) l
theorem len_points (l : List GPoint) : l.length ≤ bulkR (l.map GPoint.lf) := bulkR_len1 _ (fun x => by have := bulk_point x; rw [GPoint.lf_eq]; omega) l
theorem len_exprs (l : List GExpr) : l.length ≤ bulkR (l.map GExpr.lf) := bulkR_len1 _ (fun x => by rw [GExpr.lf_eq, bulk_expr]; omega) l
theorem len_preds (l : List GPred) : l.length ≤ bulkR (l.map GPred.lf) := bulkR_len1 _ (fun x => by rw [GPred.lf_eq, bulk_pred]; omega) l
theorem len_indexes (l : List GIndex) : l.length ≤ bulkR (l.map GIndex.lf) := bulkR_len1 _ (fun x => by rw [GIndex.lf_eq, bulk_index]; omega) l
theorem len_props (l : List GProp) : l.length ≤ bulkR (l.map GProp.lf) := bulkR_len1 _ (fun x => by rw [GProp.lf_eq, bulk_prop]; omega) l
theorem len_schemas (l : List GSchema) : l.length ≤ bulkR (l.map GSchema.lf) := bulkR_len1 _ (fun x => by rw [GSchema.lf_eq, bulk_schema]; omega) l
theorem len_writes (l : List GWrite) : l.length ≤ bulkR (l.map GWrite.lf) := bulkR_len1 _ (fun x => by rw [GWrite.lf_eq, bulk_write]; omega) l
theorem len_entries (l : List GEntry) : l.length ≤ bulkR (l.map GEntry.lf) := bulkR_len1 _ (fun x => by rw [GEntry.lf_eq, bulk_entry]; omega) l
theorem len_strs (l : List ByteArray) : l.length ≤ bulkR (l.map lfS) := bulkR_len1 _ (fun x => by rw [bulk_S]; omega) l
theorem len_ints (l : List Int) : l.length ≤ bulkR (l.map lfI) := bulkR_len1 _ (fun x => by rw [bulk_I]; omega) l
theorem mem_val {x : GValue} {l : List GValue} (h : x ∈ l) : bulkL x.lf1 ≤ bulkR (l.map GValue.lf) := by rw [← GValue.lf_eq]; exact bulkR_mem _ h
theorem mem_field {x : GField} {l : List GField} (h : x ∈ l) : bulkL x.lf1 ≤ bulkR (l.map GField.lf) := by rw [← GField.lf_eq]; exact bulkR_mem _ h
theorem mem_order {x : GOrder} {l : List GOrder} (h : x ∈ l) : bulkL x.lf1 ≤ bulkR (l.map GOrder.lf) := bulkR_mem _ h
theorem mem_expr {x : GExpr} {l : List GExpr} (h : x ∈ l) : bulkL x.lf1 ≤ bulkR (l.map GExpr.lf) := by rw [← GExpr.lf_eq]; exact bulkR_mem _ h
theorem mem_pred {x : GPred} {l : List GPred} (h : x ∈ l) : bulkL x.lf1 ≤ bulkR (l.map GPred.lf) := by rw [← GPred.lf_eq]; exact bulkR_mem _ h
theorem mem_index {x : GIndex} {l : List GIndex} (h : x ∈ l) : bulkL x.lf1 ≤ bulkR (l.map GIndex.lf) := bulkR_mem _ h
theorem mem_prop {x : GProp} {l : List GProp} (h : x ∈ l) : bulkL x.lf1 ≤ bulkR (l.map GProp.lf) := by rw [← GProp.lf_eq]; exact bulkR_mem _ h
theorem mem_schema {x : GSchema} {l : List GSchema} (h : x ∈ l) : bulkL x.lf1 ≤ bulkR (l.map GSchema.lf) := by rw [← GSchema.lf_eq]; exact bulkR_mem _ h
theorem mem_write {x : GWrite} {l : List GWrite} (h : x ∈ l) : bulkL x.lf1 ≤ bulkR (l.map GWrite.lf) := by rw [← GWrite.lf_eq]; exact bulkR_mem _ h
theorem mem_entry {x : GEntry} {l : List GEntry} (h : x ∈ l) : bulkL x.lf1 ≤ bulkR (l.map GEntry.lf) := bulkR_mem _ h
/-- numbers -/
theorem size_nums1 (x : Int) : (strOfNums [x]).size = 1 := by rw [size_nums]; rfl
theorem Num_tot (n : Int) : ∃ r, Q17 n = some r ∧ r.size ≤ 11 := by
  unfold Q17 Q17_T Q17_J0 Q17_J0_T Q17_L10 Q17_L10_T Q17_J5 Q17_J5_T
  simp only [Mo.den, sbind2_eq, bcase_eq, sbind_eq, gcase_eq]
  have key : ∀ a : Int, ∃ r, ((loopM (fun v_ : Int × ByteArray × Int => (bif decide ((v_.2.2 : Int) < 10) then some (decide ((128 : Int) ≤ v_.1)) else some false).bind fun a_1 => bif a_1 then if v_.2.1.size + (strOfNums [ibits .or .u8 (IntKind.wrap .u8 (Int.tmod v_.1 128)) 128]).size ≤ 9223372036854775807 then some (.inl (IntKind.wrap .u64 (Int.tdiv v_.1 128), v_.2.1 ++ strOfNums [ibits .or .u8 (IntKind.wrap .u8 (Int.tmod v_.1 128)) 128], IntKind.wrap .i64 (v_.2.2 + 1))) else none else some (.inr (v_.1, v_.2.1))) FU (a, ⟨#[]⟩, 0)) = some r) ∧ (r : Int × ByteArray).2.size ≤ 10 := by
    intro a
    refine for_post 10 (by omega) (fun (k : Nat) (v : Int × ByteArray × Int) => v.2.2 = (k : Int) ∧ v.2.1.size = k) (fun (r : Int × ByteArray) => r.2.size ≤ 10) ⟨rfl, rfl⟩ ?_ ?_
    · rintro k ⟨u, s, i⟩ hk ⟨h1, h2⟩
      simp only at h1 h2
      subst h1
      simp only [decide_eq_true (show (k : Int) < 10 by omega), cond_true, Option.bind_some]
      cases decide ((128 : Int) ≤ u) with
      | true =>
        left
        simp only [cond_true, size_nums1, h2]
        rw [if_pos (by omega)]
        exact ⟨_, rfl, inc k (by omega), by rw [ByteArray.size_append, size_nums1, h2]⟩
      | false => right; exact ⟨_, rfl, by simp only; omega⟩
    · rintro ⟨u, s, i⟩ ⟨h1, h2⟩
      simp only at h1 h2
      subst h1
      exact ⟨_, rfl, by simp only; omega⟩
  have fin : ∀ a : Int, ∃ r, (Option.bind (loopM (fun v_ : Int × ByteArray × Int => (bif decide ((v_.2.2 : Int) < 10) then some (decide ((128 : Int) ≤ v_.1)) else some false).bind fun a_1 => bif a_1 then if v_.2.1.size + (strOfNums [ibits .or .u8 (IntKind.wrap .u8 (Int.tmod v_.1 128)) 128]).size ≤ 9223372036854775807 then some (.inl (IntKind.wrap .u64 (Int.tdiv v_.1 128), v_.2.1 ++ strOfNums [ibits .or .u8 (IntKind.wrap .u8 (Int.tmod v_.1 128)) 128], IntKind.wrap .i64 (v_.2.2 + 1))) else none else some (.inr (v_.1, v_.2.1))) FU (a, ⟨#[]⟩, 0)) (fun r : Int × ByteArray => if r.2.size + (strOfNums [IntKind.wrap .u8 r.1]).size ≤ 9223372036854775807 then some (r.2 ++ strOfNums [IntKind.wrap .u8 r.1]) else none)) = some r ∧ r.size ≤ 11 := by
    intro a
    obtain ⟨r, h1, h2⟩ := key a
    rw [h1]
    simp only [Option.bind_some, size_nums1]
    rw [if_pos (by omega)]
    exact ⟨_, rfl, by rw [ByteArray.size_append, size_nums1]; omega⟩
  cases decide (n < 0)
  · exact fin _
  · exact fin _
noncomputable def numE (n : Int) : ByteArray := (Q17 n).getD ⟨#[]⟩
theorem Num_val (n : Int) : Q17 n = some (numE n) := by
  obtain ⟨r, h, _⟩ := Num_tot n
  unfold numE; rw [h]; rfl
theorem numE_size (n : Int) : (numE n).size ≤ 11 := by
  obtain ⟨r, h, h2⟩ := Num_tot n
  unfold numE; rw [h]; exact h2
end Go.Proofs.YtdnafbfmaphhhaaGreatDoor
set_option linter.unusedSimpArgs false
set_option linter.unusedVariables false
namespace Go.Proofs.YtdnafbfmaphhhaaGreatDoor
open Go.RowKit
theorem FU_big : 1152921504606846975 < FU := by unfold FU; omega
def Tot {ρ : Type} (m : Option ρ) (Q : ρ → Prop) : Prop := ∃ r, m = some r ∧ Q r
def LP {σ ρ : Type} (P : σ → Prop) (Q : ρ → Prop) : σ ⊕ ρ → Prop
  | .inl s => P s
  | .inr r => Q r
def Any {ρ : Type} : ρ → Prop := fun _ => True
namespace T
variable {ρ α σ : Type}
theorem ret {Q : ρ → Prop} {r : ρ} (h : Q r) : Tot (some r) Q := ⟨r, rfl, h⟩
theorem any {r : ρ} : Tot (some r) Any := ⟨r, rfl, trivial⟩
theorem bind {m : Option α} {R : α → Prop} {k : α → Option ρ} {Q : ρ → Prop} (h : Tot m R) (h2 : ∀ a, R a → Tot (k a) Q) : Tot (m.bind k) Q := by
  obtain ⟨a, rfl, ha⟩ := h
  exact h2 a ha
theorem ite {b : Bool} {x y : Option ρ} {Q : ρ → Prop} (h1 : b = true → Tot x Q) (h2 : b = false → Tot y Q) : Tot (bif b then x else y) Q := by
  cases b
  · exact h2 rfl
  · exact h1 rfl
theorem grd {p : Prop} [Decidable p] {x : Option ρ} {Q : ρ → Prop} (h : p) (h2 : Tot x Q) : Tot (if p then x else none) Q := by
  rw [if_pos h]; exact h2
theorem mono {m : Option ρ} {Q R : ρ → Prop} (h : Tot m Q) (h2 : ∀ r, Q r → R r) : Tot m R := by
  obtain ⟨r, h1, h3⟩ := h; exact ⟨r, h1, h2 r h3⟩
theorem wk {m : Option ρ} {Q : ρ → Prop} (h : Tot m Q) : Tot m Any := mono h fun _ _ => trivial
theorem val {m : Option ρ} {r : ρ} (h : m = some r) : Tot m (fun x => x = r) := ⟨r, h, rfl⟩
theorem forP {T : σ → Option (σ ⊕ ρ)} {s0 : σ} (n : Nat) (hn : n ≤ 1000000000) (P : Nat → σ → Prop) (Q : ρ → Prop) (h0 : P 0 s0) (step : ∀ k s, k < n → P k s → Tot (T s) (LP (P (k + 1)) Q)) (fin : ∀ s, P n s → Tot (T s) (LP (fun _ => False) Q)) : Tot (loopM T FU s0) Q := by
  refine for_post n hn P Q h0 ?_ ?_
  · intro k s hk hP
    obtain ⟨r, h1, h2⟩ := step k s hk hP
    rcases r with v | r
    · exact .inl ⟨v, h1, h2⟩
    · exact .inr ⟨r, h1, h2⟩
  · intro s hP
    obtain ⟨r, h1, h2⟩ := fin s hP
    rcases r with v | r
    · exact h2.elim
    · exact ⟨r, h1, h2⟩
/-- a loop that counts and nothing else -/
theorem forI {T : Int → Option (Int ⊕ ρ)} (n : Nat) (hn : n ≤ 1000000000) (Q : ρ → Prop) (step : ∀ k : Nat, k < n → Tot (T (k : Int)) (LP (fun v => v = IntKind.wrap .i64 ((k : Int) + 1)) Q)) (fin : Tot (T (n : Int)) (LP (fun _ => False) Q)) : Tot (loopM T FU 0) Q :=
  forP n hn (fun k v => v = (k : Int)) Q rfl (fun k s hk hs => by
    obtain rfl : s = (k : Int) := hs
    refine mono (step k hk) ?_
    rintro (v | r) h
    · exact (show v = _ from h).trans (inc k (by omega))
    · exact h) (fun s hs => by
    obtain rfl : s = (n : Int) := hs
    exact fin)
/-- the same, over a list of which each element ends -/
theorem forL {T : Int → Option (Int ⊕ ρ)} (l : List α) (hn : l.length ≤ 1000000000) (Q : ρ → Prop) (step : ∀ (k : Nat) x, l[k]? = some x → Tot (T (k : Int)) (LP (fun v => v = IntKind.wrap .i64 ((k : Int) + 1)) Q)) (fin : Tot (T (l.length : Int)) (LP (fun _ => False) Q)) : Tot (loopM T FU 0) Q :=
  forI l.length hn Q (fun k hk => step k _ (List.getElem?_eq_getElem hk)) fin
end T
theorem ltt {α : Type} {l : List α} {k : Nat} {x : α} (h : l[k]? = some x) : decide ((k : Int) < (l.length : Int)) = true := iLt (List.getElem?_eq_some_iff.1 h).1
theorem ltn (n : Nat) : decide ((n : Int) < (n : Int)) = false := iNlt (Nat.lt_irrefl _)
theorem gid {α : Type} {l : List α} {k : Nat} {x : α} (h : l[k]? = some x) : gidx l (k : Int) = some x := by rw [gidx_nat, h]
theorem mem_at {α : Type} {l : List α} {k : Nat} {x : α} (h : l[k]? = some x) : x ∈ l := List.mem_of_getElem? h
theorem bulkR_app (l m : List (List Lf)) : bulkR (l ++ m) = bulkR l + bulkR m := by
  induction l with
  | nil => simp [bulkR]
  | cons x l ih => simp only [List.cons_append, bulkR, ih]; omega
theorem bulkR_take_le {α : Type} (f : α → List Lf) (l : List α) (k : Nat) : bulkR ((l.take k).map f) ≤ bulkR (l.map f) := by
  have := bulkR_app ((l.take k).map f) ((l.drop k).map f)
  rw [← List.map_append, List.take_append_drop] at this; omega
/-- for the printed proofs -/
def MT {ρ : Type} (t : Mo ρ) (Q : ρ → Prop) : Prop := Tot t.den Q
namespace MT
variable {ρ α β γ : Type}
theorem ret {f : Fit} {r : ρ} {Q : ρ → Prop} (h : Q r) : MT (.ret f r) Q := ⟨r, rfl, h⟩
theorem any {f : Fit} {r : ρ} : MT (.ret f r) Any := ⟨r, rfl, trivial⟩
theorem say {qs : List Ans} {Φ : List Prop} {ok : AllP Φ} {k : Mo ρ} {Q : ρ → Prop} (h : MT k Q) : MT (.say qs ok k) Q := h
theorem ite {b : Bool} {t : b = true → Mo ρ} {e : b = false → Mo ρ} {Q : ρ → Prop} (h1 : ∀ h, MT (t h) Q) (h2 : ∀ h, MT (e h) Q) : MT (.ite b t e) Q := by
  cases b
  · exact h2 rfl
  · exact h1 rfl
theorem grd {p : Prop} [d : Decidable p] {k : p → Mo ρ} {Q : ρ → Prop} (h : p) (h2 : ∀ h, MT (k h) Q) : MT (.grd p k) Q := by
  unfold MT Tot
  show ∃ r, gcase p _ = some r ∧ Q r
  unfold gcase
  cases d with
  | isTrue hh => exact h2 hh
  | isFalse hh => exact absurd h hh
theorem ask {m : Option α} {k : (a : α) → m = some a → Mo ρ} {R : α → Prop} {Q : ρ → Prop} (h : Tot m R) (h2 : ∀ a h, R a → MT (k a h) Q) : MT (.ask m k) Q := by
  obtain ⟨a, rfl, ha⟩ := h
  exact h2 a rfl ha
theorem ask2 {m : Option (α ⊕ β)} {k1 : (a : α) → m = some (.inl a) → Mo ρ} {k2 : (b : β) → m = some (.inr b) → Mo ρ} {R : α ⊕ β → Prop} {Q : ρ → Prop} (h : Tot m R) (h1 : ∀ a h, R (.inl a) → MT (k1 a h) Q) (h2 : ∀ b h, R (.inr b) → MT (k2 b h) Q) : MT (.ask2 m k1 k2) Q := by
  obtain ⟨a, rfl, ha⟩ := h
  rcases a with a | a
  · exact h1 a rfl ha
  · exact h2 a rfl ha
theorem ask3 {m : Option (α ⊕ β ⊕ γ)} {k1 : (a : α) → m = some (.inl a) → Mo ρ} {k2 : (b : β) → m = some (.inr (.inl b)) → Mo ρ} {k3 : (c : γ) → m = some (.inr (.inr c)) → Mo ρ} {R : α ⊕ β ⊕ γ → Prop} {Q : ρ → Prop} (h : Tot m R) (h1 : ∀ a h, R (.inl a) → MT (k1 a h) Q) (h2 : ∀ b h, R (.inr (.inl b)) → MT (k2 b h) Q) (h3 : ∀ b h, R (.inr (.inr b)) → MT (k3 b h) Q) : MT (.ask3 m k1 k2 k3) Q := by
  obtain ⟨a, rfl, ha⟩ := h
  rcases a with a | a | a
  · exact h1 a rfl ha
  · exact h2 a rfl ha
  · exact h3 a rfl ha
end MT
/-- a call, shut -/
structure Clo {ρ : Type} (m : Option ρ) : Prop where
  h : Tot m Any
namespace MT
variable {ρ α β γ : Type}
end MT
namespace T
variable {ρ σ : Type}
theorem cntP {T : σ → Option (σ ⊕ ρ)} {s0 : σ} (c : σ → Int) (P : σ → Prop) (Q : ρ → Prop) (h0 : c s0 = 0) (hP : P s0) (step : ∀ (k : Nat) s, k ≤ 100000000 → c s = k → P s → Tot (T s) (LP (fun v => c v = IntKind.wrap .i64 ((k : Int) + 1) ∧ P v ∧ k < 100000000) Q)) : Tot (loopM T FU s0) Q := by
  refine loopM_post (fun s => 0 ≤ c s ∧ c s ≤ 100000000 ∧ P s) (fun s => 100000000 - (c s).toNat) Q ?_ FU s0 ⟨by omega, by omega, hP⟩ (by have := FU_big; omega)
  rintro s ⟨h1, h2, h3⟩
  obtain ⟨r, h4, h5⟩ := step (c s).toNat s (by omega) (by omega) h3
  rcases r with v | r
  · have h5 : c v = IntKind.wrap .i64 (((c s).toNat : Int) + 1) ∧ P v ∧ (c s).toNat < 100000000 := h5
    have h6 := h5.1
    rw [inc _ (by omega)] at h6
    exact .inl ⟨v, h4, ⟨by omega, by omega, h5.2.1⟩, by omega⟩
  · exact .inr ⟨r, h4, h5⟩
theorem cnt {T : Int → Option (Int ⊕ ρ)} (Q : ρ → Prop) (step : ∀ k : Nat, k ≤ 100000000 → Tot (T (k : Int)) (LP (fun v => v = IntKind.wrap .i64 ((k : Int) + 1) ∧ k < 100000000) Q)) : Tot (loopM T FU 0) Q :=
  cntP (fun v => v) (fun _ => True) Q rfl trivial fun k s hk hs _ => by
    obtain rfl : s = (k : Int) := hs
    refine mono (step k hk) ?_
    rintro (v | r) h
    · exact ⟨h.1, trivial, h.2⟩
    · exact h
theorem cntR {α : Type} {T : α × Int → Option ((α × Int) ⊕ ρ)} {a : α} (Q : ρ → Prop) (step : ∀ (a : α) (k : Nat), k ≤ 100000000 → Tot (T (a, (k : Int))) (LP (fun v => v.2 = IntKind.wrap .i64 ((k : Int) + 1) ∧ k < 100000000) Q)) : Tot (loopM T FU (a, 0)) Q :=
  cntP (fun v => v.2) (fun _ => True) Q rfl trivial fun k s hk hs _ => by
    obtain ⟨a, i⟩ := s
    obtain rfl : i = (k : Int) := hs
    refine mono (step a k hk) ?_
    rintro (v | r) h
    · exact ⟨h.1, trivial, h.2⟩
    · exact h
theorem cntL {α : Type} {T : Int × α → Option ((Int × α) ⊕ ρ)} {a : α} (Q : ρ → Prop) (step : ∀ (k : Nat) (a : α), k ≤ 100000000 → Tot (T ((k : Int), a)) (LP (fun v => v.1 = IntKind.wrap .i64 ((k : Int) + 1) ∧ k < 100000000) Q)) : Tot (loopM T FU (0, a)) Q :=
  cntP (fun v => v.1) (fun _ => True) Q rfl trivial fun k s hk hs _ => by
    obtain ⟨i, a⟩ := s
    obtain rfl : i = (k : Int) := hs
    refine mono (step k a hk) ?_
    rintro (v | r) h
    · exact ⟨h.1, trivial, h.2⟩
    · exact h
end T
end Go.Proofs.YtdnafbfmaphhhaaGreatDoor
set_option linter.unusedSimpArgs false
set_option linter.unusedVariables false
namespace Go.Proofs.YtdnafbfmaphhhaaGreatDoor
open Go.RowKit
theorem bulk_member (v : GMember) : bulkL v.lf1 = 12 + bulkR (v.fLog.map GEntry.lf) + bulkR (v.fNext.map lfI) + bulkR (v.fMatch.map lfI) := by simp only [GMember.lf1, bulkL_app, bulkL, Lf.bulk]; omega
theorem copy_loop {α : Type} (l : List α) (c : α → Option α) (z : List α) (T0 : Int × List α → Option ((Int × List α) ⊕ List α)) (hz : z.length = l.length) (hl : l.length ≤ 1000000000) (hc : ∀ x ∈ l, c x = some x)
    (hT : ∀ (k : Nat) (s : List α), T0 ((k : Int), s) = bif decide ((k : Int) < (l.length : Int)) then (gidx l (k : Int)).bind fun x => (c x).bind fun r => (gidx s (k : Int)).bind fun _ => some (.inl (IntKind.wrap .i64 ((k : Int) + 1), s.set (k : Int).toNat r)) else some (.inr s)) :
    loopM T0 FU (0, z) = some l := by
  have : Tot (loopM T0 FU (0, z)) (fun r => r = l) := by
    refine T.forP l.length hl (fun k s => s.1 = (k : Int) ∧ s.2.length = l.length ∧ ∀ j, j < k → s.2[j]? = l[j]?) _ ⟨rfl, hz, fun j h => by omega⟩ ?_ ?_
    · rintro k ⟨i, s⟩ hk ⟨h1, h2, h3⟩
      obtain rfl : i = (k : Int) := h1
      have h2 : s.length = l.length := h2
      have hx := List.getElem?_eq_getElem hk
      have hy := List.getElem?_eq_getElem (show k < s.length by omega)
      rw [hT]
      simp only [ltt hx, gid hx, gid hy, cond_true, Option.bind_some, hc _ (mem_at hx), Int.toNat_natCast]
      refine T.ret ⟨inc k (by omega), by simp [h2], fun j hj => ?_⟩
      show (s.set k l[k])[j]? = l[j]?
      rcases Nat.lt_succ_iff_lt_or_eq.1 hj with h | rfl
      · rw [List.getElem?_set_ne (by omega)]; exact h3 j h
      · rw [List.getElem?_set_self (by omega), hx]
    · rintro ⟨i, s⟩ ⟨h1, h2, h3⟩
      obtain rfl : i = (l.length : Int) := h1
      have h2 : s.length = l.length := h2
      rw [hT]
      simp only [ltn, cond_false]
      refine T.ret (show s = l from List.ext_getElem? fun j => ?_)
      by_cases hj : j < l.length
      · exact h3 j hj
      · rw [List.getElem?_eq_none (by omega), List.getElem?_eq_none (by omega)]
  obtain ⟨r, h, rfl⟩ := this
  exact h
theorem copyAll_fin {α : Type} (l : List α) (p : Prop) [Decidable p] (hp : p) : (bif ((l.length : Int) == 0) then some [] else if p then (some l).bind (fun a => some a) else none) = some l := by
  rw [if_pos hp]
  cases l with
  | nil => rfl
  | cons x r =>
    rw [show (((x :: r).length : Int) == 0) = false by simp; omega]
    rfl
end Go.Proofs.YtdnafbfmaphhhaaGreatDoor
set_option linter.unusedSimpArgs false
set_option linter.unusedVariables false
namespace Go.Proofs.YtdnafbfmaphhhaaGreatDoor
open Go.RowKit
theorem election_copyValue_ids (n_ : Nat) : (∀ p_v : GValue, 4 * bulkL p_v.lf1 + 0 < n_ → bulkL p_v.lf1 ≤ 100000000 → (RB2_F n_).m1 p_v = some p_v) ∧ (∀ p_l : List GValue, 4 * bulkR (p_l.map GValue.lf) + 1 < n_ → bulkR (p_l.map GValue.lf) ≤ 100000000 → (RB2_F n_).m2 p_l = some p_l) ∧ (∀ p_l : List GField, 4 * bulkR (p_l.map GField.lf) + 2 < n_ → bulkR (p_l.map GField.lf) ≤ 100000000 → (RB2_F n_).m3 p_l = some p_l) ∧ (∀ p_f : GField, 4 * bulkL p_f.lf1 + 1 < n_ → bulkL p_f.lf1 ≤ 100000000 → (RB2_F n_).m4 p_f = some p_f) := by
  induction n_ with
  | zero => exact ⟨fun _ h => by omega, fun _ h => by omega, fun _ h => by omega, fun _ h => by omega⟩
  | succ n_ ih =>
    refine ⟨?_, ?_, ?_, ?_⟩
    · intro p_v h_ h2_
      have hbv := bulk_val p_v
      have := len_fields p_v.fDoc
      have := len_vals p_v.fList
      have e0 := (ih.2.1 p_v.fList (by omega) (by omega))
      have e1 := (ih.2.2.1 p_v.fDoc (by omega) (by omega))
      simp only [RB2_F, Q72_T, Mo.den, sbind_eq, sbind2_eq, bcase_eq, gcase_eq, e0, e1, Option.bind_some, List.length_nil]
      all_goals (cases p_v; rfl)
    · intro p_l h_ h2_
      have hl := len_vals p_l
      have h1 : Q32_L0 (RB2_F n_) p_l 0 (List.replicate (p_l.length : Int).toNat (GValue.mk 0 0 ⟨#[]⟩ [] [])) = some p_l := copy_loop p_l (fun x => (RB2_F n_).m1 x) _ _ (by simp) (by omega) (fun x hx => ih.1 x (by have := mem_val hx; omega) (by have := mem_val hx; omega)) (fun k s => by simp only [Q32_L0_T, Mo.den, sbind_eq, sbind2_eq, bcase_eq, gcase_eq])
      simp only [RB2_F, Q32_T, Mo.den, sbind_eq, sbind2_eq, bcase_eq, gcase_eq, h1]
      exact copyAll_fin p_l _ ⟨by omega, by omega, by unfold maxLen; omega⟩
    · intro p_l h_ h2_
      have hl := len_fields p_l
      have h1 : Q56_L0 (RB2_F n_) p_l 0 (List.replicate (p_l.length : Int).toNat (GField.mk ⟨#[]⟩ (GValue.mk 0 0 ⟨#[]⟩ [] []))) = some p_l := copy_loop p_l (fun x => (RB2_F n_).m4 x) _ _ (by simp) (by omega) (fun x hx => ih.2.2.2 x (by have := mem_field hx; omega) (by have := mem_field hx; omega)) (fun k s => by simp only [Q56_L0_T, Mo.den, sbind_eq, sbind2_eq, bcase_eq, gcase_eq])
      simp only [RB2_F, Q56_T, Mo.den, sbind_eq, sbind2_eq, bcase_eq, gcase_eq, h1]
      exact copyAll_fin p_l _ ⟨by omega, by omega, by unfold maxLen; omega⟩
    · intro p_f h_ h2_
      have hbv := bulk_field p_f
      have := bulk_val p_f.fValue
      have e0 := (ih.1 p_f.fValue (by omega) (by omega))
      simp only [RB2_F, Q124_T, Mo.den, sbind_eq, sbind2_eq, bcase_eq, gcase_eq, e0, Option.bind_some, List.length_nil]
      all_goals (cases p_f; rfl)
theorem election_copyValue_id (p_v : GValue) (h_ : bulkL p_v.lf1 ≤ 100000000) : Q72 p_v = some p_v := (election_copyValue_ids FU).1 p_v (lt_FU (by omega)) h_
theorem election_copyAll_api_Value_id (p_l : List GValue) (h_ : bulkR (p_l.map GValue.lf) ≤ 100000000) : Q32 p_l = some p_l := (election_copyValue_ids FU).2.1 p_l (lt_FU (by omega)) h_
theorem election_copyStrings_id (p_l : List ByteArray) (h_ : bulkR (p_l.map lfS) ≤ 100000000) : Q80 p_l = some p_l := by
  have hl := len_strs p_l
  simp only [Q80, Q80_T, Mo.den, sbind_eq, sbind2_eq, bcase_eq, gcase_eq, Option.bind_some, List.length_nil]
  rw [if_pos (by omega)]
  try rfl
theorem election_copyOrder_id (p_o : GOrder) (h_ : bulkL p_o.lf1 ≤ 100000000) : Q103 p_o = some p_o := by
  have hbv := bulk_order p_o
  have := len_strs p_o.fPath
  have e0 := (election_copyStrings_id p_o.fPath (by omega))
  simp only [Q103, Q103_T, Mo.den, sbind_eq, sbind2_eq, bcase_eq, gcase_eq, e0, Option.bind_some, List.length_nil]
  all_goals (cases p_o; rfl)
theorem election_copyAll_api_Order_id (p_l : List GOrder) (h_ : bulkR (p_l.map GOrder.lf) ≤ 100000000) : Q44 p_l = some p_l := by
  have hl := len_orders p_l
  have h1 : Q44_L0 p_l 0 (List.replicate (p_l.length : Int).toNat (GOrder.mk [] false)) = some p_l := copy_loop p_l (fun x => Q103 x) _ _ (by simp) (by omega) (fun x hx => election_copyOrder_id x (by have := mem_order hx; omega)) (fun k s => by simp only [Q44_L0_T, Mo.den, sbind_eq, sbind2_eq, bcase_eq, gcase_eq])
  simp only [Q44, Q44_T, Mo.den, sbind_eq, sbind2_eq, bcase_eq, gcase_eq, h1]
  exact copyAll_fin p_l _ ⟨by omega, by omega, by unfold maxLen; omega⟩
theorem election_copyExpr_ids (n_ : Nat) : (∀ p_e : GExpr, 4 * bulkL p_e.lf1 + 0 < n_ → bulkL p_e.lf1 ≤ 100000000 → (RB4_F n_).m1 p_e = some p_e) ∧ (∀ p_l : List GExpr, 4 * bulkR (p_l.map GExpr.lf) + 1 < n_ → bulkR (p_l.map GExpr.lf) ≤ 100000000 → (RB4_F n_).m2 p_l = some p_l) := by
  induction n_ with
  | zero => exact ⟨fun _ h => by omega, fun _ h => by omega⟩
  | succ n_ ih =>
    refine ⟨?_, ?_⟩
    · intro p_e h_ h2_
      have hbv := bulk_expr p_e
      have := bulk_val p_e.fArg
      have := len_exprs p_e.fKids
      have := len_strs p_e.fNames
      have := len_strs p_e.fPath
      have e0 := (election_copyStrings_id p_e.fPath (by omega))
      have e1 := (election_copyStrings_id p_e.fNames (by omega))
      have e2 := (election_copyValue_id p_e.fArg (by omega))
      have e3 := (ih.2 p_e.fKids (by omega) (by omega))
      simp only [RB4_F, Q97_T, Mo.den, sbind_eq, sbind2_eq, bcase_eq, gcase_eq, e0, e1, e2, e3, Option.bind_some, List.length_nil]
      all_goals (cases p_e; rfl)
    · intro p_l h_ h2_
      have hl := len_exprs p_l
      have h1 : Q60_L0 (RB4_F n_) p_l 0 (List.replicate (p_l.length : Int).toNat GExpr.z) = some p_l := copy_loop p_l (fun x => (RB4_F n_).m1 x) _ _ (by simp) (by omega) (fun x hx => ih.1 x (by have := mem_expr hx; omega) (by have := mem_expr hx; omega)) (fun k s => by simp only [Q60_L0_T, Mo.den, sbind_eq, sbind2_eq, bcase_eq, gcase_eq])
      simp only [RB4_F, Q60_T, Mo.den, sbind_eq, sbind2_eq, bcase_eq, gcase_eq, h1]
      exact copyAll_fin p_l _ ⟨by omega, by omega, by unfold maxLen; omega⟩
theorem election_copyExpr_id (p_e : GExpr) (h_ : bulkL p_e.lf1 ≤ 100000000) : Q97 p_e = some p_e := (election_copyExpr_ids FU).1 p_e (lt_FU (by omega)) h_
theorem election_copyPred_ids (n_ : Nat) : (∀ p_p : GPred, 4 * bulkL p_p.lf1 + 0 < n_ → bulkL p_p.lf1 ≤ 100000000 → (RB3_F n_).m1 p_p = some p_p) ∧ (∀ p_l : List GPred, 4 * bulkR (p_l.map GPred.lf) + 1 < n_ → bulkR (p_l.map GPred.lf) ≤ 100000000 → (RB3_F n_).m2 p_l = some p_l) := by
  induction n_ with
  | zero => exact ⟨fun _ h => by omega, fun _ h => by omega⟩
  | succ n_ ih =>
    refine ⟨?_, ?_⟩
    · intro p_p h_ h2_
      have hbv := bulk_pred p_p
      have := bulk_val p_p.fArg
      have := len_vals p_p.fArgs
      have := bulk_expr p_p.fExpr
      have := len_preds p_p.fKids
      have := len_strs p_p.fPath
      have := bulk_shape p_p.fShape
      have := len_points p_p.fShape.fPoints
      have := len_points p_p.fShape.fPoints
      have e0 := (election_copyStrings_id p_p.fPath (by omega))
      have e1 := (election_copyValue_id p_p.fArg (by omega))
      have e2 := (election_copyAll_api_Value_id p_p.fArgs (by omega))
      have e3 := (election_copyExpr_id p_p.fExpr (by omega))
      have e4 := (ih.2 p_p.fKids (by omega) (by omega))
      simp only [RB3_F, Q98_T, Mo.den, sbind_eq, sbind2_eq, bcase_eq, gcase_eq, e0, e1, e2, e3, e4, Option.bind_some, List.length_nil]
      rw [if_pos (by omega)]
      all_goals (cases p_p; rfl)
    · intro p_l h_ h2_
      have hl := len_preds p_l
      have h1 : Q61_L0 (RB3_F n_) p_l 0 (List.replicate (p_l.length : Int).toNat GPred.z) = some p_l := copy_loop p_l (fun x => (RB3_F n_).m1 x) _ _ (by simp) (by omega) (fun x hx => ih.1 x (by have := mem_pred hx; omega) (by have := mem_pred hx; omega)) (fun k s => by simp only [Q61_L0_T, Mo.den, sbind_eq, sbind2_eq, bcase_eq, gcase_eq])
      simp only [RB3_F, Q61_T, Mo.den, sbind_eq, sbind2_eq, bcase_eq, gcase_eq, h1]
      exact copyAll_fin p_l _ ⟨by omega, by omega, by unfold maxLen; omega⟩
theorem election_copyPred_id (p_p : GPred) (h_ : bulkL p_p.lf1 ≤ 100000000) : Q98 p_p = some p_p := (election_copyPred_ids FU).1 p_p (lt_FU (by omega)) h_
theorem election_copyIndex_id (p_x : GIndex) (h_ : bulkL p_x.lf1 ≤ 100000000) : Q86 p_x = some p_x := by
  have hbv := bulk_index p_x
  have := len_orders p_x.fKeys
  have := bulk_pred p_x.fWhere
  have e0 := (election_copyAll_api_Order_id p_x.fKeys (by omega))
  have e1 := (election_copyPred_id p_x.fWhere (by omega))
  simp only [Q86, Q86_T, Mo.den, sbind_eq, sbind2_eq, bcase_eq, gcase_eq, e0, e1, Option.bind_some, List.length_nil]
  all_goals (cases p_x; rfl)
theorem election_copyAll_api_Index_id (p_l : List GIndex) (h_ : bulkR (p_l.map GIndex.lf) ≤ 100000000) : Q45 p_l = some p_l := by
  have hl := len_indexes p_l
  have h1 : Q45_L0 p_l 0 (List.replicate (p_l.length : Int).toNat GIndex.z) = some p_l := copy_loop p_l (fun x => Q86 x) _ _ (by simp) (by omega) (fun x hx => election_copyIndex_id x (by have := mem_index hx; omega)) (fun k s => by simp only [Q45_L0_T, Mo.den, sbind_eq, sbind2_eq, bcase_eq, gcase_eq])
  simp only [Q45, Q45_T, Mo.den, sbind_eq, sbind2_eq, bcase_eq, gcase_eq, h1]
  exact copyAll_fin p_l _ ⟨by omega, by omega, by unfold maxLen; omega⟩
theorem election_copySchema_ids (n_ : Nat) : (∀ p_s : GSchema, 4 * bulkL p_s.lf1 + 0 < n_ → bulkL p_s.lf1 ≤ 100000000 → (RB5_F n_).m1 p_s = some p_s) ∧ (∀ p_l : List GProp, 4 * bulkR (p_l.map GProp.lf) + 2 < n_ → bulkR (p_l.map GProp.lf) ≤ 100000000 → (RB5_F n_).m2 p_l = some p_l) ∧ (∀ p_l : List GSchema, 4 * bulkR (p_l.map GSchema.lf) + 1 < n_ → bulkR (p_l.map GSchema.lf) ≤ 100000000 → (RB5_F n_).m3 p_l = some p_l) ∧ (∀ p_p : GProp, 4 * bulkL p_p.lf1 + 1 < n_ → bulkL p_p.lf1 ≤ 100000000 → (RB5_F n_).m4 p_p = some p_p) := by
  induction n_ with
  | zero => exact ⟨fun _ h => by omega, fun _ h => by omega, fun _ h => by omega, fun _ h => by omega⟩
  | succ n_ ih =>
    refine ⟨?_, ?_, ?_, ?_⟩
    · intro p_s h_ h2_
      have hbv := bulk_schema p_s
      have := len_vals p_s.fEnum
      have := len_schemas p_s.fItems
      have := bulk_val p_s.fMax
      have := bulk_val p_s.fMin
      have := len_props p_s.fProps
      have := len_strs p_s.fRequired
      have e0 := (election_copyValue_id p_s.fMin (by omega))
      have e1 := (election_copyValue_id p_s.fMax (by omega))
      have e2 := (election_copyAll_api_Value_id p_s.fEnum (by omega))
      have e3 := (election_copyStrings_id p_s.fRequired (by omega))
      have e4 := (ih.2.1 p_s.fProps (by omega) (by omega))
      have e5 := (ih.2.2.1 p_s.fItems (by omega) (by omega))
      simp only [RB5_F, Q87_T, Mo.den, sbind_eq, sbind2_eq, bcase_eq, gcase_eq, e0, e1, e2, e3, e4, e5, Option.bind_some, List.length_nil]
      all_goals (cases p_s; rfl)
    · intro p_l h_ h2_
      have hl := len_props p_l
      have h1 : Q62_L0 (RB5_F n_) p_l 0 (List.replicate (p_l.length : Int).toNat (GProp.mk ⟨#[]⟩ GSchema.z)) = some p_l := copy_loop p_l (fun x => (RB5_F n_).m4 x) _ _ (by simp) (by omega) (fun x hx => ih.2.2.2 x (by have := mem_prop hx; omega) (by have := mem_prop hx; omega)) (fun k s => by simp only [Q62_L0_T, Mo.den, sbind_eq, sbind2_eq, bcase_eq, gcase_eq])
      simp only [RB5_F, Q62_T, Mo.den, sbind_eq, sbind2_eq, bcase_eq, gcase_eq, h1]
      exact copyAll_fin p_l _ ⟨by omega, by omega, by unfold maxLen; omega⟩
    · intro p_l h_ h2_
      have hl := len_schemas p_l
      have h1 : Q53_L0 (RB5_F n_) p_l 0 (List.replicate (p_l.length : Int).toNat GSchema.z) = some p_l := copy_loop p_l (fun x => (RB5_F n_).m1 x) _ _ (by simp) (by omega) (fun x hx => ih.1 x (by have := mem_schema hx; omega) (by have := mem_schema hx; omega)) (fun k s => by simp only [Q53_L0_T, Mo.den, sbind_eq, sbind2_eq, bcase_eq, gcase_eq])
      simp only [RB5_F, Q53_T, Mo.den, sbind_eq, sbind2_eq, bcase_eq, gcase_eq, h1]
      exact copyAll_fin p_l _ ⟨by omega, by omega, by unfold maxLen; omega⟩
    · intro p_p h_ h2_
      have hbv := bulk_prop p_p
      have := bulk_schema p_p.fSchema
      have e0 := (ih.1 p_p.fSchema (by omega) (by omega))
      simp only [RB5_F, Q126_T, Mo.den, sbind_eq, sbind2_eq, bcase_eq, gcase_eq, e0, Option.bind_some, List.length_nil]
      all_goals (cases p_p; rfl)
theorem election_copySchema_id (p_s : GSchema) (h_ : bulkL p_s.lf1 ≤ 100000000) : Q87 p_s = some p_s := (election_copySchema_ids FU).1 p_s (lt_FU (by omega)) h_
theorem election_copySpace_id (p_d : GSpace) (h_ : bulkL p_d.lf1 ≤ 100000000) : Q109 p_d = some p_d := by
  have hbv := bulk_space p_d
  have := len_indexes p_d.fIndexes
  have := bulk_schema p_d.fSchema
  have e0 := (election_copyAll_api_Index_id p_d.fIndexes (by omega))
  have e1 := (election_copySchema_id p_d.fSchema (by omega))
  simp only [Q109, Q109_T, Mo.den, sbind_eq, sbind2_eq, bcase_eq, gcase_eq, e0, e1, Option.bind_some, List.length_nil]
  all_goals (cases p_d; rfl)
theorem election_copyInts_id (p_l : List Int) (h_ : bulkR (p_l.map lfI) ≤ 100000000) : Q84 p_l = some p_l := by
  have hl := len_ints p_l
  simp only [Q84, Q84_T, Mo.den, sbind_eq, sbind2_eq, bcase_eq, gcase_eq, Option.bind_some, List.length_nil]
  rw [if_pos (by omega)]
  try rfl
theorem election_copyWrite_ids (n_ : Nat) : (∀ p_w : GWrite, 4 * bulkL p_w.lf1 + 0 < n_ → bulkL p_w.lf1 ≤ 100000000 → (RB1_F n_).m1 p_w = some p_w) ∧ (∀ p_l : List GWrite, 4 * bulkR (p_l.map GWrite.lf) + 1 < n_ → bulkR (p_l.map GWrite.lf) ≤ 100000000 → (RB1_F n_).m2 p_l = some p_l) := by
  induction n_ with
  | zero => exact ⟨fun _ h => by omega, fun _ h => by omega⟩
  | succ n_ ih =>
    refine ⟨?_, ?_⟩
    · intro p_w h_ h2_
      have hbv := bulk_write p_w
      have := bulk_val p_w.fBefore
      have := bulk_space p_w.fDef
      have := bulk_val p_w.fDoc
      have := bulk_index p_w.fIndex
      have := bulk_val p_w.fKey
      have := len_ints p_w.fShards
      have := len_writes p_w.fWrites
      have e0 := (election_copyValue_id p_w.fKey (by omega))
      have e1 := (election_copyValue_id p_w.fDoc (by omega))
      have e2 := (election_copyValue_id p_w.fBefore (by omega))
      have e3 := (election_copySpace_id p_w.fDef (by omega))
      have e4 := (election_copyIndex_id p_w.fIndex (by omega))
      have e5 := (ih.2 p_w.fWrites (by omega) (by omega))
      have e6 := (election_copyInts_id p_w.fShards (by omega))
      simp only [RB1_F, Q93_T, Mo.den, sbind_eq, sbind2_eq, bcase_eq, gcase_eq, e0, e1, e2, e3, e4, e5, e6, Option.bind_some, List.length_nil]
      all_goals (cases p_w; rfl)
    · intro p_l h_ h2_
      have hl := len_writes p_l
      have h1 : Q57_L0 (RB1_F n_) p_l 0 (List.replicate (p_l.length : Int).toNat GWrite.z) = some p_l := copy_loop p_l (fun x => (RB1_F n_).m1 x) _ _ (by simp) (by omega) (fun x hx => ih.1 x (by have := mem_write hx; omega) (by have := mem_write hx; omega)) (fun k s => by simp only [Q57_L0_T, Mo.den, sbind_eq, sbind2_eq, bcase_eq, gcase_eq])
      simp only [RB1_F, Q57_T, Mo.den, sbind_eq, sbind2_eq, bcase_eq, gcase_eq, h1]
      exact copyAll_fin p_l _ ⟨by omega, by omega, by unfold maxLen; omega⟩
theorem election_copyWrite_id (p_w : GWrite) (h_ : bulkL p_w.lf1 ≤ 100000000) : Q93 p_w = some p_w := (election_copyWrite_ids FU).1 p_w (lt_FU (by omega)) h_
theorem election_copyEntry_id (p_e : GEntry) (h_ : bulkL p_e.lf1 ≤ 100000000) : Q104 p_e = some p_e := by
  have hbv := bulk_entry p_e
  have := bulk_write p_e.fWrite
  have e0 := (election_copyWrite_id p_e.fWrite (by omega))
  simp only [Q104, Q104_T, Mo.den, sbind_eq, sbind2_eq, bcase_eq, gcase_eq, e0, Option.bind_some, List.length_nil]
  all_goals (cases p_e; rfl)
theorem election_copyAll_api_Entry_id (p_l : List GEntry) (h_ : bulkR (p_l.map GEntry.lf) ≤ 100000000) : Q46 p_l = some p_l := by
  have hl := len_entries p_l
  have h1 : Q46_L0 p_l 0 (List.replicate (p_l.length : Int).toNat (GEntry.mk 0 0 ⟨#[]⟩ 0 GWrite.z)) = some p_l := copy_loop p_l (fun x => Q104 x) _ _ (by simp) (by omega) (fun x hx => election_copyEntry_id x (by have := mem_entry hx; omega)) (fun k s => by simp only [Q46_L0_T, Mo.den, sbind_eq, sbind2_eq, bcase_eq, gcase_eq])
  simp only [Q46, Q46_T, Mo.den, sbind_eq, sbind2_eq, bcase_eq, gcase_eq, h1]
  exact copyAll_fin p_l _ ⟨by omega, by omega, by unfold maxLen; omega⟩
theorem election_copyMember_id (p_m : GMember) (h_ : bulkL p_m.lf1 ≤ 100000000) : Q91 p_m = some p_m := by
  have hbv := bulk_member p_m
  have := len_entries p_m.fLog
  have := len_ints p_m.fMatch
  have := len_ints p_m.fNext
  have e0 := (election_copyAll_api_Entry_id p_m.fLog (by omega))
  have e1 := (election_copyInts_id p_m.fNext (by omega))
  have e2 := (election_copyInts_id p_m.fMatch (by omega))
  simp only [Q91, Q91_T, Mo.den, sbind_eq, sbind2_eq, bcase_eq, gcase_eq, e0, e1, e2, Option.bind_some, List.length_nil]
  all_goals (cases p_m; rfl)
theorem rollback_copyValue_ids (n_ : Nat) : (∀ p_v : GValue, 4 * bulkL p_v.lf1 + 0 < n_ → bulkL p_v.lf1 ≤ 100000000 → (RB7_F n_).m1 p_v = some p_v) ∧ (∀ p_l : List GValue, 4 * bulkR (p_l.map GValue.lf) + 1 < n_ → bulkR (p_l.map GValue.lf) ≤ 100000000 → (RB7_F n_).m2 p_l = some p_l) ∧ (∀ p_l : List GField, 4 * bulkR (p_l.map GField.lf) + 2 < n_ → bulkR (p_l.map GField.lf) ≤ 100000000 → (RB7_F n_).m3 p_l = some p_l) ∧ (∀ p_f : GField, 4 * bulkL p_f.lf1 + 1 < n_ → bulkL p_f.lf1 ≤ 100000000 → (RB7_F n_).m4 p_f = some p_f) := by
  induction n_ with
  | zero => exact ⟨fun _ h => by omega, fun _ h => by omega, fun _ h => by omega, fun _ h => by omega⟩
  | succ n_ ih =>
    refine ⟨?_, ?_, ?_, ?_⟩
    · intro p_v h_ h2_
      have hbv := bulk_val p_v
      have := len_fields p_v.fDoc
      have := len_vals p_v.fList
      have e0 := (ih.2.1 p_v.fList (by omega) (by omega))
      have e1 := (ih.2.2.1 p_v.fDoc (by omega) (by omega))
      simp only [RB7_F, Q73_T, Mo.den, sbind_eq, sbind2_eq, bcase_eq, gcase_eq, e0, e1, Option.bind_some, List.length_nil]
      all_goals (cases p_v; rfl)
    · intro p_l h_ h2_
      have hl := len_vals p_l
      have h1 : Q33_L0 (RB7_F n_) p_l 0 (List.replicate (p_l.length : Int).toNat (GValue.mk 0 0 ⟨#[]⟩ [] [])) = some p_l := copy_loop p_l (fun x => (RB7_F n_).m1 x) _ _ (by simp) (by omega) (fun x hx => ih.1 x (by have := mem_val hx; omega) (by have := mem_val hx; omega)) (fun k s => by simp only [Q33_L0_T, Mo.den, sbind_eq, sbind2_eq, bcase_eq, gcase_eq])
      simp only [RB7_F, Q33_T, Mo.den, sbind_eq, sbind2_eq, bcase_eq, gcase_eq, h1]
      exact copyAll_fin p_l _ ⟨by omega, by omega, by unfold maxLen; omega⟩
    · intro p_l h_ h2_
      have hl := len_fields p_l
      have h1 : Q58_L0 (RB7_F n_) p_l 0 (List.replicate (p_l.length : Int).toNat (GField.mk ⟨#[]⟩ (GValue.mk 0 0 ⟨#[]⟩ [] []))) = some p_l := copy_loop p_l (fun x => (RB7_F n_).m4 x) _ _ (by simp) (by omega) (fun x hx => ih.2.2.2 x (by have := mem_field hx; omega) (by have := mem_field hx; omega)) (fun k s => by simp only [Q58_L0_T, Mo.den, sbind_eq, sbind2_eq, bcase_eq, gcase_eq])
      simp only [RB7_F, Q58_T, Mo.den, sbind_eq, sbind2_eq, bcase_eq, gcase_eq, h1]
      exact copyAll_fin p_l _ ⟨by omega, by omega, by unfold maxLen; omega⟩
    · intro p_f h_ h2_
      have hbv := bulk_field p_f
      have := bulk_val p_f.fValue
      have e0 := (ih.1 p_f.fValue (by omega) (by omega))
      simp only [RB7_F, Q125_T, Mo.den, sbind_eq, sbind2_eq, bcase_eq, gcase_eq, e0, Option.bind_some, List.length_nil]
      all_goals (cases p_f; rfl)
theorem rollback_copyValue_id (p_v : GValue) (h_ : bulkL p_v.lf1 ≤ 100000000) : Q73 p_v = some p_v := (rollback_copyValue_ids FU).1 p_v (lt_FU (by omega)) h_
theorem rollback_copyAll_api_Value_id (p_l : List GValue) (h_ : bulkR (p_l.map GValue.lf) ≤ 100000000) : Q33 p_l = some p_l := (rollback_copyValue_ids FU).2.1 p_l (lt_FU (by omega)) h_
theorem rollback_copyStrings_id (p_l : List ByteArray) (h_ : bulkR (p_l.map lfS) ≤ 100000000) : Q81 p_l = some p_l := by
  have hl := len_strs p_l
  simp only [Q81, Q81_T, Mo.den, sbind_eq, sbind2_eq, bcase_eq, gcase_eq, Option.bind_some, List.length_nil]
  rw [if_pos (by omega)]
  try rfl
theorem rollback_copyOrder_id (p_o : GOrder) (h_ : bulkL p_o.lf1 ≤ 100000000) : Q105 p_o = some p_o := by
  have hbv := bulk_order p_o
  have := len_strs p_o.fPath
  have e0 := (rollback_copyStrings_id p_o.fPath (by omega))
  simp only [Q105, Q105_T, Mo.den, sbind_eq, sbind2_eq, bcase_eq, gcase_eq, e0, Option.bind_some, List.length_nil]
  all_goals (cases p_o; rfl)
theorem rollback_copyAll_api_Order_id (p_l : List GOrder) (h_ : bulkR (p_l.map GOrder.lf) ≤ 100000000) : Q47 p_l = some p_l := by
  have hl := len_orders p_l
  have h1 : Q47_L0 p_l 0 (List.replicate (p_l.length : Int).toNat (GOrder.mk [] false)) = some p_l := copy_loop p_l (fun x => Q105 x) _ _ (by simp) (by omega) (fun x hx => rollback_copyOrder_id x (by have := mem_order hx; omega)) (fun k s => by simp only [Q47_L0_T, Mo.den, sbind_eq, sbind2_eq, bcase_eq, gcase_eq])
  simp only [Q47, Q47_T, Mo.den, sbind_eq, sbind2_eq, bcase_eq, gcase_eq, h1]
  exact copyAll_fin p_l _ ⟨by omega, by omega, by unfold maxLen; omega⟩
theorem rollback_copyExpr_ids (n_ : Nat) : (∀ p_e : GExpr, 4 * bulkL p_e.lf1 + 0 < n_ → bulkL p_e.lf1 ≤ 100000000 → (RB9_F n_).m1 p_e = some p_e) ∧ (∀ p_l : List GExpr, 4 * bulkR (p_l.map GExpr.lf) + 1 < n_ → bulkR (p_l.map GExpr.lf) ≤ 100000000 → (RB9_F n_).m2 p_l = some p_l) := by
  induction n_ with
  | zero => exact ⟨fun _ h => by omega, fun _ h => by omega⟩
  | succ n_ ih =>
    refine ⟨?_, ?_⟩
    · intro p_e h_ h2_
      have hbv := bulk_expr p_e
      have := bulk_val p_e.fArg
      have := len_exprs p_e.fKids
      have := len_strs p_e.fNames
      have := len_strs p_e.fPath
      have e0 := (rollback_copyStrings_id p_e.fPath (by omega))
      have e1 := (rollback_copyStrings_id p_e.fNames (by omega))
      have e2 := (rollback_copyValue_id p_e.fArg (by omega))
      have e3 := (ih.2 p_e.fKids (by omega) (by omega))
      simp only [RB9_F, Q99_T, Mo.den, sbind_eq, sbind2_eq, bcase_eq, gcase_eq, e0, e1, e2, e3, Option.bind_some, List.length_nil]
      all_goals (cases p_e; rfl)
    · intro p_l h_ h2_
      have hl := len_exprs p_l
      have h1 : Q63_L0 (RB9_F n_) p_l 0 (List.replicate (p_l.length : Int).toNat GExpr.z) = some p_l := copy_loop p_l (fun x => (RB9_F n_).m1 x) _ _ (by simp) (by omega) (fun x hx => ih.1 x (by have := mem_expr hx; omega) (by have := mem_expr hx; omega)) (fun k s => by simp only [Q63_L0_T, Mo.den, sbind_eq, sbind2_eq, bcase_eq, gcase_eq])
      simp only [RB9_F, Q63_T, Mo.den, sbind_eq, sbind2_eq, bcase_eq, gcase_eq, h1]
      exact copyAll_fin p_l _ ⟨by omega, by omega, by unfold maxLen; omega⟩
theorem rollback_copyExpr_id (p_e : GExpr) (h_ : bulkL p_e.lf1 ≤ 100000000) : Q99 p_e = some p_e := (rollback_copyExpr_ids FU).1 p_e (lt_FU (by omega)) h_
theorem rollback_copyPred_ids (n_ : Nat) : (∀ p_p : GPred, 4 * bulkL p_p.lf1 + 0 < n_ → bulkL p_p.lf1 ≤ 100000000 → (RB8_F n_).m1 p_p = some p_p) ∧ (∀ p_l : List GPred, 4 * bulkR (p_l.map GPred.lf) + 1 < n_ → bulkR (p_l.map GPred.lf) ≤ 100000000 → (RB8_F n_).m2 p_l = some p_l) := by
  induction n_ with
  | zero => exact ⟨fun _ h => by omega, fun _ h => by omega⟩
  | succ n_ ih =>
    refine ⟨?_, ?_⟩
    · intro p_p h_ h2_
      have hbv := bulk_pred p_p
      have := bulk_val p_p.fArg
      have := len_vals p_p.fArgs
      have := bulk_expr p_p.fExpr
      have := len_preds p_p.fKids
      have := len_strs p_p.fPath
      have := bulk_shape p_p.fShape
      have := len_points p_p.fShape.fPoints
      have := len_points p_p.fShape.fPoints
      have e0 := (rollback_copyStrings_id p_p.fPath (by omega))
      have e1 := (rollback_copyValue_id p_p.fArg (by omega))
      have e2 := (rollback_copyAll_api_Value_id p_p.fArgs (by omega))
      have e3 := (rollback_copyExpr_id p_p.fExpr (by omega))
      have e4 := (ih.2 p_p.fKids (by omega) (by omega))
      simp only [RB8_F, Q100_T, Mo.den, sbind_eq, sbind2_eq, bcase_eq, gcase_eq, e0, e1, e2, e3, e4, Option.bind_some, List.length_nil]
      rw [if_pos (by omega)]
      all_goals (cases p_p; rfl)
    · intro p_l h_ h2_
      have hl := len_preds p_l
      have h1 : Q64_L0 (RB8_F n_) p_l 0 (List.replicate (p_l.length : Int).toNat GPred.z) = some p_l := copy_loop p_l (fun x => (RB8_F n_).m1 x) _ _ (by simp) (by omega) (fun x hx => ih.1 x (by have := mem_pred hx; omega) (by have := mem_pred hx; omega)) (fun k s => by simp only [Q64_L0_T, Mo.den, sbind_eq, sbind2_eq, bcase_eq, gcase_eq])
      simp only [RB8_F, Q64_T, Mo.den, sbind_eq, sbind2_eq, bcase_eq, gcase_eq, h1]
      exact copyAll_fin p_l _ ⟨by omega, by omega, by unfold maxLen; omega⟩
theorem rollback_copyPred_id (p_p : GPred) (h_ : bulkL p_p.lf1 ≤ 100000000) : Q100 p_p = some p_p := (rollback_copyPred_ids FU).1 p_p (lt_FU (by omega)) h_
theorem rollback_copyIndex_id (p_x : GIndex) (h_ : bulkL p_x.lf1 ≤ 100000000) : Q88 p_x = some p_x := by
  have hbv := bulk_index p_x
  have := len_orders p_x.fKeys
  have := bulk_pred p_x.fWhere
  have e0 := (rollback_copyAll_api_Order_id p_x.fKeys (by omega))
  have e1 := (rollback_copyPred_id p_x.fWhere (by omega))
  simp only [Q88, Q88_T, Mo.den, sbind_eq, sbind2_eq, bcase_eq, gcase_eq, e0, e1, Option.bind_some, List.length_nil]
  all_goals (cases p_x; rfl)
theorem rollback_copyAll_api_Index_id (p_l : List GIndex) (h_ : bulkR (p_l.map GIndex.lf) ≤ 100000000) : Q48 p_l = some p_l := by
  have hl := len_indexes p_l
  have h1 : Q48_L0 p_l 0 (List.replicate (p_l.length : Int).toNat GIndex.z) = some p_l := copy_loop p_l (fun x => Q88 x) _ _ (by simp) (by omega) (fun x hx => rollback_copyIndex_id x (by have := mem_index hx; omega)) (fun k s => by simp only [Q48_L0_T, Mo.den, sbind_eq, sbind2_eq, bcase_eq, gcase_eq])
  simp only [Q48, Q48_T, Mo.den, sbind_eq, sbind2_eq, bcase_eq, gcase_eq, h1]
  exact copyAll_fin p_l _ ⟨by omega, by omega, by unfold maxLen; omega⟩
theorem rollback_copySchema_ids (n_ : Nat) : (∀ p_s : GSchema, 4 * bulkL p_s.lf1 + 0 < n_ → bulkL p_s.lf1 ≤ 100000000 → (RB10_F n_).m1 p_s = some p_s) ∧ (∀ p_l : List GProp, 4 * bulkR (p_l.map GProp.lf) + 2 < n_ → bulkR (p_l.map GProp.lf) ≤ 100000000 → (RB10_F n_).m2 p_l = some p_l) ∧ (∀ p_l : List GSchema, 4 * bulkR (p_l.map GSchema.lf) + 1 < n_ → bulkR (p_l.map GSchema.lf) ≤ 100000000 → (RB10_F n_).m3 p_l = some p_l) ∧ (∀ p_p : GProp, 4 * bulkL p_p.lf1 + 1 < n_ → bulkL p_p.lf1 ≤ 100000000 → (RB10_F n_).m4 p_p = some p_p) := by
  induction n_ with
  | zero => exact ⟨fun _ h => by omega, fun _ h => by omega, fun _ h => by omega, fun _ h => by omega⟩
  | succ n_ ih =>
    refine ⟨?_, ?_, ?_, ?_⟩
    · intro p_s h_ h2_
      have hbv := bulk_schema p_s
      have := len_vals p_s.fEnum
      have := len_schemas p_s.fItems
      have := bulk_val p_s.fMax
      have := bulk_val p_s.fMin
      have := len_props p_s.fProps
      have := len_strs p_s.fRequired
      have e0 := (rollback_copyValue_id p_s.fMin (by omega))
      have e1 := (rollback_copyValue_id p_s.fMax (by omega))
      have e2 := (rollback_copyAll_api_Value_id p_s.fEnum (by omega))
      have e3 := (rollback_copyStrings_id p_s.fRequired (by omega))
      have e4 := (ih.2.1 p_s.fProps (by omega) (by omega))
      have e5 := (ih.2.2.1 p_s.fItems (by omega) (by omega))
      simp only [RB10_F, Q89_T, Mo.den, sbind_eq, sbind2_eq, bcase_eq, gcase_eq, e0, e1, e2, e3, e4, e5, Option.bind_some, List.length_nil]
      all_goals (cases p_s; rfl)
    · intro p_l h_ h2_
      have hl := len_props p_l
      have h1 : Q65_L0 (RB10_F n_) p_l 0 (List.replicate (p_l.length : Int).toNat (GProp.mk ⟨#[]⟩ GSchema.z)) = some p_l := copy_loop p_l (fun x => (RB10_F n_).m4 x) _ _ (by simp) (by omega) (fun x hx => ih.2.2.2 x (by have := mem_prop hx; omega) (by have := mem_prop hx; omega)) (fun k s => by simp only [Q65_L0_T, Mo.den, sbind_eq, sbind2_eq, bcase_eq, gcase_eq])
      simp only [RB10_F, Q65_T, Mo.den, sbind_eq, sbind2_eq, bcase_eq, gcase_eq, h1]
      exact copyAll_fin p_l _ ⟨by omega, by omega, by unfold maxLen; omega⟩
    · intro p_l h_ h2_
      have hl := len_schemas p_l
      have h1 : Q54_L0 (RB10_F n_) p_l 0 (List.replicate (p_l.length : Int).toNat GSchema.z) = some p_l := copy_loop p_l (fun x => (RB10_F n_).m1 x) _ _ (by simp) (by omega) (fun x hx => ih.1 x (by have := mem_schema hx; omega) (by have := mem_schema hx; omega)) (fun k s => by simp only [Q54_L0_T, Mo.den, sbind_eq, sbind2_eq, bcase_eq, gcase_eq])
      simp only [RB10_F, Q54_T, Mo.den, sbind_eq, sbind2_eq, bcase_eq, gcase_eq, h1]
      exact copyAll_fin p_l _ ⟨by omega, by omega, by unfold maxLen; omega⟩
    · intro p_p h_ h2_
      have hbv := bulk_prop p_p
      have := bulk_schema p_p.fSchema
      have e0 := (ih.1 p_p.fSchema (by omega) (by omega))
      simp only [RB10_F, Q127_T, Mo.den, sbind_eq, sbind2_eq, bcase_eq, gcase_eq, e0, Option.bind_some, List.length_nil]
      all_goals (cases p_p; rfl)
theorem rollback_copySchema_id (p_s : GSchema) (h_ : bulkL p_s.lf1 ≤ 100000000) : Q89 p_s = some p_s := (rollback_copySchema_ids FU).1 p_s (lt_FU (by omega)) h_
theorem rollback_copySpace_id (p_d : GSpace) (h_ : bulkL p_d.lf1 ≤ 100000000) : Q111 p_d = some p_d := by
  have hbv := bulk_space p_d
  have := len_indexes p_d.fIndexes
  have := bulk_schema p_d.fSchema
  have e0 := (rollback_copyAll_api_Index_id p_d.fIndexes (by omega))
  have e1 := (rollback_copySchema_id p_d.fSchema (by omega))
  simp only [Q111, Q111_T, Mo.den, sbind_eq, sbind2_eq, bcase_eq, gcase_eq, e0, e1, Option.bind_some, List.length_nil]
  all_goals (cases p_d; rfl)
theorem rollback_copyInts_id (p_l : List Int) (h_ : bulkR (p_l.map lfI) ≤ 100000000) : Q85 p_l = some p_l := by
  have hl := len_ints p_l
  simp only [Q85, Q85_T, Mo.den, sbind_eq, sbind2_eq, bcase_eq, gcase_eq, Option.bind_some, List.length_nil]
  rw [if_pos (by omega)]
  try rfl
theorem rollback_copyWrite_ids (n_ : Nat) : (∀ p_w : GWrite, 4 * bulkL p_w.lf1 + 0 < n_ → bulkL p_w.lf1 ≤ 100000000 → (RB6_F n_).m1 p_w = some p_w) ∧ (∀ p_l : List GWrite, 4 * bulkR (p_l.map GWrite.lf) + 1 < n_ → bulkR (p_l.map GWrite.lf) ≤ 100000000 → (RB6_F n_).m2 p_l = some p_l) := by
  induction n_ with
  | zero => exact ⟨fun _ h => by omega, fun _ h => by omega⟩
  | succ n_ ih =>
    refine ⟨?_, ?_⟩
    · intro p_w h_ h2_
      have hbv := bulk_write p_w
      have := bulk_val p_w.fBefore
      have := bulk_space p_w.fDef
      have := bulk_val p_w.fDoc
      have := bulk_index p_w.fIndex
      have := bulk_val p_w.fKey
      have := len_ints p_w.fShards
      have := len_writes p_w.fWrites
      have e0 := (rollback_copyValue_id p_w.fKey (by omega))
      have e1 := (rollback_copyValue_id p_w.fDoc (by omega))
      have e2 := (rollback_copyValue_id p_w.fBefore (by omega))
      have e3 := (rollback_copySpace_id p_w.fDef (by omega))
      have e4 := (rollback_copyIndex_id p_w.fIndex (by omega))
      have e5 := (ih.2 p_w.fWrites (by omega) (by omega))
      have e6 := (rollback_copyInts_id p_w.fShards (by omega))
      simp only [RB6_F, Q94_T, Mo.den, sbind_eq, sbind2_eq, bcase_eq, gcase_eq, e0, e1, e2, e3, e4, e5, e6, Option.bind_some, List.length_nil]
      all_goals (cases p_w; rfl)
    · intro p_l h_ h2_
      have hl := len_writes p_l
      have h1 : Q59_L0 (RB6_F n_) p_l 0 (List.replicate (p_l.length : Int).toNat GWrite.z) = some p_l := copy_loop p_l (fun x => (RB6_F n_).m1 x) _ _ (by simp) (by omega) (fun x hx => ih.1 x (by have := mem_write hx; omega) (by have := mem_write hx; omega)) (fun k s => by simp only [Q59_L0_T, Mo.den, sbind_eq, sbind2_eq, bcase_eq, gcase_eq])
      simp only [RB6_F, Q59_T, Mo.den, sbind_eq, sbind2_eq, bcase_eq, gcase_eq, h1]
      exact copyAll_fin p_l _ ⟨by omega, by omega, by unfold maxLen; omega⟩
theorem rollback_copyWrite_id (p_w : GWrite) (h_ : bulkL p_w.lf1 ≤ 100000000) : Q94 p_w = some p_w := (rollback_copyWrite_ids FU).1 p_w (lt_FU (by omega)) h_
theorem rollback_copyEntry_id (p_e : GEntry) (h_ : bulkL p_e.lf1 ≤ 100000000) : Q106 p_e = some p_e := by
  have hbv := bulk_entry p_e
  have := bulk_write p_e.fWrite
  have e0 := (rollback_copyWrite_id p_e.fWrite (by omega))
  simp only [Q106, Q106_T, Mo.den, sbind_eq, sbind2_eq, bcase_eq, gcase_eq, e0, Option.bind_some, List.length_nil]
  all_goals (cases p_e; rfl)
theorem rollback_copyAll_api_Entry_id (p_l : List GEntry) (h_ : bulkR (p_l.map GEntry.lf) ≤ 100000000) : Q36 p_l = some p_l := by
  have hl := len_entries p_l
  have h1 : Q36_L0 p_l 0 (List.replicate (p_l.length : Int).toNat (GEntry.mk 0 0 ⟨#[]⟩ 0 GWrite.z)) = some p_l := copy_loop p_l (fun x => Q106 x) _ _ (by simp) (by omega) (fun x hx => rollback_copyEntry_id x (by have := mem_entry hx; omega)) (fun k s => by simp only [Q36_L0_T, Mo.den, sbind_eq, sbind2_eq, bcase_eq, gcase_eq])
  simp only [Q36, Q36_T, Mo.den, sbind_eq, sbind2_eq, bcase_eq, gcase_eq, h1]
  exact copyAll_fin p_l _ ⟨by omega, by omega, by unfold maxLen; omega⟩
theorem rollback_copyMember_id (p_m : GMember) (h_ : bulkL p_m.lf1 ≤ 100000000) : Q101 p_m = some p_m := by
  have hbv := bulk_member p_m
  have := len_entries p_m.fLog
  have := len_ints p_m.fMatch
  have := len_ints p_m.fNext
  have e0 := (rollback_copyAll_api_Entry_id p_m.fLog (by omega))
  have e1 := (rollback_copyInts_id p_m.fNext (by omega))
  have e2 := (rollback_copyInts_id p_m.fMatch (by omega))
  simp only [Q101, Q101_T, Mo.den, sbind_eq, sbind2_eq, bcase_eq, gcase_eq, e0, e1, e2, Option.bind_some, List.length_nil]
  all_goals (cases p_m; rfl)
end Go.Proofs.YtdnafbfmaphhhaaGreatDoor
set_option linter.unusedSimpArgs false
set_option linter.unusedVariables false
namespace Go.Proofs.YtdnafbfmaphhhaaGreatDoor
open Go.RowKit
mutual
noncomputable def wrF : Lf → ByteArray
  | .int _ n => numE n
  | .str s => numE (s.size : Int) ++ s
  | .bool b => if b then ⟨#[1]⟩ else ⟨#[0]⟩
  | .rows _ l => numE (l.length : Int) ++ wrQ l
noncomputable def wrQ : List (List Lf) → ByteArray
  | [] => ByteArray.empty
  | r :: q => wrL r ++ wrQ q
noncomputable def wrL : List Lf → ByteArray
  | [] => ByteArray.empty
  | x :: r => wrF x ++ wrL r
end
theorem wrL_app (r s : List Lf) : wrL (r ++ s) = wrL r ++ wrL s := by
  induction r with
  | nil => simp [wrL]
  | cons x r ih => simp only [List.cons_append, wrL, ih, ByteArray.append_assoc]
theorem size1 (b : UInt8) : (⟨#[b]⟩ : ByteArray).size = 1 := rfl
mutual
theorem wrF_le : ∀ x : Lf, (wrF x).size ≤ 12 * x.bulk
  | .int _ n => by have := numE_size n; simp only [wrF, Lf.bulk]; omega
  | .str s => by have := numE_size (s.size : Int); simp only [wrF, Lf.bulk, ByteArray.size_append]; omega
  | .bool b => by cases b <;> simp [wrF, Lf.bulk, size1]
  | .rows _ l => by have := numE_size (l.length : Int); have := wrQ_le l; simp only [wrF, Lf.bulk, ByteArray.size_append]; omega
theorem wrQ_le : ∀ l : List (List Lf), (wrQ l).size ≤ 12 * bulkR l
  | [] => by simp [wrQ, bulkR]
  | r :: q => by have := wrL_le r; have := wrQ_le q; simp only [wrQ, bulkR, ByteArray.size_append]; omega
theorem wrL_le : ∀ l : List Lf, (wrL l).size ≤ 12 * bulkL l
  | [] => by simp [wrL, bulkL]
  | x :: r => by have := wrF_le x; have := wrL_le r; simp only [wrL, bulkL, ByteArray.size_append]; omega
end
/-- m appends s -/
def Ap (m : GRef40Out → Option GRef40Out) (s : ByteArray) : Prop := ∀ b, b.fRaw = true → b.fS.size + s.size ≤ 4611686018427387904 → m b = some ⟨b.fS ++ s, b.fBad, b.fRaw⟩
theorem Ap.bind {m k : GRef40Out → Option GRef40Out} {s t : ByteArray} (h : Ap m s) (h2 : Ap k t) : Ap (fun b => (m b).bind k) (s ++ t) := by
  intro b hb hs
  rw [ByteArray.size_append] at hs
  show (m b).bind k = _
  rw [h b hb (by omega), Option.bind_some]
  refine (h2 ⟨b.fS ++ s, b.fBad, b.fRaw⟩ hb (by simp only [ByteArray.size_append]; omega)).trans ?_
  simp only [ByteArray.append_assoc]
theorem Ap.to {m : GRef40Out → Option GRef40Out} {s t : ByteArray} (h : Ap m s) (e : s = t) : Ap m t := e ▸ h
theorem Ap.nil : Ap some ByteArray.empty := fun b _ _ => by rw [ByteArray.append_empty]
theorem Ap.of {m k : GRef40Out → Option GRef40Out} {s : ByteArray} (h : Ap k s) (e : ∀ b, b.fRaw = true → m b = k b) : Ap m s := fun b hb hs => by rw [e b hb]; exact h b hb hs
theorem Ap.loop {α : Type} (f : α → List Lf) (l : List α) (g : α → GRef40Out → Option GRef40Out) (T : Int × GRef40Out → Option ((Int × GRef40Out) ⊕ GRef40Out)) (hl : l.length ≤ 1000000000)
    (hg : ∀ x ∈ l, Ap (g x) (wrL (f x)))
    (hT : ∀ (k : Nat) s, (∀ x, l[k]? = some x → T ((k : Int), s) = (g x s).bind fun r => some (.inl (IntKind.wrap .i64 ((k : Int) + 1), r))) ∧ (l[k]? = none → T ((k : Int), s) = some (.inr s))) :
    Ap (fun b => loopM T FU (0, b)) (wrQ (l.map f)) := by
  intro b hb hs
  have key : ∀ (m : List α) (k : Nat) (b : GRef40Out) (n : Nat), l.drop k = m → m.length < n → b.fRaw = true → b.fS.size + (wrQ (m.map f)).size ≤ 4611686018427387904 →
      loopM T n ((k : Int), b) = some ⟨b.fS ++ wrQ (m.map f), b.fBad, b.fRaw⟩ := by
    intro m
    induction m with
    | nil =>
      intro k b n hd hn hb hs
      obtain ⟨n, rfl⟩ : ∃ j, n = j + 1 := ⟨n - 1, by simp at hn; omega⟩
      have h1 : l[k]? = none := by
        have := congrArg List.length hd
        simp only [List.length_drop, List.length_nil] at this
        rw [List.getElem?_eq_none]; omega
      unfold loopM
      rw [(hT k b).2 h1]
      simp only [List.map_nil, wrQ, ByteArray.append_empty, Option.bind_some]
    | cons x m ih =>
      intro k b n hd hn hb hs
      obtain ⟨n, rfl⟩ : ∃ j, n = j + 1 := ⟨n - 1, by simp at hn; omega⟩
      have h1 : l[k]? = some x := by rw [← List.head?_drop, hd]; rfl
      have h2 : l.drop (k + 1) = m := by rw [← List.tail_drop, hd]; rfl
      have hk : k < l.length := (List.getElem?_eq_some_iff.1 h1).1
      simp only [List.map_cons, wrQ, ByteArray.size_append] at hs
      unfold loopM
      rw [(hT k b).1 x h1, hg x (List.mem_of_getElem? h1) b hb (by omega)]
      simp only [Option.bind_some]
      rw [inc k (by omega)]
      refine (ih (k + 1) ⟨b.fS ++ wrL (f x), b.fBad, b.fRaw⟩ n h2 (by simp at hn; omega) hb (by simp only [ByteArray.size_append]; omega)).trans ?_
      simp only [List.map_cons, wrQ, ByteArray.append_assoc]
  exact key l 0 b FU rfl (lt_FU (by omega)) hb hs
theorem Ap_num (n : Int) : Ap (Q10 n) (numE n) := by
  intro b _ hs
  unfold Q10 Q10_T
  simp only [Mo.den, sbind_eq, gcase_eq, Num_val, Option.bind_some]
  rw [if_pos (by omega)]
theorem Ap_str (s : ByteArray) : Ap (Q55 s) (numE (s.size : Int) ++ s) := by
  intro b hb hs
  rw [ByteArray.size_append] at hs
  unfold Q55 Q55_T
  simp only [Mo.den, sbind_eq, gcase_eq]
  rw [Ap_num _ b hb (by omega)]
  simp only [Option.bind_some, ByteArray.size_append]
  rw [if_pos (by omega)]
  simp only [ByteArray.append_assoc]
theorem Ap_flag (c : Bool) : Ap (Q68 c) (wrF (.bool c)) := by
  intro b hb hs
  unfold Q68 Q68_T
  simp only [Mo.den, sbind_eq, bcase_eq, gcase_eq, size1]
  cases c
  · simp only [wrF, cond_false, Bool.false_eq_true, if_false, size1] at hs ⊢; rw [if_pos (by omega)]
  · simp only [wrF, cond_true, if_true, size1] at hs ⊢; rw [if_pos (by omega)]
theorem loop_case {α : Type} (l : List α) (k : Nat) : (∀ x, l[k]? = some x → decide ((k : Int) < (l.length : Int)) = true ∧ gidx l (k : Int) = some x) ∧ (l[k]? = none → decide ((k : Int) < (l.length : Int)) = false) := by
  refine ⟨fun x h => ?_, fun h => ?_⟩
  · have := (List.getElem?_eq_some_iff.1 h).1
    exact ⟨iLt this, by rw [gidx_nat, h]⟩
  · rw [List.getElem?_eq_none_iff] at h
    exact iNlt (by omega)
theorem Ap.of' {m k : GRef40Out → Option GRef40Out} {s t : ByteArray} (e : ∀ b, b.fRaw = true → m b = k b) (h : Ap k s) (hs : s = t) : Ap m t := hs ▸ Ap.of h e
theorem Ap_strs (l : List ByteArray) (hl : l.length ≤ 1000000000) : Ap (Q28 l) (wrF (.rows 1 (l.map lfS))) := by
  have hL : Ap (Q28_L0 l 0) (wrQ (l.map lfS)) := by
    refine Ap.of' (fun b hb => by unfold Q28_L0; rfl) (Ap.loop lfS l Q55 _ hl (fun x _ => (Ap_str x).to (by simp only [lfS, wrL, wrF, ByteArray.append_empty])) fun k s => ⟨fun x h => ?_, fun h => ?_⟩) rfl
    · obtain ⟨h1, h2⟩ := (loop_case l k).1 x h
      simp only [Q28_L0_T, Mo.den, sbind_eq, bcase_eq, h1, h2, cond_true, Option.bind_some]
    · simp only [Q28_L0_T, Mo.den, sbind_eq, bcase_eq, (loop_case l k).2 h, cond_false]
  refine Ap.of' (fun b hb => ?_) (Ap.bind (Ap_num (l.length : Int)) (Ap.bind hL Ap.nil)) ?_
  · simp only [Q28, Q28_T, Mo.den, sbind_eq]
  · simp only [wrF, List.length_map, ByteArray.append_empty]
end Go.Proofs.YtdnafbfmaphhhaaGreatDoor
set_option linter.unusedSimpArgs false
set_option linter.unusedVariables false
namespace Go.Proofs.YtdnafbfmaphhhaaGreatDoor
open Go.RowKit
theorem Ap_shape (x : GShape) (hb : bulkL x.lf1 ≤ 100000000) : Ap (Q50 x) (wrL x.lf1) := by
  have hl := len_points x.fPoints
  rw [bulk_shape] at hb
  have hL : Ap (Q50_L0 x 0) (wrQ (x.fPoints.map GPoint.lf)) := by
    refine Ap.of' (fun b hb => by unfold Q50_L0; rfl) (Ap.loop GPoint.lf x.fPoints (fun p b => (Q10 p.fX b).bind fun r => Q10 p.fY r) _ (by omega) (fun x hx => (Ap.bind (Ap_num _) (Ap_num _)).to (by simp only [GPoint.lf, GPoint.lf1, wrL, wrF, ByteArray.append_empty])) fun k s => ⟨fun y h => ?_, fun h => ?_⟩) rfl
    · obtain ⟨h1, h2⟩ := (loop_case x.fPoints k).1 y h
      simp only [Q50_L0_T, Mo.den, sbind_eq, bcase_eq, h1, h2, cond_true, Option.bind_some, Option.bind_assoc]
    · simp only [Q50_L0_T, Mo.den, sbind_eq, bcase_eq, (loop_case x.fPoints k).2 h, cond_false]
  refine Ap.of' (fun b hb => ?_) (Ap.bind (Ap_num (x.fKind)) (Ap.bind (Ap_num ((x.fPoints.length : Int))) (Ap.bind hL (Ap.bind (Ap_num (x.fR)) Ap.nil)))) ?_
  · simp only [Q50, Q50_T, Mo.den, sbind_eq, bcase_eq]
  · simp only [GShape.lf1, wrL, wrF, List.length_map, ByteArray.append_empty, ByteArray.append_assoc]
theorem Ap_val2 : ∀ n, (∀ v : GValue, 2 * bulkL v.lf1 < n → bulkL v.lf1 ≤ 100000000 → Ap ((RB12_F n).m1 v) (wrL v.lf1)) ∧ ∀ l : List GValue, 2 * bulkR (l.map GValue.lf) + 1 < n → bulkR (l.map GValue.lf) ≤ 100000000 → Ap ((RB12_F n).m2 l) (wrF (.rows 5 (l.map GValue.lf)))
  | 0 => ⟨fun v h => by omega, fun l h => by omega⟩
  | n + 1 => by
    have ih := Ap_val2 n
    refine ⟨fun x h hb => ?_, fun l h hb => ?_⟩
    · have hl := len_fields x.fDoc
      rw [bulk_val] at h hb
      have hL : Ap (Q15_L0 (RB12_F n) x 0) (wrQ (x.fDoc.map GField.lf)) := by
        refine Ap.of' (fun b hb => by unfold Q15_L0; rfl) (Ap.loop GField.lf x.fDoc (fun p b => (Q55 p.fName b).bind fun r => (RB12_F n).m1 p.fValue r) _ (by omega) (fun x hx => by have h1 := mem_field hx; rw [bulk_field] at h1; exact (Ap.bind (Ap_str _) (ih.1 _ (by omega) (by omega))).to (by rw [GField.lf_eq]; simp only [GField.lf1, wrL_app, wrL, wrF, ByteArray.append_empty])) fun k s => ⟨fun y h => ?_, fun h => ?_⟩) rfl
        · obtain ⟨h1, h2⟩ := (loop_case x.fDoc k).1 y h
          simp only [Q15_L0_T, Mo.den, sbind_eq, bcase_eq, h1, h2, cond_true, Option.bind_some, Option.bind_assoc]
        · simp only [Q15_L0_T, Mo.den, sbind_eq, bcase_eq, (loop_case x.fDoc k).2 h, cond_false]
      refine Ap.of' (fun b hr => ?_) (Ap.bind (Ap_num (x.fKind)) (Ap.bind (Ap_num (x.fInt)) (Ap.bind (Ap_str (x.fText)) (Ap.bind (ih.2 x.fList (by omega) (by omega)) (Ap.bind (Ap_num ((x.fDoc.length : Int))) (Ap.bind hL Ap.nil)))))) ?_
      · simp only [RB12_F, Q15_T, Mo.den, sbind_eq, bcase_eq, hr, cond_true]
      · simp only [GValue.lf1, wrL, wrF, List.length_map, ByteArray.append_empty, ByteArray.append_assoc]
    · have hl := len_vals l
      have hL : Ap (Q34_L0 (RB12_F n) l 0) (wrQ (l.map GValue.lf)) := by
        refine Ap.of' (fun b hb => by unfold Q34_L0; rfl) (Ap.loop GValue.lf l (fun p b => (RB12_F n).m1 p b) _ (by omega) (fun x hx => by have h1 := mem_val hx; exact (ih.1 _ (by omega) (by omega)).to (by rw [GValue.lf_eq])) fun k s => ⟨fun y h => ?_, fun h => ?_⟩) rfl
        · obtain ⟨h1, h2⟩ := (loop_case l k).1 y h
          simp only [Q34_L0_T, Mo.den, sbind_eq, bcase_eq, h1, h2, cond_true, Option.bind_some, Option.bind_assoc]
        · simp only [Q34_L0_T, Mo.den, sbind_eq, bcase_eq, (loop_case l k).2 h, cond_false]
      refine Ap.of' (fun b hr => ?_) (Ap.bind (Ap_num ((l.length : Int))) (Ap.bind hL Ap.nil)) ?_
      · simp only [RB12_F, Q34_T, Mo.den, sbind_eq, bcase_eq]
      · simp only [wrF, List.length_map, ByteArray.append_empty]
theorem Ap_value (v : GValue) (hb : bulkL v.lf1 ≤ 100000000) : Ap (Q15 v) (wrL v.lf1) := (Ap_val2 FU).1 v (lt_FU (by omega)) hb
theorem Ap_values (l : List GValue) (hb : bulkR (l.map GValue.lf) ≤ 100000000) : Ap (Q34 l) (wrF (.rows 5 (l.map GValue.lf))) := (Ap_val2 FU).2 l (lt_FU (by omega)) hb
theorem Ap_expr2 (n : Nat) : ∀ x : GExpr, bulkL x.lf1 < n → bulkL x.lf1 ≤ 100000000 → Ap ((RB18_F n).m1 x) (wrL x.lf1) := by
  induction n with
  | zero => intro x h _; omega
  | succ n ih =>
    intro x h hb
    have hl := len_exprs x.fKids
    have hl1 := len_strs x.fPath
    have hl2 := len_strs x.fNames
    rw [bulk_expr] at h hb
    have hL : Ap (Q42_L0 (RB18_F n) x 0) (wrQ (x.fKids.map GExpr.lf)) := by
      refine Ap.of' (fun b hb => by unfold Q42_L0; rfl) (Ap.loop GExpr.lf x.fKids (fun p b => (RB18_F n).m1 p b) _ (by omega) (fun x hx => by have h1 := mem_expr hx; exact (ih _ (by omega) (by omega)).to (by rw [GExpr.lf_eq])) fun k s => ⟨fun y h => ?_, fun h => ?_⟩) rfl
      · obtain ⟨h1, h2⟩ := (loop_case x.fKids k).1 y h
        simp only [Q42_L0_T, Mo.den, sbind_eq, bcase_eq, h1, h2, cond_true, Option.bind_some, Option.bind_assoc]
      · simp only [Q42_L0_T, Mo.den, sbind_eq, bcase_eq, (loop_case x.fKids k).2 h, cond_false]
    refine Ap.of' (fun b hr => ?_) (Ap.bind (Ap_num (x.fOp)) (Ap.bind (Ap_strs (x.fPath) (by omega)) (Ap.bind (Ap_str (x.fName)) (Ap.bind (Ap_strs (x.fNames) (by omega)) (Ap.bind (Ap_value (x.fArg) (by omega)) (Ap.bind (Ap_num (x.fN)) (Ap.bind (Ap_num ((x.fKids.length : Int))) (Ap.bind hL Ap.nil)))))))) ?_
    · simp only [RB18_F, Q42_T, Mo.den, sbind_eq, bcase_eq]
    · simp only [GExpr.lf1, wrL_app, wrL, wrF, List.length_map, ByteArray.append_empty, ByteArray.append_assoc]
theorem Ap_expr (v : GExpr) (hb : bulkL v.lf1 ≤ 100000000) : Ap (Q42 v) (wrL v.lf1) := Ap_expr2 FU v (lt_FU (by omega)) hb
theorem Ap_pred2 (n : Nat) : ∀ x : GPred, bulkL x.lf1 < n → bulkL x.lf1 ≤ 100000000 → Ap ((RB17_F n).m1 x) (wrL x.lf1) := by
  induction n with
  | zero => intro x h _; omega
  | succ n ih =>
    intro x h hb
    have hl := len_preds x.fKids
    have hl1 := len_strs x.fPath
    rw [bulk_pred] at h hb
    have hL : Ap (Q43_L0 (RB17_F n) x 0) (wrQ (x.fKids.map GPred.lf)) := by
      refine Ap.of' (fun b hb => by unfold Q43_L0; rfl) (Ap.loop GPred.lf x.fKids (fun p b => (RB17_F n).m1 p b) _ (by omega) (fun x hx => by have h1 := mem_pred hx; exact (ih _ (by omega) (by omega)).to (by rw [GPred.lf_eq])) fun k s => ⟨fun y h => ?_, fun h => ?_⟩) rfl
      · obtain ⟨h1, h2⟩ := (loop_case x.fKids k).1 y h
        simp only [Q43_L0_T, Mo.den, sbind_eq, bcase_eq, h1, h2, cond_true, Option.bind_some, Option.bind_assoc]
      · simp only [Q43_L0_T, Mo.den, sbind_eq, bcase_eq, (loop_case x.fKids k).2 h, cond_false]
    refine Ap.of' (fun b hr => ?_) (Ap.bind (Ap_num (x.fOp)) (Ap.bind (Ap_strs (x.fPath) (by omega)) (Ap.bind (Ap_value (x.fArg) (by omega)) (Ap.bind (Ap_values (x.fArgs) (by omega)) (Ap.bind (Ap_num (x.fN)) (Ap.bind (Ap_num (x.fM)) (Ap.bind (Ap_shape (x.fShape) (by omega)) (Ap.bind (Ap_expr (x.fExpr) (by omega)) (Ap.bind (Ap_num ((x.fKids.length : Int))) (Ap.bind hL Ap.nil)))))))))) ?_
    · simp only [RB17_F, Q43_T, Mo.den, sbind_eq, bcase_eq]
    · simp only [GPred.lf1, wrL_app, wrL, wrF, List.length_map, ByteArray.append_empty, ByteArray.append_assoc]
theorem Ap_pred (v : GPred) (hb : bulkL v.lf1 ≤ 100000000) : Ap (Q43 v) (wrL v.lf1) := Ap_pred2 FU v (lt_FU (by omega)) hb
theorem Ap_index (x : GIndex) (hb : bulkL x.lf1 ≤ 100000000) : Ap (Q41 x) (wrL x.lf1) := by
  have hl := len_orders x.fKeys
  rw [bulk_index] at hb
  have hL : Ap (Q41_L0 x 0) (wrQ (x.fKeys.map GOrder.lf)) := by
    refine Ap.of' (fun b hb => by unfold Q41_L0; rfl) (Ap.loop GOrder.lf x.fKeys (fun p b => (Q28 p.fPath b).bind fun r => Q68 p.fDesc r) _ (by omega) (fun x hx => by have h1 := mem_order hx; rw [bulk_order] at h1; have h2 := len_strs x.fPath; exact (Ap.bind (Ap_strs _ (by omega)) (Ap_flag _)).to (by simp only [GOrder.lf, GOrder.lf1, wrL, ByteArray.append_empty])) fun k s => ⟨fun y h => ?_, fun h => ?_⟩) rfl
    · obtain ⟨h1, h2⟩ := (loop_case x.fKeys k).1 y h
      simp only [Q41_L0_T, Mo.den, sbind_eq, bcase_eq, h1, h2, cond_true, Option.bind_some, Option.bind_assoc]
    · simp only [Q41_L0_T, Mo.den, sbind_eq, bcase_eq, (loop_case x.fKeys k).2 h, cond_false]
  refine Ap.of' (fun b hb => ?_) (Ap.bind (Ap_str (x.fName)) (Ap.bind (Ap_num (x.fKind)) (Ap.bind (Ap_num ((x.fKeys.length : Int))) (Ap.bind hL (Ap.bind (Ap_flag (x.fUnique)) (Ap.bind (Ap_flag (x.fSparse)) (Ap.bind (Ap_flag (x.fPartial)) (Ap.bind (Ap_pred (x.fWhere) (by omega)) Ap.nil)))))))) ?_
  · simp only [Q41, Q41_T, Mo.den, sbind_eq, bcase_eq]
  · simp only [GIndex.lf1, wrL_app, wrL, wrF, List.length_map, ByteArray.append_empty, ByteArray.append_assoc]
theorem Ap_schema2 (n : Nat) : ∀ x : GSchema, bulkL x.lf1 < n → bulkL x.lf1 ≤ 100000000 → Ap ((RB19_F n).m1 x) (wrL x.lf1) := by
  induction n with
  | zero => intro x h _; omega
  | succ n ih =>
    intro x h hb
    have hl := len_props x.fProps
    have hl1 := len_schemas x.fItems
    have hl2 := len_strs x.fRequired
    rw [bulk_schema] at h hb
    have hL : Ap (Q18_L0 (RB19_F n) x 0) (wrQ (x.fProps.map GProp.lf)) := by
      refine Ap.of' (fun b hb => by unfold Q18_L0; rfl) (Ap.loop GProp.lf x.fProps (fun p b => (Q55 p.fName b).bind fun r => (RB19_F n).m1 p.fSchema r) _ (by omega) (fun x hx => by have h1 := mem_prop hx; rw [bulk_prop] at h1; exact (Ap.bind (Ap_str _) (ih _ (by omega) (by omega))).to (by rw [GProp.lf_eq]; simp only [GProp.lf1, wrL_app, wrL, wrF, ByteArray.append_empty])) fun k s => ⟨fun y h => ?_, fun h => ?_⟩) rfl
      · obtain ⟨h1, h2⟩ := (loop_case x.fProps k).1 y h
        simp only [Q18_L0_T, Mo.den, sbind_eq, bcase_eq, h1, h2, cond_true, Option.bind_some, Option.bind_assoc]
      · simp only [Q18_L0_T, Mo.den, sbind_eq, bcase_eq, (loop_case x.fProps k).2 h, cond_false]
    have hL2 : Ap (Q18_L6 (RB19_F n) x 0) (wrQ (x.fItems.map GSchema.lf)) := by
      refine Ap.of' (fun b hb => by unfold Q18_L6; rfl) (Ap.loop GSchema.lf x.fItems (fun p b => (RB19_F n).m1 p b) _ (by omega) (fun x hx => by have h1 := mem_schema hx; exact (ih _ (by omega) (by omega)).to (by rw [GSchema.lf_eq])) fun k s => ⟨fun y h => ?_, fun h => ?_⟩) rfl
      · obtain ⟨h1, h2⟩ := (loop_case x.fItems k).1 y h
        simp only [Q18_L6_T, Mo.den, sbind_eq, bcase_eq, h1, h2, cond_true, Option.bind_some, Option.bind_assoc]
      · simp only [Q18_L6_T, Mo.den, sbind_eq, bcase_eq, (loop_case x.fItems k).2 h, cond_false]
    refine Ap.of' (fun b hr => ?_) (Ap.bind (Ap_num (x.fKinds)) (Ap.bind (Ap_flag (x.fHasMin)) (Ap.bind (Ap_value (x.fMin) (by omega)) (Ap.bind (Ap_flag (x.fHasMax)) (Ap.bind (Ap_value (x.fMax) (by omega)) (Ap.bind (Ap_values (x.fEnum) (by omega)) (Ap.bind (Ap_num (x.fMinLen)) (Ap.bind (Ap_num (x.fMaxLen)) (Ap.bind (Ap_strs (x.fRequired) (by omega)) (Ap.bind (Ap_num ((x.fProps.length : Int))) (Ap.bind hL (Ap.bind (Ap_flag (x.fClosed)) (Ap.bind (Ap_num ((x.fItems.length : Int))) (Ap.bind hL2 (Ap.bind (Ap_flag (x.fUnique)) Ap.nil))))))))))))))) ?_
    · simp only [RB19_F, Q18_T, Mo.den, sbind_eq, bcase_eq]
    · simp only [GSchema.lf1, wrL_app, wrL, wrF, List.length_map, ByteArray.append_empty, ByteArray.append_assoc]
theorem Ap_schema (v : GSchema) (hb : bulkL v.lf1 ≤ 100000000) : Ap (Q18 v) (wrL v.lf1) := Ap_schema2 FU v (lt_FU (by omega)) hb
theorem Ap_space (x : GSpace) (hb : bulkL x.lf1 ≤ 100000000) : Ap (Q51 x) (wrL x.lf1) := by
  have hl := len_indexes x.fIndexes
  rw [bulk_space] at hb
  have hL : Ap (Q51_L0 x 0) (wrQ (x.fIndexes.map GIndex.lf)) := by
    refine Ap.of' (fun b hb => by unfold Q51_L0; rfl) (Ap.loop GIndex.lf x.fIndexes (fun p b => Q41 p b) _ (by omega) (fun x hx => by have h1 := mem_index hx; exact Ap_index _ (by omega)) fun k s => ⟨fun y h => ?_, fun h => ?_⟩) rfl
    · obtain ⟨h1, h2⟩ := (loop_case x.fIndexes k).1 y h
      simp only [Q51_L0_T, Mo.den, sbind_eq, bcase_eq, h1, h2, cond_true, Option.bind_some, Option.bind_assoc]
    · simp only [Q51_L0_T, Mo.den, sbind_eq, bcase_eq, (loop_case x.fIndexes k).2 h, cond_false]
  refine Ap.of' (fun b hb => ?_) (Ap.bind (Ap_str (x.fName)) (Ap.bind (Ap_num ((x.fIndexes.length : Int))) (Ap.bind hL (Ap.bind (Ap_schema (x.fSchema) (by omega)) (Ap.bind (Ap_num (x.fLevel)) (Ap.bind (Ap_num (x.fAction)) Ap.nil)))))) ?_
  · simp only [Q51, Q51_T, Mo.den, sbind_eq, bcase_eq]
  · simp only [GSpace.lf1, wrL_app, wrL, wrF, List.length_map, ByteArray.append_empty, ByteArray.append_assoc]
end Go.Proofs.YtdnafbfmaphhhaaGreatDoor
set_option linter.unusedSimpArgs false
set_option linter.unusedVariables false
namespace Go.Proofs.YtdnafbfmaphhhaaGreatDoor
open Go.RowKit
theorem Ap_write2 (n : Nat) : ∀ x : GWrite, bulkL x.lf1 < n → bulkL x.lf1 ≤ 100000000 → Ap ((RB11_F n).m1 x) (wrL x.lf1) := by
  induction n with
  | zero => intro x h _; omega
  | succ n ih =>
    intro x h hb
    have hl := len_writes x.fWrites
    have hl1 := len_ints x.fShards
    rw [bulk_write] at h hb
    have hL : Ap (Q19_L0 (RB11_F n) x 0) (wrQ (x.fWrites.map GWrite.lf)) := by
      refine Ap.of' (fun b hb => by unfold Q19_L0; rfl) (Ap.loop GWrite.lf x.fWrites (fun p b => (RB11_F n).m1 p b) _ (by omega) (fun x hx => by have h1 := mem_write hx; exact (ih _ (by omega) (by omega)).to (by rw [GWrite.lf_eq])) fun k s => ⟨fun y h => ?_, fun h => ?_⟩) rfl
      · obtain ⟨h1, h2⟩ := (loop_case x.fWrites k).1 y h
        simp only [Q19_L0_T, Mo.den, sbind_eq, bcase_eq, h1, h2, cond_true, Option.bind_some, Option.bind_assoc]
      · simp only [Q19_L0_T, Mo.den, sbind_eq, bcase_eq, (loop_case x.fWrites k).2 h, cond_false]
    have hL2 : Ap (Q19_L6 (RB11_F n) x 0) (wrQ (x.fShards.map lfI)) := by
      refine Ap.of' (fun b hb => by unfold Q19_L6; rfl) (Ap.loop lfI x.fShards (fun p b => Q10 p b) _ (by omega) (fun x hx => (Ap_num x).to (by simp only [lfI, wrL, wrF, ByteArray.append_empty])) fun k s => ⟨fun y h => ?_, fun h => ?_⟩) rfl
      · obtain ⟨h1, h2⟩ := (loop_case x.fShards k).1 y h
        simp only [Q19_L6_T, Mo.den, sbind_eq, bcase_eq, h1, h2, cond_true, Option.bind_some, Option.bind_assoc]
      · simp only [Q19_L6_T, Mo.den, sbind_eq, bcase_eq, (loop_case x.fShards k).2 h, cond_false]
    refine Ap.of' (fun b hr => ?_) (Ap.bind (Ap_num (x.fKind)) (Ap.bind (Ap_str (x.fSpace)) (Ap.bind (Ap_value (x.fKey) (by omega)) (Ap.bind (Ap_value (x.fDoc) (by omega)) (Ap.bind (Ap_value (x.fBefore) (by omega)) (Ap.bind (Ap_space (x.fDef) (by omega)) (Ap.bind (Ap_index (x.fIndex) (by omega)) (Ap.bind (Ap_str (x.fTxn)) (Ap.bind (Ap_num (x.fStamp)) (Ap.bind (Ap_num ((x.fWrites.length : Int))) (Ap.bind hL (Ap.bind (Ap_num ((x.fShards.length : Int))) (Ap.bind hL2 (Ap.bind (Ap_flag (x.fSilent)) Ap.nil)))))))))))))) ?_
    · simp only [RB11_F, Q19_T, Mo.den, sbind_eq, bcase_eq]
    · simp only [GWrite.lf1, wrL_app, wrL, wrF, List.length_map, ByteArray.append_empty, ByteArray.append_assoc]
theorem Ap_write (v : GWrite) (hb : bulkL v.lf1 ≤ 100000000) : Ap (Q19 v) (wrL v.lf1) := Ap_write2 FU v (lt_FU (by omega)) hb
theorem Ap_entry (x : GEntry) (hb : bulkL x.lf1 ≤ 100000000) : Ap (Q92 x) (wrL x.lf1) := by
  rw [bulk_entry] at hb
  refine Ap.of' (fun b hb => ?_) (Ap.bind (Ap_num (x.fTerm)) (Ap.bind (Ap_num (x.fStamp)) (Ap.bind (Ap_str (x.fSession)) (Ap.bind (Ap_num (x.fNumber)) (Ap.bind (Ap_write (x.fWrite) (by omega)) Ap.nil))))) ?_
  · simp only [Q92, Q92_T, Mo.den, sbind_eq, bcase_eq]
  · simp only [GEntry.lf1, wrL_app, wrL, wrF, ByteArray.append_empty, ByteArray.append_assoc]
theorem Code_val (x : GEntry) (hb : bulkL x.lf1 ≤ 100000000) : Q96 x = some (wrL x.lf1) := by
  have h1 := wrL_le x.lf1
  have h2 := Ap_entry x hb ⟨⟨#[]⟩, false, true⟩ rfl (by show 0 + _ ≤ _; omega)
  simp only [Q96, Q96_T, Mo.den, sbind_eq, sbind2_eq, sbind3_eq, bcase_eq, gcase_eq, h2, Option.bind_some]
  exact congrArg some ByteArray.empty_append
end Go.Proofs.YtdnafbfmaphhhaaGreatDoor
set_option linter.unusedSimpArgs false
set_option linter.unusedVariables false
namespace Go.Proofs.YtdnafbfmaphhhaaGreatDoor
open Go.RowKit
theorem awake_val : Q6 = some true := by kernel_rfl
namespace T
theorem orc0 {p q : Prop} [Decidable p] [Decidable q] : Tot (bif decide p then some true else some (decide q)) (fun b => b = false → ¬ p ∧ ¬ q) :=
  ite (fun h => ret (by simp)) (fun h => ret fun h2 => ⟨of_decide_eq_false h, of_decide_eq_false h2⟩)
theorem orc {r : Bool} {p A : Prop} [Decidable p] (hr : r = false → A) : Tot (bif r then some true else some (decide p)) (fun b => b = false → A ∧ ¬ p) :=
  ite (fun h => ret (by simp)) (fun h => ret fun h2 => ⟨hr h, of_decide_eq_false h2⟩)
theorem andc {r : Bool} {x : Bool} {A : Prop} (hr : r = true → A) : Tot (bif r then some x else some false) (fun b => b = true → A ∧ x = true) :=
  ite (fun h => ret fun h2 => ⟨hr h, h2⟩) (fun h => ret (by simp))
theorem andm {r : Bool} {m : Option Bool} {A : Prop} {Q : Prop} (hr : r = true → A) (hm : Tot m (fun b => b = true → Q)) : Tot (bif r then m.bind fun a => some a else some false) (fun b => b = true → A ∧ Q) :=
  ite (fun h => bind hm fun a ha => ret fun h2 => ⟨hr h, ha h2⟩) (fun h => ret (by simp))
end T
theorem places_tot (l : List Int) (most : Int) (hl : l.length ≤ 100000000) : Tot (Q21 l most) (fun b => b = true → ∀ x ∈ l, 0 ≤ x ∧ x ≤ most) := by
  have h1 : Tot (Q21_L5 l most 0) (LP (fun _ => True) (fun _ => ∀ x ∈ l, 0 ≤ x ∧ x ≤ most)) := by
    refine T.forP l.length (by omega) (fun k s => s = (k : Int) ∧ ∀ x ∈ l.take k, 0 ≤ x ∧ x ≤ most) _ ⟨rfl, by simp⟩ ?_ ?_
    · rintro k s hk ⟨rfl, hs⟩
      have hx := List.getElem?_eq_getElem hk
      simp only [Q21_L5_T, Q21_J0, Q21_J0_T, Mo.den, sbind_eq, sbind2_eq, sbind3_eq, bcase_eq, gcase_eq, ltt hx, gid hx, cond_true, Option.bind_some]
      refine T.bind T.orc0 fun b hb => T.ite (fun _ => T.ret trivial) fun h => T.ret ⟨inc k (by omega), fun x hx2 => ?_⟩
      have hb := hb h
      rw [List.take_succ_eq_append_getElem hk] at hx2
      rcases List.mem_append.1 hx2 with h2 | h2
      · exact hs x h2
      · obtain rfl : x = l[k] := by simpa using h2
        omega
    · rintro s ⟨rfl, hs⟩
      simp only [Q21_L5_T, Mo.den, sbind_eq, sbind2_eq, sbind3_eq, bcase_eq, gcase_eq, ltn, cond_false]
      rw [List.take_length] at hs
      exact T.ret hs
  unfold Q21 Q21_T
  simp only [Mo.den, sbind_eq, sbind2_eq, sbind3_eq, bcase_eq, gcase_eq]
  refine T.bind h1 ?_
  rintro (r | r) hr
  · exact T.ret (by simp)
  · exact T.ret fun _ => hr
theorem logged_tot (m : GMember) : Tot (Q4 m) (fun b => b = true → m.fLog.length ≤ 16384 ∧ 0 ≤ m.fCommit ∧ m.fCommit ≤ m.fLog.length) := by
  unfold Q4 Q4_T
  simp only [Mo.den, sbind_eq, sbind2_eq, sbind3_eq, bcase_eq, gcase_eq]
  refine T.ite (fun _ => T.ret (by simp)) fun h0 => ?_
  have h0 := of_decide_eq_false h0
  refine T.bind (R := Any) ?_ ?_
  · refine T.forP m.fLog.length (by omega) (fun k s => s.2.2 = (k : Int)) _ rfl ?_ ?_
    · rintro k ⟨a, b, i⟩ hk rfl
      have hx := List.getElem?_eq_getElem hk
      simp only [Q4, Q4_T, Q4_J26, Q4_J26_T, Q4_J21, Q4_J21_T, Q4_L15, Q4_L15_T, Q4_J10, Q4_J10_T, Q4_J5, Q4_J5_T, Q4_J0, Q4_J0_T, Mo.den, sbind_eq, sbind2_eq, sbind3_eq, bcase_eq, gcase_eq, ltt hx, gid hx, cond_true, Option.bind_some]
      refine T.bind (R := Any) (T.wk T.orc0) fun r _ => T.bind (R := Any) (T.wk (T.orc (A := True) fun _ => trivial)) fun r _ => T.bind (R := Any) (T.wk (T.orc (A := True) fun _ => trivial)) fun r _ => T.ite (fun _ => T.ret trivial) fun _ => T.ret ?_
      exact inc k (by omega)
    · rintro ⟨a, b, i⟩ rfl
      simp only [Q4, Q4_T, Q4_J26, Q4_J26_T, Q4_J21, Q4_J21_T, Q4_L15, Q4_L15_T, Q4_J10, Q4_J10_T, Q4_J5, Q4_J5_T, Q4_J0, Q4_J0_T, Mo.den, sbind_eq, sbind2_eq, sbind3_eq, bcase_eq, gcase_eq, ltn, cond_false]
      exact T.ret trivial
  · rintro (r | r) _
    · exact T.ret (by simp)
    · simp only [Q4, Q4_T, Q4_J26, Q4_J26_T, Q4_J21, Q4_J21_T, Q4_L15, Q4_L15_T, Q4_J10, Q4_J10_T, Q4_J5, Q4_J5_T, Q4_J0, Q4_J0_T, Mo.den, sbind_eq, sbind2_eq, sbind3_eq, bcase_eq, gcase_eq, Option.bind_some]
      refine T.bind (T.ite (fun h => T.ret (Q := fun b => b = true → 0 ≤ m.fCommit ∧ m.fCommit ≤ m.fLog.length) fun h2 => ⟨of_decide_eq_true h, of_decide_eq_true h2⟩) (fun h => T.ret (by simp))) fun b hb => T.ret fun h => ⟨by omega, hb h⟩
theorem votes_tot (s n : Int) (hn : n ≤ 1000) : Tot (Q69 s n) Any := by
  unfold Q69 Q69_T
  simp only [Mo.den, sbind_eq, sbind2_eq, sbind3_eq, bcase_eq, gcase_eq]
  refine T.bind (R := Any) (T.cntR _ fun a k hk => ?_) fun r _ => T.any
  simp only [Q69_L0_T, Mo.den, sbind_eq, sbind2_eq, sbind3_eq, bcase_eq, gcase_eq]
  refine T.ite (fun h => T.grd (by omega) (T.ret ⟨rfl, ?_⟩)) fun _ => T.ret trivial
  have := of_decide_eq_true h; omega
def maj (n : Int) : Int := if n < 1 ∨ 7 < n then 0 else n / 2 + 1
theorem RMajority_val (n : Int) : Q67 n = some (maj n) := by
  simp only [Q67, Q67_T, Q67_J0, Q67_J0_T, Mo.den, sbind_eq, sbind2_eq, sbind3_eq, bcase_eq, gcase_eq, maj]
  by_cases h1 : n < 1
  · rw [decide_eq_true h1, if_pos (.inl h1)]; rfl
  rw [decide_eq_false h1]
  by_cases h2 : 7 < n
  · rw [decide_eq_true h2, if_pos (.inr h2)]; rfl
  rw [decide_eq_false h2, if_neg (by omega)]
  simp only [cond_false, Option.bind_some]
  obtain ⟨k, rfl⟩ := Int.eq_ofNat_of_zero_le (show 0 ≤ n by omega)
  rw [show Int.tdiv (k : Int) 2 = (k : Int) / 2 from Int.tdiv_eq_ediv_of_nonneg (by omega), w64 (x := (k : Int) / 2) (by omega) (by omega), w64 (by omega) (by omega)]
/-- what is known of a member that is examined -/
structure Good (m : GMember) : Prop where
  s1 : 1 ≤ m.fSize
  s7 : m.fSize ≤ 7
  i0 : 0 ≤ m.fID
  i1 : m.fID < m.fSize
  t0 : 0 ≤ m.fTerm
  tm : 0 ≤ m.fTimer
  lg : m.fLog.length ≤ 200
  c0 : 0 ≤ m.fCommit
  c1 : m.fCommit ≤ m.fLog.length
  pr : m.fRole = 2 → (m.fNext.length : Int) = m.fSize ∧ (m.fMatch.length : Int) = m.fSize ∧ (∀ x ∈ m.fNext, 0 ≤ x ∧ x ≤ m.fLog.length) ∧ ∀ x ∈ m.fMatch, 0 ≤ x ∧ x ≤ m.fLog.length
theorem good_tot (m : GMember) (hb : bulkL m.lf1 ≤ 100000000) : Tot (Q108 m) (fun b => b = true → Good m) := by
  rw [bulk_member] at hb
  have hl1 := len_ints m.fNext
  have hl2 := len_ints m.fMatch
  simp only [Q108, Q108_T, Mo.den, sbind_eq, sbind2_eq, sbind3_eq, bcase_eq, gcase_eq]
  refine T.ite (fun h200 => ?_) fun _ => T.ret (by simp)
  have h200 := of_decide_eq_true h200
  refine T.bind (R := fun b => b = true → Good m) ?_ fun b hb => T.ret hb
  simp only [Q0, Q0_T, Q0_J85, Q0_J85_T, Q0_J80, Q0_J80_T, Q0_J75, Q0_J75_T, Q0_J70, Q0_J70_T, Q0_J65, Q0_J65_T, Q0_J60, Q0_J60_T, Q0_J55, Q0_J55_T, Q0_J50, Q0_J50_T, Q0_J45, Q0_J45_T, Q0_J40, Q0_J40_T, Q0_J35, Q0_J35_T, Q0_J30, Q0_J30_T, Q0_J25, Q0_J25_T, Q0_J20, Q0_J20_T, Q0_J15, Q0_J15_T, Q0_J10, Q0_J10_T, Q0_J5, Q0_J5_T, Q0_J0, Q0_J0_T, Mo.den, sbind_eq, sbind2_eq, sbind3_eq, bcase_eq, gcase_eq, RMajority_val, Option.bind_some]
  refine T.bind T.orc0 fun r h => T.bind (T.orc h) fun r h => T.bind (T.orc h) fun r h => T.bind (T.orc h) fun r h => T.bind (T.orc h) fun r h => T.bind (T.orc h) fun r h => T.bind (T.orc h) fun r h => T.bind (T.orc h) fun r h => T.ite (fun _ => T.ret (by simp)) fun hr => ?_
  have h := h hr
  refine T.bind (R := fun b => b = false → 0 ≤ m.fTimer ∧ m.fLog.length ≤ 16384 ∧ 0 ≤ m.fCommit ∧ m.fCommit ≤ m.fLog.length) ?_ fun r2 h2 => T.ite (fun _ => T.ret (by simp)) fun hr2 => ?_
  · refine T.ite (fun _ => T.ret (by simp)) fun _ => T.ite (fun _ => T.ret (by simp)) fun _ => T.ite (fun _ => T.ret (by simp)) fun ht => T.ite (fun _ => T.ret (by simp)) fun _ => T.grd (by omega) (T.ite (fun _ => T.ret (by simp)) fun _ => ?_)
    have ht := of_decide_eq_false ht
    exact T.bind (logged_tot m) fun b hb => T.ret fun h => ⟨by omega, hb (by simpa using h)⟩
  have h2 := h2 hr2
  refine T.bind (R := Any) (T.ite (fun _ => T.ite (fun _ => T.any) fun _ => T.ite (fun _ => T.any) fun _ => T.grd (by omega) T.any) fun _ => T.any) fun _ _ => T.ite (fun _ => T.ret (by simp)) fun _ => ?_
  refine T.bind (votes_tot _ _ (by omega)) fun v _ => ?_
  have G : (m.fRole = 2 → (m.fNext.length : Int) = m.fSize ∧ (m.fMatch.length : Int) = m.fSize ∧ (∀ x ∈ m.fNext, 0 ≤ x ∧ x ≤ m.fLog.length) ∧ ∀ x ∈ m.fMatch, 0 ≤ x ∧ x ≤ m.fLog.length) → Good m := fun hp => ⟨by omega, by omega, by omega, by omega, by omega, by omega, by omega, by omega, by omega, hp⟩
  refine T.bind (R := LP (fun b => b = true → Good m) (fun _ => ¬ m.fRole = 2)) ?_ ?_
  · refine T.ite (fun h1 => ?_) fun _ => T.ite (fun h3 => ?_) fun h3 => T.ret (by show ¬ m.fRole = 2; simpa using h3)
    · have h1 : m.fRole = 1 := by simpa using h1
      refine T.bind (R := Any) (T.ite (fun _ => T.any) fun _ => T.any) fun _ _ => T.ite (fun _ => T.ret (by show false = true → _; simp)) fun _ => T.ret (by show ¬ m.fRole = 2; omega)
    · refine T.bind (R := Any) (T.ite (fun _ => T.any) fun _ => T.any) fun r0 _ => T.bind (T.andc (A := True) fun _ => trivial) fun r1 k1 => T.bind (T.andc k1) fun r2 k2 => T.bind (T.andm k2 (places_tot _ _ (by omega))) fun r3 k3 => T.bind (T.andm k3 (places_tot _ _ (by omega))) fun r4 k4 => T.ret fun h5 => G fun _ => ?_
      have k := k4 h5
      exact ⟨by simpa using k.1.1.1.2, by simpa using k.1.1.2, k.1.2, k.2⟩
  · rintro (b | u) hb2
    · exact T.ret hb2
    · exact T.ite (fun _ => T.ret fun _ => G fun h => absurd h hb2) fun _ => T.ret (by simp)
theorem SameEntries_refl (l : List GEntry) (hb : bulkR (l.map GEntry.lf) ≤ 100000000) : Q24 l l = some true := by
  have hl := len_entries l
  have e1 : Tot (Q24_L0 l l 0) (fun r => r = .inr ()) := by
    refine T.forL l (by omega) _ (fun k x hx => ?_) ?_
    · have hm := mem_entry (mem_at hx)
      simp only [Q24_L0_T, Mo.den, sbind_eq, sbind2_eq, sbind3_eq, bcase_eq, gcase_eq, ltt hx, gid hx, cond_true, Option.bind_some, Code_val x (by omega), decide_true, Bool.not_true, cond_false]; exact T.ret rfl
    · simp only [Q24_L0_T, Mo.den, sbind_eq, sbind2_eq, sbind3_eq, bcase_eq, gcase_eq, ltn, cond_false]; exact T.ret rfl
  obtain ⟨_, e1, rfl⟩ := e1
  simp only [Q24, Q24_T, Mo.den, sbind_eq, sbind2_eq, sbind3_eq, bcase_eq, gcase_eq, bne_self_eq_false, cond_false, e1, Option.bind_some]
theorem SameNumbers_refl (l : List Int) (hl : l.length ≤ 100000000) : Q25 l l = some true := by
  have e1 : Tot (Q25_L0 l l 0) (fun r => r = .inr ()) := by
    refine T.forL l (by omega) _ (fun k x hx => ?_) ?_
    · simp only [Q25_L0_T, Mo.den, sbind_eq, sbind2_eq, sbind3_eq, bcase_eq, gcase_eq, ltt hx, gid hx, cond_true, Option.bind_some, bne_self_eq_false, cond_false]; exact T.ret rfl
    · simp only [Q25_L0_T, Mo.den, sbind_eq, sbind2_eq, sbind3_eq, bcase_eq, gcase_eq, ltn, cond_false]; exact T.ret rfl
  obtain ⟨_, e1, rfl⟩ := e1
  simp only [Q25, Q25_T, Mo.den, sbind_eq, sbind2_eq, sbind3_eq, bcase_eq, gcase_eq, bne_self_eq_false, cond_false, e1, Option.bind_some]
theorem SameMember_refl (m : GMember) (hb : bulkL m.lf1 ≤ 100000000) : Q1 m m = some true := by
  rw [bulk_member] at hb
  have hl1 := len_ints m.fNext
  have hl2 := len_ints m.fMatch
  unfold Q1 Q1_T Q1_J55 Q1_J55_T Q1_J50 Q1_J50_T Q1_J45 Q1_J45_T Q1_J40 Q1_J40_T Q1_J35 Q1_J35_T Q1_J30 Q1_J30_T Q1_J25 Q1_J25_T Q1_J20 Q1_J20_T Q1_J15 Q1_J15_T Q1_J10 Q1_J10_T Q1_J5 Q1_J5_T Q1_J0 Q1_J0_T
  simp only [Mo.den, sbind_eq, sbind2_eq, sbind3_eq, bcase_eq, gcase_eq, BEq.rfl, cond_true, Option.bind_some, SameNumbers_refl _ (show m.fNext.length ≤ 100000000 by omega), SameNumbers_refl _ (show m.fMatch.length ≤ 100000000 by omega), SameEntries_refl _ (show bulkR (m.fLog.map GEntry.lf) ≤ 100000000 by omega)]
theorem SameMessages_refl (l : List GMessage) (hl : l.length ≤ 100000000) (hb : ∀ x ∈ l, bulkR (x.fEntries.map GEntry.lf) ≤ 100000000) : Q2 l l = some true := by
  have e1 : Tot (Q2_L40 l l 0) (fun r => r = .inr ()) := by
    refine T.forL l (by omega) _ (fun k x hx => ?_) ?_
    · simp only [Q2, Q2_T, Q2_L40, Q2_L40_T, Q2_J35, Q2_J35_T, Q2_J30, Q2_J30_T, Q2_J25, Q2_J25_T, Q2_J20, Q2_J20_T, Q2_J15, Q2_J15_T, Q2_J10, Q2_J10_T, Q2_J5, Q2_J5_T, Q2_J0, Q2_J0_T, Mo.den, sbind_eq, sbind2_eq, sbind3_eq, bcase_eq, gcase_eq, ltt hx, gid hx, cond_true, Option.bind_some, bne_self_eq_false, cond_false, BEq.rfl, Bool.not_true, SameEntries_refl _ (hb x (mem_at hx))]; exact T.ret rfl
    · simp only [Q2, Q2_T, Q2_L40, Q2_L40_T, Q2_J35, Q2_J35_T, Q2_J30, Q2_J30_T, Q2_J25, Q2_J25_T, Q2_J20, Q2_J20_T, Q2_J15, Q2_J15_T, Q2_J10, Q2_J10_T, Q2_J5, Q2_J5_T, Q2_J0, Q2_J0_T, Mo.den, sbind_eq, sbind2_eq, sbind3_eq, bcase_eq, gcase_eq, ltn, cond_false]; exact T.ret rfl
  obtain ⟨_, e1, rfl⟩ := e1
  simp only [Q2, Q2_T, Mo.den, sbind_eq, sbind2_eq, sbind3_eq, bcase_eq, gcase_eq, bne_self_eq_false, cond_false, e1, Option.bind_some]
end Go.Proofs.YtdnafbfmaphhhaaGreatDoor
set_option linter.unusedSimpArgs false
set_option linter.unusedVariables false
namespace Go.Proofs.YtdnafbfmaphhhaaGreatDoor
open Go.RowKit
theorem bulkR_drop_le {α : Type} (f : α → List Lf) (l : List α) (k : Nat) : bulkR ((l.drop k).map f) ≤ bulkR (l.map f) := by
  have := bulkR_app ((l.take k).map f) ((l.drop k).map f)
  rw [← List.map_append, List.take_append_drop] at this; omega
theorem copyMember_val (m : GMember) (hb : bulkL m.lf1 ≤ 100000000) : Q79 m = some m := by
  simp only [Q79, Q79_T, Mo.den, sbind_eq, sbind2_eq, sbind3_eq, bcase_eq, gcase_eq, Q113, Q113_T, Mo.den, sbind_eq, sbind2_eq, sbind3_eq, bcase_eq, gcase_eq, Q76, Q76_T, Q76_J0, Q76_J0_T, Mo.den, sbind_eq, sbind2_eq, sbind3_eq, bcase_eq, gcase_eq, election_copyMember_id m hb, Option.bind_some, decide_eq_true (show m.fTerm ≤ m.fTerm by omega), cond_true]
theorem copyEntries_val (l : List GEntry) (hb : bulkR (l.map GEntry.lf) ≤ 10000000) : Q83 l = some l := by
  have h0 : ¬ ((l.length : Int) < 0) := by omega
  have e1 : (GMember.sLog GMember.z l).fLog = l := rfl
  have e2 : (GMember.sLog GMember.z l).fCommit = 0 := rfl
  have e3 := rollback_copyAll_api_Entry_id l (by omega)
  have hz : bulkL ((GMember.sLog GMember.z l).sLog []).lf1 = 12 := by kernel_rfl
  have e4 := rollback_copyMember_id ((GMember.sLog GMember.z l).sLog []) (by omega)
  simp only [Q83, Q83_T, Mo.den, sbind_eq, sbind2_eq, sbind3_eq, bcase_eq, gcase_eq, Q116, Q116_T, Mo.den, sbind_eq, sbind2_eq, sbind3_eq, bcase_eq, gcase_eq, e1, e2, gt_iff_lt, Int.lt_irrefl, if_false, h0, Int.toNat_zero, List.drop_zero, List.take_zero, e3, e4, Option.bind_some]
  rw [if_pos (by omega), if_pos (by omega)]; rfl
def befS (l : List GEntry) (n : Int) : Int := if 1 ≤ n then (match l[(n - 1).toNat]? with | some e => e.fTerm | none => 0) else 0
theorem termBefore_val (l : List GEntry) (n : Int) (hl : l.length ≤ 1000000) : Q71 l n = some (befS l n) := by
  simp only [Q71, Q71_T, Q71_J0, Q71_J0_T, Mo.den, sbind_eq, sbind2_eq, sbind3_eq, bcase_eq, gcase_eq, befS]
  by_cases h1 : n < 1
  · rw [decide_eq_true h1, if_neg (by omega)]; rfl
  rw [decide_eq_false h1, if_pos (by omega)]
  simp only [cond_false, Option.bind_some]
  by_cases h2 : (l.length : Int) < n
  · rw [decide_eq_true h2, List.getElem?_eq_none (by omega)]; rfl
  · rw [decide_eq_false h2, w64 (by omega) (by omega)]
    obtain ⟨x, h3, h4⟩ := gidx_of (l := l) (i := n - 1) (by omega) (by omega)
    simp only [cond_false, h3, h4, Option.bind_some]
theorem before_val (l : List GEntry) (n : Int) (hl : l.length ≤ 1000000) : Q70 l n = some (befS l n) := by
  simp only [Q70, Q70_T, Q70_J0, Q70_J0_T, Mo.den, sbind_eq, sbind2_eq, sbind3_eq, bcase_eq, gcase_eq, befS]
  by_cases h1 : n < 1
  · rw [decide_eq_true h1, if_neg (by omega)]; rfl
  rw [decide_eq_false h1, if_pos (by omega)]
  simp only [cond_false, Option.bind_some]
  by_cases h2 : (l.length : Int) < n
  · rw [decide_eq_true h2, List.getElem?_eq_none (by omega)]; rfl
  · rw [decide_eq_false h2, w64 (by omega) (by omega)]
    obtain ⟨x, h3, h4⟩ := gidx_of (l := l) (i := n - 1) (by omega) (by omega)
    simp only [cond_false, h3, h4, Option.bind_some]
/-- a beat's messages -/
def nxt (m : GMember) (i : Nat) : Int := m.fNext[i]?.getD 0
def part16 (l : List GEntry) (n : Int) : List GEntry := (l.take (if (l.length : Int) < n + 16 then (l.length : Int) else n + 16).toNat).drop n.toNat
def msgS (m : GMember) (i : Nat) : GMessage := ⟨m.fID, (i : Int), 3, m.fTerm, nxt m i, befS m.fLog (nxt m i), m.fCommit, part16 m.fLog (nxt m i), false⟩
def beats (m : GMember) : Nat → List GMessage
  | 0 => []
  | k + 1 => beats m k ++ (if (k : Int) = m.fID then [] else [msgS m k])
theorem beats_len (m : GMember) : ∀ k, (beats m k).length ≤ k
  | 0 => by simp [beats]
  | k + 1 => by
    have := beats_len m k
    simp only [beats, List.length_append]
    split <;> simp <;> omega
theorem part_bulk (l : List GEntry) (n : Int) : bulkR ((part16 l n).map GEntry.lf) ≤ bulkR (l.map GEntry.lf) := by
  unfold part16
  exact Nat.le_trans (bulkR_drop_le _ _ _) (bulkR_take_le _ _ _)
theorem beats_small (m : GMember) : ∀ k, ∀ x ∈ beats m k, bulkR (x.fEntries.map GEntry.lf) ≤ bulkR (m.fLog.map GEntry.lf)
  | 0, x, h => by simp [beats] at h
  | k + 1, x, h => by
    simp only [beats, List.mem_append] at h
    rcases h with h | h
    · exact beats_small m k x h
    · split at h
      · simp at h
      · obtain rfl : x = msgS m k := by simpa using h
        exact part_bulk _ _
def beatS (m : GMember) : List GMessage := if m.fRole = 2 then beats m m.fSize.toNat else []
theorem Beat_val (m : GMember) (g : Good m) (hb : bulkL m.lf1 ≤ 10000000) : Q26 m = some (beatS m) := by
  rw [bulk_member] at hb
  have g1 := g.s1; have g7 := g.s7; have gl := g.lg
  unfold Q26 Q26_T beatS
  simp only [Mo.den, sbind_eq, sbind2_eq, sbind3_eq, bcase_eq, gcase_eq]
  by_cases hr : m.fRole = 2
  · obtain ⟨hn, _, hp, _⟩ := g.pr hr
    rw [show (m.fRole != 2) = false by simpa using hr, if_pos hr]
    simp only [cond_false]
    have : Tot (Q26_L10 m 0 []) (fun r => r = beats m m.fSize.toNat) := by
      refine T.forP m.fSize.toNat (by omega) (fun k s => s = ((k : Int), beats m k)) _ rfl ?_ ?_
      · rintro k s hk rfl
        have hx := List.getElem?_eq_getElem (show k < m.fNext.length by omega)
        obtain ⟨h0, h1⟩ := hp _ (mem_at hx)
        have hbl := beats_len m k
        have en : nxt m k = m.fNext[k] := by unfold nxt; rw [hx]; rfl
        simp only [Q26_L10_T, Q26_J0, Q26_J0_T, Q26_J5, Q26_J5_T, Mo.den, sbind_eq, sbind2_eq, sbind3_eq, bcase_eq, gcase_eq, decide_eq_true (show (k : Int) < m.fSize by omega), decide_eq_true (show (k : Int) < (m.fNext.length : Int) by omega), cond_true, Option.bind_some, gid hx]
        rw [inc k (by omega)]
        by_cases hi : (k : Int) = m.fID
        · rw [show ((k : Int) == m.fID) = true by simpa using hi]
          exact T.ret (show _ = _ by simp only [beats, if_pos hi, List.append_nil])
        · rw [show ((k : Int) == m.fID) = false by simpa using hi]
          simp only [cond_false]
          have e1 : (if (if (m.fLog.length : Int) < m.fNext[k] then (m.fLog.length : Int) else m.fNext[k]) > 0 then (if (m.fLog.length : Int) < m.fNext[k] then (m.fLog.length : Int) else m.fNext[k]) else 0) = m.fNext[k] := by
            rw [if_neg (show ¬ (m.fLog.length : Int) < m.fNext[k] by omega)]; split <;> omega
          simp only [e1]
          rw [w64 (x := m.fNext[k] + 16) (by omega) (by omega)]
          have e2 := copyEntries_val (part16 m.fLog m.fNext[k]) (by have := part_bulk m.fLog m.fNext[k]; omega)
          unfold part16 at e2
          rw [if_pos (by split <;> omega)]
          simp only [termBefore_val m.fLog _ (by omega), e2, Option.bind_some, List.length_cons, List.length_nil]
          rw [if_pos (by omega)]
          refine T.ret (show _ = _ from ?_)
          simp only [beats, if_neg hi, msgS, en]; rfl
      · rintro s rfl
        simp only [Q26_L10_T, Q26_J0, Q26_J0_T, Mo.den, sbind_eq, sbind2_eq, sbind3_eq, bcase_eq, gcase_eq, decide_eq_false (show ¬ ((m.fSize.toNat : Nat) : Int) < m.fSize by omega), cond_false, Option.bind_some]
        exact T.ret rfl
    obtain ⟨_, h, rfl⟩ := this
    simp only [h, Option.bind_some]
  · rw [show (m.fRole != 2) = true by simpa using hr, if_neg hr]; rfl
theorem RBeat_val (m : GMember) (g : Good m) (hb : bulkL m.lf1 ≤ 10000000) : Q20 m = some (beatS m) := by
  rw [bulk_member] at hb
  have g1 := g.s1; have g7 := g.s7; have gl := g.lg
  unfold Q20 Q20_T beatS
  simp only [Mo.den, sbind_eq, sbind2_eq, sbind3_eq, bcase_eq, gcase_eq]
  by_cases hr : m.fRole = 2
  · obtain ⟨hn, _, hp, _⟩ := g.pr hr
    rw [show (m.fRole != 2) = false by simpa using hr, if_pos hr]
    simp only [cond_false]
    have : Tot (Q20_L10 m 0 []) (fun r => r = beats m m.fSize.toNat) := by
      refine T.forP m.fSize.toNat (by omega) (fun k s => s = ((k : Int), beats m k)) _ rfl ?_ ?_
      · rintro k s hk rfl
        have hx := List.getElem?_eq_getElem (show k < m.fNext.length by omega)
        obtain ⟨h0, h1⟩ := hp _ (mem_at hx)
        have hbl := beats_len m k
        have en : nxt m k = m.fNext[k] := by unfold nxt; rw [hx]; rfl
        have ea : Q74 m.fNext (k : Int) = some m.fNext[k] := by
          simp only [Q74, Q74_T, Q74_J0, Q74_J0_T, Mo.den, sbind_eq, sbind2_eq, sbind3_eq, bcase_eq, gcase_eq, decide_eq_false (show ¬ (k : Int) < 0 by omega), decide_eq_false (show ¬ (m.fNext.length : Int) ≤ (k : Int) by omega), cond_false, Option.bind_some, gid hx]
        simp only [Q20_L10_T, Q20_J0, Q20_J0_T, Q20_J5, Q20_J5_T, Mo.den, sbind_eq, sbind2_eq, sbind3_eq, bcase_eq, gcase_eq, decide_eq_true (show (k : Int) < m.fSize by omega), decide_eq_true (show (k : Int) < 7 by omega), cond_true, Option.bind_some, ea]
        rw [inc k (by omega)]
        by_cases hi : (k : Int) = m.fID
        · rw [show ((k : Int) == m.fID) = true by simpa using hi]
          exact T.ret (show _ = _ by simp only [beats, if_pos hi, List.append_nil])
        · rw [show ((k : Int) == m.fID) = false by simpa using hi]
          simp only [cond_false]
          have e0 : (if 0 > m.fNext[k] then 0 else m.fNext[k]) = m.fNext[k] := by split <;> omega
          have e1 : (if (m.fLog.length : Int) < m.fNext[k] then (m.fLog.length : Int) else m.fNext[k]) = m.fNext[k] := by split <;> omega
          simp only [e0, e1]
          rw [w64 (x := m.fNext[k] + 16) (by omega) (by omega)]
          simp only [before_val m.fLog _ (show m.fLog.length ≤ 1000000 by omega), Option.bind_some, List.length_cons, List.length_nil]
          have hlen : ((m.fLog.take (if (m.fLog.length : Int) < m.fNext[k] + 16 then (m.fLog.length : Int) else m.fNext[k] + 16).toNat).drop m.fNext[k].toNat).length ≤ 200 := by
            simp only [List.length_drop, List.length_take]; omega
          rw [if_pos (by split <;> omega), if_pos (by omega), if_pos (by omega)]
          refine T.ret (show _ = _ from ?_)
          simp only [beats, if_neg hi, msgS, en]; rfl
      · rintro s rfl
        simp only [Q20_L10_T, Q20_J0, Q20_J0_T, Mo.den, sbind_eq, sbind2_eq, sbind3_eq, bcase_eq, gcase_eq, decide_eq_false (show ¬ ((m.fSize.toNat : Nat) : Int) < m.fSize by omega), cond_false, Option.bind_some]
        exact T.ret rfl
    obtain ⟨_, h, rfl⟩ := this
    simp only [h, Option.bind_some]
  · rw [show (m.fRole != 2) = true by simpa using hr, if_neg hr]; rfl
end Go.Proofs.YtdnafbfmaphhhaaGreatDoor
set_option linter.unusedSimpArgs false
set_option linter.unusedVariables false
namespace Go.Proofs.YtdnafbfmaphhhaaGreatDoor
open Go.RowKit
/-- an element, 0 behind the end -/
def ia (l : List Int) (k : Nat) : Int := l[k]?.getD 0
theorem gidx_ia {l : List Int} {k : Nat} (h : k < l.length) : gidx l (k : Int) = some (ia l k) := by
  rw [gidx_nat, ia, List.getElem?_eq_getElem h]; rfl
theorem ia_set (l : List Int) (k : Nat) (v : Int) (p : Nat) (h : k < l.length) : ia (l.set k v) p = if p = k then v else ia l p := by
  unfold ia
  by_cases e : p = k
  · subst e; rw [if_pos rfl, List.getElem?_set_self h]; rfl
  · rw [if_neg e, List.getElem?_set_ne (fun x => e x.symm)]
theorem ia_get {l : List Int} {k : Nat} (h : k < l.length) : l[k] = ia l k := by
  unfold ia; rw [List.getElem?_eq_getElem h]; rfl
/-- sorted up to i, but for place j -/
def Srt (l : List Int) (i j : Nat) : Prop := ∀ p q, p < q → q < i → q ≠ j → ia l p ≤ ia l q
theorem Less_val (x y : Int) : Q37 x y = some (decide (x < y)) := by
  simp only [Q37, Q37_T, Q37_J10, Q37_J10_T, Q37_J5, Q37_J5_T, Q37_J0, Q37_J0_T, Mo.den, sbind_eq, sbind2_eq, sbind3_eq, bcase_eq, gcase_eq, Q114, Q114_T, Mo.den, sbind_eq, sbind2_eq, sbind3_eq, bcase_eq, gcase_eq]
  simp
theorem swap_perm (l : List Int) (j : Nat) (h : j + 1 < l.length) : ((l.set (j + 1) (ia l j)).set j (ia l (j + 1))).Perm l := by
  have := List.set_set_perm (show j + 1 < l.length from h) (show j < l.length by omega)
  rwa [ia_get, ia_get] at this
theorem swap_srt (l : List Int) (i j : Nat) (hi : i < l.length) (hj : j + 1 ≤ i) (hs : Srt l (i + 1) (j + 1)) (h : ia l (j + 1) < ia l j) : Srt ((l.set (j + 1) (ia l j)).set j (ia l (j + 1))) (i + 1) j := by
  intro p q h1 h2 h3
  have hl1 : j < (l.set (j + 1) (ia l j)).length := by rw [List.length_set]; omega
  rw [ia_set _ j _ p hl1, ia_set _ j _ q hl1, ia_set l (j + 1) _ p (by omega), ia_set l (j + 1) _ q (by omega), if_neg h3]
  by_cases e1 : q = j + 1
  · rw [if_pos e1]
    by_cases e2 : p = j
    · rw [if_pos e2]; omega
    · rw [if_neg e2, if_neg (by omega)]
      exact hs p j (by omega) (by omega) (by omega)
  · rw [if_neg e1]
    by_cases e2 : p = j
    · rw [if_pos e2]; exact hs (j + 1) q (by omega) (by omega) (by omega)
    · rw [if_neg e2]
      by_cases e3 : p = j + 1
      · rw [if_pos e3]; exact hs j q (by omega) (by omega) (by omega)
      · rw [if_neg e3]; exact hs p q h1 h2 e1
theorem sort_test (l : List Int) (b i : Int) (j : Nat) (h : j < l.length) (hl : l.length ≤ 1000) : Q9_J0 l 0 b i (j : Int) = some (decide (0 < j ∧ ia l j < ia l (j - 1))) := by
  unfold Q9_J0 Q9_J0_T
  simp only [Mo.den, sbind_eq, sbind2_eq, sbind3_eq, bcase_eq, gcase_eq]
  by_cases h0 : 0 < j
  · have e : IntKind.wrap .i64 ((j : Int) - 1) = ((j - 1 : Nat) : Int) := by rw [w64 (by omega) (by omega)]; omega
    rw [decide_eq_true (show (0 : Int) < (j : Int) by omega), e, gidx_ia h, gidx_ia (by omega)]
    simp only [cond_true, Option.bind_some, Less_val, h0, true_and]
  · rw [decide_eq_false (show ¬ (0 : Int) < (j : Int) by omega), decide_eq_false (by omega)]; rfl
theorem sort_in (l0 : List Int) (i : Nat) (b : Int) (hi : i < l0.length) (hl : l0.length ≤ 1000) (hs : Srt l0 i i) : Tot (Q9_L5 0 b (i : Int) (i : Int) l0) (fun r => r.Perm l0 ∧ Srt r (i + 1) (i + 1)) := by
  unfold Q9_L5
  refine loopM_post (fun v => ∃ j : Nat, v.1 = (j : Int) ∧ j ≤ i ∧ v.2.Perm l0 ∧ Srt v.2 (i + 1) j) (fun v => v.1.toNat) _ ?_ FU _ ⟨i, rfl, Nat.le_refl _, List.Perm.refl _, fun p q h1 h2 h3 => hs p q h1 (by omega) h3⟩ (lt_FU (by show (i : Int).toNat ≤ _; omega))
  rintro ⟨jj, l⟩ ⟨j, h1, h2, h3, h4⟩
  obtain rfl : jj = (j : Int) := h1
  have h3 : l.Perm l0 := h3
  have h4 : Srt l (i + 1) j := h4
  have hlen := h3.length_eq
  unfold Q9_L5_T
  simp only [Mo.den, sbind_eq, sbind2_eq, sbind3_eq, bcase_eq, gcase_eq]
  rw [sort_test l b i j (by omega) (by omega)]
  simp only [Option.bind_some]
  by_cases hc : 0 < j ∧ ia l j < ia l (j - 1)
  · obtain ⟨k, rfl⟩ : ∃ k, j = k + 1 := ⟨j - 1, by omega⟩
    have hc2 : ia l (k + 1) < ia l k := hc.2
    have e : IntKind.wrap .i64 (((k + 1 : Nat) : Int) - 1) = (k : Int) := by rw [w64 (by omega) (by omega)]; omega
    have e2 : ((k + 1 : Nat) : Int).toNat = k + 1 := by omega
    have e3 : (k : Int).toNat = k := by omega
    rw [decide_eq_true hc, e, gidx_ia (l := l) (by omega), gidx_ia (l := l) (by omega)]
    simp only [cond_true, Option.bind_some, e2, e3]
    rw [gidx_ia (by simp; omega)]
    exact .inl ⟨_, rfl, ⟨k, rfl, by omega, (swap_perm l k (by omega)).trans h3, swap_srt l i k (by omega) (by omega) h4 hc2⟩, by show (k : Int).toNat < ((k + 1 : Nat) : Int).toNat; omega⟩
  · rw [decide_eq_false hc]
    refine .inr ⟨l, rfl, h3, fun p q k1 k2 k3 => ?_⟩
    by_cases e : q = j
    · subst e
      have h5 : ia l (q - 1) ≤ ia l q := by have : ¬ ia l q < ia l (q - 1) := fun x => hc ⟨by omega, x⟩; omega
      by_cases e : p = q - 1
      · rw [e]; exact h5
      · exact Int.le_trans (h4 p (q - 1) (by omega) (by omega) (by omega)) h5
    · exact h4 p q k1 k2 e
theorem sort_ins (l0 : List Int) (hl : l0.length ≤ 1000) : Tot (Q9 0 (l0.length : Int) l0) (fun r => r.Perm l0 ∧ Srt r l0.length l0.length) := by
  unfold Q9 Q9_T
  simp only [Mo.den, sbind_eq, sbind2_eq, sbind3_eq, bcase_eq, gcase_eq]
  refine T.bind (R := fun r => r.Perm l0 ∧ Srt r l0.length l0.length) ?_ fun r h => T.ret h
  unfold Q9_L11
  have e1 : IntKind.wrap .i64 ((0 : Int) + 1) = 1 := by decide
  rw [e1]
  refine loopM_post (fun v => ∃ i : Nat, v.1 = (i : Int) ∧ 1 ≤ i ∧ i ≤ l0.length + 1 ∧ v.2.Perm l0 ∧ Srt v.2 i i) (fun v => 2000 - v.1.toNat) _ ?_ FU _ ⟨1, rfl, by omega, by omega, List.Perm.refl _, fun p q h1 h2 h3 => by omega⟩ (lt_FU (by omega))
  rintro ⟨ii, l⟩ ⟨i, h1, h1', h2, h3, h4⟩
  obtain rfl : ii = (i : Int) := h1
  have h3 : l.Perm l0 := h3
  have h4 : Srt l i i := h4
  have hlen := h3.length_eq
  unfold Q9_L11_T
  simp only [Mo.den, sbind_eq, sbind2_eq, sbind3_eq, bcase_eq, gcase_eq]
  by_cases hc : i < l0.length
  · obtain ⟨r, k1, k2, k3⟩ := sort_in l i (l0.length : Int) (by omega) (by omega) h4
    rw [iLt hc, k1]
    simp only [cond_true, Option.bind_some]
    rw [inc i (by omega)]
    exact .inl ⟨_, rfl, ⟨i + 1, rfl, by omega, by omega, k2.trans h3, k3⟩, by show 2000 - ((i + 1 : Nat) : Int).toNat < 2000 - (i : Int).toNat; omega⟩
  · rw [iNlt hc]
    exact .inr ⟨l, rfl, h3, fun p q k1 k2 k3 => h4 p q k1 (by omega) (by omega)⟩
theorem Len_tot (n : Nat) (h : n ≤ 7) : Tot (Q128 (IntKind.wrap .u64 (n : Int))) Any := by
  have : n = 0 ∨ n = 1 ∨ n = 2 ∨ n = 3 ∨ n = 4 ∨ n = 5 ∨ n = 6 ∨ n = 7 := by omega
  rcases this with rfl | rfl | rfl | rfl | rfl | rfl | rfl | rfl
  · exact ⟨0, by kernel_rfl, trivial⟩
  · exact ⟨1, by kernel_rfl, trivial⟩
  · exact ⟨2, by kernel_rfl, trivial⟩
  · exact ⟨2, by kernel_rfl, trivial⟩
  · exact ⟨3, by kernel_rfl, trivial⟩
  · exact ⟨3, by kernel_rfl, trivial⟩
  · exact ⟨3, by kernel_rfl, trivial⟩
  · exact ⟨3, by kernel_rfl, trivial⟩
theorem pdq_tot (l : List Int) (hl : l.length ≤ 12) (lim : Int) (n : Nat) (hn : 0 < n) : Tot ((RB20_F n).m1 0 (l.length : Int) lim l) (fun r => r.Perm l ∧ Srt r l.length l.length) := by
  obtain ⟨k, rfl⟩ : ∃ k, n = k + 1 := ⟨n - 1, by omega⟩
  show Tot (Mo.den (Q38_T (RB20_F k) 0 (l.length : Int) lim l)) _
  unfold Q38_T
  simp only [Mo.den, sbind_eq, sbind2_eq, sbind3_eq, bcase_eq, gcase_eq]
  refine T.bind (R := fun r => r.Perm l ∧ Srt r l.length l.length) ?_ fun r h => T.ret h
  unfold Q38_L0
  refine T.forP 0 (by omega) (fun _ _ => True) _ trivial (fun k s h => by omega) fun s _ => ?_
  unfold Q38_L0_T
  simp only [Mo.den, sbind_eq, sbind2_eq, sbind3_eq, bcase_eq, gcase_eq]
  rw [w64 (by omega) (by omega), decide_eq_true (show (l.length : Int) - 0 ≤ 12 by omega)]
  simp only [cond_true]
  exact T.bind (sort_ins l (by omega)) fun r h => T.ret h
theorem Sort_tot (l : List Int) (hl : l.length ≤ 7) : Tot (Q112 l) (fun r => r.Perm l ∧ Srt r l.length l.length) := by
  unfold Q112 Q112_T
  simp only [Mo.den, sbind_eq, sbind2_eq, sbind3_eq, bcase_eq, gcase_eq]
  refine T.bind (Len_tot l.length hl) fun b _ => ?_
  refine T.bind (R := fun r => r.Perm l ∧ Srt r l.length l.length) ?_ fun r h => T.ret h
  unfold Q38
  exact pdq_tot l (by omega) b FU (lt_FU (by omega))
/-- how many have come to v -/
def cnt (l : List Int) (v : Int) : Nat := l.countP (fun x => decide (v ≤ x))
theorem cnt_sorted (s : List Int) (k : Nat) (v : Int) (hk : k < s.length) (hs : Srt s s.length s.length) : v ≤ ia s k ↔ s.length - k ≤ cnt s v := by
  have hmem : ∀ {p : Nat} {a : Int}, s[p]? = some a → ia s p = a := fun h => by unfold ia; rw [h]; rfl
  constructor
  · intro h
    have h1 : cnt s v = cnt (s.take k) v + cnt (s.drop k) v := by unfold cnt; rw [← List.countP_append, List.take_append_drop]
    have h2 : cnt (s.drop k) v = (s.drop k).length := by
      unfold cnt
      rw [List.countP_eq_length]
      intro a ha
      obtain ⟨i, hi⟩ := List.mem_iff_getElem?.1 ha
      rw [List.getElem?_drop] at hi
      have hlt := (List.getElem?_eq_some_iff.1 hi).1
      have h3 := hmem hi
      have h4 : ia s k ≤ ia s (k + i) := by
        by_cases e : i = 0
        · subst e; exact Int.le_refl _
        · exact hs k (k + i) (by omega) hlt (by omega)
      exact decide_eq_true (by omega)
    rw [h1, h2, List.length_drop]; omega
  · intro h
    apply Decidable.byContradiction
    intro hn
    have h1 : cnt s v = cnt (s.take (k + 1)) v + cnt (s.drop (k + 1)) v := by unfold cnt; rw [← List.countP_append, List.take_append_drop]
    have h2 : cnt (s.take (k + 1)) v = 0 := by
      unfold cnt
      rw [List.countP_eq_zero]
      intro a ha
      obtain ⟨i, hi⟩ := List.mem_iff_getElem?.1 ha
      rw [List.getElem?_take] at hi
      split at hi
      · rename_i hik
        have h3 := hmem hi
        have h4 : ia s i ≤ ia s k := by
          by_cases e : i = k
          · subst e; exact Int.le_refl _
          · exact hs i k (by omega) hk (by omega)
        simp only [decide_eq_true_eq]; omega
      · cases hi
    have h3 : cnt (s.drop (k + 1)) v ≤ s.length - (k + 1) := by
      have := List.countP_le_length (p := fun x => decide (v ≤ x)) (l := s.drop (k + 1))
      rwa [List.length_drop] at this
    omega
/-- the reference's count -/
theorem count_val (m : GMember) (v : Int) (hl : m.fMatch.length ≤ 1000) : Q7_L5 m v 0 0 = some (cnt m.fMatch v : Int) := by
  suffices h : Tot (Q7_L5 m v 0 0) (fun r => r = (cnt m.fMatch v : Int)) by
    obtain ⟨r, h1, rfl⟩ := h; exact h1
  unfold Q7_L5
  refine T.forP m.fMatch.length (by omega) (fun k s => s = ((cnt (m.fMatch.take k) v : Int), (k : Int))) _ rfl ?_ ?_
  · rintro k s hk rfl
    have hx := List.getElem?_eq_getElem hk
    have hc : cnt (m.fMatch.take (k + 1)) v = cnt (m.fMatch.take k) v + (if v ≤ m.fMatch[k] then 1 else 0) := by
      unfold cnt
      rw [List.take_add_one, hx, List.countP_append]
      simp only [Option.toList, List.countP_cons, List.countP_nil, Nat.zero_add, decide_eq_true_eq]
    have hb : cnt (m.fMatch.take k) v ≤ 1000 := by
      have h1 := List.countP_le_length (p := fun x => decide (v ≤ x)) (l := m.fMatch.take k)
      have h2 : (m.fMatch.take k).length ≤ k := List.length_take_le _ _
      unfold cnt; omega
    unfold Q7_L5_T Q7_J0 Q7_J0_T
    simp only [Mo.den, sbind_eq, sbind2_eq, sbind3_eq, bcase_eq, gcase_eq]
    rw [iLt hk, gid hx, inc k (by omega)]
    simp only [cond_true, Option.bind_some]
    by_cases e : v ≤ m.fMatch[k]
    · rw [decide_eq_true e, inc _ (by omega)]
      rw [if_pos e] at hc
      exact ⟨_, rfl, by rw [hc]; rfl⟩
    · rw [decide_eq_false e]
      rw [if_neg e] at hc
      exact ⟨_, rfl, by rw [hc]; rfl⟩
  · rintro s rfl
    unfold Q7_L5_T
    simp only [Mo.den, sbind_eq, sbind2_eq, sbind3_eq, bcase_eq, gcase_eq]
    rw [iNlt (Nat.lt_irrefl _)]
    exact ⟨_, rfl, by rw [List.take_length]; rfl⟩
/-- the new commit point, seen from k downwards -/
def trm (m : GMember) (k : Nat) : Int := match m.fLog[k]? with | some e => e.fTerm | none => 0
def advS (m : GMember) (med : Int) : Nat → Int
  | 0 => m.fCommit
  | k + 1 => if m.fCommit < ((k + 1 : Nat) : Int) then (if ((k + 1 : Nat) : Int) ≤ med ∧ trm m k = m.fTerm then ((k + 1 : Nat) : Int) else advS m med k) else m.fCommit
theorem advS_succ (m : GMember) (med : Int) (k : Nat) : advS m med (k + 1) = if m.fCommit < ((k + 1 : Nat) : Int) then (if ((k + 1 : Nat) : Int) ≤ med ∧ trm m k = m.fTerm then ((k + 1 : Nat) : Int) else advS m med k) else m.fCommit := rfl
theorem advS_low (m : GMember) (med : Int) : ∀ k : Nat, (k : Int) ≤ m.fCommit → advS m med k = m.fCommit
  | 0, _ => rfl
  | k + 1, h => by rw [advS_succ, if_neg (by omega)]
theorem advS_med (m : GMember) (b : Nat) : ∀ k : Nat, advS m (b : Int) (b + k) = advS m (b : Int) b
  | 0 => rfl
  | k + 1 => by
    show advS m (b : Int) (b + k + 1) = _
    have ih := advS_med m b k
    rw [advS_succ]
    by_cases h : m.fCommit < ((b + k + 1 : Nat) : Int)
    · rw [if_pos h, if_neg (by omega)]; exact ih
    · rw [if_neg h]
      exact (advS_low m b b (by omega)).symm
theorem down_tot (m : GMember) (med : Int) (K : Nat) (hK : (K : Int) ≤ med) (hl : K ≤ m.fLog.length) (hb : m.fLog.length ≤ 100000) (h0 : 0 ≤ m.fCommit) : Tot (Q16_L15 m (K : Int)) (fun r => (if m.fCommit > r then m.fCommit else r) = advS m med K) := by
  unfold Q16_L15
  refine loopM_post (fun v => ∃ k : Nat, v = (k : Int) ∧ k ≤ K ∧ advS m med k = advS m med K) (fun v => v.toNat) _ ?_ FU _ ⟨K, rfl, Nat.le_refl _, rfl⟩ (lt_FU (by omega))
  rintro v ⟨k, rfl, h1, h2⟩
  unfold Q16_L15_T Q16_J10 Q16_J10_T
  simp only [Mo.den, sbind_eq, sbind2_eq, sbind3_eq, bcase_eq, gcase_eq]
  by_cases hc : m.fCommit < (k : Int)
  · obtain ⟨j, rfl⟩ : ∃ j, k = j + 1 := ⟨k - 1, by omega⟩
    have e : IntKind.wrap .i64 (((j + 1 : Nat) : Int) - 1) = (j : Int) := by rw [w64 (by omega) (by omega)]; omega
    have hx := List.getElem?_eq_getElem (l := m.fLog) (i := j) (by omega)
    have ht : trm m j = (m.fLog[j]'(by omega)).fTerm := by unfold trm; rw [hx]
    rw [decide_eq_true hc, decide_eq_true (show (0 : Int) < ((j + 1 : Nat) : Int) by omega), e, gid hx]
    simp only [cond_true, Option.bind_some]
    rw [advS_succ] at h2
    rw [if_pos hc] at h2
    by_cases he : (m.fLog[j]'(by omega)).fTerm = m.fTerm
    · rw [if_pos ⟨by omega, ht.trans he⟩] at h2
      have hne : ((m.fLog[j]'(by omega)).fTerm != m.fTerm) = false := by simp [he]
      rw [hne]
      exact .inr ⟨_, rfl, by rw [if_neg (by omega)]; exact h2⟩
    · rw [if_neg (fun x => he (ht.symm.trans x.2))] at h2
      have hne : ((m.fLog[j]'(by omega)).fTerm != m.fTerm) = true := by simp [he]
      rw [hne]
      exact .inl ⟨_, rfl, ⟨j, rfl, by omega, h2⟩, by omega⟩
  · rw [decide_eq_false hc]
    refine .inr ⟨(k : Int), rfl, ?_⟩
    rw [← h2, advS_low m med k (by omega)]
    split <;> omega
/-- what the reference comes to -/
def MedOf (m : GMember) (med : Int) : Prop := ∀ v : Int, v ≤ med ↔ maj m.fSize ≤ (cnt m.fMatch v : Int)
theorem ref_down (m : GMember) (med : Int) (hm : MedOf m med) (hl : m.fMatch.length ≤ 1000) (hb : m.fLog.length ≤ 100000) (h0 : 0 ≤ m.fCommit) : Tot (Q7_L16 m (m.fLog.length : Int)) (fun r => (match r with | .inl o => o | .inr _ => m.fCommit) = advS m med m.fLog.length) := by
  unfold Q7_L16
  refine loopM_post (fun v => ∃ k : Nat, v = (k : Int) ∧ k ≤ m.fLog.length ∧ advS m med k = advS m med m.fLog.length) (fun v => v.toNat) _ ?_ FU _ ⟨_, rfl, Nat.le_refl _, rfl⟩ (lt_FU (by omega))
  rintro v ⟨k, rfl, h1, h2⟩
  unfold Q7_L16_T Q7_J11 Q7_J11_T
  simp only [Mo.den, sbind_eq, sbind2_eq, sbind3_eq, bcase_eq, gcase_eq]
  rw [count_val m (k : Int) hl, RMajority_val]
  simp only [Option.bind_some]
  by_cases hc : m.fCommit < (k : Int)
  · obtain ⟨j, rfl⟩ : ∃ j, k = j + 1 := ⟨k - 1, by omega⟩
    have e : IntKind.wrap .i64 (((j + 1 : Nat) : Int) - 1) = (j : Int) := by rw [w64 (by omega) (by omega)]; omega
    have hx := List.getElem?_eq_getElem (l := m.fLog) (i := j) (by omega)
    have ht : trm m j = (m.fLog[j]'(by omega)).fTerm := by unfold trm; rw [hx]
    have hmv := hm ((j + 1 : Nat) : Int)
    rw [decide_eq_true hc, e, gid hx]
    rw [advS_succ] at h2
    rw [if_pos hc] at h2
    simp only [cond_true, Option.bind_some]
    by_cases hq : maj m.fSize ≤ (cnt m.fMatch ((j + 1 : Nat) : Int) : Int)
    · rw [decide_eq_true hq]
      by_cases he : (m.fLog[j]'(by omega)).fTerm = m.fTerm
      · rw [if_pos ⟨hmv.2 hq, ht.trans he⟩] at h2
        have hne : ((m.fLog[j]'(by omega)).fTerm == m.fTerm) = true := by simp [he]
        rw [hne]
        exact .inr ⟨_, rfl, h2⟩
      · rw [if_neg (fun x => he (ht.symm.trans x.2))] at h2
        have hne : ((m.fLog[j]'(by omega)).fTerm == m.fTerm) = false := by simp [he]
        rw [hne]
        exact .inl ⟨_, rfl, ⟨j, rfl, by omega, h2⟩, by omega⟩
    · rw [if_neg (fun x => hq (hmv.1 x.1))] at h2
      rw [decide_eq_false hq]
      exact .inl ⟨_, rfl, ⟨j, rfl, by omega, h2⟩, by omega⟩
  · rw [decide_eq_false hc]
    refine .inr ⟨.inr (), rfl, ?_⟩
    rw [← h2, advS_low m med k (by omega)]
theorem Majority_val (n : Int) : Q78 n = some (maj n) := RMajority_val n
theorem commit_eta (m : GMember) : GMember.sCommit m m.fCommit = m := by cases m; rfl
theorem bulk_commit (m : GMember) (t : Int) : bulkL (GMember.sCommit m t).lf1 = bulkL m.lf1 := by rw [bulk_member, bulk_member]; rfl
theorem Advance_same (m : GMember) (g : Good m) (hb : bulkL m.lf1 ≤ 10000000) : ∃ t, Q95 m = some (GMember.sCommit m t) ∧ Q7 m = some (GMember.sCommit m t) := by
  have s1 := g.s1
  have s7 := g.s7
  have c0 := g.c0
  have lg := g.lg
  have hM : maj m.fSize = m.fSize / 2 + 1 := by unfold maj; rw [if_neg (by omega)]
  unfold Q95 Q95_T Q16 Q16_T Q16_J0 Q16_J0_T Q16_J5 Q16_J5_T Q7 Q7_T
  simp only [Mo.den, sbind_eq, sbind2_eq, sbind3_eq, bcase_eq, gcase_eq, copyMember_val m (by omega), Option.bind_some, Majority_val]
  by_cases hr : m.fRole = 2
  · obtain ⟨_, hlen, _, hrange⟩ := g.pr hr
    obtain ⟨s, k1, k2, k3⟩ := Sort_tot m.fMatch (by omega)
    have k4 := k2.length_eq
    obtain ⟨i, hi⟩ : ∃ i : Nat, (m.fMatch.length : Int) - maj m.fSize = (i : Int) ∧ i < m.fMatch.length := ⟨((m.fMatch.length : Int) - maj m.fSize).toNat, by omega, by omega⟩
    have hmem : ia s i ∈ m.fMatch := k2.mem_iff.1 (by rw [← ia_get (by omega)]; exact List.getElem_mem _)
    obtain ⟨r0, r1⟩ := hrange _ hmem
    have hmed : MedOf m (ia s i) := by
      intro v
      rw [cnt_sorted s i v (by omega) (by rw [k4]; exact k3)]
      have : cnt s v = cnt m.fMatch v := k2.countP_eq _
      rw [this]; omega
    obtain ⟨b, hbm⟩ : ∃ b : Nat, ia s i = (b : Int) := ⟨(ia s i).toNat, by omega⟩
    obtain ⟨t, d1, d2⟩ := down_tot m (ia s i) b (by omega) (by omega) (by omega) c0
    obtain ⟨u, e1, e2⟩ := ref_down m (ia s i) hmed (by omega) (by omega) c0
    have hadv : advS m (ia s i) m.fLog.length = advS m (ia s i) b := by
      have := advS_med m b (m.fLog.length - b)
      rw [show b + (m.fLog.length - b) = m.fLog.length by omega] at this
      rw [hbm]; exact this
    have hne : (m.fRole != 2) = false := by simp [hr]
    have h0 : (maj m.fSize == 0) = false := by simp; omega
    have hlt : decide ((m.fMatch.length : Int) < maj m.fSize) = false := decide_eq_false (by omega)
    have hcl : Q129 m.fMatch = some m.fMatch := by unfold Q129; rw [if_pos (by omega)]
    rw [hne, h0]
    simp only [cond_false, Option.bind_some, hlt, hcl, k1, e1]
    rw [k4, hi.1, w64 (by omega) (by omega), gidx_ia (by omega)]
    simp only [Option.bind_some]
    rw [if_neg (by omega), hbm, d1]
    refine ⟨advS m (ia s i) b, by simp only [Option.bind_some]; rw [d2], ?_⟩
    rcases u with o | o
    · have e2 : o = _ := e2
      rw [← hadv, ← e2]
    · have e2 : m.fCommit = _ := e2
      rw [← hadv, ← e2, commit_eta]
  · have hne : (m.fRole != 2) = true := by simp [hr]
    rw [hne]
    exact ⟨m.fCommit, by rw [commit_eta]; rfl, by rw [commit_eta]; rfl⟩
theorem beatS_same (m : GMember) (g : Good m) (hb : bulkL m.lf1 ≤ 10000000) : Q2 (beatS m) (beatS m) = some true := by
  have g7 := g.s7
  have hbm := bulk_member m
  unfold beatS
  split
  · have h1 := beats_len m m.fSize.toNat
    refine SameMessages_refl _ (by omega) fun x hx => ?_
    have h3 := beats_small _ _ x hx
    omega
  · exact SameMessages_refl [] (by simp) (by simp)
theorem beats_law (m : GMember) (hb : bulkL m.lf1 ≤ 10000000) : Q90 m = some true := by
  unfold Q90 Q90_T
  obtain ⟨b, hg, hG⟩ := good_tot m (by omega)
  simp only [Mo.den, sbind_eq, sbind2_eq, sbind3_eq, bcase_eq, gcase_eq, hg, Option.bind_some, awake_val]
  cases b with
  | false => rfl
  | true =>
    have g := hG rfl
    obtain ⟨t, h1, h2⟩ := Advance_same m g hb
    have hm := beatS_same m g hb
    simp only [Bool.not_true, cond_false, Beat_val m g hb, RBeat_val m g hb, hm, h1, h2, SameMember_refl _ (show bulkL (GMember.sCommit m t).lf1 ≤ 100000000 by rw [bulk_commit]; omega), Option.bind_some, cond_true]
end Go.Proofs.YtdnafbfmaphhhaaGreatDoor
